/-
  The walks: each function of the program form returns what its plain definition computes. Printed by my own program.
  Conditions: none; every function is taken as the given program's form has it.
-/
import Derived.Test.YtigbkodgnikigaaProg
import Derived.Test.YtigbkodgnikigaaX2
namespace Go.Proofs.Ytigbkodgnikigaa
open Go Go.Gx Go.RowKit
set_option linter.unusedVariables false
set_option maxRecDepth 100000
/-! 45 postilion/postilionref04.less -/
noncomputable def postilionref04_less.o1 : Array Oper := opsC (at_ (fbody Try.f45) [0])
noncomputable def postilionref04_less.o2 : Array Oper := opsC (at_ (fbody Try.f45) [1, 0])
noncomputable def postilionref04_less.o3 : Array Oper := opsC (at_ (fbody Try.f45) [1, 1, 0])
noncomputable def postilionref04_less.o4 : Array Oper := opsC (at_ (fbody Try.f45) [1, 1, 1, 0, 0])
noncomputable def postilionref04_less.o5 : Array Oper := opsC (at_ (fbody Try.f45) [1, 1, 1, 0, 1, 0, 0, 0])
noncomputable def postilionref04_less.o6 : Array Oper := opsC (at_ (fbody Try.f45) [1, 1, 1, 0, 1, 0, 0, 1, 1, 0, 0, 0])
noncomputable def postilionref04_less.o7 : Array Oper := opsC (at_ (fbody Try.f45) [1, 1, 1, 0, 1, 0, 0, 1, 1, 0, 0, 1])
noncomputable def postilionref04_less.o8 : Array Oper := opsC (at_ (fbody Try.f45) [1, 1, 1, 0, 1, 0, 0, 1, 1, 1])
noncomputable def postilionref04_less.o9 : Array Oper := opsC (at_ (fbody Try.f45) [1, 1, 1, 1, 0])
theorem postilionref04_less.p1_ok {w0 : World} {Ws : List Wr} {Q : Exit → Env → World → Prop} (g1 g2 g3 g4 : Nat) (a0 : List Int) (a1 : List Int) (la0 : a0.length = 4) (la1 : a1.length = 4) {r : List Int} (hQ0 : ∀ (e' : Env) (w' : World) (z0 : List Int), z0.length = 4 → e' 4 = .pointer (some ⟨g3, 0, none⟩) → e' 5 = .pointer (some ⟨g4, 0, none⟩) → Hp w0 Ws w' [⟨g1, 0, ints .u64 a0⟩, ⟨g2, 0, ints .u64 a1⟩, ⟨g3, 0, ints .u64 (List.replicate 4 (0 : Int))⟩, ⟨g4, 0, ints .u64 z0⟩] [] → r = (z0) → Q (.exit 0) e' w') : ∀ (k : Nat), ∀ (y5 : List Int) (y6 : Int) (y7 : Int) (e : Env) (w : World) (ly5 : y5.length = 4) (s2_e : e 2 = .pointer (some ⟨g1, 0, none⟩)) (s3_e : e 3 = .pointer (some ⟨g2, 0, none⟩)) (s4_e : e 4 = .pointer (some ⟨g3, 0, none⟩)) (s5_e : e 5 = .pointer (some ⟨g4, 0, none⟩)) (s6_e : e 6 = .int .u64 y6) (s8_e : e 8 = .int .i64 y7) (hp : Hp w0 Ws w [⟨g1, 0, ints .u64 a0⟩, ⟨g2, 0, ints .u64 a1⟩, ⟨g3, 0, ints .u64 (List.replicate 4 (0 : Int))⟩, ⟨g4, 0, ints .u64 y5⟩] []) (h : postilionref04_less.p1 k a0 a1 y5 y6 y7 = some r), Lp Try.prog Try.f45.ntmps (at_ (fbody Try.f45) [1, 1, 1, 0, 1, 0, 0]) Q k e w := by
  intro k
  induction k with
  | zero => intro y5 y6 y7 e w ly5 s2_e s3_e s4_e s5_e s6_e s8_e hp h; cases h
  | succ k ih =>
    intro y5 y6 y7 e w ly5 s2_e s3_e s4_e s5_e s6_e s8_e hp h
    unfold postilionref04_less.p1 at h
    show Wp _ _ _ _ _ _
    refine wseqP (p0 := [1, 1, 1, 0, 1, 0, 0, 0]) (p1 := [1, 1, 1, 0, 1, 0, 0, 1]) rfl rfl rfl ?_
    refine wregionT postilionref04_less.o5 (.tp 0 (.done)) [] rfl rfl (by kernel_rfl) (by kernel_rfl) ?_
    refine k_bin (X := .int .i64 y7) (Y := .int .i64 4) rfl s8_e rfl rfl ?_
    refine k_end ?_; intro e192 qe192
    have s2_e192 : e192 2 = .pointer (some ⟨g1, 0, none⟩) := (congrFun qe192 2).trans s2_e
    have s3_e192 : e192 3 = .pointer (some ⟨g2, 0, none⟩) := (congrFun qe192 3).trans s3_e
    have s4_e192 : e192 4 = .pointer (some ⟨g3, 0, none⟩) := (congrFun qe192 4).trans s4_e
    have s5_e192 : e192 5 = .pointer (some ⟨g4, 0, none⟩) := (congrFun qe192 5).trans s5_e
    have s6_e192 : e192 6 = .int .u64 y6 := (congrFun qe192 6).trans s6_e
    have s8_e192 : e192 8 = .int .i64 y7 := (congrFun qe192 8).trans s8_e
    have s9_e192 : e192 9 = .bool (decide (y7 < 4)) := congrFun qe192 9
    clear qe192
    refine wseqP (p0 := [1, 1, 1, 0, 1, 0, 0, 1, 0]) (p1 := [1, 1, 1, 0, 1, 0, 0, 1, 1]) rfl rfl rfl ?_
    refine wcondP (p0 := [1, 1, 1, 0, 1, 0, 0, 1, 0, 0]) (p1 := [1, 1, 1, 0, 1, 0, 0, 1, 0, 1]) (t := (decide (y7 < 4))) rfl rfl rfl (by decide) s9_e192 (fun hb => ?_) (fun hb => ?_)
    · replace h := br_t hb h
      refine wskip rfl ?_
      refine wseqP (p0 := [1, 1, 1, 0, 1, 0, 0, 1, 1, 0]) (p1 := [1, 1, 1, 0, 1, 0, 0, 1, 1, 1]) rfl rfl rfl ?_
      refine wblockP (p0 := [1, 1, 1, 0, 1, 0, 0, 1, 1, 0, 0]) 1 rfl rfl ?_
      refine wseqP (p0 := [1, 1, 1, 0, 1, 0, 0, 1, 1, 0, 0, 0]) (p1 := [1, 1, 1, 0, 1, 0, 0, 1, 1, 0, 0, 1]) rfl rfl rfl ?_
      refine wregionT postilionref04_less.o6 (.tp 0 (.tp 1 (.done))) [] rfl rfl (by kernel_rfl) (by kernel_rfl) ?_
      refine k_move (v := .int .i64 y7) rfl s8_e192 ?_
      refine k_assign (v := .int .i64 y7) rfl rfl ?_
      refine k_end ?_; intro e193 qe193
      have s2_e193 : e193 2 = .pointer (some ⟨g1, 0, none⟩) := (congrFun qe193 2).trans s2_e192
      have s3_e193 : e193 3 = .pointer (some ⟨g2, 0, none⟩) := (congrFun qe193 3).trans s3_e192
      have s4_e193 : e193 4 = .pointer (some ⟨g3, 0, none⟩) := (congrFun qe193 4).trans s4_e192
      have s5_e193 : e193 5 = .pointer (some ⟨g4, 0, none⟩) := (congrFun qe193 5).trans s5_e192
      have s6_e193 : e193 6 = .int .u64 y6 := (congrFun qe193 6).trans s6_e192
      have s7_e193 : e193 7 = .int .i64 y7 := congrFun qe193 7
      have s8_e193 : e193 8 = .int .i64 y7 := (congrFun qe193 8).trans s8_e192
      clear qe193
      refine wregionM postilionref04_less.o7 (.tp 0 (.tp 1 (.tp 2 (.tk 3 (.tp 4 (.tp 5 (.tk 6 (.tp 7 (.tp 8 (.tp 9 (.tp 10 (.tp 11 (.tp 12 (.ef 13 (.tp 14 (.done)))))))))))))))) [13] [(0, 0, 32767), (0, 0, 32767), (2, 2, 32767), (4, 4, 0), (0, 0, 32767), (16, 16, 32767), (32, 32, 0), (0, 0, 32767), (200, 200, 32767), (256, 256, 32767), (512, 512, 32767), (512, 512, 32767), (2047, 1, 32767), (6143, 32767, 32767), (16383, 2176, 32767)] rfl rfl (by kernel_rfl) (by kernel_rfl) (Nat.le_of_ble_eq_true (by kernel_rfl)) (by kernel_rfl) (by kernel_rfl) (by kernel_rfl) ?_
      have hp := hp.drew
      refine k_move (v := .int .i64 y7) rfl s7_e193 ?_
      refine k_move (v := .int .i64 y7) rfl s7_e193 ?_
      obtain ⟨c8, h⟩ := chk_e h
      refine k_indexA (n := 4) (s := 1) (j := y7) rfl Try.underlying48 (by kernel_rfl) s2_e193 rfl c8 ?_
      refine k_load (j := (y7 : Int).toNat) (v := .int .u64 (a0.getD (y7 : Int).toNat 0)) rfl (by kernel_rfl) rfl (hp.get (j := 0) rfl) rfl (show 0 + (y7 : Int).toNat * 1 = 0 + (y7 : Int).toNat by omega) (ints_get (idx_lt c8 la0)) ?_
      refine k_move (v := .int .i64 y7) rfl s7_e193 ?_
      refine k_indexA (n := 4) (s := 1) (j := y7) rfl Try.underlying48 (by kernel_rfl) s3_e193 rfl c8 ?_
      refine k_load (j := (y7 : Int).toNat) (v := .int .u64 (a1.getD (y7 : Int).toNat 0)) rfl (by kernel_rfl) rfl (hp.get (j := 1) rfl) rfl (show 0 + (y7 : Int).toNat * 1 = 0 + (y7 : Int).toNat by omega) (ints_get (idx_lt c8 la1)) ?_
      refine k_move (v := .int .u64 y6) rfl s6_e193 ?_
      obtain ⟨c9, h⟩ := chk_e h
      refine k_ext [.int .u64 (a0.getD (y7 : Int).toNat 0), .int .u64 (a1.getD (y7 : Int).toNat 0), .int .u64 y6] rfl ext48 (args3 rfl rfl rfl) (fun w' => run_sub64 (a0.getD (y7 : Int).toNat 0) (a1.getD (y7 : Int).toNat 0) y6 c9.1 c9.2.1 c9.2.2.1 c9.2.2.2 w') ?_
      refine k_move (v := .tuple #[.int .u64 (((a0.getD (y7 : Int).toNat 0) - (a1.getD (y7 : Int).toNat 0) - y6) % 18446744073709551616), .int .u64 (if (a0.getD (y7 : Int).toNat 0) < (a1.getD (y7 : Int).toNat 0) + y6 then 1 else 0)]) rfl rfl ?_
      refine k_extract (v := .int .u64 (((a0.getD (y7 : Int).toNat 0) - (a1.getD (y7 : Int).toNat 0) - y6) % 18446744073709551616)) rfl rfl rfl ?_
      refine k_extract (v := .int .u64 (if (a0.getD (y7 : Int).toNat 0) < (a1.getD (y7 : Int).toNat 0) + y6 then 1 else 0)) rfl rfl rfl ?_
      refine k_indexA (n := 4) (s := 1) (j := y7) rfl Try.underlying48 (by kernel_rfl) s5_e193 rfl c8 ?_
      refine k_store (v := .int .u64 (((a0.getD (y7 : Int).toNat 0) - (a1.getD (y7 : Int).toNat 0) - y6) % 18446744073709551616)) 3 (y7 : Int).toNat (r := ⟨g4, 0, ints .u64 y5⟩) rfl (by kernel_rfl) rfl rfl rfl hp rfl rfl (show 0 + (y7 : Int).toNat * 1 = 0 + (y7 : Int).toNat by omega) (Nat.lt_of_lt_of_eq (idx_lt c8 ly5) (ints_length _ _).symm) (by decide) ?_; intro w hp; rw [ints_set] at hp
      refine k_assign (v := .int .u64 (if (a0.getD (y7 : Int).toNat 0) < (a1.getD (y7 : Int).toNat 0) + y6 then 1 else 0)) rfl rfl ?_
      refine k_end ?_; intro e194 qe194
      have s2_e194 : e194 2 = .pointer (some ⟨g1, 0, none⟩) := (congrFun qe194 2).trans s2_e193
      have s3_e194 : e194 3 = .pointer (some ⟨g2, 0, none⟩) := (congrFun qe194 3).trans s3_e193
      have s4_e194 : e194 4 = .pointer (some ⟨g3, 0, none⟩) := (congrFun qe194 4).trans s4_e193
      have s5_e194 : e194 5 = .pointer (some ⟨g4, 0, none⟩) := (congrFun qe194 5).trans s5_e193
      obtain ⟨x10, qx10, h⟩ := lt_e h
      have s6_e194 : e194 6 = .int .u64 x10 := (congrFun qe194 6).trans (congrArg (Value.int .u64) qx10.symm)
      have s8_e194 : e194 8 = .int .i64 y7 := (congrFun qe194 8).trans s8_e193
      clear qe194
      obtain ⟨x11, qx11, h⟩ := lt_e h
      have lx11 : x11.length = 4 := (congrArg List.length qx11).trans (List.length_set.trans ly5)
      have hp : Hp w0 Ws w [⟨g1, 0, ints .u64 a0⟩, ⟨g2, 0, ints .u64 a1⟩, ⟨g3, 0, ints .u64 (List.replicate 4 (0 : Int))⟩, ⟨g4, 0, ints .u64 x11⟩] [] := by rw [qx11]; exact hp
      refine wregionT postilionref04_less.o8 (.tp 0 (.tp 1 (.done))) [] rfl rfl (by kernel_rfl) (by kernel_rfl) ?_
      refine k_bin (X := .int .i64 y7) (Y := .int .i64 1) rfl s8_e194 rfl rfl ?_
      refine k_move (v := .int .i64 (IntKind.i64.wrap (y7 + 1))) rfl rfl ?_
      refine k_end ?_; intro e195 qe195
      have s2_e195 : e195 2 = .pointer (some ⟨g1, 0, none⟩) := (congrFun qe195 2).trans s2_e194
      have s3_e195 : e195 3 = .pointer (some ⟨g2, 0, none⟩) := (congrFun qe195 3).trans s3_e194
      have s4_e195 : e195 4 = .pointer (some ⟨g3, 0, none⟩) := (congrFun qe195 4).trans s4_e194
      have s5_e195 : e195 5 = .pointer (some ⟨g4, 0, none⟩) := (congrFun qe195 5).trans s5_e194
      have s6_e195 : e195 6 = .int .u64 x10 := (congrFun qe195 6).trans s6_e194
      obtain ⟨x12, qx12, h⟩ := lt_e h
      have s8_e195 : e195 8 = .int .i64 x12 := (congrFun qe195 8).trans (congrArg (Value.int .i64) qx12.symm)
      clear qe195
      exact ih x11 x10 x12 _ _ lx11 s2_e195 s3_e195 s4_e195 s5_e195 s6_e195 s8_e195 (hp.drop (L' := [⟨g1, 0, ints .u64 a0⟩, ⟨g2, 0, ints .u64 a1⟩, ⟨g3, 0, ints .u64 (List.replicate 4 (0 : Int))⟩, ⟨g4, 0, ints .u64 x11⟩]) (List.Sublist.refl _)) h
    · replace h := br_f hb h
      refine wexit rfl ?_
      exact hQ0 _ _ y5 ly5 s4_e192 s5_e192 (hp.drop (L' := [⟨g1, 0, ints .u64 a0⟩, ⟨g2, 0, ints .u64 a1⟩, ⟨g3, 0, ints .u64 (List.replicate 4 (0 : Int))⟩, ⟨g4, 0, ints .u64 y5⟩]) (List.Sublist.refl _)) (Option.some.inj h).symm
theorem postilionref04_less_ok (k : Nat) (a0 : List Int) (a1 : List Int) (la0 : a0.length = 4) (la1 : a1.length = 4) (w0 : World) (hp : Hp w0 [] w0 [] []) {r : List Int} (h : postilionref04_less.f k a0 a1 = some r) :
    Calls Try.prog 45 [.agg (ints .u64 a0).toArray, .agg (ints .u64 a1).toArray].toArray w0 fun x w' => ∃ v, x = .returned v ∧ v = .agg (ints .u64 r).toArray ∧ r.length = 4 ∧ Hp w0 [] w' [] [] := by
  refine calls_inP Try.func45 rfl (Nat.le_of_ble_eq_true (by kernel_rfl)) (by kernel_rfl) ?_
  intro e0 qe0
  have s0_e0 : e0 0 = .agg (ints .u64 a0).toArray := congrFun qe0 0
  have s1_e0 : e0 1 = .agg (ints .u64 a1).toArray := congrFun qe0 1
  clear qe0
  unfold postilionref04_less.f at h
  refine wseqP (p0 := [0]) (p1 := [1]) rfl rfl rfl ?_
  refine wregionT postilionref04_less.o1 (.ef 0 (.ef 1 (.ef 2 (.done)))) [] rfl rfl (by kernel_rfl) (by kernel_rfl) ?_
  refine k_box (v := .agg (ints .u64 a0).toArray) (ints .u64 a0) rfl s0_e0 rfl hp ?_
  intro g1 w hbg1 hp
  refine k_box (v := .agg (ints .u64 a1).toArray) (ints .u64 a1) rfl s1_e0 rfl hp ?_
  intro g2 w hbg2 hp
  refine k_alloc (ints .u64 (List.replicate 4 (0 : Int))) rfl (by kernel_rfl) hp ?_
  intro g3 w hbg3 hp
  refine k_end ?_; intro e188 qe188
  have s2_e188 : e188 2 = .pointer (some ⟨g1, 0, none⟩) := congrFun qe188 2
  have s3_e188 : e188 3 = .pointer (some ⟨g2, 0, none⟩) := congrFun qe188 3
  have s4_e188 : e188 4 = .pointer (some ⟨g3, 0, none⟩) := congrFun qe188 4
  clear qe188
  refine wseqP (p0 := [1, 0]) (p1 := [1, 1]) rfl rfl rfl ?_
  refine wregionT postilionref04_less.o2 (.ef 0 (.done)) [] rfl rfl (by kernel_rfl) (by kernel_rfl) ?_
  refine k_alloc (ints .u64 (List.replicate 4 (0 : Int))) rfl (by kernel_rfl) hp ?_
  intro g4 w hbg4 hp
  refine k_end ?_; intro e189 qe189
  have s2_e189 : e189 2 = .pointer (some ⟨g1, 0, none⟩) := (congrFun qe189 2).trans s2_e188
  have s3_e189 : e189 3 = .pointer (some ⟨g2, 0, none⟩) := (congrFun qe189 3).trans s3_e188
  have s4_e189 : e189 4 = .pointer (some ⟨g3, 0, none⟩) := (congrFun qe189 4).trans s4_e188
  have s5_e189 : e189 5 = .pointer (some ⟨g4, 0, none⟩) := congrFun qe189 5
  clear qe189
  refine wseqP (p0 := [1, 1, 0]) (p1 := [1, 1, 1]) rfl rfl rfl ?_
  refine wregionT postilionref04_less.o3 (.tp 0 (.done)) [] rfl rfl (by kernel_rfl) (by kernel_rfl) ?_
  refine k_assign (v := .int .u64 0) rfl rfl ?_
  refine k_end ?_; intro e190 qe190
  have s2_e190 : e190 2 = .pointer (some ⟨g1, 0, none⟩) := (congrFun qe190 2).trans s2_e189
  have s3_e190 : e190 3 = .pointer (some ⟨g2, 0, none⟩) := (congrFun qe190 3).trans s3_e189
  have s4_e190 : e190 4 = .pointer (some ⟨g3, 0, none⟩) := (congrFun qe190 4).trans s4_e189
  have s5_e190 : e190 5 = .pointer (some ⟨g4, 0, none⟩) := (congrFun qe190 5).trans s5_e189
  have s6_e190 : e190 6 = .int .u64 0 := congrFun qe190 6
  clear qe190
  refine wseqP (p0 := [1, 1, 1, 0]) (p1 := [1, 1, 1, 1]) rfl rfl rfl ?_
  refine wseqP (p0 := [1, 1, 1, 0, 0]) (p1 := [1, 1, 1, 0, 1]) rfl rfl rfl ?_
  refine wregionT postilionref04_less.o4 (.tp 0 (.done)) [] rfl rfl (by kernel_rfl) (by kernel_rfl) ?_
  refine k_move (v := .int .i64 0) rfl rfl ?_
  refine k_end ?_; intro e191 qe191
  have s2_e191 : e191 2 = .pointer (some ⟨g1, 0, none⟩) := (congrFun qe191 2).trans s2_e190
  have s3_e191 : e191 3 = .pointer (some ⟨g2, 0, none⟩) := (congrFun qe191 3).trans s3_e190
  have s4_e191 : e191 4 = .pointer (some ⟨g3, 0, none⟩) := (congrFun qe191 4).trans s4_e190
  have s5_e191 : e191 5 = .pointer (some ⟨g4, 0, none⟩) := (congrFun qe191 5).trans s5_e190
  have s6_e191 : e191 6 = .int .u64 0 := (congrFun qe191 6).trans s6_e190
  have s8_e191 : e191 8 = .int .i64 0 := congrFun qe191 8
  clear qe191
  refine wblockP (p0 := [1, 1, 1, 0, 1, 0]) 0 rfl rfl ?_
  obtain ⟨r13, qr13, h⟩ := bd_e h
  refine wloopP (p0 := [1, 1, 1, 0, 1, 0, 0]) k rfl rfl (postilionref04_less.p1_ok g1 g2 g3 g4 a0 a1 la0 la1 ?hq0 k (List.replicate 4 (0 : Int)) 0 0 e191 _ List.length_replicate s2_e191 s3_e191 s4_e191 s5_e191 s6_e191 s8_e191 hp qr13)
  case hq0 =>
    intro e196 w m14 lm14 s4_e196 s5_e196 hp qq
    rw [qq] at h; clear qq
    refine wseqP (p0 := [1, 1, 1, 1, 0]) (p1 := [1, 1, 1, 1, 1]) rfl rfl rfl ?_
    refine wregionT postilionref04_less.o9 (.tk 0 (.ef 1 (.done))) [1] rfl rfl (by kernel_rfl) (by kernel_rfl) ?_
    refine k_loadA (n := 4) (xs := ints .u64 m14) 0 rfl (by kernel_rfl) (by kernel_rfl) s5_e196 (hp.get (j := 3) rfl) rfl rfl ((ints_length _ _).trans lm14) (fun m v hm => by rw [Nat.zero_add]; exact hm) ?_
    refine k_storeA (v := .agg (ints .u64 m14).toArray) 2 0 (r := ⟨g3, 0, ints .u64 (List.replicate 4 (0 : Int))⟩) (ints .u64 m14) (ints .u64 m14) rfl (n := 4) (by kernel_rfl) s4_e196 rfl rfl ((ints_length _ _).trans lm14) (ints_one _ _) hp rfl rfl rfl (Nat.le_of_eq ((Nat.zero_add _).trans ((ints_length _ _).trans List.length_replicate).symm)) (setMany_all _ _ (((ints_length _ _).trans lm14).trans ((ints_length _ _).trans List.length_replicate).symm)) (by decide) ?_; intro w hp
    refine k_end ?_; intro e197 qe197
    have s4_e197 : e197 4 = .pointer (some ⟨g3, 0, none⟩) := (congrFun qe197 4).trans s4_e196
    clear qe197
    refine wret rfl ?_
    have hr : r = m14 := (Option.some.inj h).symm
    show RetP _ _ _ _ _
    rw [hr]
    exact ret_i [.agg (ints .u64 m14).toArray] (res_cell s4_e197 (loadVar_agg (by kernel_rfl) (by kernel_rfl) ((ints_length _ _).trans lm14) (hp.get (j := 2) rfl) rfl rfl rfl) res_nil) ⟨rfl, lm14, hp.none⟩
/-! 42 postilion/postilionref04.Least -/
noncomputable def postilionref04_Least.o1 : Array Oper := opsC (at_ (fbody Try.f42) [0])
noncomputable def postilionref04_Least.o2 : Array Oper := opsC (at_ (fbody Try.f42) [1, 0, 0, 0, 0, 0])
noncomputable def postilionref04_Least.o3 : Array Oper := opsC (at_ (fbody Try.f42) [1, 0, 0, 0, 1, 0])
noncomputable def postilionref04_Least.o4 : Array Oper := opsC (at_ (fbody Try.f42) [1, 1, 0])
theorem postilionref04_Least.p1_ok {w0 : World} {Ws : List Wr} {Q : Exit → Env → World → Prop} (g1 g2 : Nat)   {r : List Int} (hQ0 : ∀ (e' : Env) (w' : World) (z0 : List Int), z0.length = 4 → e' 1 = .pointer (some ⟨g1, 0, none⟩) → e' 2 = .pointer (some ⟨g2, 0, none⟩) → Hp w0 Ws w' [⟨g1, 0, ints .u64 z0⟩, ⟨g2, 0, ints .u64 (List.replicate 4 (0 : Int))⟩] [] → r = (z0) → Q (.exit 0) e' w') : ∀ (k : Nat), ∀ (y3 : List Int) (e : Env) (w : World) (ly3 : y3.length = 4) (s1_e : e 1 = .pointer (some ⟨g1, 0, none⟩)) (s2_e : e 2 = .pointer (some ⟨g2, 0, none⟩)) (hp : Hp w0 Ws w [⟨g1, 0, ints .u64 y3⟩, ⟨g2, 0, ints .u64 (List.replicate 4 (0 : Int))⟩] []) (h : postilionref04_Least.p1 k y3 = some r), Lp Try.prog Try.f42.ntmps (at_ (fbody Try.f42) [1, 0, 0, 0]) Q k e w := by
  intro k
  induction k with
  | zero => intro y3 e w ly3 s1_e s2_e hp h; cases h
  | succ k ih =>
    intro y3 e w ly3 s1_e s2_e hp h
    unfold postilionref04_Least.p1 at h
    show Wp _ _ _ _ _ _
    refine wseqP (p0 := [1, 0, 0, 0, 0]) (p1 := [1, 0, 0, 0, 1]) rfl rfl rfl ?_
    refine wseqP (p0 := [1, 0, 0, 0, 0, 0]) (p1 := [1, 0, 0, 0, 0, 1]) rfl rfl rfl ?_
    refine wregionM postilionref04_Least.o2 (.tk 0 (.ef 1 (.ef 2 (.tp 3 (.done))))) [] [(0, 0, 0), (0, 15, 15), (3, 15, 15), (4, 4, 15)] rfl rfl (by kernel_rfl) (by kernel_rfl) (Nat.le_of_ble_eq_true (by kernel_rfl)) (by kernel_rfl) (by kernel_rfl) (by kernel_rfl) ?_
    have hp := hp.drew
    refine k_loadA (n := 4) (xs := ints .u64 y3) 0 rfl (by kernel_rfl) (by kernel_rfl) s1_e (hp.get (j := 0) rfl) rfl rfl ((ints_length _ _).trans ly3) (fun m v hm => by rw [Nat.zero_add]; exact hm) ?_
    obtain ⟨r4, qr4, h⟩ := bd_e h
    refine k_call [] rfl (by kernel_rfl) (args0 ) (postilionref04_p_ok   _ (hp.toR (fun _ h => by cases h)) qr4) ?_
    rintro _ w' ⟨_, rfl, rfl, lr40, hpc⟩
    refine ⟨_, rfl, .inr (.of_below hpc.chg.to_below), ?_⟩; have hp := hp.below hpc.chg.to_below; clear hpc
    obtain ⟨r5, qr5, h⟩ := bd_e h
    refine k_call [.agg (ints .u64 y3).toArray, .agg (ints .u64 r4).toArray] rfl (by kernel_rfl) (args2 rfl rfl) (postilionref04_below_ok k y3 r4 ly3 lr40 _ (hp.toR (fun _ h => by cases h)) qr5) ?_
    rintro _ w' ⟨_, rfl, rfl, hpc⟩
    refine ⟨_, rfl, .inr (.of_below hpc.chg.to_below), ?_⟩; have hp := hp.below hpc.chg.to_below; clear hpc
    refine k_not (b := r5) rfl rfl ?_
    refine k_end ?_; intro e199 qe199
    have s1_e199 : e199 1 = .pointer (some ⟨g1, 0, none⟩) := (congrFun qe199 1).trans s1_e
    have s2_e199 : e199 2 = .pointer (some ⟨g2, 0, none⟩) := (congrFun qe199 2).trans s2_e
    have s6_e199 : e199 6 = .bool (!r5) := congrFun qe199 6
    clear qe199
    refine wcondP (p0 := [1, 0, 0, 0, 0, 1, 0]) (p1 := [1, 0, 0, 0, 0, 1, 1]) (t := (!r5)) rfl rfl rfl (by decide) s6_e199 (fun hb => ?_) (fun hb => ?_)
    · replace h := br_t hb h
      refine wskip rfl ?_
      refine wblockP (p0 := [1, 0, 0, 0, 1, 0]) 1 rfl rfl ?_
      refine wregionM postilionref04_Least.o3 (.tk 0 (.ef 1 (.ef 2 (.ef 3 (.done))))) [3] [(0, 0, 0), (0, 15, 15), (3, 15, 15), (7, 15, 15)] rfl rfl (by kernel_rfl) (by kernel_rfl) (Nat.le_of_ble_eq_true (by kernel_rfl)) (by kernel_rfl) (by kernel_rfl) (by kernel_rfl) ?_
      have hp := hp.drew
      refine k_loadA (n := 4) (xs := ints .u64 y3) 0 rfl (by kernel_rfl) (by kernel_rfl) s1_e199 (hp.get (j := 0) rfl) rfl rfl ((ints_length _ _).trans ly3) (fun m v hm => by rw [Nat.zero_add]; exact hm) ?_
      obtain ⟨r6, qr6, h⟩ := bd_e h
      refine k_call [] rfl (by kernel_rfl) (args0 ) (postilionref04_p_ok   _ (hp.toR (fun _ h => by cases h)) qr6) ?_
      rintro _ w' ⟨_, rfl, rfl, lr60, hpc⟩
      refine ⟨_, rfl, .inr (.of_below hpc.chg.to_below), ?_⟩; have hp := hp.below hpc.chg.to_below; clear hpc
      obtain ⟨r7, qr7, h⟩ := bd_e h
      refine k_call [.agg (ints .u64 y3).toArray, .agg (ints .u64 r6).toArray] rfl (by kernel_rfl) (args2 rfl rfl) (postilionref04_less_ok k y3 r6 ly3 lr60 _ (hp.toR (fun _ h => by cases h)) qr7) ?_
      rintro _ w' ⟨_, rfl, rfl, lr70, hpc⟩
      refine ⟨_, rfl, .inr (.of_below hpc.chg.to_below), ?_⟩; have hp := hp.below hpc.chg.to_below; clear hpc
      refine k_storeA (v := .agg (ints .u64 r7).toArray) 0 0 (r := ⟨g1, 0, ints .u64 y3⟩) (ints .u64 r7) (ints .u64 r7) rfl (n := 4) (by kernel_rfl) s1_e199 rfl rfl ((ints_length _ _).trans lr70) (ints_one _ _) hp rfl rfl rfl (Nat.le_of_eq ((Nat.zero_add _).trans ((ints_length _ _).trans ly3).symm)) (setMany_all _ _ (((ints_length _ _).trans lr70).trans ((ints_length _ _).trans ly3).symm)) (by decide) ?_; intro w hp
      refine k_end ?_; intro e200 qe200
      have s1_e200 : e200 1 = .pointer (some ⟨g1, 0, none⟩) := (congrFun qe200 1).trans s1_e199
      have s2_e200 : e200 2 = .pointer (some ⟨g2, 0, none⟩) := (congrFun qe200 2).trans s2_e199
      clear qe200
      exact ih r7 _ _ lr70 s1_e200 s2_e200 (hp.drop (L' := [⟨g1, 0, ints .u64 r7⟩, ⟨g2, 0, ints .u64 (List.replicate 4 (0 : Int))⟩]) (List.Sublist.refl _)) h
    · replace h := br_f hb h
      refine wexit rfl ?_
      exact hQ0 _ _ y3 ly3 s1_e199 s2_e199 (hp.drop (L' := [⟨g1, 0, ints .u64 y3⟩, ⟨g2, 0, ints .u64 (List.replicate 4 (0 : Int))⟩]) (List.Sublist.refl _)) (Option.some.inj h).symm
theorem postilionref04_Least_ok (k : Nat) (a0 : List Int) (la0 : a0.length = 4) (w0 : World) (hp : Hp w0 [] w0 [] []) {r : List Int} (h : postilionref04_Least.f k a0 = some r) :
    Calls Try.prog 42 [.agg (ints .u64 a0).toArray].toArray w0 fun x w' => ∃ v, x = .returned v ∧ v = .agg (ints .u64 r).toArray ∧ r.length = 4 ∧ Hp w0 [] w' [] [] := by
  refine calls_inP Try.func42 rfl (Nat.le_of_ble_eq_true (by kernel_rfl)) (by kernel_rfl) ?_
  intro e0 qe0
  have s0_e0 : e0 0 = .agg (ints .u64 a0).toArray := congrFun qe0 0
  clear qe0
  unfold postilionref04_Least.f at h
  refine wseqP (p0 := [0]) (p1 := [1]) rfl rfl rfl ?_
  refine wregionT postilionref04_Least.o1 (.ef 0 (.ef 1 (.done))) [] rfl rfl (by kernel_rfl) (by kernel_rfl) ?_
  refine k_box (v := .agg (ints .u64 a0).toArray) (ints .u64 a0) rfl s0_e0 rfl hp ?_
  intro g1 w hbg1 hp
  refine k_alloc (ints .u64 (List.replicate 4 (0 : Int))) rfl (by kernel_rfl) hp ?_
  intro g2 w hbg2 hp
  refine k_end ?_; intro e198 qe198
  have s1_e198 : e198 1 = .pointer (some ⟨g1, 0, none⟩) := congrFun qe198 1
  have s2_e198 : e198 2 = .pointer (some ⟨g2, 0, none⟩) := congrFun qe198 2
  clear qe198
  refine wseqP (p0 := [1, 0]) (p1 := [1, 1]) rfl rfl rfl ?_
  refine wblockP (p0 := [1, 0, 0]) 0 rfl rfl ?_
  obtain ⟨r8, qr8, h⟩ := bd_e h
  refine wloopP (p0 := [1, 0, 0, 0]) k rfl rfl (postilionref04_Least.p1_ok g1 g2   ?hq0 k a0 e198 _ la0 s1_e198 s2_e198 hp qr8)
  case hq0 =>
    intro e201 w m9 lm9 s1_e201 s2_e201 hp qq
    rw [qq] at h; clear qq
    refine wseqP (p0 := [1, 1, 0]) (p1 := [1, 1, 1]) rfl rfl rfl ?_
    refine wregionT postilionref04_Least.o4 (.tk 0 (.ef 1 (.done))) [1] rfl rfl (by kernel_rfl) (by kernel_rfl) ?_
    refine k_loadA (n := 4) (xs := ints .u64 m9) 0 rfl (by kernel_rfl) (by kernel_rfl) s1_e201 (hp.get (j := 0) rfl) rfl rfl ((ints_length _ _).trans lm9) (fun m v hm => by rw [Nat.zero_add]; exact hm) ?_
    refine k_storeA (v := .agg (ints .u64 m9).toArray) 1 0 (r := ⟨g2, 0, ints .u64 (List.replicate 4 (0 : Int))⟩) (ints .u64 m9) (ints .u64 m9) rfl (n := 4) (by kernel_rfl) s2_e201 rfl rfl ((ints_length _ _).trans lm9) (ints_one _ _) hp rfl rfl rfl (Nat.le_of_eq ((Nat.zero_add _).trans ((ints_length _ _).trans List.length_replicate).symm)) (setMany_all _ _ (((ints_length _ _).trans lm9).trans ((ints_length _ _).trans List.length_replicate).symm)) (by decide) ?_; intro w hp
    refine k_end ?_; intro e202 qe202
    have s2_e202 : e202 2 = .pointer (some ⟨g2, 0, none⟩) := (congrFun qe202 2).trans s2_e201
    clear qe202
    refine wret rfl ?_
    have hr : r = m9 := (Option.some.inj h).symm
    show RetP _ _ _ _ _
    rw [hr]
    exact ret_i [.agg (ints .u64 m9).toArray] (res_cell s2_e202 (loadVar_agg (by kernel_rfl) (by kernel_rfl) ((ints_length _ _).trans lm9) (hp.get (j := 1) rfl) rfl rfl rfl) res_nil) ⟨rfl, lm9, hp.none⟩
/-! 27 postilion/postilionref04.Bytes -/
noncomputable def postilionref04_Bytes.o1 : Array Oper := opsC (at_ (fbody Try.f27) [0])
noncomputable def postilionref04_Bytes.o2 : Array Oper := opsC (at_ (fbody Try.f27) [1, 0])
noncomputable def postilionref04_Bytes.o3 : Array Oper := opsC (at_ (fbody Try.f27) [1, 1, 0])
noncomputable def postilionref04_Bytes.o4 : Array Oper := opsC (at_ (fbody Try.f27) [1, 1, 1, 0, 0])
noncomputable def postilionref04_Bytes.o5 : Array Oper := opsC (at_ (fbody Try.f27) [1, 1, 1, 0, 1, 0, 0, 0])
noncomputable def postilionref04_Bytes.o6 : Array Oper := opsC (at_ (fbody Try.f27) [1, 1, 1, 0, 1, 0, 0, 1, 1, 0, 0, 0])
noncomputable def postilionref04_Bytes.o7 : Array Oper := opsC (at_ (fbody Try.f27) [1, 1, 1, 0, 1, 0, 0, 1, 1, 0, 0, 1])
noncomputable def postilionref04_Bytes.o8 : Array Oper := opsC (at_ (fbody Try.f27) [1, 1, 1, 0, 1, 0, 0, 1, 1, 1])
noncomputable def postilionref04_Bytes.o9 : Array Oper := opsC (at_ (fbody Try.f27) [1, 1, 1, 1, 0])
theorem postilionref04_Bytes.p1_ok {w0 : World} {Ws : List Wr} {Q : Exit → Env → World → Prop} (g1 g2 g4 : Nat) (r3 : List Int) (lr30 : r3.length = 4) {r : List Int} (hQ0 : ∀ (e' : Env) (w' : World) (z0 : List Int), z0.length = 32 → e' 2 = .pointer (some ⟨g2, 0, none⟩) → e' 3 = .pointer (some ⟨g4, 0, none⟩) → Hp w0 Ws w' [⟨g1, 0, ints .u64 r3⟩, ⟨g2, 0, ints .u8 (List.replicate 32 (0 : Int))⟩, ⟨g4, 0, ints .u8 z0⟩] [] → r = (z0) → Q (.exit 0) e' w') : ∀ (k : Nat), ∀ (y5 : List Int) (y6 : Int) (e : Env) (w : World) (ly5 : y5.length = 32) (s1_e : e 1 = .pointer (some ⟨g1, 0, none⟩)) (s2_e : e 2 = .pointer (some ⟨g2, 0, none⟩)) (s3_e : e 3 = .pointer (some ⟨g4, 0, none⟩)) (s7_e : e 7 = .int .i64 y6) (hp : Hp w0 Ws w [⟨g1, 0, ints .u64 r3⟩, ⟨g2, 0, ints .u8 (List.replicate 32 (0 : Int))⟩, ⟨g4, 0, ints .u8 y5⟩] []) (h : postilionref04_Bytes.p1 k r3 y5 y6 = some r), Lp Try.prog Try.f27.ntmps (at_ (fbody Try.f27) [1, 1, 1, 0, 1, 0, 0]) Q k e w := by
  intro k
  induction k with
  | zero => intro y5 y6 e w ly5 s1_e s2_e s3_e s7_e hp h; cases h
  | succ k ih =>
    intro y5 y6 e w ly5 s1_e s2_e s3_e s7_e hp h
    unfold postilionref04_Bytes.p1 at h
    show Wp _ _ _ _ _ _
    refine wseqP (p0 := [1, 1, 1, 0, 1, 0, 0, 0]) (p1 := [1, 1, 1, 0, 1, 0, 0, 1]) rfl rfl rfl ?_
    refine wregionT postilionref04_Bytes.o5 (.tp 0 (.done)) [] rfl rfl (by kernel_rfl) (by kernel_rfl) ?_
    refine k_bin (X := .int .i64 y6) (Y := .int .i64 32) rfl s7_e rfl rfl ?_
    refine k_end ?_; intro e207 qe207
    have s1_e207 : e207 1 = .pointer (some ⟨g1, 0, none⟩) := (congrFun qe207 1).trans s1_e
    have s2_e207 : e207 2 = .pointer (some ⟨g2, 0, none⟩) := (congrFun qe207 2).trans s2_e
    have s3_e207 : e207 3 = .pointer (some ⟨g4, 0, none⟩) := (congrFun qe207 3).trans s3_e
    have s7_e207 : e207 7 = .int .i64 y6 := (congrFun qe207 7).trans s7_e
    have s8_e207 : e207 8 = .bool (decide (y6 < 32)) := congrFun qe207 8
    clear qe207
    refine wseqP (p0 := [1, 1, 1, 0, 1, 0, 0, 1, 0]) (p1 := [1, 1, 1, 0, 1, 0, 0, 1, 1]) rfl rfl rfl ?_
    refine wcondP (p0 := [1, 1, 1, 0, 1, 0, 0, 1, 0, 0]) (p1 := [1, 1, 1, 0, 1, 0, 0, 1, 0, 1]) (t := (decide (y6 < 32))) rfl rfl rfl (by decide) s8_e207 (fun hb => ?_) (fun hb => ?_)
    · replace h := br_t hb h
      refine wskip rfl ?_
      refine wseqP (p0 := [1, 1, 1, 0, 1, 0, 0, 1, 1, 0]) (p1 := [1, 1, 1, 0, 1, 0, 0, 1, 1, 1]) rfl rfl rfl ?_
      refine wblockP (p0 := [1, 1, 1, 0, 1, 0, 0, 1, 1, 0, 0]) 1 rfl rfl ?_
      refine wseqP (p0 := [1, 1, 1, 0, 1, 0, 0, 1, 1, 0, 0, 0]) (p1 := [1, 1, 1, 0, 1, 0, 0, 1, 1, 0, 0, 1]) rfl rfl rfl ?_
      refine wregionT postilionref04_Bytes.o6 (.tp 0 (.tp 1 (.done))) [] rfl rfl (by kernel_rfl) (by kernel_rfl) ?_
      refine k_move (v := .int .i64 y6) rfl s7_e207 ?_
      refine k_assign (v := .int .i64 y6) rfl rfl ?_
      refine k_end ?_; intro e208 qe208
      have s1_e208 : e208 1 = .pointer (some ⟨g1, 0, none⟩) := (congrFun qe208 1).trans s1_e207
      have s2_e208 : e208 2 = .pointer (some ⟨g2, 0, none⟩) := (congrFun qe208 2).trans s2_e207
      have s3_e208 : e208 3 = .pointer (some ⟨g4, 0, none⟩) := (congrFun qe208 3).trans s3_e207
      have s4_e208 : e208 4 = .int .i64 y6 := congrFun qe208 4
      have s7_e208 : e208 7 = .int .i64 y6 := (congrFun qe208 7).trans s7_e207
      clear qe208
      refine wregionT postilionref04_Bytes.o7 (.tp 0 (.tp 1 (.tp 2 (.tp 3 (.tk 4 (.tp 5 (.tp 6 (.tp 7 (.tp 8 (.tp 9 (.tp 10 (.tp 11 (.ef 12 (.done)))))))))))))) [12] rfl rfl (by kernel_rfl) (by kernel_rfl) ?_
      refine k_move (v := .int .i64 y6) rfl s4_e208 ?_
      refine k_move (v := .int .i64 y6) rfl s4_e208 ?_
      refine k_quo (a := y6) (b := 8) rfl rfl rfl (by decide) ?_
      obtain ⟨c7, h⟩ := chk_e h
      refine k_indexA (n := 4) (s := 1) (j := (IntKind.i64.wrap (Int.tdiv y6 8))) rfl Try.underlying48 (by kernel_rfl) s1_e208 rfl c7 ?_
      refine k_load (j := ((IntKind.i64.wrap (Int.tdiv y6 8)) : Int).toNat) (v := .int .u64 (r3.getD ((IntKind.i64.wrap (Int.tdiv y6 8)) : Int).toNat 0)) rfl (by kernel_rfl) rfl (hp.get (j := 0) rfl) rfl (show 0 + ((IntKind.i64.wrap (Int.tdiv y6 8)) : Int).toNat * 1 = 0 + ((IntKind.i64.wrap (Int.tdiv y6 8)) : Int).toNat by omega) (ints_get (idx_lt c7 lr30)) ?_
      refine k_move (v := .int .i64 y6) rfl s4_e208 ?_
      refine k_rem (a := y6) (b := 8) rfl rfl rfl (by decide) ?_
      refine k_bin (X := .int .i64 8) (Y := .int .i64 (Int.tmod y6 8)) rfl rfl rfl rfl ?_
      refine k_conv (k := .u64) (k' := .i64) (n := (IntKind.i64.wrap (8 * (Int.tmod y6 8)))) rfl Try.underlying3 Try.underlying41 rfl ?_
      obtain ⟨c8, h⟩ := chk_e h
      refine k_shr (a := (r3.getD ((IntKind.i64.wrap (Int.tdiv y6 8)) : Int).toNat 0)) (b := (IntKind.u64.wrap (IntKind.i64.wrap (8 * (Int.tmod y6 8))))) rfl rfl rfl c8 ?_
      refine k_conv (k := .u8) (k' := .u64) (n := (Int.fdiv (r3.getD ((IntKind.i64.wrap (Int.tdiv y6 8)) : Int).toNat 0) (2 ^ (min ((IntKind.u64.wrap (IntKind.i64.wrap (8 * (Int.tmod y6 8)))) : Int).toNat (IntKind.u64).bits)))) rfl Try.underlying34 Try.underlying5 rfl ?_
      obtain ⟨c9, h⟩ := chk_e h
      refine k_indexA (n := 32) (s := 1) (j := y6) rfl Try.underlying22 (by kernel_rfl) s3_e208 rfl c9 ?_
      refine k_store (v := .int .u8 (IntKind.u8.wrap (Int.fdiv (r3.getD ((IntKind.i64.wrap (Int.tdiv y6 8)) : Int).toNat 0) (2 ^ (min ((IntKind.u64.wrap (IntKind.i64.wrap (8 * (Int.tmod y6 8)))) : Int).toNat (IntKind.u64).bits))))) 2 (y6 : Int).toNat (r := ⟨g4, 0, ints .u8 y5⟩) rfl (by kernel_rfl) rfl rfl rfl hp rfl rfl (show 0 + (y6 : Int).toNat * 1 = 0 + (y6 : Int).toNat by omega) (Nat.lt_of_lt_of_eq (idx_lt c9 ly5) (ints_length _ _).symm) (by decide) ?_; intro w hp; rw [ints_set] at hp
      refine k_end ?_; intro e209 qe209
      have s1_e209 : e209 1 = .pointer (some ⟨g1, 0, none⟩) := (congrFun qe209 1).trans s1_e208
      have s2_e209 : e209 2 = .pointer (some ⟨g2, 0, none⟩) := (congrFun qe209 2).trans s2_e208
      have s3_e209 : e209 3 = .pointer (some ⟨g4, 0, none⟩) := (congrFun qe209 3).trans s3_e208
      have s7_e209 : e209 7 = .int .i64 y6 := (congrFun qe209 7).trans s7_e208
      clear qe209
      obtain ⟨x10, qx10, h⟩ := lt_e h
      have lx10 : x10.length = 32 := (congrArg List.length qx10).trans (List.length_set.trans ly5)
      have hp : Hp w0 Ws w [⟨g1, 0, ints .u64 r3⟩, ⟨g2, 0, ints .u8 (List.replicate 32 (0 : Int))⟩, ⟨g4, 0, ints .u8 x10⟩] [] := by rw [qx10]; exact hp
      refine wregionT postilionref04_Bytes.o8 (.tp 0 (.tp 1 (.done))) [] rfl rfl (by kernel_rfl) (by kernel_rfl) ?_
      refine k_bin (X := .int .i64 y6) (Y := .int .i64 1) rfl s7_e209 rfl rfl ?_
      refine k_move (v := .int .i64 (IntKind.i64.wrap (y6 + 1))) rfl rfl ?_
      refine k_end ?_; intro e210 qe210
      have s1_e210 : e210 1 = .pointer (some ⟨g1, 0, none⟩) := (congrFun qe210 1).trans s1_e209
      have s2_e210 : e210 2 = .pointer (some ⟨g2, 0, none⟩) := (congrFun qe210 2).trans s2_e209
      have s3_e210 : e210 3 = .pointer (some ⟨g4, 0, none⟩) := (congrFun qe210 3).trans s3_e209
      obtain ⟨x11, qx11, h⟩ := lt_e h
      have s7_e210 : e210 7 = .int .i64 x11 := (congrFun qe210 7).trans (congrArg (Value.int .i64) qx11.symm)
      clear qe210
      exact ih x10 x11 _ _ lx10 s1_e210 s2_e210 s3_e210 s7_e210 (hp.drop (L' := [⟨g1, 0, ints .u64 r3⟩, ⟨g2, 0, ints .u8 (List.replicate 32 (0 : Int))⟩, ⟨g4, 0, ints .u8 x10⟩]) (List.Sublist.refl _)) h
    · replace h := br_f hb h
      refine wexit rfl ?_
      exact hQ0 _ _ y5 ly5 s2_e207 s3_e207 (hp.drop (L' := [⟨g1, 0, ints .u64 r3⟩, ⟨g2, 0, ints .u8 (List.replicate 32 (0 : Int))⟩, ⟨g4, 0, ints .u8 y5⟩]) (List.Sublist.refl _)) (Option.some.inj h).symm
theorem postilionref04_Bytes_ok (k : Nat) (a0 : List Int) (la0 : a0.length = 4) (w0 : World) (hp : Hp w0 [] w0 [] []) {r : List Int} (h : postilionref04_Bytes.f k a0 = some r) :
    Calls Try.prog 27 [.agg (ints .u64 a0).toArray].toArray w0 fun x w' => ∃ v, x = .returned v ∧ v = .agg (ints .u8 r).toArray ∧ r.length = 32 ∧ Hp w0 [] w' [] [] := by
  refine calls_inP Try.func27 rfl (Nat.le_of_ble_eq_true (by kernel_rfl)) (by kernel_rfl) ?_
  intro e0 qe0
  have s0_e0 : e0 0 = .agg (ints .u64 a0).toArray := congrFun qe0 0
  clear qe0
  unfold postilionref04_Bytes.f at h
  refine wseqP (p0 := [0]) (p1 := [1]) rfl rfl rfl ?_
  refine wregionT postilionref04_Bytes.o1 (.ef 0 (.ef 1 (.done))) [] rfl rfl (by kernel_rfl) (by kernel_rfl) ?_
  refine k_box (v := .agg (ints .u64 a0).toArray) (ints .u64 a0) rfl s0_e0 rfl hp ?_
  intro g1 w hbg1 hp
  refine k_alloc (ints .u8 (List.replicate 32 (0 : Int))) rfl (by kernel_rfl) hp ?_
  intro g2 w hbg2 hp
  refine k_end ?_; intro e203 qe203
  have s1_e203 : e203 1 = .pointer (some ⟨g1, 0, none⟩) := congrFun qe203 1
  have s2_e203 : e203 2 = .pointer (some ⟨g2, 0, none⟩) := congrFun qe203 2
  clear qe203
  refine wseqP (p0 := [1, 0]) (p1 := [1, 1]) rfl rfl rfl ?_
  refine wregionT postilionref04_Bytes.o2 (.tk 0 (.ef 1 (.ef 2 (.done)))) [2] rfl rfl (by kernel_rfl) (by kernel_rfl) ?_
  refine k_loadA (n := 4) (xs := ints .u64 a0) 0 rfl (by kernel_rfl) (by kernel_rfl) s1_e203 (hp.get (j := 0) rfl) rfl rfl ((ints_length _ _).trans la0) (fun m v hm => by rw [Nat.zero_add]; exact hm) ?_
  obtain ⟨r3, qr3, h⟩ := bd_e h
  refine k_call [.agg (ints .u64 a0).toArray] rfl (by kernel_rfl) (args1 rfl) (postilionref04_Least_ok k a0 la0 _ (hp.toR (fun _ h => by cases h)) qr3) ?_
  rintro _ w' ⟨_, rfl, rfl, lr30, hpc⟩
  refine ⟨_, rfl, .inr (.of_below hpc.chg.to_below), ?_⟩; have hp := hp.below hpc.chg.to_below; clear hpc
  refine k_storeA (v := .agg (ints .u64 r3).toArray) 0 0 (r := ⟨g1, 0, ints .u64 a0⟩) (ints .u64 r3) (ints .u64 r3) rfl (n := 4) (by kernel_rfl) s1_e203 rfl rfl ((ints_length _ _).trans lr30) (ints_one _ _) hp rfl rfl rfl (Nat.le_of_eq ((Nat.zero_add _).trans ((ints_length _ _).trans la0).symm)) (setMany_all _ _ (((ints_length _ _).trans lr30).trans ((ints_length _ _).trans la0).symm)) (by decide) ?_; intro w hp
  refine k_end ?_; intro e204 qe204
  have s1_e204 : e204 1 = .pointer (some ⟨g1, 0, none⟩) := (congrFun qe204 1).trans s1_e203
  have s2_e204 : e204 2 = .pointer (some ⟨g2, 0, none⟩) := (congrFun qe204 2).trans s2_e203
  clear qe204
  refine wseqP (p0 := [1, 1, 0]) (p1 := [1, 1, 1]) rfl rfl rfl ?_
  refine wregionT postilionref04_Bytes.o3 (.ef 0 (.done)) [] rfl rfl (by kernel_rfl) (by kernel_rfl) ?_
  refine k_alloc (ints .u8 (List.replicate 32 (0 : Int))) rfl (by kernel_rfl) hp ?_
  intro g4 w hbg4 hp
  refine k_end ?_; intro e205 qe205
  have s1_e205 : e205 1 = .pointer (some ⟨g1, 0, none⟩) := (congrFun qe205 1).trans s1_e204
  have s2_e205 : e205 2 = .pointer (some ⟨g2, 0, none⟩) := (congrFun qe205 2).trans s2_e204
  have s3_e205 : e205 3 = .pointer (some ⟨g4, 0, none⟩) := congrFun qe205 3
  clear qe205
  refine wseqP (p0 := [1, 1, 1, 0]) (p1 := [1, 1, 1, 1]) rfl rfl rfl ?_
  refine wseqP (p0 := [1, 1, 1, 0, 0]) (p1 := [1, 1, 1, 0, 1]) rfl rfl rfl ?_
  refine wregionT postilionref04_Bytes.o4 (.tp 0 (.done)) [] rfl rfl (by kernel_rfl) (by kernel_rfl) ?_
  refine k_move (v := .int .i64 0) rfl rfl ?_
  refine k_end ?_; intro e206 qe206
  have s1_e206 : e206 1 = .pointer (some ⟨g1, 0, none⟩) := (congrFun qe206 1).trans s1_e205
  have s2_e206 : e206 2 = .pointer (some ⟨g2, 0, none⟩) := (congrFun qe206 2).trans s2_e205
  have s3_e206 : e206 3 = .pointer (some ⟨g4, 0, none⟩) := (congrFun qe206 3).trans s3_e205
  have s7_e206 : e206 7 = .int .i64 0 := congrFun qe206 7
  clear qe206
  refine wblockP (p0 := [1, 1, 1, 0, 1, 0]) 0 rfl rfl ?_
  obtain ⟨r12, qr12, h⟩ := bd_e h
  refine wloopP (p0 := [1, 1, 1, 0, 1, 0, 0]) k rfl rfl (postilionref04_Bytes.p1_ok g1 g2 g4 r3 lr30 ?hq0 k (List.replicate 32 (0 : Int)) 0 e206 _ List.length_replicate s1_e206 s2_e206 s3_e206 s7_e206 hp qr12)
  case hq0 =>
    intro e211 w m13 lm13 s2_e211 s3_e211 hp qq
    rw [qq] at h; clear qq
    refine wseqP (p0 := [1, 1, 1, 1, 0]) (p1 := [1, 1, 1, 1, 1]) rfl rfl rfl ?_
    refine wregionT postilionref04_Bytes.o9 (.tk 0 (.ef 1 (.done))) [1] rfl rfl (by kernel_rfl) (by kernel_rfl) ?_
    refine k_loadA (n := 32) (xs := ints .u8 m13) 0 rfl (by kernel_rfl) (by kernel_rfl) s3_e211 (hp.get (j := 2) rfl) rfl rfl ((ints_length _ _).trans lm13) (fun m v hm => by rw [Nat.zero_add]; exact hm) ?_
    refine k_storeA (v := .agg (ints .u8 m13).toArray) 1 0 (r := ⟨g2, 0, ints .u8 (List.replicate 32 (0 : Int))⟩) (ints .u8 m13) (ints .u8 m13) rfl (n := 32) (by kernel_rfl) s2_e211 rfl rfl ((ints_length _ _).trans lm13) (ints_one _ _) hp rfl rfl rfl (Nat.le_of_eq ((Nat.zero_add _).trans ((ints_length _ _).trans List.length_replicate).symm)) (setMany_all _ _ (((ints_length _ _).trans lm13).trans ((ints_length _ _).trans List.length_replicate).symm)) (by decide) ?_; intro w hp
    refine k_end ?_; intro e212 qe212
    have s2_e212 : e212 2 = .pointer (some ⟨g2, 0, none⟩) := (congrFun qe212 2).trans s2_e211
    clear qe212
    refine wret rfl ?_
    have hr : r = m13 := (Option.some.inj h).symm
    show RetP _ _ _ _ _
    rw [hr]
    exact ret_i [.agg (ints .u8 m13).toArray] (res_cell s2_e212 (loadVar_agg (by kernel_rfl) (by kernel_rfl) ((ints_length _ _).trans lm13) (hp.get (j := 1) rfl) rfl rfl rfl) res_nil) ⟨rfl, lm13, hp.none⟩
/-! 10 postilion/postilionref04.Add -/
noncomputable def postilionref04_Add.o1 : Array Oper := opsC (at_ (fbody Try.f10) [0])
noncomputable def postilionref04_Add.o2 : Array Oper := opsC (at_ (fbody Try.f10) [1, 0])
theorem postilionref04_Add_ok (k : Nat) (a0 : List Int) (a1 : List Int) (la0 : a0.length = 32) (la1 : a1.length = 32) (w0 : World) (hp : Hp w0 [] w0 [] []) {r : List Int} (h : postilionref04_Add.f k a0 a1 = some r) :
    Calls Try.prog 10 [.agg (ints .u8 a0).toArray, .agg (ints .u8 a1).toArray].toArray w0 fun x w' => ∃ v, x = .returned v ∧ v = .agg (ints .u8 r).toArray ∧ r.length = 32 ∧ Hp w0 [] w' [] [] := by
  refine calls_inP Try.func10 rfl (Nat.le_of_ble_eq_true (by kernel_rfl)) (by kernel_rfl) ?_
  intro e0 qe0
  have s0_e0 : e0 0 = .agg (ints .u8 a0).toArray := congrFun qe0 0
  have s1_e0 : e0 1 = .agg (ints .u8 a1).toArray := congrFun qe0 1
  clear qe0
  unfold postilionref04_Add.f at h
  refine wseqP (p0 := [0]) (p1 := [1]) rfl rfl rfl ?_
  refine wregionT postilionref04_Add.o1 (.ef 0 (.ef 1 (.ef 2 (.done)))) [] rfl rfl (by kernel_rfl) (by kernel_rfl) ?_
  refine k_box (v := .agg (ints .u8 a0).toArray) (ints .u8 a0) rfl s0_e0 rfl hp ?_
  intro g1 w hbg1 hp
  refine k_box (v := .agg (ints .u8 a1).toArray) (ints .u8 a1) rfl s1_e0 rfl hp ?_
  intro g2 w hbg2 hp
  refine k_alloc (ints .u8 (List.replicate 32 (0 : Int))) rfl (by kernel_rfl) hp ?_
  intro g3 w hbg3 hp
  refine k_end ?_; intro e213 qe213
  have s2_e213 : e213 2 = .pointer (some ⟨g1, 0, none⟩) := congrFun qe213 2
  have s3_e213 : e213 3 = .pointer (some ⟨g2, 0, none⟩) := congrFun qe213 3
  have s4_e213 : e213 4 = .pointer (some ⟨g3, 0, none⟩) := congrFun qe213 4
  clear qe213
  refine wseqP (p0 := [1, 0]) (p1 := [1, 1]) rfl rfl rfl ?_
  refine wregionM postilionref04_Add.o2 (.tk 0 (.tk 2 (.ef 1 (.ef 3 (.ef 4 (.ef 5 (.ef 6 (.done)))))))) [6] [(0, 0, 0), (1, 127, 127), (0, 0, 0), (6, 127, 127), (10, 127, 127), (16, 127, 127), (63, 127, 127)] rfl rfl (by kernel_rfl) (by kernel_rfl) (Nat.le_of_ble_eq_true (by kernel_rfl)) (by kernel_rfl) (by kernel_rfl) (by kernel_rfl) ?_
  have hp := hp.drew
  refine k_loadA (n := 32) (xs := ints .u8 a0) 0 rfl (by kernel_rfl) (by kernel_rfl) s2_e213 (hp.get (j := 0) rfl) rfl rfl ((ints_length _ _).trans la0) (fun m v hm => by rw [Nat.zero_add]; exact hm) ?_
  refine k_loadA (n := 32) (xs := ints .u8 a1) 0 rfl (by kernel_rfl) (by kernel_rfl) s3_e213 (hp.get (j := 1) rfl) rfl rfl ((ints_length _ _).trans la1) (fun m v hm => by rw [Nat.zero_add]; exact hm) ?_
  obtain ⟨r4, qr4, h⟩ := bd_e h
  refine k_call [.agg (ints .u8 a0).toArray] rfl (by kernel_rfl) (args1 rfl) (postilionref04_From_ok k a0 la0 _ (hp.toR (fun _ h => by cases h)) qr4) ?_
  rintro _ w' ⟨_, rfl, rfl, lr40, hpc⟩
  refine ⟨_, rfl, .inr (.of_below hpc.chg.to_below), ?_⟩; have hp := hp.below hpc.chg.to_below; clear hpc
  obtain ⟨r5, qr5, h⟩ := bd_e h
  refine k_call [.agg (ints .u8 a1).toArray] rfl (by kernel_rfl) (args1 rfl) (postilionref04_From_ok k a1 la1 _ (hp.toR (fun _ h => by cases h)) qr5) ?_
  rintro _ w' ⟨_, rfl, rfl, lr50, hpc⟩
  refine ⟨_, rfl, .inr (.of_below hpc.chg.to_below), ?_⟩; have hp := hp.below hpc.chg.to_below; clear hpc
  obtain ⟨r6, qr6, h⟩ := bd_e h
  refine k_call [.agg (ints .u64 r4).toArray, .agg (ints .u64 r5).toArray] rfl (by kernel_rfl) (args2 rfl rfl) (postilionref04_Plus_ok k r4 r5 lr40 lr50 _ (hp.toR (fun _ h => by cases h)) qr6) ?_
  rintro _ w' ⟨_, rfl, rfl, lr60, hpc⟩
  refine ⟨_, rfl, .inr (.of_below hpc.chg.to_below), ?_⟩; have hp := hp.below hpc.chg.to_below; clear hpc
  obtain ⟨r7, qr7, h⟩ := bd_e h
  refine k_call [.agg (ints .u64 r6).toArray] rfl (by kernel_rfl) (args1 rfl) (postilionref04_Bytes_ok k r6 lr60 _ (hp.toR (fun _ h => by cases h)) qr7) ?_
  rintro _ w' ⟨_, rfl, rfl, lr70, hpc⟩
  refine ⟨_, rfl, .inr (.of_below hpc.chg.to_below), ?_⟩; have hp := hp.below hpc.chg.to_below; clear hpc
  refine k_storeA (v := .agg (ints .u8 r7).toArray) 2 0 (r := ⟨g3, 0, ints .u8 (List.replicate 32 (0 : Int))⟩) (ints .u8 r7) (ints .u8 r7) rfl (n := 32) (by kernel_rfl) s4_e213 rfl rfl ((ints_length _ _).trans lr70) (ints_one _ _) hp rfl rfl rfl (Nat.le_of_eq ((Nat.zero_add _).trans ((ints_length _ _).trans List.length_replicate).symm)) (setMany_all _ _ (((ints_length _ _).trans lr70).trans ((ints_length _ _).trans List.length_replicate).symm)) (by decide) ?_; intro w hp
  refine k_end ?_; intro e214 qe214
  have s4_e214 : e214 4 = .pointer (some ⟨g3, 0, none⟩) := (congrFun qe214 4).trans s4_e213
  clear qe214
  refine wret rfl ?_
  have hr : r = r7 := (Option.some.inj h).symm
  show RetP _ _ _ _ _
  rw [hr]
  exact ret_i [.agg (ints .u8 r7).toArray] (res_cell s4_e214 (loadVar_agg (by kernel_rfl) (by kernel_rfl) ((ints_length _ _).trans lr70) (hp.get (j := 2) rfl) rfl rfl rfl) res_nil) ⟨rfl, lr70, hp.none⟩
/-! 11 postilion/postilionref04.Canonical -/
noncomputable def postilionref04_Canonical.o1 : Array Oper := opsC (at_ (fbody Try.f11) [0])
noncomputable def postilionref04_Canonical.o2 : Array Oper := opsC (at_ (fbody Try.f11) [1, 0])
theorem postilionref04_Canonical_ok (k : Nat) (a0 : List Int) (la0 : a0.length = 32) (w0 : World) (hp : Hp w0 [] w0 [] []) {r : Bool} (h : postilionref04_Canonical.f k a0 = some r) :
    Calls Try.prog 11 [.agg (ints .u8 a0).toArray].toArray w0 fun x w' => ∃ v, x = .returned v ∧ v = .bool r ∧ Hp w0 [] w' [] [] := by
  refine calls_inP Try.func11 rfl (Nat.le_of_ble_eq_true (by kernel_rfl)) (by kernel_rfl) ?_
  intro e0 qe0
  have s0_e0 : e0 0 = .agg (ints .u8 a0).toArray := congrFun qe0 0
  clear qe0
  unfold postilionref04_Canonical.f at h
  refine wseqP (p0 := [0]) (p1 := [1]) rfl rfl rfl ?_
  refine wregionT postilionref04_Canonical.o1 (.ef 0 (.tp 1 (.done))) [] rfl rfl (by kernel_rfl) (by kernel_rfl) ?_
  refine k_box (v := .agg (ints .u8 a0).toArray) (ints .u8 a0) rfl s0_e0 rfl hp ?_
  intro g1 w hbg1 hp
  refine k_assign (v := .bool false) rfl rfl ?_
  refine k_end ?_; intro e215 qe215
  have s1_e215 : e215 1 = .pointer (some ⟨g1, 0, none⟩) := congrFun qe215 1
  clear qe215
  refine wseqP (p0 := [1, 0]) (p1 := [1, 1]) rfl rfl rfl ?_
  refine wregionT postilionref04_Canonical.o2 (.tk 0 (.ef 1 (.ef 2 (.ef 3 (.tp 4 (.done)))))) [] rfl rfl (by kernel_rfl) (by kernel_rfl) ?_
  refine k_loadA (n := 32) (xs := ints .u8 a0) 0 rfl (by kernel_rfl) (by kernel_rfl) s1_e215 (hp.get (j := 0) rfl) rfl rfl ((ints_length _ _).trans la0) (fun m v hm => by rw [Nat.zero_add]; exact hm) ?_
  obtain ⟨r2, qr2, h⟩ := bd_e h
  refine k_call [.agg (ints .u8 a0).toArray] rfl (by kernel_rfl) (args1 rfl) (postilionref04_From_ok k a0 la0 _ (hp.toR (fun _ h => by cases h)) qr2) ?_
  rintro _ w' ⟨_, rfl, rfl, lr20, hpc⟩
  refine ⟨_, rfl, .inr (.of_below hpc.chg.to_below), ?_⟩; have hp := hp.below hpc.chg.to_below; clear hpc
  obtain ⟨r3, qr3, h⟩ := bd_e h
  refine k_call [] rfl (by kernel_rfl) (args0 ) (postilionref04_p_ok   _ (hp.toR (fun _ h => by cases h)) qr3) ?_
  rintro _ w' ⟨_, rfl, rfl, lr30, hpc⟩
  refine ⟨_, rfl, .inr (.of_below hpc.chg.to_below), ?_⟩; have hp := hp.below hpc.chg.to_below; clear hpc
  obtain ⟨r4, qr4, h⟩ := bd_e h
  refine k_call [.agg (ints .u64 r2).toArray, .agg (ints .u64 r3).toArray] rfl (by kernel_rfl) (args2 rfl rfl) (postilionref04_below_ok k r2 r3 lr20 lr30 _ (hp.toR (fun _ h => by cases h)) qr4) ?_
  rintro _ w' ⟨_, rfl, rfl, hpc⟩
  refine ⟨_, rfl, .inr (.of_below hpc.chg.to_below), ?_⟩; have hp := hp.below hpc.chg.to_below; clear hpc
  refine k_assign (v := .bool r4) rfl rfl ?_
  refine k_end ?_; intro e216 qe216
  have s2_e216 : e216 2 = .bool r4 := congrFun qe216 2
  clear qe216
  refine wret rfl ?_
  have hr : r = r4 := (Option.some.inj h).symm
  show RetP _ _ _ _ _
  rw [hr]
  exact ret_i [.bool r4] (res_tmp s2_e216 res_nil) ⟨rfl, hp.none⟩
/-! 4 postilion/postilionlaw08.XdhBits -/
noncomputable def postilionlaw08_XdhBits.o1 : Array Oper := opsC (at_ (fbody Try.f4) [0])
noncomputable def postilionlaw08_XdhBits.o2 : Array Oper := opsC (at_ (fbody Try.f4) [1, 0, 0])
noncomputable def postilionlaw08_XdhBits.o3 : Array Oper := opsC (at_ (fbody Try.f4) [1, 0, 1, 0, 0])
noncomputable def postilionlaw08_XdhBits.o4 : Array Oper := opsC (at_ (fbody Try.f4) [1, 1, 0])
noncomputable def postilionlaw08_XdhBits.o5 : Array Oper := opsC (at_ (fbody Try.f4) [1, 1, 1, 0])
noncomputable def postilionlaw08_XdhBits.o6 : Array Oper := opsC (at_ (fbody Try.f4) [1, 1, 1, 1, 0])
noncomputable def postilionlaw08_XdhBits.o7 : Array Oper := opsC (at_ (fbody Try.f4) [1, 1, 1, 1, 1, 0])
noncomputable def postilionlaw08_XdhBits.o8 : Array Oper := opsC (at_ (fbody Try.f4) [1, 1, 1, 1, 1, 1, 0])
noncomputable def postilionlaw08_XdhBits.o9 : Array Oper := opsC (at_ (fbody Try.f4) [1, 1, 1, 1, 1, 1, 1, 0])
noncomputable def postilionlaw08_XdhBits.o10 : Array Oper := opsC (at_ (fbody Try.f4) [1, 1, 1, 1, 1, 1, 1, 1, 0])
noncomputable def postilionlaw08_XdhBits.o11 : Array Oper := opsC (at_ (fbody Try.f4) [1, 1, 1, 1, 1, 1, 1, 1, 1, 0])
theorem postilionlaw08_XdhBits.p1_ok {w0 : World} {Ws : List Wr} {Q : Exit → Env → World → Prop} (k : Nat) (g1 g11 g2 g4 g5 g9 : Nat) (a0 : List Int) (a1 : List Int) (x7 : List Int) (r8 : List Int) (r10 : List Int) (la0 : a0.length = 32) (la1 : a1.length = 32) (lx7 : x7.length = 32) (lr80 : r8.length = 32) (lr100 : r10.length = 32) {r : Bool} (hQ0 : ∀ (e' : Env) (w' : World) (z0 : Bool), e' 8 = .bool z0 → Hp w0 Ws w' [⟨g1, 0, ints .u8 a0⟩, ⟨g2, 0, ints .u8 (a1.set 31 (bits .and .u8 (a1.getD 31 0) 127))⟩, ⟨g4, 0, ints .u8 x7⟩, ⟨g5, 0, ints .u8 (a1.set 31 (bits .xor .u8 (a1.getD 31 0) 128))⟩, ⟨g9, 0, ints .u8 r8⟩, ⟨g11, 0, ints .u8 r10⟩] [] → r = (z0) → Q .normal e' w') (e : Env) (w : World) (s4_e : e 4 = .pointer (some ⟨g1, 0, none⟩)) (s9_e : e 9 = .pointer (some ⟨g4, 0, none⟩)) (s10_e : e 10 = .pointer (some ⟨g5, 0, none⟩)) (s11_e : e 11 = .pointer (some ⟨g9, 0, none⟩)) (s12_e : e 12 = .pointer (some ⟨g11, 0, none⟩)) (hp : Hp w0 Ws w [⟨g1, 0, ints .u8 a0⟩, ⟨g2, 0, ints .u8 (a1.set 31 (bits .and .u8 (a1.getD 31 0) 127))⟩, ⟨g4, 0, ints .u8 x7⟩, ⟨g5, 0, ints .u8 (a1.set 31 (bits .xor .u8 (a1.getD 31 0) 128))⟩, ⟨g9, 0, ints .u8 r8⟩, ⟨g11, 0, ints .u8 r10⟩] []) (h : postilionlaw08_XdhBits.p1 k a0 a1 x7 r8 r10 = some r) : Wp Try.prog Try.f4.ntmps (at_ (fbody Try.f4) [1, 1, 1, 1, 1, 1, 1, 1, 1, 0]) Q e w := by
  unfold postilionlaw08_XdhBits.p1 at h
  refine wregionM postilionlaw08_XdhBits.o11 (.tk 0 (.tk 1 (.tk 2 (.ef 3 (.tp 4 (.tp 5 (.tk 6 (.tk 7 (.tk 8 (.ef 9 (.tp 10 (.tp 11 (.tp 12 (.tk 13 (.ef 14 (.tp 15 (.tp 16 (.done)))))))))))))))))) [] [(0, 0, 0), (0, 0, 0), (0, 0, 0), (6, 131071, 131071), (9, 9, 131071), (24, 16, 131071), (32, 32, 0), (32, 32, 0), (32, 32, 0), (416, 131071, 131071), (608, 608, 131071), (1056, 1056, 131071), (2560, 2048, 131071), (4096, 4096, 0), (12288, 131071, 131071), (20480, 20480, 131071), (65535, 32768, 131071)] rfl rfl (by kernel_rfl) (by kernel_rfl) (Nat.le_of_ble_eq_true (by kernel_rfl)) (by kernel_rfl) (by kernel_rfl) (by kernel_rfl) ?_
  have hp := hp.drew
  refine k_loadA (n := 32) (xs := ints .u8 r8) 0 rfl (by kernel_rfl) (by kernel_rfl) s11_e (hp.get (j := 4) rfl) rfl rfl ((ints_length _ _).trans lr80) (fun m v hm => by rw [Nat.zero_add]; exact hm) ?_
  refine k_loadA (n := 32) (xs := ints .u8 x7) 0 rfl (by kernel_rfl) (by kernel_rfl) s9_e (hp.get (j := 2) rfl) rfl rfl ((ints_length _ _).trans lx7) (fun m v hm => by rw [Nat.zero_add]; exact hm) ?_
  refine k_loadA (n := 32) (xs := ints .u8 (a1.set 31 (bits .xor .u8 (a1.getD 31 0) 128))) 0 rfl (by kernel_rfl) (by kernel_rfl) s10_e (hp.get (j := 3) rfl) rfl rfl ((ints_length _ _).trans (List.length_set.trans la1)) (fun m v hm => by rw [Nat.zero_add]; exact hm) ?_
  obtain ⟨r12, qr12, h⟩ := bd_e h
  refine k_call [.agg (ints .u8 x7).toArray, .agg (ints .u8 (a1.set 31 (bits .xor .u8 (a1.getD 31 0) 128))).toArray] rfl (by kernel_rfl) (args2 rfl rfl) (xdh_Mul_ok k x7 (a1.set 31 (bits .xor .u8 (a1.getD 31 0) 128)) lx7 (List.length_set.trans la1) _ (hp.toR (fun _ h => by cases h)) qr12) ?_
  rintro _ w' ⟨_, rfl, rfl, lr120, hpc⟩
  refine ⟨_, rfl, .inr (.of_below hpc.chg.to_below), ?_⟩; have hp := hp.below hpc.chg.to_below; clear hpc
  refine k_eqI (k := .u8) (l := r8) (l' := r12) rfl Try.underlying22 Try.underlying5 (by kernel_rfl) (by kernel_rfl) rfl rfl lr80 lr120 ?_
  rcases Bool.eq_false_or_eq_true (r8 == r12) with hb | hb
  · replace h := br_t hb h
    refine k_move (v := .bool true) rfl (Eq.trans (b := .bool (r8 == r12)) rfl (congrArg Value.bool hb)) ?_
    refine k_loadA (n := 32) (xs := ints .u8 r8) 0 rfl (by kernel_rfl) (by kernel_rfl) s11_e (hp.get (j := 4) rfl) rfl rfl ((ints_length _ _).trans lr80) (fun m v hm => by rw [Nat.zero_add]; exact hm) ?_
    refine k_loadA (n := 32) (xs := ints .u8 a0) 0 rfl (by kernel_rfl) (by kernel_rfl) s4_e (hp.get (j := 0) rfl) rfl rfl ((ints_length _ _).trans la0) (fun m v hm => by rw [Nat.zero_add]; exact hm) ?_
    refine k_loadA (n := 32) (xs := ints .u8 r10) 0 rfl (by kernel_rfl) (by kernel_rfl) s12_e (hp.get (j := 5) rfl) rfl rfl ((ints_length _ _).trans lr100) (fun m v hm => by rw [Nat.zero_add]; exact hm) ?_
    obtain ⟨r13, qr13, h⟩ := bd_e h
    refine k_call [.agg (ints .u8 a0).toArray, .agg (ints .u8 r10).toArray] rfl (by kernel_rfl) (args2 rfl rfl) (xdh_Mul_ok k a0 r10 la0 lr100 _ (hp.toR (fun _ h => by cases h)) qr13) ?_
    rintro _ w' ⟨_, rfl, rfl, lr130, hpc⟩
    refine ⟨_, rfl, .inr (.of_below hpc.chg.to_below), ?_⟩; have hp := hp.below hpc.chg.to_below; clear hpc
    refine k_eqI (k := .u8) (l := r8) (l' := r13) rfl Try.underlying22 Try.underlying5 (by kernel_rfl) (by kernel_rfl) rfl rfl lr80 lr130 ?_
    refine k_pick (b := true) (v := .bool (r8 == r13)) rfl rfl rfl rfl rfl ?_
    rcases Bool.eq_false_or_eq_true (r8 == r13) with hb | hb
    · replace h := br_t hb h
      refine k_move (v := .bool true) rfl (Eq.trans (b := .bool (r8 == r13)) rfl (congrArg Value.bool hb)) ?_
      refine k_loadA (n := 32) (xs := ints .u8 r8) 0 rfl (by kernel_rfl) (by kernel_rfl) s11_e (hp.get (j := 4) rfl) rfl rfl ((ints_length _ _).trans lr80) (fun m v hm => by rw [Nat.zero_add]; exact hm) ?_
      obtain ⟨r14, qr14, h⟩ := bd_e h
      refine k_call [.agg (ints .u8 r8).toArray] rfl (by kernel_rfl) (args1 rfl) (postilionref04_Canonical_ok k r8 lr80 _ (hp.toR (fun _ h => by cases h)) qr14) ?_
      rintro _ w' ⟨_, rfl, rfl, hpc⟩
      refine ⟨_, rfl, .inr (.of_below hpc.chg.to_below), ?_⟩; have hp := hp.below hpc.chg.to_below; clear hpc
      refine k_pick (b := true) (v := .bool r14) rfl rfl rfl rfl rfl ?_
      refine k_assign (v := .bool r14) rfl rfl ?_
      refine k_end ?_; intro e227 qe227
      have s8_e227 : e227 8 = .bool r14 := congrFun qe227 8
      clear qe227
      exact hQ0 _ _ r14  s8_e227 (hp.drop (L' := [⟨g1, 0, ints .u8 a0⟩, ⟨g2, 0, ints .u8 (a1.set 31 (bits .and .u8 (a1.getD 31 0) 127))⟩, ⟨g4, 0, ints .u8 x7⟩, ⟨g5, 0, ints .u8 (a1.set 31 (bits .xor .u8 (a1.getD 31 0) 128))⟩, ⟨g9, 0, ints .u8 r8⟩, ⟨g11, 0, ints .u8 r10⟩]) (List.Sublist.refl _)) (Option.some.inj h).symm
    · replace h := br_f hb h
      refine k_move (v := .bool false) rfl (Eq.trans (b := .bool (r8 == r13)) rfl (congrArg Value.bool hb)) ?_
      refine k_skip_tk rfl ?_
      refine k_skip_ef rfl ?_
      refine k_pick (b := false) (v := .bool false) rfl rfl rfl rfl rfl ?_
      refine k_assign (v := .bool false) rfl rfl ?_
      refine k_end ?_; intro e228 qe228
      have s8_e228 : e228 8 = .bool false := congrFun qe228 8
      clear qe228
      exact hQ0 _ _ false  s8_e228 (hp.drop (L' := [⟨g1, 0, ints .u8 a0⟩, ⟨g2, 0, ints .u8 (a1.set 31 (bits .and .u8 (a1.getD 31 0) 127))⟩, ⟨g4, 0, ints .u8 x7⟩, ⟨g5, 0, ints .u8 (a1.set 31 (bits .xor .u8 (a1.getD 31 0) 128))⟩, ⟨g9, 0, ints .u8 r8⟩, ⟨g11, 0, ints .u8 r10⟩]) (List.Sublist.refl _)) (Option.some.inj h).symm
  · replace h := br_f hb h
    refine k_move (v := .bool false) rfl (Eq.trans (b := .bool (r8 == r12)) rfl (congrArg Value.bool hb)) ?_
    refine k_skip_tk rfl ?_
    refine k_skip_tk rfl ?_
    refine k_skip_tk rfl ?_
    refine k_skip_ef rfl ?_
    refine k_skip rfl ?_
    refine k_pick (b := false) (v := .bool false) rfl rfl rfl rfl rfl ?_
    refine k_move (v := .bool false) rfl rfl ?_
    refine k_skip_tk rfl ?_
    refine k_skip_ef rfl ?_
    refine k_pick (b := false) (v := .bool false) rfl rfl rfl rfl rfl ?_
    refine k_assign (v := .bool false) rfl rfl ?_
    refine k_end ?_; intro e229 qe229
    have s8_e229 : e229 8 = .bool false := congrFun qe229 8
    clear qe229
    exact hQ0 _ _ false  s8_e229 (hp.drop (L' := [⟨g1, 0, ints .u8 a0⟩, ⟨g2, 0, ints .u8 (a1.set 31 (bits .and .u8 (a1.getD 31 0) 127))⟩, ⟨g4, 0, ints .u8 x7⟩, ⟨g5, 0, ints .u8 (a1.set 31 (bits .xor .u8 (a1.getD 31 0) 128))⟩, ⟨g9, 0, ints .u8 r8⟩, ⟨g11, 0, ints .u8 r10⟩]) (List.Sublist.refl _)) (Option.some.inj h).symm
set_option maxHeartbeats 4000000 in
theorem postilionlaw08_XdhBits_ok (k : Nat) (a0 : List Int) (a1 : List Int) (a2 : Int) (a3 : Int) (la0 : a0.length = 32) (la1 : a1.length = 32) (w0 : World) (hp : Hp w0 [] w0 [] []) {r : Bool} (h : postilionlaw08_XdhBits.f k a0 a1 a2 a3 = some r) :
    Calls Try.prog 4 [.agg (ints .u8 a0).toArray, .agg (ints .u8 a1).toArray, .int .u8 a2, .int .u8 a3].toArray w0 fun x w' => ∃ v, x = .returned v ∧ v = .bool r ∧ Hp w0 [] w' [] [] := by
  refine calls_inP Try.func4 rfl (Nat.le_of_ble_eq_true (by kernel_rfl)) (by kernel_rfl) ?_
  intro e0 qe0
  have s0_e0 : e0 0 = .agg (ints .u8 a0).toArray := congrFun qe0 0
  have s1_e0 : e0 1 = .agg (ints .u8 a1).toArray := congrFun qe0 1
  have s2_e0 : e0 2 = .int .u8 a2 := congrFun qe0 2
  have s3_e0 : e0 3 = .int .u8 a3 := congrFun qe0 3
  clear qe0
  unfold postilionlaw08_XdhBits.f at h
  refine wseqP (p0 := [0]) (p1 := [1]) rfl rfl rfl ?_
  refine wregionT postilionlaw08_XdhBits.o1 (.ef 0 (.ef 1 (.tp 2 (.done)))) [] rfl rfl (by kernel_rfl) (by kernel_rfl) ?_
  refine k_box (v := .agg (ints .u8 a0).toArray) (ints .u8 a0) rfl s0_e0 rfl hp ?_
  intro g1 w hbg1 hp
  refine k_box (v := .agg (ints .u8 a1).toArray) (ints .u8 a1) rfl s1_e0 rfl hp ?_
  intro g2 w hbg2 hp
  refine k_assign (v := .bool false) rfl rfl ?_
  refine k_end ?_; intro e217 qe217
  have s2_e217 : e217 2 = .int .u8 a2 := (congrFun qe217 2).trans s2_e0
  have s3_e217 : e217 3 = .int .u8 a3 := (congrFun qe217 3).trans s3_e0
  have s4_e217 : e217 4 = .pointer (some ⟨g1, 0, none⟩) := congrFun qe217 4
  have s5_e217 : e217 5 = .pointer (some ⟨g2, 0, none⟩) := congrFun qe217 5
  clear qe217
  refine wseqP (p0 := [1, 0]) (p1 := [1, 1]) rfl rfl rfl ?_
  refine wseqP (p0 := [1, 0, 0]) (p1 := [1, 0, 1]) rfl rfl rfl ?_
  refine wregionT postilionlaw08_XdhBits.o2 (.ef 0 (.tp 1 (.done))) [] rfl rfl (by kernel_rfl) (by kernel_rfl) ?_
  obtain ⟨r3, qr3, h⟩ := bd_e h
  refine k_call [] rfl (by kernel_rfl) (args0 ) (postilionlaw08_awake_ok k   _ (hp.toR (fun _ h => by cases h)) qr3) ?_
  rintro _ w' ⟨_, rfl, rfl, hpc⟩
  refine ⟨_, rfl, .inr (.of_below hpc.chg.to_below), ?_⟩; have hp := hp.below hpc.chg.to_below; clear hpc
  refine k_not (b := r3) rfl rfl ?_
  refine k_end ?_; intro e218 qe218
  have s2_e218 : e218 2 = .int .u8 a2 := (congrFun qe218 2).trans s2_e217
  have s3_e218 : e218 3 = .int .u8 a3 := (congrFun qe218 3).trans s3_e217
  have s4_e218 : e218 4 = .pointer (some ⟨g1, 0, none⟩) := (congrFun qe218 4).trans s4_e217
  have s5_e218 : e218 5 = .pointer (some ⟨g2, 0, none⟩) := (congrFun qe218 5).trans s5_e217
  have s14_e218 : e218 14 = .bool (!r3) := congrFun qe218 14
  clear qe218
  refine wcondP (p0 := [1, 0, 1, 0]) (p1 := [1, 0, 1, 1]) (t := (!r3)) rfl rfl rfl (by decide) s14_e218 (fun hb => ?_) (fun hb => ?_)
  · replace h := br_t hb h
    refine wseqP (p0 := [1, 0, 1, 0, 0]) (p1 := [1, 0, 1, 0, 1]) rfl rfl rfl ?_
    refine wregionT postilionlaw08_XdhBits.o3 (.tp 0 (.done)) [] rfl rfl (by kernel_rfl) (by kernel_rfl) ?_
    refine k_assign (v := .bool false) rfl rfl ?_
    refine k_end ?_; intro e219 qe219
    have s8_e219 : e219 8 = .bool false := congrFun qe219 8
    clear qe219
    refine wret rfl ?_
    have hr : r = false := (Option.some.inj h).symm
    show RetP _ _ _ _ _
    rw [hr]
    exact ret_i [.bool false] (res_tmp s8_e219 res_nil) ⟨rfl, hp.none⟩
  · replace h := br_f hb h
    refine wskip rfl ?_
    refine wseqP (p0 := [1, 1, 0]) (p1 := [1, 1, 1]) rfl rfl rfl ?_
    refine wcut (fun e220 w2 => ∃ g4 g5 : Nat, (((e220 2 = .int .u8 a2 ∧ e220 3 = .int .u8 a3) ∧ e220 4 = .pointer (some ⟨g1, 0, none⟩)) ∧ ((e220 5 = .pointer (some ⟨g2, 0, none⟩) ∧ e220 9 = .pointer (some ⟨g4, 0, none⟩)) ∧ e220 10 = .pointer (some ⟨g5, 0, none⟩))) ∧ Hp w0 [] w2 [⟨g1, 0, ints .u8 a0⟩, ⟨g2, 0, ints .u8 a1⟩, ⟨g4, 0, ints .u8 a0⟩, ⟨g5, 0, ints .u8 a1⟩] []) ?_ ?_
    rotate_left
    · refine wregionM postilionlaw08_XdhBits.o4 (.tk 0 (.rest 1 5)) [4, 5] [(0, 0, 0), (0, 63, 63), (0, 63, 63), (0, 63, 63), (13, 63, 63), (31, 63, 63)] rfl rfl (by kernel_rfl) (by kernel_rfl) (Nat.le_of_ble_eq_true (by kernel_rfl)) (by kernel_rfl) (by kernel_rfl) (by kernel_rfl) ?_
      have hp := hp.drew
      refine k_loadA (n := 32) (xs := ints .u8 a0) 0 rfl (by kernel_rfl) (by kernel_rfl) s4_e218 (hp.get (j := 0) rfl) rfl rfl ((ints_length _ _).trans la0) (fun m v hm => by rw [Nat.zero_add]; exact hm) ?_
      refine k_rest [1, 2, 3, 4, 5] (fun L e w => ∃ g4 g5 : Nat, ∃ c_g4_0 c_g5_1 : List Int, (((((((e 2 = .int .u8 a2 ∧ e 3 = .int .u8 a3) ∧ e 4 = .pointer (some ⟨g1, 0, none⟩)) ∧ (e 5 = .pointer (some ⟨g2, 0, none⟩) ∧ e 15 = .agg (ints .u8 a0).toArray)) ∧ (L 1 = true → e 16 = .agg (ints .u8 a1).toArray)) ∧ (L 2 = true → e 9 = .pointer (some ⟨g4, 0, none⟩))) ∧ ((L 3 = true → e 10 = .pointer (some ⟨g5, 0, none⟩)) ∧ (L 2 = false → c_g4_0 = ([] : List Int)))) ∧ ((((L 4 = false → L 2 = true → c_g4_0 = (List.replicate 32 (0 : Int))) ∧ (L 4 = true → c_g4_0 = a0)) ∧ (L 3 = false → c_g5_1 = ([] : List Int))) ∧ ((L 5 = false → L 3 = true → c_g5_1 = (List.replicate 32 (0 : Int))) ∧ (L 5 = true → c_g5_1 = a1)))) ∧ Hp w0 [] w [⟨g1, 0, ints .u8 a0⟩, ⟨g2, 0, ints .u8 a1⟩, ⟨g4, 0, ints .u8 c_g4_0⟩, ⟨g5, 0, ints .u8 c_g5_1⟩] []) (by kernel_rfl) (by kernel_rfl) ?_ ?_ ?_
      have hp := hp.free1 0 0
      have hp := hp.free1 0 0
      · exact ⟨0, 0, ([] : List Int), ([] : List Int), ⟨⟨⟨⟨⟨⟨⟨s2_e218, s3_e218⟩, s4_e218⟩, ⟨s5_e218, rfl⟩⟩, (fun h => absurd h (by decide))⟩, (fun h => absurd h (by decide))⟩, ⟨(fun h => absurd h (by decide)), (fun _ => rfl)⟩⟩, ⟨⟨⟨(fun _ h => absurd h (by decide)), (fun h => absurd h (by decide))⟩, (fun _ => rfl)⟩, ⟨(fun _ h => absurd h (by decide)), (fun h => absurd h (by decide))⟩⟩⟩, hp⟩
      · rintro L e w hall ⟨g4, g5, c_g4_0, c_g5_1, hF, hp⟩
        have qc_g4_0 := hF.2.1.1.2 (hall 4 rfl)
        rw [qc_g4_0] at hp
        have qc_g5_1 := hF.2.2.2 (hall 5 rfl)
        rw [qc_g5_1] at hp
        exact onlyN_i ⟨g4, g5, ⟨⟨⟨hF.1.1.1.1.1.1.1, hF.1.1.1.1.1.1.2⟩, hF.1.1.1.1.1.2⟩, ⟨⟨hF.1.1.1.1.2.1, (hF.1.1.2 (hall 2 rfl))⟩, (hF.1.2.1 (hall 3 rfl))⟩⟩, hp⟩
      refine allU_cons ?_ ?_
      · rintro L e w hLi hb hcl ⟨g4, g5, c_g4_0, c_g5_1, hF, hp⟩
        refine tk_ef ?_
        refine k_loadA (n := 32) (xs := ints .u8 a1) 0 rfl (by kernel_rfl) (by kernel_rfl) hF.1.1.1.1.2.1 (hp.get (j := 1) rfl) rfl rfl ((ints_length _ _).trans la1) (fun m v hm => by rw [Nat.zero_add]; exact hm) ?_
        exact k_done ⟨g4, g5, c_g4_0, c_g5_1, ⟨⟨⟨⟨hF.1.1.1.1, (fun _ => rfl)⟩, hF.1.1.2⟩, hF.1.2⟩, hF.2⟩, hp⟩
      refine allU_cons ?_ ?_
      · rintro L e w hLi hb hcl ⟨g4, g5, c_g4_0, c_g5_1, hF, hp⟩
        have qc_g4_0 := hF.1.2.2 hLi
        rw [qc_g4_0] at hp
        refine k_allocAt 2 (ints .u8 (List.replicate 32 (0 : Int))) rfl (by kernel_rfl) hp ?_
        intro g4 w hbg4 hp
        exact k_done ⟨g4, g5, (List.replicate 32 (0 : Int)), c_g5_1, ⟨⟨⟨hF.1.1.1, (fun _ => rfl)⟩, ⟨hF.1.2.1, (fun h => nomatch (show true = false from h))⟩⟩, ⟨⟨⟨(fun _ _ => rfl), (fun h => absurd (hLi.symm.trans (hcl 4 2 (by kernel_rfl) h)) (by decide))⟩, hF.2.1.2⟩, hF.2.2⟩⟩, hp⟩
      refine allU_cons ?_ ?_
      · rintro L e w hLi hb hcl ⟨g4, g5, c_g4_0, c_g5_1, hF, hp⟩
        have qc_g5_1 := hF.2.1.2 hLi
        rw [qc_g5_1] at hp
        refine k_allocAt 3 (ints .u8 (List.replicate 32 (0 : Int))) rfl (by kernel_rfl) hp ?_
        intro g5 w hbg5 hp
        exact k_done ⟨g4, g5, c_g4_0, (List.replicate 32 (0 : Int)), ⟨⟨hF.1.1, ⟨(fun _ => rfl), hF.1.2.2⟩⟩, ⟨⟨hF.2.1.1, (fun h => nomatch (show true = false from h))⟩, ⟨(fun _ _ => rfl), (fun h => absurd (hLi.symm.trans (hcl 5 3 (by kernel_rfl) h)) (by decide))⟩⟩⟩, hp⟩
      refine allU_cons ?_ ?_
      · rintro L e w hLi hb hcl ⟨g4, g5, c_g4_0, c_g5_1, hF, hp⟩
        have hL2 := hb 2 (by kernel_rfl)
        have qc_g4_0 := hF.2.1.1.1 hLi hL2
        rw [qc_g4_0] at hp
        refine k_storeA (v := .agg (ints .u8 a0).toArray) 2 0 (r := ⟨g4, 0, ints .u8 (List.replicate 32 (0 : Int))⟩) (ints .u8 a0) (ints .u8 a0) rfl (n := 32) (by kernel_rfl) (hF.1.1.2 hL2) hF.1.1.1.1.2.2 rfl ((ints_length _ _).trans la0) (ints_one _ _) hp rfl rfl rfl (Nat.le_of_eq ((Nat.zero_add _).trans ((ints_length _ _).trans List.length_replicate).symm)) (setMany_all _ _ (((ints_length _ _).trans la0).trans ((ints_length _ _).trans List.length_replicate).symm)) (by decide) ?_; intro w hp
        exact k_done ⟨g4, g5, a0, c_g5_1, ⟨⟨hF.1.1, ⟨hF.1.2.1, (fun h => absurd (hL2.symm.trans h) (by decide))⟩⟩, ⟨⟨⟨(fun h _ => nomatch (show true = false from h)), (fun _ => rfl)⟩, hF.2.1.2⟩, hF.2.2⟩⟩, hp⟩
      refine allU_cons ?_ allU_nil
      · rintro L e w hLi hb hcl ⟨g4, g5, c_g4_0, c_g5_1, hF, hp⟩
        have hL1 := hb 1 (by kernel_rfl)
        have hL3 := hb 3 (by kernel_rfl)
        have qc_g5_1 := hF.2.2.1 hLi hL3
        rw [qc_g5_1] at hp
        refine k_storeA (v := .agg (ints .u8 a1).toArray) 3 0 (r := ⟨g5, 0, ints .u8 (List.replicate 32 (0 : Int))⟩) (ints .u8 a1) (ints .u8 a1) rfl (n := 32) (by kernel_rfl) (hF.1.2.1 hL3) (hF.1.1.1.2 hL1) rfl ((ints_length _ _).trans la1) (ints_one _ _) hp rfl rfl rfl (Nat.le_of_eq ((Nat.zero_add _).trans ((ints_length _ _).trans List.length_replicate).symm)) (setMany_all _ _ (((ints_length _ _).trans la1).trans ((ints_length _ _).trans List.length_replicate).symm)) (by decide) ?_; intro w hp
        exact k_done ⟨g4, g5, c_g4_0, a1, ⟨hF.1, ⟨⟨hF.2.1.1, (fun h => absurd (hL3.symm.trans h) (by decide))⟩, ⟨(fun h _ => nomatch (show true = false from h)), (fun _ => rfl)⟩⟩⟩, hp⟩
    rintro e220 w ⟨g4, g5, hF, hp⟩
    have s2_e220 := hF.1.1.1
    have s3_e220 := hF.1.1.2
    have s4_e220 := hF.1.2
    have s5_e220 := hF.2.1.1
    have s9_e220 := hF.2.1.2
    have s10_e220 := hF.2.2
    clear hF
    refine wseqP (p0 := [1, 1, 1, 0]) (p1 := [1, 1, 1, 1]) rfl rfl rfl ?_
    refine wregionT postilionlaw08_XdhBits.o5 (.tp 0 (.tk 1 (.tp 2 (.tp 3 (.tp 4 (.tp 5 (.ef 6 (.done)))))))) [6] rfl rfl (by kernel_rfl) (by kernel_rfl) ?_
    refine k_indexA (n := 32) (s := 1) (j := 0) rfl Try.underlying22 (by kernel_rfl) s9_e220 rfl (by decide) ?_
    refine k_load (j := 0) (v := .int .u8 (a0.getD 0 0)) rfl (by kernel_rfl) rfl (hp.get (j := 2) rfl) rfl rfl (ints_get (Nat.lt_of_lt_of_eq (m := 32) (by decide) (la0).symm)) ?_
    refine k_move (v := .int .u8 a2) rfl s2_e220 ?_
    refine k_bin (X := .int .u8 a2) (Y := .int .u8 7) rfl rfl rfl rfl ?_
    refine k_bin (X := .int .u8 (a0.getD 0 0)) (Y := .int .u8 (bits .and .u8 a2 7)) rfl rfl rfl rfl ?_
    refine k_indexA (n := 32) (s := 1) (j := 0) rfl Try.underlying22 (by kernel_rfl) s9_e220 rfl (by decide) ?_
    refine k_store (v := .int .u8 (bits .xor .u8 (a0.getD 0 0) (bits .and .u8 a2 7))) 2 0 (r := ⟨g4, 0, ints .u8 a0⟩) rfl (by kernel_rfl) rfl rfl rfl hp rfl rfl rfl (Nat.lt_of_lt_of_eq (Nat.lt_of_lt_of_eq (m := 32) (by decide) (la0).symm) (ints_length _ _).symm) (by decide) ?_; intro w hp; rw [ints_set] at hp
    refine k_end ?_; intro e221 qe221
    have s3_e221 : e221 3 = .int .u8 a3 := (congrFun qe221 3).trans s3_e220
    have s4_e221 : e221 4 = .pointer (some ⟨g1, 0, none⟩) := (congrFun qe221 4).trans s4_e220
    have s5_e221 : e221 5 = .pointer (some ⟨g2, 0, none⟩) := (congrFun qe221 5).trans s5_e220
    have s9_e221 : e221 9 = .pointer (some ⟨g4, 0, none⟩) := (congrFun qe221 9).trans s9_e220
    have s10_e221 : e221 10 = .pointer (some ⟨g5, 0, none⟩) := (congrFun qe221 10).trans s10_e220
    clear qe221
    obtain ⟨x6, qx6, h⟩ := lt_e h
    have lx6 : x6.length = 32 := (congrArg List.length qx6).trans (List.length_set.trans la0)
    have hp : Hp w0 [] w [⟨g1, 0, ints .u8 a0⟩, ⟨g2, 0, ints .u8 a1⟩, ⟨g4, 0, ints .u8 x6⟩, ⟨g5, 0, ints .u8 a1⟩] [] := by rw [qx6]; exact hp
    refine wseqP (p0 := [1, 1, 1, 1, 0]) (p1 := [1, 1, 1, 1, 1]) rfl rfl rfl ?_
    refine wregionT postilionlaw08_XdhBits.o6 (.tp 0 (.tk 1 (.tp 2 (.tp 3 (.tp 4 (.tp 5 (.ef 6 (.done)))))))) [6] rfl rfl (by kernel_rfl) (by kernel_rfl) ?_
    refine k_indexA (n := 32) (s := 1) (j := 31) rfl Try.underlying22 (by kernel_rfl) s9_e221 rfl (by decide) ?_
    refine k_load (j := 31) (v := .int .u8 (x6.getD 31 0)) rfl (by kernel_rfl) rfl (hp.get (j := 2) rfl) rfl rfl (ints_get (Nat.lt_of_lt_of_eq (m := 32) (by decide) (lx6).symm)) ?_
    refine k_move (v := .int .u8 a3) rfl s3_e221 ?_
    refine k_bin (X := .int .u8 a3) (Y := .int .u8 192) rfl rfl rfl rfl ?_
    refine k_bin (X := .int .u8 (x6.getD 31 0)) (Y := .int .u8 (bits .and .u8 a3 192)) rfl rfl rfl rfl ?_
    refine k_indexA (n := 32) (s := 1) (j := 31) rfl Try.underlying22 (by kernel_rfl) s9_e221 rfl (by decide) ?_
    refine k_store (v := .int .u8 (bits .xor .u8 (x6.getD 31 0) (bits .and .u8 a3 192))) 2 31 (r := ⟨g4, 0, ints .u8 x6⟩) rfl (by kernel_rfl) rfl rfl rfl hp rfl rfl rfl (Nat.lt_of_lt_of_eq (Nat.lt_of_lt_of_eq (m := 32) (by decide) (lx6).symm) (ints_length _ _).symm) (by decide) ?_; intro w hp; rw [ints_set] at hp
    refine k_end ?_; intro e222 qe222
    have s4_e222 : e222 4 = .pointer (some ⟨g1, 0, none⟩) := (congrFun qe222 4).trans s4_e221
    have s5_e222 : e222 5 = .pointer (some ⟨g2, 0, none⟩) := (congrFun qe222 5).trans s5_e221
    have s9_e222 : e222 9 = .pointer (some ⟨g4, 0, none⟩) := (congrFun qe222 9).trans s9_e221
    have s10_e222 : e222 10 = .pointer (some ⟨g5, 0, none⟩) := (congrFun qe222 10).trans s10_e221
    clear qe222
    obtain ⟨x7, qx7, h⟩ := lt_e h
    have lx7 : x7.length = 32 := (congrArg List.length qx7).trans (List.length_set.trans lx6)
    have hp : Hp w0 [] w [⟨g1, 0, ints .u8 a0⟩, ⟨g2, 0, ints .u8 a1⟩, ⟨g4, 0, ints .u8 x7⟩, ⟨g5, 0, ints .u8 a1⟩] [] := by rw [qx7]; exact hp
    refine wseqP (p0 := [1, 1, 1, 1, 1, 0]) (p1 := [1, 1, 1, 1, 1, 1]) rfl rfl rfl ?_
    refine wregionT postilionlaw08_XdhBits.o7 (.tp 0 (.tk 1 (.tp 2 (.tp 3 (.ef 4 (.done)))))) [4] rfl rfl (by kernel_rfl) (by kernel_rfl) ?_
    refine k_indexA (n := 32) (s := 1) (j := 31) rfl Try.underlying22 (by kernel_rfl) s10_e222 rfl (by decide) ?_
    refine k_load (j := 31) (v := .int .u8 (a1.getD 31 0)) rfl (by kernel_rfl) rfl (hp.get (j := 3) rfl) rfl rfl (ints_get (Nat.lt_of_lt_of_eq (m := 32) (by decide) (la1).symm)) ?_
    refine k_bin (X := .int .u8 (a1.getD 31 0)) (Y := .int .u8 128) rfl rfl rfl rfl ?_
    refine k_indexA (n := 32) (s := 1) (j := 31) rfl Try.underlying22 (by kernel_rfl) s10_e222 rfl (by decide) ?_
    refine k_store (v := .int .u8 (bits .xor .u8 (a1.getD 31 0) 128)) 3 31 (r := ⟨g5, 0, ints .u8 a1⟩) rfl (by kernel_rfl) rfl rfl rfl hp rfl rfl rfl (Nat.lt_of_lt_of_eq (Nat.lt_of_lt_of_eq (m := 32) (by decide) (la1).symm) (ints_length _ _).symm) (by decide) ?_; intro w hp; rw [ints_set] at hp
    refine k_end ?_; intro e223 qe223
    have s4_e223 : e223 4 = .pointer (some ⟨g1, 0, none⟩) := (congrFun qe223 4).trans s4_e222
    have s5_e223 : e223 5 = .pointer (some ⟨g2, 0, none⟩) := (congrFun qe223 5).trans s5_e222
    have s9_e223 : e223 9 = .pointer (some ⟨g4, 0, none⟩) := (congrFun qe223 9).trans s9_e222
    have s10_e223 : e223 10 = .pointer (some ⟨g5, 0, none⟩) := (congrFun qe223 10).trans s10_e222
    clear qe223
    refine wseqP (p0 := [1, 1, 1, 1, 1, 1, 0]) (p1 := [1, 1, 1, 1, 1, 1, 1]) rfl rfl rfl ?_
    refine wregionT postilionlaw08_XdhBits.o8 (.tk 0 (.tk 1 (.ef 2 (.ef 3 (.ef 4 (.done)))))) [4] rfl rfl (by kernel_rfl) (by kernel_rfl) ?_
    refine k_loadA (n := 32) (xs := ints .u8 a0) 0 rfl (by kernel_rfl) (by kernel_rfl) s4_e223 (hp.get (j := 0) rfl) rfl rfl ((ints_length _ _).trans la0) (fun m v hm => by rw [Nat.zero_add]; exact hm) ?_
    refine k_loadA (n := 32) (xs := ints .u8 a1) 0 rfl (by kernel_rfl) (by kernel_rfl) s5_e223 (hp.get (j := 1) rfl) rfl rfl ((ints_length _ _).trans la1) (fun m v hm => by rw [Nat.zero_add]; exact hm) ?_
    obtain ⟨r8, qr8, h⟩ := bd_e h
    refine k_call [.agg (ints .u8 a0).toArray, .agg (ints .u8 a1).toArray] rfl (by kernel_rfl) (args2 rfl rfl) (xdh_Mul_ok k a0 a1 la0 la1 _ (hp.toR (fun _ h => by cases h)) qr8) ?_
    rintro _ w' ⟨_, rfl, rfl, lr80, hpc⟩
    refine ⟨_, rfl, .inr (.of_below hpc.chg.to_below), ?_⟩; have hp := hp.below hpc.chg.to_below; clear hpc
    refine k_alloc (ints .u8 (List.replicate 32 (0 : Int))) rfl (by kernel_rfl) hp ?_
    intro g9 w hbg9 hp
    refine k_storeA (v := .agg (ints .u8 r8).toArray) 4 0 (r := ⟨g9, 0, ints .u8 (List.replicate 32 (0 : Int))⟩) (ints .u8 r8) (ints .u8 r8) rfl (n := 32) (by kernel_rfl) rfl rfl rfl ((ints_length _ _).trans lr80) (ints_one _ _) hp rfl rfl rfl (Nat.le_of_eq ((Nat.zero_add _).trans ((ints_length _ _).trans List.length_replicate).symm)) (setMany_all _ _ (((ints_length _ _).trans lr80).trans ((ints_length _ _).trans List.length_replicate).symm)) (by decide) ?_; intro w hp
    refine k_end ?_; intro e224 qe224
    have s4_e224 : e224 4 = .pointer (some ⟨g1, 0, none⟩) := (congrFun qe224 4).trans s4_e223
    have s5_e224 : e224 5 = .pointer (some ⟨g2, 0, none⟩) := (congrFun qe224 5).trans s5_e223
    have s9_e224 : e224 9 = .pointer (some ⟨g4, 0, none⟩) := (congrFun qe224 9).trans s9_e223
    have s10_e224 : e224 10 = .pointer (some ⟨g5, 0, none⟩) := (congrFun qe224 10).trans s10_e223
    have s11_e224 : e224 11 = .pointer (some ⟨g9, 0, none⟩) := congrFun qe224 11
    clear qe224
    refine wseqP (p0 := [1, 1, 1, 1, 1, 1, 1, 0]) (p1 := [1, 1, 1, 1, 1, 1, 1, 1]) rfl rfl rfl ?_
    refine wregionT postilionlaw08_XdhBits.o9 (.tp 0 (.tk 1 (.tp 2 (.tp 3 (.ef 4 (.done)))))) [4] rfl rfl (by kernel_rfl) (by kernel_rfl) ?_
    refine k_indexA (n := 32) (s := 1) (j := 31) rfl Try.underlying22 (by kernel_rfl) s5_e224 rfl (by decide) ?_
    refine k_load (j := 31) (v := .int .u8 (a1.getD 31 0)) rfl (by kernel_rfl) rfl (hp.get (j := 1) rfl) rfl rfl (ints_get (Nat.lt_of_lt_of_eq (m := 32) (by decide) (la1).symm)) ?_
    refine k_bin (X := .int .u8 (a1.getD 31 0)) (Y := .int .u8 127) rfl rfl rfl rfl ?_
    refine k_indexA (n := 32) (s := 1) (j := 31) rfl Try.underlying22 (by kernel_rfl) s5_e224 rfl (by decide) ?_
    refine k_store (v := .int .u8 (bits .and .u8 (a1.getD 31 0) 127)) 1 31 (r := ⟨g2, 0, ints .u8 a1⟩) rfl (by kernel_rfl) rfl rfl rfl hp rfl rfl rfl (Nat.lt_of_lt_of_eq (Nat.lt_of_lt_of_eq (m := 32) (by decide) (la1).symm) (ints_length _ _).symm) (by decide) ?_; intro w hp; rw [ints_set] at hp
    refine k_end ?_; intro e225 qe225
    have s4_e225 : e225 4 = .pointer (some ⟨g1, 0, none⟩) := (congrFun qe225 4).trans s4_e224
    have s5_e225 : e225 5 = .pointer (some ⟨g2, 0, none⟩) := (congrFun qe225 5).trans s5_e224
    have s9_e225 : e225 9 = .pointer (some ⟨g4, 0, none⟩) := (congrFun qe225 9).trans s9_e224
    have s10_e225 : e225 10 = .pointer (some ⟨g5, 0, none⟩) := (congrFun qe225 10).trans s10_e224
    have s11_e225 : e225 11 = .pointer (some ⟨g9, 0, none⟩) := (congrFun qe225 11).trans s11_e224
    clear qe225
    refine wseqP (p0 := [1, 1, 1, 1, 1, 1, 1, 1, 0]) (p1 := [1, 1, 1, 1, 1, 1, 1, 1, 1]) rfl rfl rfl ?_
    refine wregionT postilionlaw08_XdhBits.o10 (.tk 0 (.tp 1 (.ef 2 (.ef 3 (.ef 4 (.done)))))) [4] rfl rfl (by kernel_rfl) (by kernel_rfl) ?_
    refine k_loadA (n := 32) (xs := ints .u8 (a1.set 31 (bits .and .u8 (a1.getD 31 0) 127))) 0 rfl (by kernel_rfl) (by kernel_rfl) s5_e225 (hp.get (j := 1) rfl) rfl rfl ((ints_length _ _).trans (List.length_set.trans la1)) (fun m v hm => by rw [Nat.zero_add]; exact hm) ?_
    refine k_build (v := .agg (ints .u8 (List.replicate 32 (0 : Int))).toArray) rfl (fun _ => by kernel_rfl) ?_
    obtain ⟨r10, qr10, h⟩ := bd_e h
    refine k_call [.agg (ints .u8 (a1.set 31 (bits .and .u8 (a1.getD 31 0) 127))).toArray, .agg (ints .u8 (List.replicate 32 (0 : Int))).toArray] rfl (by kernel_rfl) (args2 rfl rfl) (postilionref04_Add_ok k (a1.set 31 (bits .and .u8 (a1.getD 31 0) 127)) (List.replicate 32 (0 : Int)) (List.length_set.trans la1) List.length_replicate _ (hp.toR (fun _ h => by cases h)) qr10) ?_
    rintro _ w' ⟨_, rfl, rfl, lr100, hpc⟩
    refine ⟨_, rfl, .inr (.of_below hpc.chg.to_below), ?_⟩; have hp := hp.below hpc.chg.to_below; clear hpc
    refine k_alloc (ints .u8 (List.replicate 32 (0 : Int))) rfl (by kernel_rfl) hp ?_
    intro g11 w hbg11 hp
    refine k_storeA (v := .agg (ints .u8 r10).toArray) 5 0 (r := ⟨g11, 0, ints .u8 (List.replicate 32 (0 : Int))⟩) (ints .u8 r10) (ints .u8 r10) rfl (n := 32) (by kernel_rfl) rfl rfl rfl ((ints_length _ _).trans lr100) (ints_one _ _) hp rfl rfl rfl (Nat.le_of_eq ((Nat.zero_add _).trans ((ints_length _ _).trans List.length_replicate).symm)) (setMany_all _ _ (((ints_length _ _).trans lr100).trans ((ints_length _ _).trans List.length_replicate).symm)) (by decide) ?_; intro w hp
    refine k_end ?_; intro e226 qe226
    have s4_e226 : e226 4 = .pointer (some ⟨g1, 0, none⟩) := (congrFun qe226 4).trans s4_e225
    have s9_e226 : e226 9 = .pointer (some ⟨g4, 0, none⟩) := (congrFun qe226 9).trans s9_e225
    have s10_e226 : e226 10 = .pointer (some ⟨g5, 0, none⟩) := (congrFun qe226 10).trans s10_e225
    have s11_e226 : e226 11 = .pointer (some ⟨g9, 0, none⟩) := (congrFun qe226 11).trans s11_e225
    have s12_e226 : e226 12 = .pointer (some ⟨g11, 0, none⟩) := congrFun qe226 12
    clear qe226
    refine wseqP (p0 := [1, 1, 1, 1, 1, 1, 1, 1, 1, 0]) (p1 := [1, 1, 1, 1, 1, 1, 1, 1, 1, 1]) rfl rfl rfl ?_
    obtain ⟨r15, qr15, h⟩ := bd_e h
    refine postilionlaw08_XdhBits.p1_ok k g1 g11 g2 g4 g5 g9 a0 a1 x7 r8 r10 la0 la1 lx7 lr80 lr100 ?hq0 e226 _ s4_e226 s9_e226 s10_e226 s11_e226 s12_e226 hp qr15
    case hq0 =>
      intro e230 w m16  s8_e230 hp qq
      rw [qq] at h; clear qq
      refine wret rfl ?_
      have hr : r = m16 := (Option.some.inj h).symm
      show RetP _ _ _ _ _
      rw [hr]
      exact ret_i [.bool m16] (res_tmp s8_e230 res_nil) ⟨rfl, hp.none⟩
/-! 12 postilion/xdh.Shared -/
noncomputable def xdh_Shared.o1 : Array Oper := opsC (at_ (fbody Try.f12) [0])
noncomputable def xdh_Shared.o2 : Array Oper := opsC (at_ (fbody Try.f12) [1, 0])
noncomputable def xdh_Shared.o3 : Array Oper := opsC (at_ (fbody Try.f12) [1, 1, 0, 0])
noncomputable def xdh_Shared.o4 : Array Oper := opsC (at_ (fbody Try.f12) [1, 1, 0, 1, 0, 0])
noncomputable def xdh_Shared.o5 : Array Oper := opsC (at_ (fbody Try.f12) [1, 1, 1, 0])
theorem xdh_Shared_ok (k : Nat) (a0 : List Int) (a1 : List Int) (la0 : a0.length = 32) (la1 : a1.length = 32) (w0 : World) (hp : Hp w0 [] w0 [] []) {r : List Int × Int} (h : xdh_Shared.f k a0 a1 = some r) :
    Calls Try.prog 12 [.agg (ints .u8 a0).toArray, .agg (ints .u8 a1).toArray].toArray w0 fun x w' => ∃ v, x = .returned v ∧ v = .tuple #[.agg (ints .u8 r.1).toArray, .int .i64 r.2] ∧ r.1.length = 32 ∧ Hp w0 [] w' [] [] := by
  refine calls_inP Try.func12 rfl (Nat.le_of_ble_eq_true (by kernel_rfl)) (by kernel_rfl) ?_
  intro e0 qe0
  have s0_e0 : e0 0 = .agg (ints .u8 a0).toArray := congrFun qe0 0
  have s1_e0 : e0 1 = .agg (ints .u8 a1).toArray := congrFun qe0 1
  clear qe0
  unfold xdh_Shared.f at h
  refine wseqP (p0 := [0]) (p1 := [1]) rfl rfl rfl ?_
  refine wregionT xdh_Shared.o1 (.ef 0 (.ef 1 (.ef 2 (.tp 3 (.done))))) [] rfl rfl (by kernel_rfl) (by kernel_rfl) ?_
  refine k_box (v := .agg (ints .u8 a0).toArray) (ints .u8 a0) rfl s0_e0 rfl hp ?_
  intro g1 w hbg1 hp
  refine k_box (v := .agg (ints .u8 a1).toArray) (ints .u8 a1) rfl s1_e0 rfl hp ?_
  intro g2 w hbg2 hp
  refine k_alloc (ints .u8 (List.replicate 32 (0 : Int))) rfl (by kernel_rfl) hp ?_
  intro g3 w hbg3 hp
  refine k_assign (v := .int .i64 0) rfl rfl ?_
  refine k_end ?_; intro e231 qe231
  have s2_e231 : e231 2 = .pointer (some ⟨g1, 0, none⟩) := congrFun qe231 2
  have s3_e231 : e231 3 = .pointer (some ⟨g2, 0, none⟩) := congrFun qe231 3
  have s4_e231 : e231 4 = .pointer (some ⟨g3, 0, none⟩) := congrFun qe231 4
  clear qe231
  refine wseqP (p0 := [1, 0]) (p1 := [1, 1]) rfl rfl rfl ?_
  refine wregionT xdh_Shared.o2 (.tk 0 (.tk 1 (.ef 2 (.ef 3 (.ef 4 (.done)))))) [4] rfl rfl (by kernel_rfl) (by kernel_rfl) ?_
  refine k_loadA (n := 32) (xs := ints .u8 a0) 0 rfl (by kernel_rfl) (by kernel_rfl) s2_e231 (hp.get (j := 0) rfl) rfl rfl ((ints_length _ _).trans la0) (fun m v hm => by rw [Nat.zero_add]; exact hm) ?_
  refine k_loadA (n := 32) (xs := ints .u8 a1) 0 rfl (by kernel_rfl) (by kernel_rfl) s3_e231 (hp.get (j := 1) rfl) rfl rfl ((ints_length _ _).trans la1) (fun m v hm => by rw [Nat.zero_add]; exact hm) ?_
  obtain ⟨r4, qr4, h⟩ := bd_e h
  refine k_call [.agg (ints .u8 a0).toArray, .agg (ints .u8 a1).toArray] rfl (by kernel_rfl) (args2 rfl rfl) (xdh_Mul_ok k a0 a1 la0 la1 _ (hp.toR (fun _ h => by cases h)) qr4) ?_
  rintro _ w' ⟨_, rfl, rfl, lr40, hpc⟩
  refine ⟨_, rfl, .inr (.of_below hpc.chg.to_below), ?_⟩; have hp := hp.below hpc.chg.to_below; clear hpc
  refine k_alloc (ints .u8 (List.replicate 32 (0 : Int))) rfl (by kernel_rfl) hp ?_
  intro g5 w hbg5 hp
  refine k_storeA (v := .agg (ints .u8 r4).toArray) 3 0 (r := ⟨g5, 0, ints .u8 (List.replicate 32 (0 : Int))⟩) (ints .u8 r4) (ints .u8 r4) rfl (n := 32) (by kernel_rfl) rfl rfl rfl ((ints_length _ _).trans lr40) (ints_one _ _) hp rfl rfl rfl (Nat.le_of_eq ((Nat.zero_add _).trans ((ints_length _ _).trans List.length_replicate).symm)) (setMany_all _ _ (((ints_length _ _).trans lr40).trans ((ints_length _ _).trans List.length_replicate).symm)) (by decide) ?_; intro w hp
  refine k_end ?_; intro e232 qe232
  have s4_e232 : e232 4 = .pointer (some ⟨g3, 0, none⟩) := (congrFun qe232 4).trans s4_e231
  have s6_e232 : e232 6 = .pointer (some ⟨g5, 0, none⟩) := congrFun qe232 6
  clear qe232
  refine wseqP (p0 := [1, 1, 0]) (p1 := [1, 1, 1]) rfl rfl rfl ?_
  refine wseqP (p0 := [1, 1, 0, 0]) (p1 := [1, 1, 0, 1]) rfl rfl rfl ?_
  refine wregionT xdh_Shared.o3 (.tk 0 (.tp 1 (.tp 2 (.done)))) [] rfl rfl (by kernel_rfl) (by kernel_rfl) ?_
  refine k_loadA (n := 32) (xs := ints .u8 r4) 0 rfl (by kernel_rfl) (by kernel_rfl) s6_e232 (hp.get (j := 3) rfl) rfl rfl ((ints_length _ _).trans lr40) (fun m v hm => by rw [Nat.zero_add]; exact hm) ?_
  refine k_build (v := .agg (ints .u8 (List.replicate 32 (0 : Int))).toArray) rfl (fun _ => by kernel_rfl) ?_
  refine k_eqI (k := .u8) (l := r4) (l' := (List.replicate 32 (0 : Int))) rfl Try.underlying22 Try.underlying5 (by kernel_rfl) (by kernel_rfl) rfl rfl lr40 List.length_replicate ?_
  refine k_end ?_; intro e233 qe233
  have s4_e233 : e233 4 = .pointer (some ⟨g3, 0, none⟩) := (congrFun qe233 4).trans s4_e232
  have s6_e233 : e233 6 = .pointer (some ⟨g5, 0, none⟩) := (congrFun qe233 6).trans s6_e232
  have s12_e233 : e233 12 = .bool (r4 == (List.replicate 32 (0 : Int))) := congrFun qe233 12
  clear qe233
  refine wcondP (p0 := [1, 1, 0, 1, 0]) (p1 := [1, 1, 0, 1, 1]) (t := (r4 == (List.replicate 32 (0 : Int)))) rfl rfl rfl (by decide) s12_e233 (fun hb => ?_) (fun hb => ?_)
  · replace h := br_t hb h
    refine wseqP (p0 := [1, 1, 0, 1, 0, 0]) (p1 := [1, 1, 0, 1, 0, 1]) rfl rfl rfl ?_
    refine wregionT xdh_Shared.o4 (.tk 0 (.ef 1 (.tp 2 (.done)))) [1] rfl rfl (by kernel_rfl) (by kernel_rfl) ?_
    refine k_loadA (n := 32) (xs := ints .u8 r4) 0 rfl (by kernel_rfl) (by kernel_rfl) s6_e233 (hp.get (j := 3) rfl) rfl rfl ((ints_length _ _).trans lr40) (fun m v hm => by rw [Nat.zero_add]; exact hm) ?_
    refine k_storeA (v := .agg (ints .u8 r4).toArray) 2 0 (r := ⟨g3, 0, ints .u8 (List.replicate 32 (0 : Int))⟩) (ints .u8 r4) (ints .u8 r4) rfl (n := 32) (by kernel_rfl) s4_e233 rfl rfl ((ints_length _ _).trans lr40) (ints_one _ _) hp rfl rfl rfl (Nat.le_of_eq ((Nat.zero_add _).trans ((ints_length _ _).trans List.length_replicate).symm)) (setMany_all _ _ (((ints_length _ _).trans lr40).trans ((ints_length _ _).trans List.length_replicate).symm)) (by decide) ?_; intro w hp
    refine k_assign (v := .int .i64 2) rfl rfl ?_
    refine k_end ?_; intro e234 qe234
    have s4_e234 : e234 4 = .pointer (some ⟨g3, 0, none⟩) := (congrFun qe234 4).trans s4_e233
    have s5_e234 : e234 5 = .int .i64 2 := congrFun qe234 5
    clear qe234
    refine wret rfl ?_
    have hr : r = (r4, 2) := (Option.some.inj h).symm
    show RetP _ _ _ _ _
    rw [hr]
    exact ret_i [.agg (ints .u8 r4).toArray, .int .i64 2] (res_cell s4_e234 (loadVar_agg (by kernel_rfl) (by kernel_rfl) ((ints_length _ _).trans lr40) (hp.get (j := 2) rfl) rfl rfl rfl) (res_tmp s5_e234 res_nil)) ⟨rfl, lr40, hp.none⟩
  · replace h := br_f hb h
    refine wskip rfl ?_
    refine wseqP (p0 := [1, 1, 1, 0]) (p1 := [1, 1, 1, 1]) rfl rfl rfl ?_
    refine wregionT xdh_Shared.o5 (.tk 0 (.ef 1 (.tp 2 (.done)))) [1] rfl rfl (by kernel_rfl) (by kernel_rfl) ?_
    refine k_loadA (n := 32) (xs := ints .u8 r4) 0 rfl (by kernel_rfl) (by kernel_rfl) s6_e233 (hp.get (j := 3) rfl) rfl rfl ((ints_length _ _).trans lr40) (fun m v hm => by rw [Nat.zero_add]; exact hm) ?_
    refine k_storeA (v := .agg (ints .u8 r4).toArray) 2 0 (r := ⟨g3, 0, ints .u8 (List.replicate 32 (0 : Int))⟩) (ints .u8 r4) (ints .u8 r4) rfl (n := 32) (by kernel_rfl) s4_e233 rfl rfl ((ints_length _ _).trans lr40) (ints_one _ _) hp rfl rfl rfl (Nat.le_of_eq ((Nat.zero_add _).trans ((ints_length _ _).trans List.length_replicate).symm)) (setMany_all _ _ (((ints_length _ _).trans lr40).trans ((ints_length _ _).trans List.length_replicate).symm)) (by decide) ?_; intro w hp
    refine k_assign (v := .int .i64 0) rfl rfl ?_
    refine k_end ?_; intro e235 qe235
    have s4_e235 : e235 4 = .pointer (some ⟨g3, 0, none⟩) := (congrFun qe235 4).trans s4_e233
    have s5_e235 : e235 5 = .int .i64 0 := congrFun qe235 5
    clear qe235
    refine wret rfl ?_
    have hr : r = (r4, 0) := (Option.some.inj h).symm
    show RetP _ _ _ _ _
    rw [hr]
    exact ret_i [.agg (ints .u8 r4).toArray, .int .i64 0] (res_cell s4_e235 (loadVar_agg (by kernel_rfl) (by kernel_rfl) ((ints_length _ _).trans lr40) (hp.get (j := 2) rfl) rfl rfl rfl) (res_tmp s5_e235 res_nil)) ⟨rfl, lr40, hp.none⟩
/-! 5 postilion/postilionlaw08.XdhAgree -/
noncomputable def postilionlaw08_XdhAgree.o1 : Array Oper := opsC (at_ (fbody Try.f5) [0])
noncomputable def postilionlaw08_XdhAgree.o2 : Array Oper := opsC (at_ (fbody Try.f5) [1, 0, 0])
noncomputable def postilionlaw08_XdhAgree.o3 : Array Oper := opsC (at_ (fbody Try.f5) [1, 0, 1, 0, 0])
noncomputable def postilionlaw08_XdhAgree.o4 : Array Oper := opsC (at_ (fbody Try.f5) [1, 1, 0])
noncomputable def postilionlaw08_XdhAgree.o5 : Array Oper := opsC (at_ (fbody Try.f5) [1, 1, 1, 0])
noncomputable def postilionlaw08_XdhAgree.o6 : Array Oper := opsC (at_ (fbody Try.f5) [1, 1, 1, 1, 0])
theorem postilionlaw08_XdhAgree.p1_ok {w0 : World} {Ws : List Wr} {Q : Exit → Env → World → Prop} (g1 g10 g2 g6 : Nat) (x7 : Int) (x11 : Int) (a0 : List Int) (a1 : List Int) (r5 : List Int × Int) (r9 : List Int × Int) (la0 : a0.length = 32) (la1 : a1.length = 32) (lr50 : r5.1.length = 32) (lr90 : r9.1.length = 32) {r : Bool} (hQ0 : ∀ (e' : Env) (w' : World) (z0 : Bool), e' 4 = .bool z0 → Hp w0 Ws w' [⟨g1, 0, ints .u8 a0⟩, ⟨g2, 0, ints .u8 a1⟩, ⟨g6, 0, ints .u8 r5.1⟩, ⟨g10, 0, ints .u8 r9.1⟩] [] → r = (z0) → Q .normal e' w') (e : Env) (w : World) (s5_e : e 5 = .pointer (some ⟨g6, 0, none⟩)) (s6_e : e 6 = .int .i64 x7) (s7_e : e 7 = .pointer (some ⟨g10, 0, none⟩)) (s8_e : e 8 = .int .i64 x11) (hp : Hp w0 Ws w [⟨g1, 0, ints .u8 a0⟩, ⟨g2, 0, ints .u8 a1⟩, ⟨g6, 0, ints .u8 r5.1⟩, ⟨g10, 0, ints .u8 r9.1⟩] []) (h : postilionlaw08_XdhAgree.p1 x7 x11 r5 r9 = some r) : Wp Try.prog Try.f5.ntmps (at_ (fbody Try.f5) [1, 1, 1, 1, 0]) Q e w := by
  unfold postilionlaw08_XdhAgree.p1 at h
  refine wregionT postilionlaw08_XdhAgree.o6 (.tp 0 (.tp 1 (.tp 2 (.tp 3 (.tp 4 (.tp 5 (.tp 6 (.tk 7 (.tk 8 (.tp 9 (.tp 10 (.tp 11 (.done))))))))))))) [] rfl rfl (by kernel_rfl) (by kernel_rfl) ?_
  refine k_move (v := .int .i64 x7) rfl s6_e ?_
  refine k_bin (X := .int .i64 x7) (Y := .int .i64 0) rfl rfl rfl rfl ?_
  rcases Bool.eq_false_or_eq_true (x7 == 0) with hb | hb
  · replace h := br_t hb h
    refine k_move (v := .bool true) rfl (Eq.trans (b := .bool (x7 == 0)) rfl (congrArg Value.bool hb)) ?_
    refine k_move (v := .int .i64 x11) rfl s8_e ?_
    refine k_bin (X := .int .i64 x11) (Y := .int .i64 0) rfl rfl rfl rfl ?_
    refine k_pick (b := true) (v := .bool (x11 == 0)) rfl rfl rfl rfl rfl ?_
    rcases Bool.eq_false_or_eq_true (x11 == 0) with hb | hb
    · replace h := br_t hb h
      refine k_move (v := .bool true) rfl (Eq.trans (b := .bool (x11 == 0)) rfl (congrArg Value.bool hb)) ?_
      refine k_loadA (n := 32) (xs := ints .u8 r5.1) 0 rfl (by kernel_rfl) (by kernel_rfl) s5_e (hp.get (j := 2) rfl) rfl rfl ((ints_length _ _).trans lr50) (fun m v hm => by rw [Nat.zero_add]; exact hm) ?_
      refine k_loadA (n := 32) (xs := ints .u8 r9.1) 0 rfl (by kernel_rfl) (by kernel_rfl) s7_e (hp.get (j := 3) rfl) rfl rfl ((ints_length _ _).trans lr90) (fun m v hm => by rw [Nat.zero_add]; exact hm) ?_
      refine k_eqI (k := .u8) (l := r5.1) (l' := r9.1) rfl Try.underlying22 Try.underlying5 (by kernel_rfl) (by kernel_rfl) rfl rfl lr50 lr90 ?_
      refine k_pick (b := true) (v := .bool (r5.1 == r9.1)) rfl rfl rfl rfl rfl ?_
      refine k_assign (v := .bool (r5.1 == r9.1)) rfl rfl ?_
      refine k_end ?_; intro e241 qe241
      have s4_e241 : e241 4 = .bool (r5.1 == r9.1) := congrFun qe241 4
      clear qe241
      exact hQ0 _ _ (r5.1 == r9.1)  s4_e241 (hp.drop (L' := [⟨g1, 0, ints .u8 a0⟩, ⟨g2, 0, ints .u8 a1⟩, ⟨g6, 0, ints .u8 r5.1⟩, ⟨g10, 0, ints .u8 r9.1⟩]) (List.Sublist.refl _)) (Option.some.inj h).symm
    · replace h := br_f hb h
      refine k_move (v := .bool false) rfl (Eq.trans (b := .bool (x11 == 0)) rfl (congrArg Value.bool hb)) ?_
      refine k_skip_tk rfl ?_
      refine k_skip_tk rfl ?_
      refine k_skip rfl ?_
      refine k_pick (b := false) (v := .bool false) rfl rfl rfl rfl rfl ?_
      refine k_assign (v := .bool false) rfl rfl ?_
      refine k_end ?_; intro e242 qe242
      have s4_e242 : e242 4 = .bool false := congrFun qe242 4
      clear qe242
      exact hQ0 _ _ false  s4_e242 (hp.drop (L' := [⟨g1, 0, ints .u8 a0⟩, ⟨g2, 0, ints .u8 a1⟩, ⟨g6, 0, ints .u8 r5.1⟩, ⟨g10, 0, ints .u8 r9.1⟩]) (List.Sublist.refl _)) (Option.some.inj h).symm
  · replace h := br_f hb h
    refine k_move (v := .bool false) rfl (Eq.trans (b := .bool (x7 == 0)) rfl (congrArg Value.bool hb)) ?_
    refine k_skip rfl ?_
    refine k_skip rfl ?_
    refine k_pick (b := false) (v := .bool false) rfl rfl rfl rfl rfl ?_
    refine k_move (v := .bool false) rfl rfl ?_
    refine k_skip_tk rfl ?_
    refine k_skip_tk rfl ?_
    refine k_skip rfl ?_
    refine k_pick (b := false) (v := .bool false) rfl rfl rfl rfl rfl ?_
    refine k_assign (v := .bool false) rfl rfl ?_
    refine k_end ?_; intro e243 qe243
    have s4_e243 : e243 4 = .bool false := congrFun qe243 4
    clear qe243
    exact hQ0 _ _ false  s4_e243 (hp.drop (L' := [⟨g1, 0, ints .u8 a0⟩, ⟨g2, 0, ints .u8 a1⟩, ⟨g6, 0, ints .u8 r5.1⟩, ⟨g10, 0, ints .u8 r9.1⟩]) (List.Sublist.refl _)) (Option.some.inj h).symm
set_option maxHeartbeats 4000000 in
theorem postilionlaw08_XdhAgree_ok (k : Nat) (a0 : List Int) (a1 : List Int) (la0 : a0.length = 32) (la1 : a1.length = 32) (w0 : World) (hp : Hp w0 [] w0 [] []) {r : Bool} (h : postilionlaw08_XdhAgree.f k a0 a1 = some r) :
    Calls Try.prog 5 [.agg (ints .u8 a0).toArray, .agg (ints .u8 a1).toArray].toArray w0 fun x w' => ∃ v, x = .returned v ∧ v = .bool r ∧ Hp w0 [] w' [] [] := by
  refine calls_inP Try.func5 rfl (Nat.le_of_ble_eq_true (by kernel_rfl)) (by kernel_rfl) ?_
  intro e0 qe0
  have s0_e0 : e0 0 = .agg (ints .u8 a0).toArray := congrFun qe0 0
  have s1_e0 : e0 1 = .agg (ints .u8 a1).toArray := congrFun qe0 1
  clear qe0
  unfold postilionlaw08_XdhAgree.f at h
  refine wseqP (p0 := [0]) (p1 := [1]) rfl rfl rfl ?_
  refine wregionT postilionlaw08_XdhAgree.o1 (.ef 0 (.ef 1 (.tp 2 (.done)))) [] rfl rfl (by kernel_rfl) (by kernel_rfl) ?_
  refine k_box (v := .agg (ints .u8 a0).toArray) (ints .u8 a0) rfl s0_e0 rfl hp ?_
  intro g1 w hbg1 hp
  refine k_box (v := .agg (ints .u8 a1).toArray) (ints .u8 a1) rfl s1_e0 rfl hp ?_
  intro g2 w hbg2 hp
  refine k_assign (v := .bool false) rfl rfl ?_
  refine k_end ?_; intro e236 qe236
  have s2_e236 : e236 2 = .pointer (some ⟨g1, 0, none⟩) := congrFun qe236 2
  have s3_e236 : e236 3 = .pointer (some ⟨g2, 0, none⟩) := congrFun qe236 3
  clear qe236
  refine wseqP (p0 := [1, 0]) (p1 := [1, 1]) rfl rfl rfl ?_
  refine wseqP (p0 := [1, 0, 0]) (p1 := [1, 0, 1]) rfl rfl rfl ?_
  refine wregionT postilionlaw08_XdhAgree.o2 (.ef 0 (.tp 1 (.done))) [] rfl rfl (by kernel_rfl) (by kernel_rfl) ?_
  obtain ⟨r3, qr3, h⟩ := bd_e h
  refine k_call [] rfl (by kernel_rfl) (args0 ) (postilionlaw08_awake_ok k   _ (hp.toR (fun _ h => by cases h)) qr3) ?_
  rintro _ w' ⟨_, rfl, rfl, hpc⟩
  refine ⟨_, rfl, .inr (.of_below hpc.chg.to_below), ?_⟩; have hp := hp.below hpc.chg.to_below; clear hpc
  refine k_not (b := r3) rfl rfl ?_
  refine k_end ?_; intro e237 qe237
  have s2_e237 : e237 2 = .pointer (some ⟨g1, 0, none⟩) := (congrFun qe237 2).trans s2_e236
  have s3_e237 : e237 3 = .pointer (some ⟨g2, 0, none⟩) := (congrFun qe237 3).trans s3_e236
  have s10_e237 : e237 10 = .bool (!r3) := congrFun qe237 10
  clear qe237
  refine wcondP (p0 := [1, 0, 1, 0]) (p1 := [1, 0, 1, 1]) (t := (!r3)) rfl rfl rfl (by decide) s10_e237 (fun hb => ?_) (fun hb => ?_)
  · replace h := br_t hb h
    refine wseqP (p0 := [1, 0, 1, 0, 0]) (p1 := [1, 0, 1, 0, 1]) rfl rfl rfl ?_
    refine wregionT postilionlaw08_XdhAgree.o3 (.tp 0 (.done)) [] rfl rfl (by kernel_rfl) (by kernel_rfl) ?_
    refine k_assign (v := .bool false) rfl rfl ?_
    refine k_end ?_; intro e238 qe238
    have s4_e238 : e238 4 = .bool false := congrFun qe238 4
    clear qe238
    refine wret rfl ?_
    have hr : r = false := (Option.some.inj h).symm
    show RetP _ _ _ _ _
    rw [hr]
    exact ret_i [.bool false] (res_tmp s4_e238 res_nil) ⟨rfl, hp.none⟩
  · replace h := br_f hb h
    refine wskip rfl ?_
    refine wseqP (p0 := [1, 1, 0]) (p1 := [1, 1, 1]) rfl rfl rfl ?_
    obtain ⟨r4, qr4, h⟩ := bd_e h
    obtain ⟨r5, qr5, h⟩ := bd_e h
    obtain ⟨x7, qx7, h⟩ := lt_e h
    refine wcut (fun e239 w2 => ∃ g6 : Nat, (((r5.1.length = 32 ∧ e239 2 = .pointer (some ⟨g1, 0, none⟩)) ∧ e239 3 = .pointer (some ⟨g2, 0, none⟩)) ∧ (e239 5 = .pointer (some ⟨g6, 0, none⟩) ∧ e239 6 = .int .i64 x7)) ∧ Hp w0 [] w2 [⟨g1, 0, ints .u8 a0⟩, ⟨g2, 0, ints .u8 a1⟩, ⟨g6, 0, ints .u8 r5.1⟩] []) ?_ ?_
    rotate_left
    · refine wregionM postilionlaw08_XdhAgree.o4 (.tk 0 (.tk 1 (.rest 3 8))) [8] [(0, 0, 0), (0, 0, 0), (2, 1023, 1023), (5, 1023, 1023), (8, 1023, 1023), (16, 1023, 1023), (16, 1023, 1023), (0, 1023, 1023), (191, 1023, 1023), (511, 1023, 1023)] rfl rfl (by kernel_rfl) (by kernel_rfl) (Nat.le_of_ble_eq_true (by kernel_rfl)) (by kernel_rfl) (by kernel_rfl) (by kernel_rfl) ?_
      have hp := hp.drew
      refine k_loadA (n := 32) (xs := ints .u8 a0) 0 rfl (by kernel_rfl) (by kernel_rfl) s2_e237 (hp.get (j := 0) rfl) rfl rfl ((ints_length _ _).trans la0) (fun m v hm => by rw [Nat.zero_add]; exact hm) ?_
      refine k_loadA (n := 32) (xs := ints .u8 a1) 0 rfl (by kernel_rfl) (by kernel_rfl) s3_e237 (hp.get (j := 1) rfl) rfl rfl ((ints_length _ _).trans la1) (fun m v hm => by rw [Nat.zero_add]; exact hm) ?_
      refine k_rest [2, 3, 4, 5, 6, 7, 8, 9] (fun L e w => ∃ g6 : Nat, ∃ c_g6_0 : List Int, (((((L 2 = true → r4.length = 32) ∧ (L 3 = true → r5.1.length = 32)) ∧ (((e 2 = .pointer (some ⟨g1, 0, none⟩) ∧ e 3 = .pointer (some ⟨g2, 0, none⟩)) ∧ (e 12 = .agg (ints .u8 a0).toArray ∧ e 13 = .agg (ints .u8 a1).toArray)) ∧ (L 2 = true → e 14 = .agg (ints .u8 r4).toArray))) ∧ (((L 3 = true → e 15 = .tuple #[.agg (ints .u8 r5.1).toArray, .int .i64 r5.2]) ∧ (L 4 = true → e 11 = .tuple #[.agg (ints .u8 r5.1).toArray, .int .i64 r5.2])) ∧ (L 5 = true → e 16 = .agg (ints .u8 r5.1).toArray))) ∧ ((((L 6 = true → e 17 = .int .i64 r5.2) ∧ (L 7 = true → e 5 = .pointer (some ⟨g6, 0, none⟩))) ∧ (L 9 = true → e 6 = .int .i64 r5.2)) ∧ (((L 7 = false → c_g6_0 = ([] : List Int)) ∧ (L 8 = false → L 7 = true → c_g6_0 = (List.replicate 32 (0 : Int)))) ∧ (L 8 = true → c_g6_0 = r5.1)))) ∧ Hp w0 [] w [⟨g1, 0, ints .u8 a0⟩, ⟨g2, 0, ints .u8 a1⟩, ⟨g6, 0, ints .u8 c_g6_0⟩] []) (by kernel_rfl) (by kernel_rfl) ?_ ?_ ?_
      have hp := hp.free1 0 0
      · exact ⟨0, ([] : List Int), ⟨⟨⟨⟨(fun h => absurd h (by decide)), (fun h => absurd h (by decide))⟩, ⟨⟨⟨s2_e237, s3_e237⟩, ⟨rfl, rfl⟩⟩, (fun h => absurd h (by decide))⟩⟩, ⟨⟨(fun h => absurd h (by decide)), (fun h => absurd h (by decide))⟩, (fun h => absurd h (by decide))⟩⟩, ⟨⟨⟨(fun h => absurd h (by decide)), (fun h => absurd h (by decide))⟩, (fun h => absurd h (by decide))⟩, ⟨⟨(fun _ => rfl), (fun _ h => absurd h (by decide))⟩, (fun h => absurd h (by decide))⟩⟩⟩, hp⟩
      · rintro L e w hall ⟨g6, c_g6_0, hF, hp⟩
        have qc_g6_0 := hF.2.2.2 (hall 8 rfl)
        rw [qc_g6_0] at hp
        exact onlyN_i ⟨g6, ⟨⟨⟨(hF.1.1.1.2 (hall 3 rfl)), hF.1.1.2.1.1.1⟩, hF.1.1.2.1.1.2⟩, ⟨(hF.2.1.1.2 (hall 7 rfl)), (hF.2.1.2 (hall 9 rfl)).trans (congrArg (Value.int .i64) qx7.symm)⟩⟩, hp⟩
      refine allU_cons ?_ ?_
      · rintro L e w hLi hb hcl ⟨g6, c_g6_0, hF, hp⟩
        refine k_call [.agg (ints .u8 a1).toArray] rfl (by kernel_rfl) (args1 hF.1.1.2.1.2.2) (xdh_Public_ok k a1 la1 _ (hp.toR (fun _ h => by cases h)) qr4) ?_
        rintro _ w' ⟨_, rfl, rfl, lr40, hpc⟩
        refine ⟨_, rfl, .inr (.of_below hpc.chg.to_below), ?_⟩; have hp := hp.below hpc.chg.to_below; clear hpc
        exact k_done ⟨g6, c_g6_0, ⟨⟨⟨⟨(fun _ => lr40), hF.1.1.1.2⟩, ⟨hF.1.1.2.1, (fun _ => rfl)⟩⟩, hF.1.2⟩, hF.2⟩, hp⟩
      refine allU_cons ?_ ?_
      · rintro L e w hLi hb hcl ⟨g6, c_g6_0, hF, hp⟩
        have hL2 := hb 2 (by kernel_rfl)
        have lr40 := hF.1.1.1.1 hL2
        refine k_call [.agg (ints .u8 a0).toArray, .agg (ints .u8 r4).toArray] rfl (by kernel_rfl) (args2 hF.1.1.2.1.2.1 (hF.1.1.2.2 hL2)) (xdh_Shared_ok k a0 r4 la0 lr40 _ (hp.toR (fun _ h => by cases h)) qr5) ?_
        rintro _ w' ⟨_, rfl, rfl, lr50, hpc⟩
        refine ⟨_, rfl, .inr (.of_below hpc.chg.to_below), ?_⟩; have hp := hp.below hpc.chg.to_below; clear hpc
        exact k_done ⟨g6, c_g6_0, ⟨⟨⟨⟨hF.1.1.1.1, (fun _ => lr50)⟩, hF.1.1.2⟩, ⟨⟨(fun _ => rfl), hF.1.2.1.2⟩, hF.1.2.2⟩⟩, hF.2⟩, hp⟩
      refine allU_cons ?_ ?_
      · rintro L e w hLi hb hcl ⟨g6, c_g6_0, hF, hp⟩
        have hL3 := hb 3 (by kernel_rfl)
        refine tp_ef ?_
        refine k_move (v := .tuple #[.agg (ints .u8 r5.1).toArray, .int .i64 r5.2]) rfl (hF.1.2.1.1 hL3) ?_
        exact k_done ⟨g6, c_g6_0, ⟨⟨hF.1.1, ⟨⟨hF.1.2.1.1, (fun _ => rfl)⟩, hF.1.2.2⟩⟩, hF.2⟩, hp⟩
      refine allU_cons ?_ ?_
      · rintro L e w hLi hb hcl ⟨g6, c_g6_0, hF, hp⟩
        have hL4 := hb 4 (by kernel_rfl)
        refine tp_ef ?_
        refine k_extract (v := .agg (ints .u8 r5.1).toArray) rfl (hF.1.2.1.2 hL4) rfl ?_
        exact k_done ⟨g6, c_g6_0, ⟨⟨hF.1.1, ⟨hF.1.2.1, (fun _ => rfl)⟩⟩, hF.2⟩, hp⟩
      refine allU_cons ?_ ?_
      · rintro L e w hLi hb hcl ⟨g6, c_g6_0, hF, hp⟩
        have hL4 := hb 4 (by kernel_rfl)
        refine tp_ef ?_
        refine k_extract (v := .int .i64 r5.2) rfl (hF.1.2.1.2 hL4) rfl ?_
        exact k_done ⟨g6, c_g6_0, ⟨hF.1, ⟨⟨⟨(fun _ => rfl), hF.2.1.1.2⟩, hF.2.1.2⟩, hF.2.2⟩⟩, hp⟩
      refine allU_cons ?_ ?_
      · rintro L e w hLi hb hcl ⟨g6, c_g6_0, hF, hp⟩
        have qc_g6_0 := hF.2.2.1.1 hLi
        rw [qc_g6_0] at hp
        refine k_allocAt 2 (ints .u8 (List.replicate 32 (0 : Int))) rfl (by kernel_rfl) hp ?_
        intro g6 w hbg6 hp
        exact k_done ⟨g6, (List.replicate 32 (0 : Int)), ⟨hF.1, ⟨⟨⟨hF.2.1.1.1, (fun _ => rfl)⟩, hF.2.1.2⟩, ⟨⟨(fun h => nomatch (show true = false from h)), (fun _ _ => rfl)⟩, (fun h => absurd (hLi.symm.trans (hcl 8 7 (by kernel_rfl) h)) (by decide))⟩⟩⟩, hp⟩
      refine allU_cons ?_ ?_
      · rintro L e w hLi hb hcl ⟨g6, c_g6_0, hF, hp⟩
        have hL3 := hb 3 (by kernel_rfl)
        have hL5 := hb 5 (by kernel_rfl)
        have hL7 := hb 7 (by kernel_rfl)
        have lr50 := hF.1.1.1.2 hL3
        have qc_g6_0 := hF.2.2.1.2 hLi hL7
        rw [qc_g6_0] at hp
        refine k_storeA (v := .agg (ints .u8 r5.1).toArray) 2 0 (r := ⟨g6, 0, ints .u8 (List.replicate 32 (0 : Int))⟩) (ints .u8 r5.1) (ints .u8 r5.1) rfl (n := 32) (by kernel_rfl) (hF.2.1.1.2 hL7) (hF.1.2.2 hL5) rfl ((ints_length _ _).trans lr50) (ints_one _ _) hp rfl rfl rfl (Nat.le_of_eq ((Nat.zero_add _).trans ((ints_length _ _).trans List.length_replicate).symm)) (setMany_all _ _ (((ints_length _ _).trans lr50).trans ((ints_length _ _).trans List.length_replicate).symm)) (by decide) ?_; intro w hp
        exact k_done ⟨g6, r5.1, ⟨hF.1, ⟨hF.2.1, ⟨⟨(fun h => absurd (hL7.symm.trans h) (by decide)), (fun h _ => nomatch (show true = false from h))⟩, (fun _ => rfl)⟩⟩⟩, hp⟩
      refine allU_cons ?_ allU_nil
      · rintro L e w hLi hb hcl ⟨g6, c_g6_0, hF, hp⟩
        have hL6 := hb 6 (by kernel_rfl)
        refine tp_ef ?_
        refine k_assign (v := .int .i64 r5.2) rfl (hF.2.1.1.1 hL6) ?_
        exact k_done ⟨g6, c_g6_0, ⟨hF.1, ⟨⟨hF.2.1.1, (fun _ => rfl)⟩, hF.2.2⟩⟩, hp⟩
    rintro e239 w ⟨g6, hF, hp⟩
    have lr50 := hF.1.1.1
    have s2_e239 := hF.1.1.2
    have s3_e239 := hF.1.2
    have s5_e239 := hF.2.1
    have s6_e239 := hF.2.2
    clear hF
    refine wseqP (p0 := [1, 1, 1, 0]) (p1 := [1, 1, 1, 1]) rfl rfl rfl ?_
    obtain ⟨r8, qr8, h⟩ := bd_e h
    obtain ⟨r9, qr9, h⟩ := bd_e h
    obtain ⟨x11, qx11, h⟩ := lt_e h
    refine wcut (fun e240 w2 => ∃ g10 : Nat, (((r9.1.length = 32 ∧ e240 5 = .pointer (some ⟨g6, 0, none⟩)) ∧ e240 6 = .int .i64 x7) ∧ (e240 7 = .pointer (some ⟨g10, 0, none⟩) ∧ e240 8 = .int .i64 x11)) ∧ Hp w0 [] w2 [⟨g1, 0, ints .u8 a0⟩, ⟨g2, 0, ints .u8 a1⟩, ⟨g6, 0, ints .u8 r5.1⟩, ⟨g10, 0, ints .u8 r9.1⟩] []) ?_ ?_
    rotate_left
    · refine wregionM postilionlaw08_XdhAgree.o5 (.tk 0 (.tk 1 (.rest 3 8))) [8] [(0, 0, 0), (0, 0, 0), (2, 1023, 1023), (5, 1023, 1023), (8, 1023, 1023), (16, 1023, 1023), (16, 1023, 1023), (0, 1023, 1023), (191, 1023, 1023), (511, 1023, 1023)] rfl rfl (by kernel_rfl) (by kernel_rfl) (Nat.le_of_ble_eq_true (by kernel_rfl)) (by kernel_rfl) (by kernel_rfl) (by kernel_rfl) ?_
      have hp := hp.drew
      refine k_loadA (n := 32) (xs := ints .u8 a1) 0 rfl (by kernel_rfl) (by kernel_rfl) s3_e239 (hp.get (j := 1) rfl) rfl rfl ((ints_length _ _).trans la1) (fun m v hm => by rw [Nat.zero_add]; exact hm) ?_
      refine k_loadA (n := 32) (xs := ints .u8 a0) 0 rfl (by kernel_rfl) (by kernel_rfl) s2_e239 (hp.get (j := 0) rfl) rfl rfl ((ints_length _ _).trans la0) (fun m v hm => by rw [Nat.zero_add]; exact hm) ?_
      refine k_rest [2, 3, 4, 5, 6, 7, 8, 9] (fun L e w => ∃ g10 : Nat, ∃ c_g10_0 : List Int, (((((L 2 = true → r8.length = 32) ∧ (L 3 = true → r9.1.length = 32)) ∧ (((e 5 = .pointer (some ⟨g6, 0, none⟩) ∧ e 6 = .int .i64 x7) ∧ (e 19 = .agg (ints .u8 a1).toArray ∧ e 20 = .agg (ints .u8 a0).toArray)) ∧ (L 2 = true → e 21 = .agg (ints .u8 r8).toArray))) ∧ (((L 3 = true → e 22 = .tuple #[.agg (ints .u8 r9.1).toArray, .int .i64 r9.2]) ∧ (L 4 = true → e 18 = .tuple #[.agg (ints .u8 r9.1).toArray, .int .i64 r9.2])) ∧ (L 5 = true → e 23 = .agg (ints .u8 r9.1).toArray))) ∧ ((((L 6 = true → e 24 = .int .i64 r9.2) ∧ (L 7 = true → e 7 = .pointer (some ⟨g10, 0, none⟩))) ∧ (L 9 = true → e 8 = .int .i64 r9.2)) ∧ (((L 7 = false → c_g10_0 = ([] : List Int)) ∧ (L 8 = false → L 7 = true → c_g10_0 = (List.replicate 32 (0 : Int)))) ∧ (L 8 = true → c_g10_0 = r9.1)))) ∧ Hp w0 [] w [⟨g1, 0, ints .u8 a0⟩, ⟨g2, 0, ints .u8 a1⟩, ⟨g6, 0, ints .u8 r5.1⟩, ⟨g10, 0, ints .u8 c_g10_0⟩] []) (by kernel_rfl) (by kernel_rfl) ?_ ?_ ?_
      have hp := hp.free1 0 0
      · exact ⟨0, ([] : List Int), ⟨⟨⟨⟨(fun h => absurd h (by decide)), (fun h => absurd h (by decide))⟩, ⟨⟨⟨s5_e239, s6_e239⟩, ⟨rfl, rfl⟩⟩, (fun h => absurd h (by decide))⟩⟩, ⟨⟨(fun h => absurd h (by decide)), (fun h => absurd h (by decide))⟩, (fun h => absurd h (by decide))⟩⟩, ⟨⟨⟨(fun h => absurd h (by decide)), (fun h => absurd h (by decide))⟩, (fun h => absurd h (by decide))⟩, ⟨⟨(fun _ => rfl), (fun _ h => absurd h (by decide))⟩, (fun h => absurd h (by decide))⟩⟩⟩, hp⟩
      · rintro L e w hall ⟨g10, c_g10_0, hF, hp⟩
        have qc_g10_0 := hF.2.2.2 (hall 8 rfl)
        rw [qc_g10_0] at hp
        exact onlyN_i ⟨g10, ⟨⟨⟨(hF.1.1.1.2 (hall 3 rfl)), hF.1.1.2.1.1.1⟩, hF.1.1.2.1.1.2⟩, ⟨(hF.2.1.1.2 (hall 7 rfl)), (hF.2.1.2 (hall 9 rfl)).trans (congrArg (Value.int .i64) qx11.symm)⟩⟩, hp⟩
      refine allU_cons ?_ ?_
      · rintro L e w hLi hb hcl ⟨g10, c_g10_0, hF, hp⟩
        refine k_call [.agg (ints .u8 a0).toArray] rfl (by kernel_rfl) (args1 hF.1.1.2.1.2.2) (xdh_Public_ok k a0 la0 _ (hp.toR (fun _ h => by cases h)) qr8) ?_
        rintro _ w' ⟨_, rfl, rfl, lr80, hpc⟩
        refine ⟨_, rfl, .inr (.of_below hpc.chg.to_below), ?_⟩; have hp := hp.below hpc.chg.to_below; clear hpc
        exact k_done ⟨g10, c_g10_0, ⟨⟨⟨⟨(fun _ => lr80), hF.1.1.1.2⟩, ⟨hF.1.1.2.1, (fun _ => rfl)⟩⟩, hF.1.2⟩, hF.2⟩, hp⟩
      refine allU_cons ?_ ?_
      · rintro L e w hLi hb hcl ⟨g10, c_g10_0, hF, hp⟩
        have hL2 := hb 2 (by kernel_rfl)
        have lr80 := hF.1.1.1.1 hL2
        refine k_call [.agg (ints .u8 a1).toArray, .agg (ints .u8 r8).toArray] rfl (by kernel_rfl) (args2 hF.1.1.2.1.2.1 (hF.1.1.2.2 hL2)) (xdh_Shared_ok k a1 r8 la1 lr80 _ (hp.toR (fun _ h => by cases h)) qr9) ?_
        rintro _ w' ⟨_, rfl, rfl, lr90, hpc⟩
        refine ⟨_, rfl, .inr (.of_below hpc.chg.to_below), ?_⟩; have hp := hp.below hpc.chg.to_below; clear hpc
        exact k_done ⟨g10, c_g10_0, ⟨⟨⟨⟨hF.1.1.1.1, (fun _ => lr90)⟩, hF.1.1.2⟩, ⟨⟨(fun _ => rfl), hF.1.2.1.2⟩, hF.1.2.2⟩⟩, hF.2⟩, hp⟩
      refine allU_cons ?_ ?_
      · rintro L e w hLi hb hcl ⟨g10, c_g10_0, hF, hp⟩
        have hL3 := hb 3 (by kernel_rfl)
        refine tp_ef ?_
        refine k_move (v := .tuple #[.agg (ints .u8 r9.1).toArray, .int .i64 r9.2]) rfl (hF.1.2.1.1 hL3) ?_
        exact k_done ⟨g10, c_g10_0, ⟨⟨hF.1.1, ⟨⟨hF.1.2.1.1, (fun _ => rfl)⟩, hF.1.2.2⟩⟩, hF.2⟩, hp⟩
      refine allU_cons ?_ ?_
      · rintro L e w hLi hb hcl ⟨g10, c_g10_0, hF, hp⟩
        have hL4 := hb 4 (by kernel_rfl)
        refine tp_ef ?_
        refine k_extract (v := .agg (ints .u8 r9.1).toArray) rfl (hF.1.2.1.2 hL4) rfl ?_
        exact k_done ⟨g10, c_g10_0, ⟨⟨hF.1.1, ⟨hF.1.2.1, (fun _ => rfl)⟩⟩, hF.2⟩, hp⟩
      refine allU_cons ?_ ?_
      · rintro L e w hLi hb hcl ⟨g10, c_g10_0, hF, hp⟩
        have hL4 := hb 4 (by kernel_rfl)
        refine tp_ef ?_
        refine k_extract (v := .int .i64 r9.2) rfl (hF.1.2.1.2 hL4) rfl ?_
        exact k_done ⟨g10, c_g10_0, ⟨hF.1, ⟨⟨⟨(fun _ => rfl), hF.2.1.1.2⟩, hF.2.1.2⟩, hF.2.2⟩⟩, hp⟩
      refine allU_cons ?_ ?_
      · rintro L e w hLi hb hcl ⟨g10, c_g10_0, hF, hp⟩
        have qc_g10_0 := hF.2.2.1.1 hLi
        rw [qc_g10_0] at hp
        refine k_allocAt 3 (ints .u8 (List.replicate 32 (0 : Int))) rfl (by kernel_rfl) hp ?_
        intro g10 w hbg10 hp
        exact k_done ⟨g10, (List.replicate 32 (0 : Int)), ⟨hF.1, ⟨⟨⟨hF.2.1.1.1, (fun _ => rfl)⟩, hF.2.1.2⟩, ⟨⟨(fun h => nomatch (show true = false from h)), (fun _ _ => rfl)⟩, (fun h => absurd (hLi.symm.trans (hcl 8 7 (by kernel_rfl) h)) (by decide))⟩⟩⟩, hp⟩
      refine allU_cons ?_ ?_
      · rintro L e w hLi hb hcl ⟨g10, c_g10_0, hF, hp⟩
        have hL3 := hb 3 (by kernel_rfl)
        have hL5 := hb 5 (by kernel_rfl)
        have hL7 := hb 7 (by kernel_rfl)
        have lr90 := hF.1.1.1.2 hL3
        have qc_g10_0 := hF.2.2.1.2 hLi hL7
        rw [qc_g10_0] at hp
        refine k_storeA (v := .agg (ints .u8 r9.1).toArray) 3 0 (r := ⟨g10, 0, ints .u8 (List.replicate 32 (0 : Int))⟩) (ints .u8 r9.1) (ints .u8 r9.1) rfl (n := 32) (by kernel_rfl) (hF.2.1.1.2 hL7) (hF.1.2.2 hL5) rfl ((ints_length _ _).trans lr90) (ints_one _ _) hp rfl rfl rfl (Nat.le_of_eq ((Nat.zero_add _).trans ((ints_length _ _).trans List.length_replicate).symm)) (setMany_all _ _ (((ints_length _ _).trans lr90).trans ((ints_length _ _).trans List.length_replicate).symm)) (by decide) ?_; intro w hp
        exact k_done ⟨g10, r9.1, ⟨hF.1, ⟨hF.2.1, ⟨⟨(fun h => absurd (hL7.symm.trans h) (by decide)), (fun h _ => nomatch (show true = false from h))⟩, (fun _ => rfl)⟩⟩⟩, hp⟩
      refine allU_cons ?_ allU_nil
      · rintro L e w hLi hb hcl ⟨g10, c_g10_0, hF, hp⟩
        have hL6 := hb 6 (by kernel_rfl)
        refine tp_ef ?_
        refine k_assign (v := .int .i64 r9.2) rfl (hF.2.1.1.1 hL6) ?_
        exact k_done ⟨g10, c_g10_0, ⟨hF.1, ⟨⟨hF.2.1.1, (fun _ => rfl)⟩, hF.2.2⟩⟩, hp⟩
    rintro e240 w ⟨g10, hF, hp⟩
    have lr90 := hF.1.1.1
    have s5_e240 := hF.1.1.2
    have s6_e240 := hF.1.2
    have s7_e240 := hF.2.1
    have s8_e240 := hF.2.2
    clear hF
    refine wseqP (p0 := [1, 1, 1, 1, 0]) (p1 := [1, 1, 1, 1, 1]) rfl rfl rfl ?_
    obtain ⟨r12, qr12, h⟩ := bd_e h
    refine postilionlaw08_XdhAgree.p1_ok g1 g10 g2 g6 x7 x11 a0 a1 r5 r9 la0 la1 lr50 lr90 ?hq0 e240 _ s5_e240 s6_e240 s7_e240 s8_e240 hp qr12
    case hq0 =>
      intro e244 w m13  s4_e244 hp qq
      rw [qq] at h; clear qq
      refine wret rfl ?_
      have hr : r = m13 := (Option.some.inj h).symm
      show RetP _ _ _ _ _
      rw [hr]
      exact ret_i [.bool m13] (res_tmp s4_e244 res_nil) ⟨rfl, hp.none⟩
/-! 32 postilion/postilionref04.Small -/
noncomputable def postilionref04_Small.o1 : Array Oper := opsC (at_ (fbody Try.f32) [0])
noncomputable def postilionref04_Small.o2 : Array Oper := opsC (at_ (fbody Try.f32) [1, 0])
theorem postilionref04_Small_ok (a0 : Int) (w0 : World) (hp : Hp w0 [] w0 [] []) {r : List Int} (h : postilionref04_Small.f a0 = some r) :
    Calls Try.prog 32 [.int .u64 a0].toArray w0 fun x w' => ∃ v, x = .returned v ∧ v = .agg (ints .u64 r).toArray ∧ r.length = 4 ∧ Hp w0 [] w' [] [] := by
  refine calls_inP Try.func32 rfl (Nat.le_of_ble_eq_true (by kernel_rfl)) (by kernel_rfl) ?_
  intro e0 qe0
  have s0_e0 : e0 0 = .int .u64 a0 := congrFun qe0 0
  clear qe0
  unfold postilionref04_Small.f at h
  refine wseqP (p0 := [0]) (p1 := [1]) rfl rfl rfl ?_
  refine wregionT postilionref04_Small.o1 (.ef 0 (.done)) [] rfl rfl (by kernel_rfl) (by kernel_rfl) ?_
  refine k_alloc (ints .u64 (List.replicate 4 (0 : Int))) rfl (by kernel_rfl) hp ?_
  intro g1 w hbg1 hp
  refine k_end ?_; intro e245 qe245
  have s0_e245 : e245 0 = .int .u64 a0 := (congrFun qe245 0).trans s0_e0
  have s2_e245 : e245 2 = .pointer (some ⟨g1, 0, none⟩) := congrFun qe245 2
  clear qe245
  refine wseqP (p0 := [1, 0]) (p1 := [1, 1]) rfl rfl rfl ?_
  refine wregionT postilionref04_Small.o2 (.tp 0 (.tp 1 (.ef 2 (.done)))) [2] rfl rfl (by kernel_rfl) (by kernel_rfl) ?_
  refine k_move (v := .int .u64 a0) rfl s0_e245 ?_
  refine k_build (v := .agg (ints .u64 [a0, 0, 0, 0]).toArray) rfl (fun _ => by kernel_rfl) ?_
  refine k_storeA (v := .agg (ints .u64 [a0, 0, 0, 0]).toArray) 0 0 (r := ⟨g1, 0, ints .u64 (List.replicate 4 (0 : Int))⟩) (ints .u64 [a0, 0, 0, 0]) (ints .u64 [a0, 0, 0, 0]) rfl (n := 4) (by kernel_rfl) s2_e245 rfl rfl ((ints_length _ _).trans (rfl : List.length ([a0, 0, 0, 0] : List Int) = 4)) (ints_one _ _) hp rfl rfl rfl (Nat.le_of_eq ((Nat.zero_add _).trans ((ints_length _ _).trans List.length_replicate).symm)) (setMany_all _ _ (((ints_length _ _).trans (rfl : List.length ([a0, 0, 0, 0] : List Int) = 4)).trans ((ints_length _ _).trans List.length_replicate).symm)) (by decide) ?_; intro w hp
  refine k_end ?_; intro e246 qe246
  have s2_e246 : e246 2 = .pointer (some ⟨g1, 0, none⟩) := (congrFun qe246 2).trans s2_e245
  clear qe246
  refine wret rfl ?_
  have hr : r = [a0, 0, 0, 0] := (Option.some.inj h).symm
  show RetP _ _ _ _ _
  rw [hr]
  exact ret_i [.agg (ints .u64 [a0, 0, 0, 0]).toArray] (res_cell s2_e246 (loadVar_agg (by kernel_rfl) (by kernel_rfl) ((ints_length _ _).trans (rfl : List.length ([a0, 0, 0, 0] : List Int) = 4)) (hp.get (j := 0) rfl) rfl rfl rfl) res_nil) ⟨rfl, (rfl : List.length ([a0, 0, 0, 0] : List Int) = 4), hp.none⟩
/-! 33 postilion/postilionref04.Minus -/
noncomputable def postilionref04_Minus.o1 : Array Oper := opsC (at_ (fbody Try.f33) [0])
noncomputable def postilionref04_Minus.o2 : Array Oper := opsC (at_ (fbody Try.f33) [1, 0])
theorem postilionref04_Minus_ok (k : Nat) (a0 : List Int) (a1 : List Int) (la0 : a0.length = 4) (la1 : a1.length = 4) (w0 : World) (hp : Hp w0 [] w0 [] []) {r : List Int} (h : postilionref04_Minus.f k a0 a1 = some r) :
    Calls Try.prog 33 [.agg (ints .u64 a0).toArray, .agg (ints .u64 a1).toArray].toArray w0 fun x w' => ∃ v, x = .returned v ∧ v = .agg (ints .u64 r).toArray ∧ r.length = 4 ∧ Hp w0 [] w' [] [] := by
  refine calls_inP Try.func33 rfl (Nat.le_of_ble_eq_true (by kernel_rfl)) (by kernel_rfl) ?_
  intro e0 qe0
  have s0_e0 : e0 0 = .agg (ints .u64 a0).toArray := congrFun qe0 0
  have s1_e0 : e0 1 = .agg (ints .u64 a1).toArray := congrFun qe0 1
  clear qe0
  unfold postilionref04_Minus.f at h
  refine wseqP (p0 := [0]) (p1 := [1]) rfl rfl rfl ?_
  refine wregionT postilionref04_Minus.o1 (.ef 0 (.ef 1 (.ef 2 (.done)))) [] rfl rfl (by kernel_rfl) (by kernel_rfl) ?_
  refine k_box (v := .agg (ints .u64 a0).toArray) (ints .u64 a0) rfl s0_e0 rfl hp ?_
  intro g1 w hbg1 hp
  refine k_box (v := .agg (ints .u64 a1).toArray) (ints .u64 a1) rfl s1_e0 rfl hp ?_
  intro g2 w hbg2 hp
  refine k_alloc (ints .u64 (List.replicate 4 (0 : Int))) rfl (by kernel_rfl) hp ?_
  intro g3 w hbg3 hp
  refine k_end ?_; intro e247 qe247
  have s2_e247 : e247 2 = .pointer (some ⟨g1, 0, none⟩) := congrFun qe247 2
  have s3_e247 : e247 3 = .pointer (some ⟨g2, 0, none⟩) := congrFun qe247 3
  have s4_e247 : e247 4 = .pointer (some ⟨g3, 0, none⟩) := congrFun qe247 4
  clear qe247
  refine wseqP (p0 := [1, 0]) (p1 := [1, 1]) rfl rfl rfl ?_
  refine wregionM postilionref04_Minus.o2 (.tk 0 (.tk 2 (.ef 1 (.ef 3 (.ef 4 (.ef 5 (.ef 6 (.done)))))))) [6] [(0, 0, 0), (0, 127, 127), (0, 0, 0), (6, 127, 127), (10, 127, 127), (17, 127, 127), (63, 127, 127)] rfl rfl (by kernel_rfl) (by kernel_rfl) (Nat.le_of_ble_eq_true (by kernel_rfl)) (by kernel_rfl) (by kernel_rfl) (by kernel_rfl) ?_
  have hp := hp.drew
  refine k_loadA (n := 4) (xs := ints .u64 a0) 0 rfl (by kernel_rfl) (by kernel_rfl) s2_e247 (hp.get (j := 0) rfl) rfl rfl ((ints_length _ _).trans la0) (fun m v hm => by rw [Nat.zero_add]; exact hm) ?_
  refine k_loadA (n := 4) (xs := ints .u64 a1) 0 rfl (by kernel_rfl) (by kernel_rfl) s3_e247 (hp.get (j := 1) rfl) rfl rfl ((ints_length _ _).trans la1) (fun m v hm => by rw [Nat.zero_add]; exact hm) ?_
  obtain ⟨r4, qr4, h⟩ := bd_e h
  refine k_call [] rfl (by kernel_rfl) (args0 ) (postilionref04_p_ok   _ (hp.toR (fun _ h => by cases h)) qr4) ?_
  rintro _ w' ⟨_, rfl, rfl, lr40, hpc⟩
  refine ⟨_, rfl, .inr (.of_below hpc.chg.to_below), ?_⟩; have hp := hp.below hpc.chg.to_below; clear hpc
  obtain ⟨r5, qr5, h⟩ := bd_e h
  refine k_call [.agg (ints .u64 a1).toArray] rfl (by kernel_rfl) (args1 rfl) (postilionref04_Least_ok k a1 la1 _ (hp.toR (fun _ h => by cases h)) qr5) ?_
  rintro _ w' ⟨_, rfl, rfl, lr50, hpc⟩
  refine ⟨_, rfl, .inr (.of_below hpc.chg.to_below), ?_⟩; have hp := hp.below hpc.chg.to_below; clear hpc
  obtain ⟨r6, qr6, h⟩ := bd_e h
  refine k_call [.agg (ints .u64 r4).toArray, .agg (ints .u64 r5).toArray] rfl (by kernel_rfl) (args2 rfl rfl) (postilionref04_less_ok k r4 r5 lr40 lr50 _ (hp.toR (fun _ h => by cases h)) qr6) ?_
  rintro _ w' ⟨_, rfl, rfl, lr60, hpc⟩
  refine ⟨_, rfl, .inr (.of_below hpc.chg.to_below), ?_⟩; have hp := hp.below hpc.chg.to_below; clear hpc
  obtain ⟨r7, qr7, h⟩ := bd_e h
  refine k_call [.agg (ints .u64 a0).toArray, .agg (ints .u64 r6).toArray] rfl (by kernel_rfl) (args2 rfl rfl) (postilionref04_Plus_ok k a0 r6 la0 lr60 _ (hp.toR (fun _ h => by cases h)) qr7) ?_
  rintro _ w' ⟨_, rfl, rfl, lr70, hpc⟩
  refine ⟨_, rfl, .inr (.of_below hpc.chg.to_below), ?_⟩; have hp := hp.below hpc.chg.to_below; clear hpc
  refine k_storeA (v := .agg (ints .u64 r7).toArray) 2 0 (r := ⟨g3, 0, ints .u64 (List.replicate 4 (0 : Int))⟩) (ints .u64 r7) (ints .u64 r7) rfl (n := 4) (by kernel_rfl) s4_e247 rfl rfl ((ints_length _ _).trans lr70) (ints_one _ _) hp rfl rfl rfl (Nat.le_of_eq ((Nat.zero_add _).trans ((ints_length _ _).trans List.length_replicate).symm)) (setMany_all _ _ (((ints_length _ _).trans lr70).trans ((ints_length _ _).trans List.length_replicate).symm)) (by decide) ?_; intro w hp
  refine k_end ?_; intro e248 qe248
  have s4_e248 : e248 4 = .pointer (some ⟨g3, 0, none⟩) := (congrFun qe248 4).trans s4_e247
  clear qe248
  refine wret rfl ?_
  have hr : r = r7 := (Option.some.inj h).symm
  show RetP _ _ _ _ _
  rw [hr]
  exact ret_i [.agg (ints .u64 r7).toArray] (res_cell s4_e248 (loadVar_agg (by kernel_rfl) (by kernel_rfl) ((ints_length _ _).trans lr70) (hp.get (j := 2) rfl) rfl rfl rfl) res_nil) ⟨rfl, lr70, hp.none⟩
/-! 34 postilion/postilionref04.Times -/
noncomputable def postilionref04_Times.o1 : Array Oper := opsC (at_ (fbody Try.f34) [0])
noncomputable def postilionref04_Times.o2 : Array Oper := opsC (at_ (fbody Try.f34) [1, 0])
noncomputable def postilionref04_Times.o3 : Array Oper := opsC (at_ (fbody Try.f34) [1, 1, 0, 0])
noncomputable def postilionref04_Times.o4 : Array Oper := opsC (at_ (fbody Try.f34) [1, 1, 0, 1, 0, 0, 0])
noncomputable def postilionref04_Times.o5 : Array Oper := opsC (at_ (fbody Try.f34) [1, 1, 0, 1, 0, 0, 1, 1, 0, 0, 0])
noncomputable def postilionref04_Times.o6 : Array Oper := opsC (at_ (fbody Try.f34) [1, 1, 0, 1, 0, 0, 1, 1, 0, 0, 1, 0])
noncomputable def postilionref04_Times.o7 : Array Oper := opsC (at_ (fbody Try.f34) [1, 1, 0, 1, 0, 0, 1, 1, 0, 0, 1, 1, 0, 0])
noncomputable def postilionref04_Times.o8 : Array Oper := opsC (at_ (fbody Try.f34) [1, 1, 0, 1, 0, 0, 1, 1, 0, 0, 1, 1, 0, 1, 0, 0, 0])
noncomputable def postilionref04_Times.o9 : Array Oper := opsC (at_ (fbody Try.f34) [1, 1, 0, 1, 0, 0, 1, 1, 0, 0, 1, 1, 0, 1, 0, 0, 1, 1, 0, 0, 0])
noncomputable def postilionref04_Times.o10 : Array Oper := opsC (at_ (fbody Try.f34) [1, 1, 0, 1, 0, 0, 1, 1, 0, 0, 1, 1, 0, 1, 0, 0, 1, 1, 0, 0, 1, 0])
noncomputable def postilionref04_Times.o11 : Array Oper := opsC (at_ (fbody Try.f34) [1, 1, 0, 1, 0, 0, 1, 1, 0, 0, 1, 1, 0, 1, 0, 0, 1, 1, 0, 0, 1, 1, 0])
noncomputable def postilionref04_Times.o12 : Array Oper := opsC (at_ (fbody Try.f34) [1, 1, 0, 1, 0, 0, 1, 1, 0, 0, 1, 1, 0, 1, 0, 0, 1, 1, 0, 0, 1, 1, 1, 0])
noncomputable def postilionref04_Times.o13 : Array Oper := opsC (at_ (fbody Try.f34) [1, 1, 0, 1, 0, 0, 1, 1, 0, 0, 1, 1, 0, 1, 0, 0, 1, 1, 0, 0, 1, 1, 1, 1, 0])
noncomputable def postilionref04_Times.o14 : Array Oper := opsC (at_ (fbody Try.f34) [1, 1, 0, 1, 0, 0, 1, 1, 0, 0, 1, 1, 0, 1, 0, 0, 1, 1, 0, 0, 1, 1, 1, 1, 1, 0])
noncomputable def postilionref04_Times.o15 : Array Oper := opsC (at_ (fbody Try.f34) [1, 1, 0, 1, 0, 0, 1, 1, 0, 0, 1, 1, 0, 1, 0, 0, 1, 1, 0, 0, 1, 1, 1, 1, 1, 1, 0])
noncomputable def postilionref04_Times.o16 : Array Oper := opsC (at_ (fbody Try.f34) [1, 1, 0, 1, 0, 0, 1, 1, 0, 0, 1, 1, 0, 1, 0, 0, 1, 1, 0, 0, 1, 1, 1, 1, 1, 1, 1, 0])
noncomputable def postilionref04_Times.o17 : Array Oper := opsC (at_ (fbody Try.f34) [1, 1, 0, 1, 0, 0, 1, 1, 0, 0, 1, 1, 0, 1, 0, 0, 1, 1, 0, 0, 1, 1, 1, 1, 1, 1, 1, 1])
noncomputable def postilionref04_Times.o18 : Array Oper := opsC (at_ (fbody Try.f34) [1, 1, 0, 1, 0, 0, 1, 1, 0, 0, 1, 1, 0, 1, 0, 0, 1, 1, 1])
noncomputable def postilionref04_Times.o19 : Array Oper := opsC (at_ (fbody Try.f34) [1, 1, 0, 1, 0, 0, 1, 1, 0, 0, 1, 1, 1])
noncomputable def postilionref04_Times.o20 : Array Oper := opsC (at_ (fbody Try.f34) [1, 1, 0, 1, 0, 0, 1, 1, 1])
noncomputable def postilionref04_Times.o21 : Array Oper := opsC (at_ (fbody Try.f34) [1, 1, 1, 0])
noncomputable def postilionref04_Times.o22 : Array Oper := opsC (at_ (fbody Try.f34) [1, 1, 1, 1, 0])
noncomputable def postilionref04_Times.o23 : Array Oper := opsC (at_ (fbody Try.f34) [1, 1, 1, 1, 1, 0])
noncomputable def postilionref04_Times.o24 : Array Oper := opsC (at_ (fbody Try.f34) [1, 1, 1, 1, 1, 1, 0, 0])
noncomputable def postilionref04_Times.o25 : Array Oper := opsC (at_ (fbody Try.f34) [1, 1, 1, 1, 1, 1, 0, 1, 0, 0, 0])
noncomputable def postilionref04_Times.o26 : Array Oper := opsC (at_ (fbody Try.f34) [1, 1, 1, 1, 1, 1, 0, 1, 0, 0, 1, 1, 0, 0, 0])
noncomputable def postilionref04_Times.o27 : Array Oper := opsC (at_ (fbody Try.f34) [1, 1, 1, 1, 1, 1, 0, 1, 0, 0, 1, 1, 0, 0, 1, 0])
noncomputable def postilionref04_Times.o28 : Array Oper := opsC (at_ (fbody Try.f34) [1, 1, 1, 1, 1, 1, 0, 1, 0, 0, 1, 1, 0, 0, 1, 1, 0])
noncomputable def postilionref04_Times.o29 : Array Oper := opsC (at_ (fbody Try.f34) [1, 1, 1, 1, 1, 1, 0, 1, 0, 0, 1, 1, 0, 0, 1, 1, 1, 0])
noncomputable def postilionref04_Times.o30 : Array Oper := opsC (at_ (fbody Try.f34) [1, 1, 1, 1, 1, 1, 0, 1, 0, 0, 1, 1, 0, 0, 1, 1, 1, 1, 0])
noncomputable def postilionref04_Times.o31 : Array Oper := opsC (at_ (fbody Try.f34) [1, 1, 1, 1, 1, 1, 0, 1, 0, 0, 1, 1, 0, 0, 1, 1, 1, 1, 1])
noncomputable def postilionref04_Times.o32 : Array Oper := opsC (at_ (fbody Try.f34) [1, 1, 1, 1, 1, 1, 0, 1, 0, 0, 1, 1, 1])
noncomputable def postilionref04_Times.o33 : Array Oper := opsC (at_ (fbody Try.f34) [1, 1, 1, 1, 1, 1, 1, 0])
set_option maxHeartbeats 4000000 in
theorem postilionref04_Times.p2_ok {w0 : World} {Ws : List Wr} {Q : Exit → Env → World → Prop} (g1 g2 g3 g4 : Nat) (y6 : Int) (a0 : List Int) (a1 : List Int) (la0 : a0.length = 4) (la1 : a1.length = 4) {r : Int × List Int} (hQ0 : ∀ (e' : Env) (w' : World) (z0 : Int) (z1 : List Int), z1.length = 8 → e' 2 = .pointer (some ⟨g1, 0, none⟩) → e' 3 = .pointer (some ⟨g2, 0, none⟩) → e' 4 = .pointer (some ⟨g3, 0, none⟩) → e' 5 = .pointer (some ⟨g4, 0, none⟩) → e' 6 = .int .i64 y6 → e' 7 = .int .u64 z0 → e' 19 = .int .i64 y6 → Hp w0 Ws w' [⟨g1, 0, ints .u64 a0⟩, ⟨g2, 0, ints .u64 a1⟩, ⟨g3, 0, ints .u64 (List.replicate 4 (0 : Int))⟩, ⟨g4, 0, ints .u64 z1⟩] [] → r = (z0, z1) → Q (.exit 2) e' w') : ∀ (k : Nat), ∀ (y7 : List Int) (y8 : Int) (y9 : Int) (e : Env) (w : World) (ly7 : y7.length = 8) (s2_e : e 2 = .pointer (some ⟨g1, 0, none⟩)) (s3_e : e 3 = .pointer (some ⟨g2, 0, none⟩)) (s4_e : e 4 = .pointer (some ⟨g3, 0, none⟩)) (s5_e : e 5 = .pointer (some ⟨g4, 0, none⟩)) (s6_e : e 6 = .int .i64 y6) (s7_e : e 7 = .int .u64 y8) (s19_e : e 19 = .int .i64 y6) (s22_e : e 22 = .int .i64 y9) (hp : Hp w0 Ws w [⟨g1, 0, ints .u64 a0⟩, ⟨g2, 0, ints .u64 a1⟩, ⟨g3, 0, ints .u64 (List.replicate 4 (0 : Int))⟩, ⟨g4, 0, ints .u64 y7⟩] []) (h : postilionref04_Times.p2 k y6 a0 a1 y7 y8 y9 = some r), Lp Try.prog Try.f34.ntmps (at_ (fbody Try.f34) [1, 1, 0, 1, 0, 0, 1, 1, 0, 0, 1, 1, 0, 1, 0, 0]) Q k e w := by
  intro k
  induction k with
  | zero => intro y7 y8 y9 e w ly7 s2_e s3_e s4_e s5_e s6_e s7_e s19_e s22_e hp h; cases h
  | succ k ih =>
    intro y7 y8 y9 e w ly7 s2_e s3_e s4_e s5_e s6_e s7_e s19_e s22_e hp h
    unfold postilionref04_Times.p2 at h
    show Wp _ _ _ _ _ _
    refine wseqP (p0 := [1, 1, 0, 1, 0, 0, 1, 1, 0, 0, 1, 1, 0, 1, 0, 0, 0]) (p1 := [1, 1, 0, 1, 0, 0, 1, 1, 0, 0, 1, 1, 0, 1, 0, 0, 1]) rfl rfl rfl ?_
    refine wregionT postilionref04_Times.o8 (.tp 0 (.done)) [] rfl rfl (by kernel_rfl) (by kernel_rfl) ?_
    refine k_bin (X := .int .i64 y9) (Y := .int .i64 4) rfl s22_e rfl rfl ?_
    refine k_end ?_; intro e256 qe256
    have s2_e256 : e256 2 = .pointer (some ⟨g1, 0, none⟩) := (congrFun qe256 2).trans s2_e
    have s3_e256 : e256 3 = .pointer (some ⟨g2, 0, none⟩) := (congrFun qe256 3).trans s3_e
    have s4_e256 : e256 4 = .pointer (some ⟨g3, 0, none⟩) := (congrFun qe256 4).trans s4_e
    have s5_e256 : e256 5 = .pointer (some ⟨g4, 0, none⟩) := (congrFun qe256 5).trans s5_e
    have s6_e256 : e256 6 = .int .i64 y6 := (congrFun qe256 6).trans s6_e
    have s7_e256 : e256 7 = .int .u64 y8 := (congrFun qe256 7).trans s7_e
    have s19_e256 : e256 19 = .int .i64 y6 := (congrFun qe256 19).trans s19_e
    have s22_e256 : e256 22 = .int .i64 y9 := (congrFun qe256 22).trans s22_e
    have s23_e256 : e256 23 = .bool (decide (y9 < 4)) := congrFun qe256 23
    clear qe256
    refine wseqP (p0 := [1, 1, 0, 1, 0, 0, 1, 1, 0, 0, 1, 1, 0, 1, 0, 0, 1, 0]) (p1 := [1, 1, 0, 1, 0, 0, 1, 1, 0, 0, 1, 1, 0, 1, 0, 0, 1, 1]) rfl rfl rfl ?_
    refine wcondP (p0 := [1, 1, 0, 1, 0, 0, 1, 1, 0, 0, 1, 1, 0, 1, 0, 0, 1, 0, 0]) (p1 := [1, 1, 0, 1, 0, 0, 1, 1, 0, 0, 1, 1, 0, 1, 0, 0, 1, 0, 1]) (t := (decide (y9 < 4))) rfl rfl rfl (by decide) s23_e256 (fun hb => ?_) (fun hb => ?_)
    · replace h := br_t hb h
      refine wskip rfl ?_
      refine wseqP (p0 := [1, 1, 0, 1, 0, 0, 1, 1, 0, 0, 1, 1, 0, 1, 0, 0, 1, 1, 0]) (p1 := [1, 1, 0, 1, 0, 0, 1, 1, 0, 0, 1, 1, 0, 1, 0, 0, 1, 1, 1]) rfl rfl rfl ?_
      refine wblockP (p0 := [1, 1, 0, 1, 0, 0, 1, 1, 0, 0, 1, 1, 0, 1, 0, 0, 1, 1, 0, 0]) 3 rfl rfl ?_
      refine wseqP (p0 := [1, 1, 0, 1, 0, 0, 1, 1, 0, 0, 1, 1, 0, 1, 0, 0, 1, 1, 0, 0, 0]) (p1 := [1, 1, 0, 1, 0, 0, 1, 1, 0, 0, 1, 1, 0, 1, 0, 0, 1, 1, 0, 0, 1]) rfl rfl rfl ?_
      refine wregionT postilionref04_Times.o9 (.tp 0 (.tp 1 (.done))) [] rfl rfl (by kernel_rfl) (by kernel_rfl) ?_
      refine k_move (v := .int .i64 y9) rfl s22_e256 ?_
      refine k_assign (v := .int .i64 y9) rfl rfl ?_
      refine k_end ?_; intro e257 qe257
      have s2_e257 : e257 2 = .pointer (some ⟨g1, 0, none⟩) := (congrFun qe257 2).trans s2_e256
      have s3_e257 : e257 3 = .pointer (some ⟨g2, 0, none⟩) := (congrFun qe257 3).trans s3_e256
      have s4_e257 : e257 4 = .pointer (some ⟨g3, 0, none⟩) := (congrFun qe257 4).trans s4_e256
      have s5_e257 : e257 5 = .pointer (some ⟨g4, 0, none⟩) := (congrFun qe257 5).trans s5_e256
      have s6_e257 : e257 6 = .int .i64 y6 := (congrFun qe257 6).trans s6_e256
      have s7_e257 : e257 7 = .int .u64 y8 := (congrFun qe257 7).trans s7_e256
      have s8_e257 : e257 8 = .int .i64 y9 := congrFun qe257 8
      have s19_e257 : e257 19 = .int .i64 y6 := (congrFun qe257 19).trans s19_e256
      have s22_e257 : e257 22 = .int .i64 y9 := (congrFun qe257 22).trans s22_e256
      clear qe257
      refine wseqP (p0 := [1, 1, 0, 1, 0, 0, 1, 1, 0, 0, 1, 1, 0, 1, 0, 0, 1, 1, 0, 0, 1, 0]) (p1 := [1, 1, 0, 1, 0, 0, 1, 1, 0, 0, 1, 1, 0, 1, 0, 0, 1, 1, 0, 0, 1, 1]) rfl rfl rfl ?_
      refine wregionM postilionref04_Times.o10 (.tp 0 (.tp 1 (.tk 2 (.tp 3 (.tp 4 (.tk 5 (.ef 6 (.tp 7 (.tp 8 (.tp 9 (.tp 10 (.tp 11 (.done))))))))))))) [] [(0, 0, 4095), (1, 1, 4095), (2, 2, 0), (0, 0, 4095), (8, 8, 4095), (16, 16, 0), (36, 4095, 4095), (64, 64, 4095), (128, 128, 4095), (128, 128, 4095), (511, 256, 4095), (2047, 512, 4095)] rfl rfl (by kernel_rfl) (by kernel_rfl) (Nat.le_of_ble_eq_true (by kernel_rfl)) (by kernel_rfl) (by kernel_rfl) (by kernel_rfl) ?_
      have hp := hp.drew
      refine k_move (v := .int .i64 y6) rfl s6_e257 ?_
      obtain ⟨c10, h⟩ := chk_e h
      refine k_indexA (n := 4) (s := 1) (j := y6) rfl Try.underlying48 (by kernel_rfl) s2_e257 rfl c10 ?_
      refine k_load (j := (y6 : Int).toNat) (v := .int .u64 (a0.getD (y6 : Int).toNat 0)) rfl (by kernel_rfl) rfl (hp.get (j := 0) rfl) rfl (show 0 + (y6 : Int).toNat * 1 = 0 + (y6 : Int).toNat by omega) (ints_get (idx_lt c10 la0)) ?_
      refine k_move (v := .int .i64 y9) rfl s8_e257 ?_
      obtain ⟨c11, h⟩ := chk_e h
      refine k_indexA (n := 4) (s := 1) (j := y9) rfl Try.underlying48 (by kernel_rfl) s3_e257 rfl c11 ?_
      refine k_load (j := (y9 : Int).toNat) (v := .int .u64 (a1.getD (y9 : Int).toNat 0)) rfl (by kernel_rfl) rfl (hp.get (j := 1) rfl) rfl (show 0 + (y9 : Int).toNat * 1 = 0 + (y9 : Int).toNat by omega) (ints_get (idx_lt c11 la1)) ?_
      obtain ⟨r12, qr12, h⟩ := bd_e h
      refine k_call [.int .u64 (a0.getD (y6 : Int).toNat 0), .int .u64 (a1.getD (y9 : Int).toNat 0)] rfl (by kernel_rfl) (args2 rfl rfl) (math_bits_Mul64_ok (a0.getD (y6 : Int).toNat 0) (a1.getD (y9 : Int).toNat 0)  _ (hp.toR (fun _ h => by cases h)) qr12) ?_
      rintro _ w' ⟨_, rfl, rfl, hpc⟩
      refine ⟨_, rfl, .inr (.of_below hpc.chg.to_below), ?_⟩; have hp := hp.below hpc.chg.to_below; clear hpc
      refine k_move (v := .tuple #[.int .u64 r12.1, .int .u64 r12.2]) rfl rfl ?_
      refine k_extract (v := .int .u64 r12.1) rfl rfl rfl ?_
      refine k_extract (v := .int .u64 r12.2) rfl rfl rfl ?_
      refine k_assign (v := .int .u64 r12.1) rfl rfl ?_
      refine k_assign (v := .int .u64 r12.2) rfl rfl ?_
      refine k_end ?_; intro e258 qe258
      have s2_e258 : e258 2 = .pointer (some ⟨g1, 0, none⟩) := (congrFun qe258 2).trans s2_e257
      have s3_e258 : e258 3 = .pointer (some ⟨g2, 0, none⟩) := (congrFun qe258 3).trans s3_e257
      have s4_e258 : e258 4 = .pointer (some ⟨g3, 0, none⟩) := (congrFun qe258 4).trans s4_e257
      have s5_e258 : e258 5 = .pointer (some ⟨g4, 0, none⟩) := (congrFun qe258 5).trans s5_e257
      have s6_e258 : e258 6 = .int .i64 y6 := (congrFun qe258 6).trans s6_e257
      have s7_e258 : e258 7 = .int .u64 y8 := (congrFun qe258 7).trans s7_e257
      have s8_e258 : e258 8 = .int .i64 y9 := (congrFun qe258 8).trans s8_e257
      obtain ⟨x13, qx13, h⟩ := lt_e h
      have s9_e258 : e258 9 = .int .u64 x13 := (congrFun qe258 9).trans (congrArg (Value.int .u64) qx13.symm)
      obtain ⟨x14, qx14, h⟩ := lt_e h
      have s10_e258 : e258 10 = .int .u64 x14 := (congrFun qe258 10).trans (congrArg (Value.int .u64) qx14.symm)
      have s19_e258 : e258 19 = .int .i64 y6 := (congrFun qe258 19).trans s19_e257
      have s22_e258 : e258 22 = .int .i64 y9 := (congrFun qe258 22).trans s22_e257
      clear qe258
      refine wseqP (p0 := [1, 1, 0, 1, 0, 0, 1, 1, 0, 0, 1, 1, 0, 1, 0, 0, 1, 1, 0, 0, 1, 1, 0]) (p1 := [1, 1, 0, 1, 0, 0, 1, 1, 0, 0, 1, 1, 0, 1, 0, 0, 1, 1, 0, 0, 1, 1, 1]) rfl rfl rfl ?_
      refine wregionT postilionref04_Times.o11 (.tp 0 (.done)) [] rfl rfl (by kernel_rfl) (by kernel_rfl) ?_
      refine k_assign (v := .int .u64 0) rfl rfl ?_
      refine k_end ?_; intro e259 qe259
      have s2_e259 : e259 2 = .pointer (some ⟨g1, 0, none⟩) := (congrFun qe259 2).trans s2_e258
      have s3_e259 : e259 3 = .pointer (some ⟨g2, 0, none⟩) := (congrFun qe259 3).trans s3_e258
      have s4_e259 : e259 4 = .pointer (some ⟨g3, 0, none⟩) := (congrFun qe259 4).trans s4_e258
      have s5_e259 : e259 5 = .pointer (some ⟨g4, 0, none⟩) := (congrFun qe259 5).trans s5_e258
      have s6_e259 : e259 6 = .int .i64 y6 := (congrFun qe259 6).trans s6_e258
      have s7_e259 : e259 7 = .int .u64 y8 := (congrFun qe259 7).trans s7_e258
      have s8_e259 : e259 8 = .int .i64 y9 := (congrFun qe259 8).trans s8_e258
      have s9_e259 : e259 9 = .int .u64 x13 := (congrFun qe259 9).trans s9_e258
      have s10_e259 : e259 10 = .int .u64 x14 := (congrFun qe259 10).trans s10_e258
      have s19_e259 : e259 19 = .int .i64 y6 := (congrFun qe259 19).trans s19_e258
      have s22_e259 : e259 22 = .int .i64 y9 := (congrFun qe259 22).trans s22_e258
      clear qe259
      refine wseqP (p0 := [1, 1, 0, 1, 0, 0, 1, 1, 0, 0, 1, 1, 0, 1, 0, 0, 1, 1, 0, 0, 1, 1, 1, 0]) (p1 := [1, 1, 0, 1, 0, 0, 1, 1, 0, 0, 1, 1, 0, 1, 0, 0, 1, 1, 0, 0, 1, 1, 1, 1]) rfl rfl rfl ?_
      refine wregionT postilionref04_Times.o12 (.tp 0 (.tp 1 (.tp 2 (.tp 3 (.tp 4 (.tk 5 (.tp 6 (.tp 7 (.tp 8 (.tp 9 (.tp 10 (.tp 11 (.done))))))))))))) [] rfl rfl (by kernel_rfl) (by kernel_rfl) ?_
      refine k_move (v := .int .u64 x14) rfl s10_e259 ?_
      refine k_move (v := .int .i64 y6) rfl s6_e259 ?_
      refine k_move (v := .int .i64 y9) rfl s8_e259 ?_
      refine k_bin (X := .int .i64 y6) (Y := .int .i64 y9) rfl rfl rfl rfl ?_
      obtain ⟨c15, h⟩ := chk_e h
      refine k_indexA (n := 8) (s := 1) (j := (IntKind.i64.wrap (y6 + y9))) rfl Try.underlying68 (by kernel_rfl) s5_e259 rfl c15 ?_
      refine k_load (j := ((IntKind.i64.wrap (y6 + y9)) : Int).toNat) (v := .int .u64 (y7.getD ((IntKind.i64.wrap (y6 + y9)) : Int).toNat 0)) rfl (by kernel_rfl) rfl (hp.get (j := 3) rfl) rfl (show 0 + ((IntKind.i64.wrap (y6 + y9)) : Int).toNat * 1 = 0 + ((IntKind.i64.wrap (y6 + y9)) : Int).toNat by omega) (ints_get (idx_lt c15 ly7)) ?_
      obtain ⟨c16, h⟩ := chk_e h
      refine k_ext [.int .u64 x14, .int .u64 (y7.getD ((IntKind.i64.wrap (y6 + y9)) : Int).toNat 0), .int .u64 0] rfl ext43 (args3 rfl rfl rfl) (fun w' => run_add64 x14 (y7.getD ((IntKind.i64.wrap (y6 + y9)) : Int).toNat 0) 0 c16.1 c16.2.1 c16.2.2.1 c16.2.2.2 w') ?_
      refine k_move (v := .tuple #[.int .u64 ((x14 + (y7.getD ((IntKind.i64.wrap (y6 + y9)) : Int).toNat 0) + 0) % 18446744073709551616), .int .u64 ((x14 + (y7.getD ((IntKind.i64.wrap (y6 + y9)) : Int).toNat 0) + 0) / 18446744073709551616)]) rfl rfl ?_
      refine k_extract (v := .int .u64 ((x14 + (y7.getD ((IntKind.i64.wrap (y6 + y9)) : Int).toNat 0) + 0) % 18446744073709551616)) rfl rfl rfl ?_
      refine k_extract (v := .int .u64 ((x14 + (y7.getD ((IntKind.i64.wrap (y6 + y9)) : Int).toNat 0) + 0) / 18446744073709551616)) rfl rfl rfl ?_
      refine k_assign (v := .int .u64 ((x14 + (y7.getD ((IntKind.i64.wrap (y6 + y9)) : Int).toNat 0) + 0) % 18446744073709551616)) rfl rfl ?_
      refine k_assign (v := .int .u64 ((x14 + (y7.getD ((IntKind.i64.wrap (y6 + y9)) : Int).toNat 0) + 0) / 18446744073709551616)) rfl rfl ?_
      refine k_end ?_; intro e260 qe260
      have s2_e260 : e260 2 = .pointer (some ⟨g1, 0, none⟩) := (congrFun qe260 2).trans s2_e259
      have s3_e260 : e260 3 = .pointer (some ⟨g2, 0, none⟩) := (congrFun qe260 3).trans s3_e259
      have s4_e260 : e260 4 = .pointer (some ⟨g3, 0, none⟩) := (congrFun qe260 4).trans s4_e259
      have s5_e260 : e260 5 = .pointer (some ⟨g4, 0, none⟩) := (congrFun qe260 5).trans s5_e259
      have s6_e260 : e260 6 = .int .i64 y6 := (congrFun qe260 6).trans s6_e259
      have s7_e260 : e260 7 = .int .u64 y8 := (congrFun qe260 7).trans s7_e259
      have s8_e260 : e260 8 = .int .i64 y9 := (congrFun qe260 8).trans s8_e259
      have s9_e260 : e260 9 = .int .u64 x13 := (congrFun qe260 9).trans s9_e259
      obtain ⟨x17, qx17, h⟩ := lt_e h
      have s10_e260 : e260 10 = .int .u64 x17 := (congrFun qe260 10).trans (congrArg (Value.int .u64) qx17.symm)
      obtain ⟨x18, qx18, h⟩ := lt_e h
      have s11_e260 : e260 11 = .int .u64 x18 := (congrFun qe260 11).trans (congrArg (Value.int .u64) qx18.symm)
      have s19_e260 : e260 19 = .int .i64 y6 := (congrFun qe260 19).trans s19_e259
      have s22_e260 : e260 22 = .int .i64 y9 := (congrFun qe260 22).trans s22_e259
      clear qe260
      refine wseqP (p0 := [1, 1, 0, 1, 0, 0, 1, 1, 0, 0, 1, 1, 0, 1, 0, 0, 1, 1, 0, 0, 1, 1, 1, 1, 0]) (p1 := [1, 1, 0, 1, 0, 0, 1, 1, 0, 0, 1, 1, 0, 1, 0, 0, 1, 1, 0, 0, 1, 1, 1, 1, 1]) rfl rfl rfl ?_
      refine wregionT postilionref04_Times.o13 (.tp 0 (.tp 1 (.tp 2 (.tp 3 (.done))))) [] rfl rfl (by kernel_rfl) (by kernel_rfl) ?_
      refine k_move (v := .int .u64 x13) rfl s9_e260 ?_
      refine k_move (v := .int .u64 x18) rfl s11_e260 ?_
      refine k_bin (X := .int .u64 x13) (Y := .int .u64 x18) rfl rfl rfl rfl ?_
      refine k_assign (v := .int .u64 (IntKind.u64.wrap (x13 + x18))) rfl rfl ?_
      refine k_end ?_; intro e261 qe261
      have s2_e261 : e261 2 = .pointer (some ⟨g1, 0, none⟩) := (congrFun qe261 2).trans s2_e260
      have s3_e261 : e261 3 = .pointer (some ⟨g2, 0, none⟩) := (congrFun qe261 3).trans s3_e260
      have s4_e261 : e261 4 = .pointer (some ⟨g3, 0, none⟩) := (congrFun qe261 4).trans s4_e260
      have s5_e261 : e261 5 = .pointer (some ⟨g4, 0, none⟩) := (congrFun qe261 5).trans s5_e260
      have s6_e261 : e261 6 = .int .i64 y6 := (congrFun qe261 6).trans s6_e260
      have s7_e261 : e261 7 = .int .u64 y8 := (congrFun qe261 7).trans s7_e260
      have s8_e261 : e261 8 = .int .i64 y9 := (congrFun qe261 8).trans s8_e260
      obtain ⟨x19, qx19, h⟩ := lt_e h
      have s9_e261 : e261 9 = .int .u64 x19 := (congrFun qe261 9).trans (congrArg (Value.int .u64) qx19.symm)
      have s10_e261 : e261 10 = .int .u64 x17 := (congrFun qe261 10).trans s10_e260
      have s19_e261 : e261 19 = .int .i64 y6 := (congrFun qe261 19).trans s19_e260
      have s22_e261 : e261 22 = .int .i64 y9 := (congrFun qe261 22).trans s22_e260
      clear qe261
      refine wseqP (p0 := [1, 1, 0, 1, 0, 0, 1, 1, 0, 0, 1, 1, 0, 1, 0, 0, 1, 1, 0, 0, 1, 1, 1, 1, 1, 0]) (p1 := [1, 1, 0, 1, 0, 0, 1, 1, 0, 0, 1, 1, 0, 1, 0, 0, 1, 1, 0, 0, 1, 1, 1, 1, 1, 1]) rfl rfl rfl ?_
      refine wregionT postilionref04_Times.o14 (.tp 0 (.tp 1 (.tp 2 (.tp 3 (.tp 4 (.tp 5 (.tp 6 (.tp 7 (.done))))))))) [] rfl rfl (by kernel_rfl) (by kernel_rfl) ?_
      refine k_move (v := .int .u64 x17) rfl s10_e261 ?_
      refine k_move (v := .int .u64 y8) rfl s7_e261 ?_
      obtain ⟨c20, h⟩ := chk_e h
      refine k_ext [.int .u64 x17, .int .u64 y8, .int .u64 0] rfl ext43 (args3 rfl rfl rfl) (fun w' => run_add64 x17 y8 0 c20.1 c20.2.1 c20.2.2.1 c20.2.2.2 w') ?_
      refine k_move (v := .tuple #[.int .u64 ((x17 + y8 + 0) % 18446744073709551616), .int .u64 ((x17 + y8 + 0) / 18446744073709551616)]) rfl rfl ?_
      refine k_extract (v := .int .u64 ((x17 + y8 + 0) % 18446744073709551616)) rfl rfl rfl ?_
      refine k_extract (v := .int .u64 ((x17 + y8 + 0) / 18446744073709551616)) rfl rfl rfl ?_
      refine k_assign (v := .int .u64 ((x17 + y8 + 0) % 18446744073709551616)) rfl rfl ?_
      refine k_assign (v := .int .u64 ((x17 + y8 + 0) / 18446744073709551616)) rfl rfl ?_
      refine k_end ?_; intro e262 qe262
      have s2_e262 : e262 2 = .pointer (some ⟨g1, 0, none⟩) := (congrFun qe262 2).trans s2_e261
      have s3_e262 : e262 3 = .pointer (some ⟨g2, 0, none⟩) := (congrFun qe262 3).trans s3_e261
      have s4_e262 : e262 4 = .pointer (some ⟨g3, 0, none⟩) := (congrFun qe262 4).trans s4_e261
      have s5_e262 : e262 5 = .pointer (some ⟨g4, 0, none⟩) := (congrFun qe262 5).trans s5_e261
      have s6_e262 : e262 6 = .int .i64 y6 := (congrFun qe262 6).trans s6_e261
      have s8_e262 : e262 8 = .int .i64 y9 := (congrFun qe262 8).trans s8_e261
      have s9_e262 : e262 9 = .int .u64 x19 := (congrFun qe262 9).trans s9_e261
      obtain ⟨x21, qx21, h⟩ := lt_e h
      have s10_e262 : e262 10 = .int .u64 x21 := (congrFun qe262 10).trans (congrArg (Value.int .u64) qx21.symm)
      obtain ⟨x22, qx22, h⟩ := lt_e h
      have s11_e262 : e262 11 = .int .u64 x22 := (congrFun qe262 11).trans (congrArg (Value.int .u64) qx22.symm)
      have s19_e262 : e262 19 = .int .i64 y6 := (congrFun qe262 19).trans s19_e261
      have s22_e262 : e262 22 = .int .i64 y9 := (congrFun qe262 22).trans s22_e261
      clear qe262
      refine wseqP (p0 := [1, 1, 0, 1, 0, 0, 1, 1, 0, 0, 1, 1, 0, 1, 0, 0, 1, 1, 0, 0, 1, 1, 1, 1, 1, 1, 0]) (p1 := [1, 1, 0, 1, 0, 0, 1, 1, 0, 0, 1, 1, 0, 1, 0, 0, 1, 1, 0, 0, 1, 1, 1, 1, 1, 1, 1]) rfl rfl rfl ?_
      refine wregionT postilionref04_Times.o15 (.tp 0 (.tp 1 (.tp 2 (.tp 3 (.done))))) [] rfl rfl (by kernel_rfl) (by kernel_rfl) ?_
      refine k_move (v := .int .u64 x19) rfl s9_e262 ?_
      refine k_move (v := .int .u64 x22) rfl s11_e262 ?_
      refine k_bin (X := .int .u64 x19) (Y := .int .u64 x22) rfl rfl rfl rfl ?_
      refine k_assign (v := .int .u64 (IntKind.u64.wrap (x19 + x22))) rfl rfl ?_
      refine k_end ?_; intro e263 qe263
      have s2_e263 : e263 2 = .pointer (some ⟨g1, 0, none⟩) := (congrFun qe263 2).trans s2_e262
      have s3_e263 : e263 3 = .pointer (some ⟨g2, 0, none⟩) := (congrFun qe263 3).trans s3_e262
      have s4_e263 : e263 4 = .pointer (some ⟨g3, 0, none⟩) := (congrFun qe263 4).trans s4_e262
      have s5_e263 : e263 5 = .pointer (some ⟨g4, 0, none⟩) := (congrFun qe263 5).trans s5_e262
      have s6_e263 : e263 6 = .int .i64 y6 := (congrFun qe263 6).trans s6_e262
      have s8_e263 : e263 8 = .int .i64 y9 := (congrFun qe263 8).trans s8_e262
      obtain ⟨x23, qx23, h⟩ := lt_e h
      have s9_e263 : e263 9 = .int .u64 x23 := (congrFun qe263 9).trans (congrArg (Value.int .u64) qx23.symm)
      have s10_e263 : e263 10 = .int .u64 x21 := (congrFun qe263 10).trans s10_e262
      have s19_e263 : e263 19 = .int .i64 y6 := (congrFun qe263 19).trans s19_e262
      have s22_e263 : e263 22 = .int .i64 y9 := (congrFun qe263 22).trans s22_e262
      clear qe263
      refine wseqP (p0 := [1, 1, 0, 1, 0, 0, 1, 1, 0, 0, 1, 1, 0, 1, 0, 0, 1, 1, 0, 0, 1, 1, 1, 1, 1, 1, 1, 0]) (p1 := [1, 1, 0, 1, 0, 0, 1, 1, 0, 0, 1, 1, 0, 1, 0, 0, 1, 1, 0, 0, 1, 1, 1, 1, 1, 1, 1, 1]) rfl rfl rfl ?_
      refine wregionT postilionref04_Times.o16 (.tp 0 (.tp 1 (.tp 2 (.tp 3 (.tp 4 (.ef 5 (.done))))))) [5] rfl rfl (by kernel_rfl) (by kernel_rfl) ?_
      refine k_move (v := .int .i64 y6) rfl s6_e263 ?_
      refine k_move (v := .int .i64 y9) rfl s8_e263 ?_
      refine k_bin (X := .int .i64 y6) (Y := .int .i64 y9) rfl rfl rfl rfl ?_
      refine k_move (v := .int .u64 x21) rfl s10_e263 ?_
      refine k_indexA (n := 8) (s := 1) (j := (IntKind.i64.wrap (y6 + y9))) rfl Try.underlying68 (by kernel_rfl) s5_e263 rfl c15 ?_
      refine k_store (v := .int .u64 x21) 3 ((IntKind.i64.wrap (y6 + y9)) : Int).toNat (r := ⟨g4, 0, ints .u64 y7⟩) rfl (by kernel_rfl) rfl rfl rfl hp rfl rfl (show 0 + ((IntKind.i64.wrap (y6 + y9)) : Int).toNat * 1 = 0 + ((IntKind.i64.wrap (y6 + y9)) : Int).toNat by omega) (Nat.lt_of_lt_of_eq (idx_lt c15 ly7) (ints_length _ _).symm) (by decide) ?_; intro w hp; rw [ints_set] at hp
      refine k_end ?_; intro e264 qe264
      have s2_e264 : e264 2 = .pointer (some ⟨g1, 0, none⟩) := (congrFun qe264 2).trans s2_e263
      have s3_e264 : e264 3 = .pointer (some ⟨g2, 0, none⟩) := (congrFun qe264 3).trans s3_e263
      have s4_e264 : e264 4 = .pointer (some ⟨g3, 0, none⟩) := (congrFun qe264 4).trans s4_e263
      have s5_e264 : e264 5 = .pointer (some ⟨g4, 0, none⟩) := (congrFun qe264 5).trans s5_e263
      have s6_e264 : e264 6 = .int .i64 y6 := (congrFun qe264 6).trans s6_e263
      have s9_e264 : e264 9 = .int .u64 x23 := (congrFun qe264 9).trans s9_e263
      have s19_e264 : e264 19 = .int .i64 y6 := (congrFun qe264 19).trans s19_e263
      have s22_e264 : e264 22 = .int .i64 y9 := (congrFun qe264 22).trans s22_e263
      clear qe264
      refine wregionT postilionref04_Times.o17 (.tp 0 (.tp 1 (.done))) [] rfl rfl (by kernel_rfl) (by kernel_rfl) ?_
      refine k_move (v := .int .u64 x23) rfl s9_e264 ?_
      refine k_assign (v := .int .u64 x23) rfl rfl ?_
      refine k_end ?_; intro e265 qe265
      have s2_e265 : e265 2 = .pointer (some ⟨g1, 0, none⟩) := (congrFun qe265 2).trans s2_e264
      have s3_e265 : e265 3 = .pointer (some ⟨g2, 0, none⟩) := (congrFun qe265 3).trans s3_e264
      have s4_e265 : e265 4 = .pointer (some ⟨g3, 0, none⟩) := (congrFun qe265 4).trans s4_e264
      have s5_e265 : e265 5 = .pointer (some ⟨g4, 0, none⟩) := (congrFun qe265 5).trans s5_e264
      have s6_e265 : e265 6 = .int .i64 y6 := (congrFun qe265 6).trans s6_e264
      have s7_e265 : e265 7 = .int .u64 x23 := congrFun qe265 7
      have s19_e265 : e265 19 = .int .i64 y6 := (congrFun qe265 19).trans s19_e264
      have s22_e265 : e265 22 = .int .i64 y9 := (congrFun qe265 22).trans s22_e264
      clear qe265
      refine wregionT postilionref04_Times.o18 (.tp 0 (.tp 1 (.done))) [] rfl rfl (by kernel_rfl) (by kernel_rfl) ?_
      refine k_bin (X := .int .i64 y9) (Y := .int .i64 1) rfl s22_e265 rfl rfl ?_
      refine k_move (v := .int .i64 (IntKind.i64.wrap (y9 + 1))) rfl rfl ?_
      refine k_end ?_; intro e266 qe266
      have s2_e266 : e266 2 = .pointer (some ⟨g1, 0, none⟩) := (congrFun qe266 2).trans s2_e265
      have s3_e266 : e266 3 = .pointer (some ⟨g2, 0, none⟩) := (congrFun qe266 3).trans s3_e265
      have s4_e266 : e266 4 = .pointer (some ⟨g3, 0, none⟩) := (congrFun qe266 4).trans s4_e265
      have s5_e266 : e266 5 = .pointer (some ⟨g4, 0, none⟩) := (congrFun qe266 5).trans s5_e265
      have s6_e266 : e266 6 = .int .i64 y6 := (congrFun qe266 6).trans s6_e265
      have s7_e266 : e266 7 = .int .u64 x23 := (congrFun qe266 7).trans s7_e265
      have s19_e266 : e266 19 = .int .i64 y6 := (congrFun qe266 19).trans s19_e265
      obtain ⟨x24, qx24, h⟩ := lt_e h
      have s22_e266 : e266 22 = .int .i64 x24 := (congrFun qe266 22).trans (congrArg (Value.int .i64) qx24.symm)
      clear qe266
      exact ih (y7.set ((IntKind.i64.wrap (y6 + y9)) : Int).toNat x21) x23 x24 _ _ (List.length_set.trans ly7) s2_e266 s3_e266 s4_e266 s5_e266 s6_e266 s7_e266 s19_e266 s22_e266 (hp.drop (L' := [⟨g1, 0, ints .u64 a0⟩, ⟨g2, 0, ints .u64 a1⟩, ⟨g3, 0, ints .u64 (List.replicate 4 (0 : Int))⟩, ⟨g4, 0, ints .u64 (y7.set ((IntKind.i64.wrap (y6 + y9)) : Int).toNat x21)⟩]) (List.Sublist.refl _)) h
    · replace h := br_f hb h
      refine wexit rfl ?_
      exact hQ0 _ _ y8 y7 ly7 s2_e256 s3_e256 s4_e256 s5_e256 s6_e256 s7_e256 s19_e256 (hp.drop (L' := [⟨g1, 0, ints .u64 a0⟩, ⟨g2, 0, ints .u64 a1⟩, ⟨g3, 0, ints .u64 (List.replicate 4 (0 : Int))⟩, ⟨g4, 0, ints .u64 y7⟩]) (List.Sublist.refl _)) (Option.some.inj h).symm
theorem postilionref04_Times.p1_ok {w0 : World} {Ws : List Wr} {Q : Exit → Env → World → Prop} (g1 g2 g3 g4 : Nat) (a0 : List Int) (a1 : List Int) (la0 : a0.length = 4) (la1 : a1.length = 4) {r : List Int} (hQ0 : ∀ (e' : Env) (w' : World) (z0 : List Int), z0.length = 8 → e' 4 = .pointer (some ⟨g3, 0, none⟩) → e' 5 = .pointer (some ⟨g4, 0, none⟩) → Hp w0 Ws w' [⟨g1, 0, ints .u64 a0⟩, ⟨g2, 0, ints .u64 a1⟩, ⟨g3, 0, ints .u64 (List.replicate 4 (0 : Int))⟩, ⟨g4, 0, ints .u64 z0⟩] [] → r = (z0) → Q (.exit 0) e' w') : ∀ (k : Nat), ∀ (y5 : List Int) (y6 : Int) (e : Env) (w : World) (ly5 : y5.length = 8) (s2_e : e 2 = .pointer (some ⟨g1, 0, none⟩)) (s3_e : e 3 = .pointer (some ⟨g2, 0, none⟩)) (s4_e : e 4 = .pointer (some ⟨g3, 0, none⟩)) (s5_e : e 5 = .pointer (some ⟨g4, 0, none⟩)) (s19_e : e 19 = .int .i64 y6) (hp : Hp w0 Ws w [⟨g1, 0, ints .u64 a0⟩, ⟨g2, 0, ints .u64 a1⟩, ⟨g3, 0, ints .u64 (List.replicate 4 (0 : Int))⟩, ⟨g4, 0, ints .u64 y5⟩] []) (h : postilionref04_Times.p1 k a0 a1 y5 y6 = some r), Lp Try.prog Try.f34.ntmps (at_ (fbody Try.f34) [1, 1, 0, 1, 0, 0]) Q k e w := by
  intro k
  induction k with
  | zero => intro y5 y6 e w ly5 s2_e s3_e s4_e s5_e s19_e hp h; cases h
  | succ k ih =>
    intro y5 y6 e w ly5 s2_e s3_e s4_e s5_e s19_e hp h
    unfold postilionref04_Times.p1 at h
    show Wp _ _ _ _ _ _
    refine wseqP (p0 := [1, 1, 0, 1, 0, 0, 0]) (p1 := [1, 1, 0, 1, 0, 0, 1]) rfl rfl rfl ?_
    refine wregionT postilionref04_Times.o4 (.tp 0 (.done)) [] rfl rfl (by kernel_rfl) (by kernel_rfl) ?_
    refine k_bin (X := .int .i64 y6) (Y := .int .i64 4) rfl s19_e rfl rfl ?_
    refine k_end ?_; intro e252 qe252
    have s2_e252 : e252 2 = .pointer (some ⟨g1, 0, none⟩) := (congrFun qe252 2).trans s2_e
    have s3_e252 : e252 3 = .pointer (some ⟨g2, 0, none⟩) := (congrFun qe252 3).trans s3_e
    have s4_e252 : e252 4 = .pointer (some ⟨g3, 0, none⟩) := (congrFun qe252 4).trans s4_e
    have s5_e252 : e252 5 = .pointer (some ⟨g4, 0, none⟩) := (congrFun qe252 5).trans s5_e
    have s19_e252 : e252 19 = .int .i64 y6 := (congrFun qe252 19).trans s19_e
    have s20_e252 : e252 20 = .bool (decide (y6 < 4)) := congrFun qe252 20
    clear qe252
    refine wseqP (p0 := [1, 1, 0, 1, 0, 0, 1, 0]) (p1 := [1, 1, 0, 1, 0, 0, 1, 1]) rfl rfl rfl ?_
    refine wcondP (p0 := [1, 1, 0, 1, 0, 0, 1, 0, 0]) (p1 := [1, 1, 0, 1, 0, 0, 1, 0, 1]) (t := (decide (y6 < 4))) rfl rfl rfl (by decide) s20_e252 (fun hb => ?_) (fun hb => ?_)
    · replace h := br_t hb h
      refine wskip rfl ?_
      refine wseqP (p0 := [1, 1, 0, 1, 0, 0, 1, 1, 0]) (p1 := [1, 1, 0, 1, 0, 0, 1, 1, 1]) rfl rfl rfl ?_
      refine wblockP (p0 := [1, 1, 0, 1, 0, 0, 1, 1, 0, 0]) 1 rfl rfl ?_
      refine wseqP (p0 := [1, 1, 0, 1, 0, 0, 1, 1, 0, 0, 0]) (p1 := [1, 1, 0, 1, 0, 0, 1, 1, 0, 0, 1]) rfl rfl rfl ?_
      refine wregionT postilionref04_Times.o5 (.tp 0 (.tp 1 (.done))) [] rfl rfl (by kernel_rfl) (by kernel_rfl) ?_
      refine k_move (v := .int .i64 y6) rfl s19_e252 ?_
      refine k_assign (v := .int .i64 y6) rfl rfl ?_
      refine k_end ?_; intro e253 qe253
      have s2_e253 : e253 2 = .pointer (some ⟨g1, 0, none⟩) := (congrFun qe253 2).trans s2_e252
      have s3_e253 : e253 3 = .pointer (some ⟨g2, 0, none⟩) := (congrFun qe253 3).trans s3_e252
      have s4_e253 : e253 4 = .pointer (some ⟨g3, 0, none⟩) := (congrFun qe253 4).trans s4_e252
      have s5_e253 : e253 5 = .pointer (some ⟨g4, 0, none⟩) := (congrFun qe253 5).trans s5_e252
      have s6_e253 : e253 6 = .int .i64 y6 := congrFun qe253 6
      have s19_e253 : e253 19 = .int .i64 y6 := (congrFun qe253 19).trans s19_e252
      clear qe253
      refine wseqP (p0 := [1, 1, 0, 1, 0, 0, 1, 1, 0, 0, 1, 0]) (p1 := [1, 1, 0, 1, 0, 0, 1, 1, 0, 0, 1, 1]) rfl rfl rfl ?_
      refine wregionT postilionref04_Times.o6 (.tp 0 (.done)) [] rfl rfl (by kernel_rfl) (by kernel_rfl) ?_
      refine k_assign (v := .int .u64 0) rfl rfl ?_
      refine k_end ?_; intro e254 qe254
      have s2_e254 : e254 2 = .pointer (some ⟨g1, 0, none⟩) := (congrFun qe254 2).trans s2_e253
      have s3_e254 : e254 3 = .pointer (some ⟨g2, 0, none⟩) := (congrFun qe254 3).trans s3_e253
      have s4_e254 : e254 4 = .pointer (some ⟨g3, 0, none⟩) := (congrFun qe254 4).trans s4_e253
      have s5_e254 : e254 5 = .pointer (some ⟨g4, 0, none⟩) := (congrFun qe254 5).trans s5_e253
      have s6_e254 : e254 6 = .int .i64 y6 := (congrFun qe254 6).trans s6_e253
      have s7_e254 : e254 7 = .int .u64 0 := congrFun qe254 7
      have s19_e254 : e254 19 = .int .i64 y6 := (congrFun qe254 19).trans s19_e253
      clear qe254
      refine wseqP (p0 := [1, 1, 0, 1, 0, 0, 1, 1, 0, 0, 1, 1, 0]) (p1 := [1, 1, 0, 1, 0, 0, 1, 1, 0, 0, 1, 1, 1]) rfl rfl rfl ?_
      refine wseqP (p0 := [1, 1, 0, 1, 0, 0, 1, 1, 0, 0, 1, 1, 0, 0]) (p1 := [1, 1, 0, 1, 0, 0, 1, 1, 0, 0, 1, 1, 0, 1]) rfl rfl rfl ?_
      refine wregionT postilionref04_Times.o7 (.tp 0 (.done)) [] rfl rfl (by kernel_rfl) (by kernel_rfl) ?_
      refine k_move (v := .int .i64 0) rfl rfl ?_
      refine k_end ?_; intro e255 qe255
      have s2_e255 : e255 2 = .pointer (some ⟨g1, 0, none⟩) := (congrFun qe255 2).trans s2_e254
      have s3_e255 : e255 3 = .pointer (some ⟨g2, 0, none⟩) := (congrFun qe255 3).trans s3_e254
      have s4_e255 : e255 4 = .pointer (some ⟨g3, 0, none⟩) := (congrFun qe255 4).trans s4_e254
      have s5_e255 : e255 5 = .pointer (some ⟨g4, 0, none⟩) := (congrFun qe255 5).trans s5_e254
      have s6_e255 : e255 6 = .int .i64 y6 := (congrFun qe255 6).trans s6_e254
      have s7_e255 : e255 7 = .int .u64 0 := (congrFun qe255 7).trans s7_e254
      have s19_e255 : e255 19 = .int .i64 y6 := (congrFun qe255 19).trans s19_e254
      have s22_e255 : e255 22 = .int .i64 0 := congrFun qe255 22
      clear qe255
      refine wblockP (p0 := [1, 1, 0, 1, 0, 0, 1, 1, 0, 0, 1, 1, 0, 1, 0]) 2 rfl rfl ?_
      obtain ⟨r25, qr25, h⟩ := bd_e h
      refine wloopP (p0 := [1, 1, 0, 1, 0, 0, 1, 1, 0, 0, 1, 1, 0, 1, 0, 0]) k rfl rfl (postilionref04_Times.p2_ok g1 g2 g3 g4 y6 a0 a1 la0 la1 ?hq0 k y5 0 0 e255 _ ly5 s2_e255 s3_e255 s4_e255 s5_e255 s6_e255 s7_e255 s19_e255 s22_e255 hp qr25)
      case hq0 =>
        intro e267 w m26 m27 lm27 s2_e267 s3_e267 s4_e267 s5_e267 s6_e267 s7_e267 s19_e267 hp qq
        rw [qq] at h; clear qq
        refine wregionT postilionref04_Times.o19 (.tp 0 (.tp 1 (.tp 2 (.tp 3 (.ef 4 (.done)))))) [4] rfl rfl (by kernel_rfl) (by kernel_rfl) ?_
        refine k_move (v := .int .i64 y6) rfl s6_e267 ?_
        refine k_bin (X := .int .i64 y6) (Y := .int .i64 4) rfl rfl rfl rfl ?_
        refine k_move (v := .int .u64 m26) rfl s7_e267 ?_
        obtain ⟨c28, h⟩ := chk_e h
        refine k_indexA (n := 8) (s := 1) (j := (IntKind.i64.wrap (y6 + 4))) rfl Try.underlying68 (by kernel_rfl) s5_e267 rfl c28 ?_
        refine k_store (v := .int .u64 m26) 3 ((IntKind.i64.wrap (y6 + 4)) : Int).toNat (r := ⟨g4, 0, ints .u64 m27⟩) rfl (by kernel_rfl) rfl rfl rfl hp rfl rfl (show 0 + ((IntKind.i64.wrap (y6 + 4)) : Int).toNat * 1 = 0 + ((IntKind.i64.wrap (y6 + 4)) : Int).toNat by omega) (Nat.lt_of_lt_of_eq (idx_lt c28 lm27) (ints_length _ _).symm) (by decide) ?_; intro w hp; rw [ints_set] at hp
        refine k_end ?_; intro e268 qe268
        have s2_e268 : e268 2 = .pointer (some ⟨g1, 0, none⟩) := (congrFun qe268 2).trans s2_e267
        have s3_e268 : e268 3 = .pointer (some ⟨g2, 0, none⟩) := (congrFun qe268 3).trans s3_e267
        have s4_e268 : e268 4 = .pointer (some ⟨g3, 0, none⟩) := (congrFun qe268 4).trans s4_e267
        have s5_e268 : e268 5 = .pointer (some ⟨g4, 0, none⟩) := (congrFun qe268 5).trans s5_e267
        have s19_e268 : e268 19 = .int .i64 y6 := (congrFun qe268 19).trans s19_e267
        clear qe268
        refine wregionT postilionref04_Times.o20 (.tp 0 (.tp 1 (.done))) [] rfl rfl (by kernel_rfl) (by kernel_rfl) ?_
        refine k_bin (X := .int .i64 y6) (Y := .int .i64 1) rfl s19_e268 rfl rfl ?_
        refine k_move (v := .int .i64 (IntKind.i64.wrap (y6 + 1))) rfl rfl ?_
        refine k_end ?_; intro e269 qe269
        have s2_e269 : e269 2 = .pointer (some ⟨g1, 0, none⟩) := (congrFun qe269 2).trans s2_e268
        have s3_e269 : e269 3 = .pointer (some ⟨g2, 0, none⟩) := (congrFun qe269 3).trans s3_e268
        have s4_e269 : e269 4 = .pointer (some ⟨g3, 0, none⟩) := (congrFun qe269 4).trans s4_e268
        have s5_e269 : e269 5 = .pointer (some ⟨g4, 0, none⟩) := (congrFun qe269 5).trans s5_e268
        obtain ⟨x29, qx29, h⟩ := lt_e h
        have s19_e269 : e269 19 = .int .i64 x29 := (congrFun qe269 19).trans (congrArg (Value.int .i64) qx29.symm)
        clear qe269
        exact ih (m27.set ((IntKind.i64.wrap (y6 + 4)) : Int).toNat m26) x29 _ _ (List.length_set.trans lm27) s2_e269 s3_e269 s4_e269 s5_e269 s19_e269 (hp.drop (L' := [⟨g1, 0, ints .u64 a0⟩, ⟨g2, 0, ints .u64 a1⟩, ⟨g3, 0, ints .u64 (List.replicate 4 (0 : Int))⟩, ⟨g4, 0, ints .u64 (m27.set ((IntKind.i64.wrap (y6 + 4)) : Int).toNat m26)⟩]) (List.Sublist.refl _)) h
    · replace h := br_f hb h
      refine wexit rfl ?_
      exact hQ0 _ _ y5 ly5 s4_e252 s5_e252 (hp.drop (L' := [⟨g1, 0, ints .u64 a0⟩, ⟨g2, 0, ints .u64 a1⟩, ⟨g3, 0, ints .u64 (List.replicate 4 (0 : Int))⟩, ⟨g4, 0, ints .u64 y5⟩]) (List.Sublist.refl _)) (Option.some.inj h).symm
set_option maxHeartbeats 4000000 in
theorem postilionref04_Times.p3_ok {w0 : World} {Ws : List Wr} {Q : Exit → Env → World → Prop} (g1 g2 g3 g32 g4 : Nat) (a0 : List Int) (a1 : List Int) (m31 : List Int) (la0 : a0.length = 4) (la1 : a1.length = 4) (lm31 : m31.length = 8) {r : Int × Int × List Int} (hQ0 : ∀ (e' : Env) (w' : World) (z0 : Int) (z1 : Int) (z2 : List Int), z2.length = 4 → e' 4 = .pointer (some ⟨g3, 0, none⟩) → e' 12 = .pointer (some ⟨g32, 0, none⟩) → e' 13 = .int .u64 z0 → e' 14 = .int .u64 z1 → Hp w0 Ws w' [⟨g1, 0, ints .u64 a0⟩, ⟨g2, 0, ints .u64 a1⟩, ⟨g3, 0, ints .u64 (List.replicate 4 (0 : Int))⟩, ⟨g4, 0, ints .u64 m31⟩, ⟨g32, 0, ints .u64 z2⟩] [] → r = (z0, z1, z2) → Q (.exit 4) e' w') : ∀ (k : Nat), ∀ (y34 : List Int) (y35 : Int) (y36 : Int) (y37 : Int) (e : Env) (w : World) (ly34 : y34.length = 4) (s4_e : e 4 = .pointer (some ⟨g3, 0, none⟩)) (s5_e : e 5 = .pointer (some ⟨g4, 0, none⟩)) (s12_e : e 12 = .pointer (some ⟨g32, 0, none⟩)) (s13_e : e 13 = .int .u64 y35) (s14_e : e 14 = .int .u64 y36) (s78_e : e 78 = .int .i64 y37) (hp : Hp w0 Ws w [⟨g1, 0, ints .u64 a0⟩, ⟨g2, 0, ints .u64 a1⟩, ⟨g3, 0, ints .u64 (List.replicate 4 (0 : Int))⟩, ⟨g4, 0, ints .u64 m31⟩, ⟨g32, 0, ints .u64 y34⟩] []) (h : postilionref04_Times.p3 k m31 y34 y35 y36 y37 = some r), Lp Try.prog Try.f34.ntmps (at_ (fbody Try.f34) [1, 1, 1, 1, 1, 1, 0, 1, 0, 0]) Q k e w := by
  intro k
  induction k with
  | zero => intro y34 y35 y36 y37 e w ly34 s4_e s5_e s12_e s13_e s14_e s78_e hp h; cases h
  | succ k ih =>
    intro y34 y35 y36 y37 e w ly34 s4_e s5_e s12_e s13_e s14_e s78_e hp h
    unfold postilionref04_Times.p3 at h
    show Wp _ _ _ _ _ _
    refine wseqP (p0 := [1, 1, 1, 1, 1, 1, 0, 1, 0, 0, 0]) (p1 := [1, 1, 1, 1, 1, 1, 0, 1, 0, 0, 1]) rfl rfl rfl ?_
    refine wregionT postilionref04_Times.o25 (.tp 0 (.done)) [] rfl rfl (by kernel_rfl) (by kernel_rfl) ?_
    refine k_bin (X := .int .i64 y37) (Y := .int .i64 4) rfl s78_e rfl rfl ?_
    refine k_end ?_; intro e275 qe275
    have s4_e275 : e275 4 = .pointer (some ⟨g3, 0, none⟩) := (congrFun qe275 4).trans s4_e
    have s5_e275 : e275 5 = .pointer (some ⟨g4, 0, none⟩) := (congrFun qe275 5).trans s5_e
    have s12_e275 : e275 12 = .pointer (some ⟨g32, 0, none⟩) := (congrFun qe275 12).trans s12_e
    have s13_e275 : e275 13 = .int .u64 y35 := (congrFun qe275 13).trans s13_e
    have s14_e275 : e275 14 = .int .u64 y36 := (congrFun qe275 14).trans s14_e
    have s78_e275 : e275 78 = .int .i64 y37 := (congrFun qe275 78).trans s78_e
    have s79_e275 : e275 79 = .bool (decide (y37 < 4)) := congrFun qe275 79
    clear qe275
    refine wseqP (p0 := [1, 1, 1, 1, 1, 1, 0, 1, 0, 0, 1, 0]) (p1 := [1, 1, 1, 1, 1, 1, 0, 1, 0, 0, 1, 1]) rfl rfl rfl ?_
    refine wcondP (p0 := [1, 1, 1, 1, 1, 1, 0, 1, 0, 0, 1, 0, 0]) (p1 := [1, 1, 1, 1, 1, 1, 0, 1, 0, 0, 1, 0, 1]) (t := (decide (y37 < 4))) rfl rfl rfl (by decide) s79_e275 (fun hb => ?_) (fun hb => ?_)
    · replace h := br_t hb h
      refine wskip rfl ?_
      refine wseqP (p0 := [1, 1, 1, 1, 1, 1, 0, 1, 0, 0, 1, 1, 0]) (p1 := [1, 1, 1, 1, 1, 1, 0, 1, 0, 0, 1, 1, 1]) rfl rfl rfl ?_
      refine wblockP (p0 := [1, 1, 1, 1, 1, 1, 0, 1, 0, 0, 1, 1, 0, 0]) 5 rfl rfl ?_
      refine wseqP (p0 := [1, 1, 1, 1, 1, 1, 0, 1, 0, 0, 1, 1, 0, 0, 0]) (p1 := [1, 1, 1, 1, 1, 1, 0, 1, 0, 0, 1, 1, 0, 0, 1]) rfl rfl rfl ?_
      refine wregionT postilionref04_Times.o26 (.tp 0 (.tp 1 (.done))) [] rfl rfl (by kernel_rfl) (by kernel_rfl) ?_
      refine k_move (v := .int .i64 y37) rfl s78_e275 ?_
      refine k_assign (v := .int .i64 y37) rfl rfl ?_
      refine k_end ?_; intro e276 qe276
      have s4_e276 : e276 4 = .pointer (some ⟨g3, 0, none⟩) := (congrFun qe276 4).trans s4_e275
      have s5_e276 : e276 5 = .pointer (some ⟨g4, 0, none⟩) := (congrFun qe276 5).trans s5_e275
      have s12_e276 : e276 12 = .pointer (some ⟨g32, 0, none⟩) := (congrFun qe276 12).trans s12_e275
      have s13_e276 : e276 13 = .int .u64 y35 := (congrFun qe276 13).trans s13_e275
      have s14_e276 : e276 14 = .int .u64 y36 := (congrFun qe276 14).trans s14_e275
      have s15_e276 : e276 15 = .int .i64 y37 := congrFun qe276 15
      have s78_e276 : e276 78 = .int .i64 y37 := (congrFun qe276 78).trans s78_e275
      clear qe276
      refine wseqP (p0 := [1, 1, 1, 1, 1, 1, 0, 1, 0, 0, 1, 1, 0, 0, 1, 0]) (p1 := [1, 1, 1, 1, 1, 1, 0, 1, 0, 0, 1, 1, 0, 0, 1, 1]) rfl rfl rfl ?_
      refine wregionT postilionref04_Times.o27 (.tp 0 (.tp 1 (.tp 2 (.tk 3 (.ef 4 (.tp 5 (.tp 6 (.tp 7 (.tp 8 (.tp 9 (.done))))))))))) [] rfl rfl (by kernel_rfl) (by kernel_rfl) ?_
      refine k_move (v := .int .i64 y37) rfl s15_e276 ?_
      refine k_bin (X := .int .i64 y37) (Y := .int .i64 4) rfl rfl rfl rfl ?_
      obtain ⟨c38, h⟩ := chk_e h
      refine k_indexA (n := 8) (s := 1) (j := (IntKind.i64.wrap (y37 + 4))) rfl Try.underlying68 (by kernel_rfl) s5_e276 rfl c38 ?_
      refine k_load (j := ((IntKind.i64.wrap (y37 + 4)) : Int).toNat) (v := .int .u64 (m31.getD ((IntKind.i64.wrap (y37 + 4)) : Int).toNat 0)) rfl (by kernel_rfl) rfl (hp.get (j := 3) rfl) rfl (show 0 + ((IntKind.i64.wrap (y37 + 4)) : Int).toNat * 1 = 0 + ((IntKind.i64.wrap (y37 + 4)) : Int).toNat by omega) (ints_get (idx_lt c38 lm31)) ?_
      obtain ⟨r39, qr39, h⟩ := bd_e h
      refine k_call [.int .u64 (m31.getD ((IntKind.i64.wrap (y37 + 4)) : Int).toNat 0), .int .u64 38] rfl (by kernel_rfl) (args2 rfl rfl) (math_bits_Mul64_ok (m31.getD ((IntKind.i64.wrap (y37 + 4)) : Int).toNat 0) 38  _ (hp.toR (fun _ h => by cases h)) qr39) ?_
      rintro _ w' ⟨_, rfl, rfl, hpc⟩
      refine ⟨_, rfl, .inr (.of_below hpc.chg.to_below), ?_⟩; have hp := hp.below hpc.chg.to_below; clear hpc
      refine k_move (v := .tuple #[.int .u64 r39.1, .int .u64 r39.2]) rfl rfl ?_
      refine k_extract (v := .int .u64 r39.1) rfl rfl rfl ?_
      refine k_extract (v := .int .u64 r39.2) rfl rfl rfl ?_
      refine k_assign (v := .int .u64 r39.1) rfl rfl ?_
      refine k_assign (v := .int .u64 r39.2) rfl rfl ?_
      refine k_end ?_; intro e277 qe277
      have s4_e277 : e277 4 = .pointer (some ⟨g3, 0, none⟩) := (congrFun qe277 4).trans s4_e276
      have s5_e277 : e277 5 = .pointer (some ⟨g4, 0, none⟩) := (congrFun qe277 5).trans s5_e276
      have s12_e277 : e277 12 = .pointer (some ⟨g32, 0, none⟩) := (congrFun qe277 12).trans s12_e276
      have s13_e277 : e277 13 = .int .u64 y35 := (congrFun qe277 13).trans s13_e276
      have s14_e277 : e277 14 = .int .u64 y36 := (congrFun qe277 14).trans s14_e276
      have s15_e277 : e277 15 = .int .i64 y37 := (congrFun qe277 15).trans s15_e276
      obtain ⟨x40, qx40, h⟩ := lt_e h
      have s16_e277 : e277 16 = .int .u64 x40 := (congrFun qe277 16).trans (congrArg (Value.int .u64) qx40.symm)
      obtain ⟨x41, qx41, h⟩ := lt_e h
      have s17_e277 : e277 17 = .int .u64 x41 := (congrFun qe277 17).trans (congrArg (Value.int .u64) qx41.symm)
      have s78_e277 : e277 78 = .int .i64 y37 := (congrFun qe277 78).trans s78_e276
      clear qe277
      refine wseqP (p0 := [1, 1, 1, 1, 1, 1, 0, 1, 0, 0, 1, 1, 0, 0, 1, 1, 0]) (p1 := [1, 1, 1, 1, 1, 1, 0, 1, 0, 0, 1, 1, 0, 0, 1, 1, 1]) rfl rfl rfl ?_
      refine wregionT postilionref04_Times.o28 (.tp 0 (.done)) [] rfl rfl (by kernel_rfl) (by kernel_rfl) ?_
      refine k_assign (v := .int .u64 0) rfl rfl ?_
      refine k_end ?_; intro e278 qe278
      have s4_e278 : e278 4 = .pointer (some ⟨g3, 0, none⟩) := (congrFun qe278 4).trans s4_e277
      have s5_e278 : e278 5 = .pointer (some ⟨g4, 0, none⟩) := (congrFun qe278 5).trans s5_e277
      have s12_e278 : e278 12 = .pointer (some ⟨g32, 0, none⟩) := (congrFun qe278 12).trans s12_e277
      have s13_e278 : e278 13 = .int .u64 y35 := (congrFun qe278 13).trans s13_e277
      have s14_e278 : e278 14 = .int .u64 y36 := (congrFun qe278 14).trans s14_e277
      have s15_e278 : e278 15 = .int .i64 y37 := (congrFun qe278 15).trans s15_e277
      have s16_e278 : e278 16 = .int .u64 x40 := (congrFun qe278 16).trans s16_e277
      have s17_e278 : e278 17 = .int .u64 x41 := (congrFun qe278 17).trans s17_e277
      have s78_e278 : e278 78 = .int .i64 y37 := (congrFun qe278 78).trans s78_e277
      clear qe278
      refine wseqP (p0 := [1, 1, 1, 1, 1, 1, 0, 1, 0, 0, 1, 1, 0, 0, 1, 1, 1, 0]) (p1 := [1, 1, 1, 1, 1, 1, 0, 1, 0, 0, 1, 1, 0, 0, 1, 1, 1, 1]) rfl rfl rfl ?_
      refine wregionT postilionref04_Times.o29 (.tp 0 (.tp 1 (.tp 2 (.tp 3 (.tp 4 (.tp 5 (.tp 6 (.tp 7 (.done))))))))) [] rfl rfl (by kernel_rfl) (by kernel_rfl) ?_
      refine k_move (v := .int .u64 x41) rfl s17_e278 ?_
      refine k_move (v := .int .u64 y35) rfl s13_e278 ?_
      obtain ⟨c42, h⟩ := chk_e h
      refine k_ext [.int .u64 x41, .int .u64 y35, .int .u64 0] rfl ext43 (args3 rfl rfl rfl) (fun w' => run_add64 x41 y35 0 c42.1 c42.2.1 c42.2.2.1 c42.2.2.2 w') ?_
      refine k_move (v := .tuple #[.int .u64 ((x41 + y35 + 0) % 18446744073709551616), .int .u64 ((x41 + y35 + 0) / 18446744073709551616)]) rfl rfl ?_
      refine k_extract (v := .int .u64 ((x41 + y35 + 0) % 18446744073709551616)) rfl rfl rfl ?_
      refine k_extract (v := .int .u64 ((x41 + y35 + 0) / 18446744073709551616)) rfl rfl rfl ?_
      refine k_assign (v := .int .u64 ((x41 + y35 + 0) % 18446744073709551616)) rfl rfl ?_
      refine k_assign (v := .int .u64 ((x41 + y35 + 0) / 18446744073709551616)) rfl rfl ?_
      refine k_end ?_; intro e279 qe279
      have s4_e279 : e279 4 = .pointer (some ⟨g3, 0, none⟩) := (congrFun qe279 4).trans s4_e278
      have s5_e279 : e279 5 = .pointer (some ⟨g4, 0, none⟩) := (congrFun qe279 5).trans s5_e278
      have s12_e279 : e279 12 = .pointer (some ⟨g32, 0, none⟩) := (congrFun qe279 12).trans s12_e278
      have s14_e279 : e279 14 = .int .u64 y36 := (congrFun qe279 14).trans s14_e278
      have s15_e279 : e279 15 = .int .i64 y37 := (congrFun qe279 15).trans s15_e278
      have s16_e279 : e279 16 = .int .u64 x40 := (congrFun qe279 16).trans s16_e278
      obtain ⟨x43, qx43, h⟩ := lt_e h
      have s17_e279 : e279 17 = .int .u64 x43 := (congrFun qe279 17).trans (congrArg (Value.int .u64) qx43.symm)
      obtain ⟨x44, qx44, h⟩ := lt_e h
      have s18_e279 : e279 18 = .int .u64 x44 := (congrFun qe279 18).trans (congrArg (Value.int .u64) qx44.symm)
      have s78_e279 : e279 78 = .int .i64 y37 := (congrFun qe279 78).trans s78_e278
      clear qe279
      refine wseqP (p0 := [1, 1, 1, 1, 1, 1, 0, 1, 0, 0, 1, 1, 0, 0, 1, 1, 1, 1, 0]) (p1 := [1, 1, 1, 1, 1, 1, 0, 1, 0, 0, 1, 1, 0, 0, 1, 1, 1, 1, 1]) rfl rfl rfl ?_
      refine wregionT postilionref04_Times.o30 (.tp 0 (.tp 1 (.tp 2 (.tp 3 (.done))))) [] rfl rfl (by kernel_rfl) (by kernel_rfl) ?_
      refine k_move (v := .int .u64 x40) rfl s16_e279 ?_
      refine k_move (v := .int .u64 x44) rfl s18_e279 ?_
      refine k_bin (X := .int .u64 x40) (Y := .int .u64 x44) rfl rfl rfl rfl ?_
      refine k_assign (v := .int .u64 (IntKind.u64.wrap (x40 + x44))) rfl rfl ?_
      refine k_end ?_; intro e280 qe280
      have s4_e280 : e280 4 = .pointer (some ⟨g3, 0, none⟩) := (congrFun qe280 4).trans s4_e279
      have s5_e280 : e280 5 = .pointer (some ⟨g4, 0, none⟩) := (congrFun qe280 5).trans s5_e279
      have s12_e280 : e280 12 = .pointer (some ⟨g32, 0, none⟩) := (congrFun qe280 12).trans s12_e279
      obtain ⟨x45, qx45, h⟩ := lt_e h
      have s13_e280 : e280 13 = .int .u64 x45 := (congrFun qe280 13).trans (congrArg (Value.int .u64) qx45.symm)
      have s14_e280 : e280 14 = .int .u64 y36 := (congrFun qe280 14).trans s14_e279
      have s15_e280 : e280 15 = .int .i64 y37 := (congrFun qe280 15).trans s15_e279
      have s17_e280 : e280 17 = .int .u64 x43 := (congrFun qe280 17).trans s17_e279
      have s78_e280 : e280 78 = .int .i64 y37 := (congrFun qe280 78).trans s78_e279
      clear qe280
      refine wregionT postilionref04_Times.o31 (.tp 0 (.tp 1 (.tp 2 (.tk 3 (.tp 4 (.tp 5 (.tp 6 (.tp 7 (.tp 8 (.tp 9 (.tp 10 (.ef 11 (.tp 12 (.done)))))))))))))) [11] rfl rfl (by kernel_rfl) (by kernel_rfl) ?_
      refine k_move (v := .int .i64 y37) rfl s15_e280 ?_
      refine k_move (v := .int .i64 y37) rfl s15_e280 ?_
      obtain ⟨c46, h⟩ := chk_e h
      refine k_indexA (n := 4) (s := 1) (j := y37) rfl Try.underlying48 (by kernel_rfl) s12_e280 rfl c46 ?_
      refine k_load (j := (y37 : Int).toNat) (v := .int .u64 (y34.getD (y37 : Int).toNat 0)) rfl (by kernel_rfl) rfl (hp.get (j := 4) rfl) rfl (show 0 + (y37 : Int).toNat * 1 = 0 + (y37 : Int).toNat by omega) (ints_get (idx_lt c46 ly34)) ?_
      refine k_move (v := .int .u64 x43) rfl s17_e280 ?_
      refine k_move (v := .int .u64 y36) rfl s14_e280 ?_
      obtain ⟨c47, h⟩ := chk_e h
      refine k_ext [.int .u64 (y34.getD (y37 : Int).toNat 0), .int .u64 x43, .int .u64 y36] rfl ext43 (args3 rfl rfl rfl) (fun w' => run_add64 (y34.getD (y37 : Int).toNat 0) x43 y36 c47.1 c47.2.1 c47.2.2.1 c47.2.2.2 w') ?_
      refine k_move (v := .tuple #[.int .u64 (((y34.getD (y37 : Int).toNat 0) + x43 + y36) % 18446744073709551616), .int .u64 (((y34.getD (y37 : Int).toNat 0) + x43 + y36) / 18446744073709551616)]) rfl rfl ?_
      refine k_extract (v := .int .u64 (((y34.getD (y37 : Int).toNat 0) + x43 + y36) % 18446744073709551616)) rfl rfl rfl ?_
      refine k_extract (v := .int .u64 (((y34.getD (y37 : Int).toNat 0) + x43 + y36) / 18446744073709551616)) rfl rfl rfl ?_
      refine k_indexA (n := 4) (s := 1) (j := y37) rfl Try.underlying48 (by kernel_rfl) s12_e280 rfl c46 ?_
      refine k_store (v := .int .u64 (((y34.getD (y37 : Int).toNat 0) + x43 + y36) % 18446744073709551616)) 4 (y37 : Int).toNat (r := ⟨g32, 0, ints .u64 y34⟩) rfl (by kernel_rfl) rfl rfl rfl hp rfl rfl (show 0 + (y37 : Int).toNat * 1 = 0 + (y37 : Int).toNat by omega) (Nat.lt_of_lt_of_eq (idx_lt c46 ly34) (ints_length _ _).symm) (by decide) ?_; intro w hp; rw [ints_set] at hp
      refine k_assign (v := .int .u64 (((y34.getD (y37 : Int).toNat 0) + x43 + y36) / 18446744073709551616)) rfl rfl ?_
      refine k_end ?_; intro e281 qe281
      have s4_e281 : e281 4 = .pointer (some ⟨g3, 0, none⟩) := (congrFun qe281 4).trans s4_e280
      have s5_e281 : e281 5 = .pointer (some ⟨g4, 0, none⟩) := (congrFun qe281 5).trans s5_e280
      have s12_e281 : e281 12 = .pointer (some ⟨g32, 0, none⟩) := (congrFun qe281 12).trans s12_e280
      have s13_e281 : e281 13 = .int .u64 x45 := (congrFun qe281 13).trans s13_e280
      obtain ⟨x48, qx48, h⟩ := lt_e h
      have s14_e281 : e281 14 = .int .u64 x48 := (congrFun qe281 14).trans (congrArg (Value.int .u64) qx48.symm)
      have s78_e281 : e281 78 = .int .i64 y37 := (congrFun qe281 78).trans s78_e280
      clear qe281
      obtain ⟨x49, qx49, h⟩ := lt_e h
      have lx49 : x49.length = 4 := (congrArg List.length qx49).trans (List.length_set.trans ly34)
      have hp : Hp w0 Ws w [⟨g1, 0, ints .u64 a0⟩, ⟨g2, 0, ints .u64 a1⟩, ⟨g3, 0, ints .u64 (List.replicate 4 (0 : Int))⟩, ⟨g4, 0, ints .u64 m31⟩, ⟨g32, 0, ints .u64 x49⟩] [] := by rw [qx49]; exact hp
      refine wregionT postilionref04_Times.o32 (.tp 0 (.tp 1 (.done))) [] rfl rfl (by kernel_rfl) (by kernel_rfl) ?_
      refine k_bin (X := .int .i64 y37) (Y := .int .i64 1) rfl s78_e281 rfl rfl ?_
      refine k_move (v := .int .i64 (IntKind.i64.wrap (y37 + 1))) rfl rfl ?_
      refine k_end ?_; intro e282 qe282
      have s4_e282 : e282 4 = .pointer (some ⟨g3, 0, none⟩) := (congrFun qe282 4).trans s4_e281
      have s5_e282 : e282 5 = .pointer (some ⟨g4, 0, none⟩) := (congrFun qe282 5).trans s5_e281
      have s12_e282 : e282 12 = .pointer (some ⟨g32, 0, none⟩) := (congrFun qe282 12).trans s12_e281
      have s13_e282 : e282 13 = .int .u64 x45 := (congrFun qe282 13).trans s13_e281
      have s14_e282 : e282 14 = .int .u64 x48 := (congrFun qe282 14).trans s14_e281
      obtain ⟨x50, qx50, h⟩ := lt_e h
      have s78_e282 : e282 78 = .int .i64 x50 := (congrFun qe282 78).trans (congrArg (Value.int .i64) qx50.symm)
      clear qe282
      exact ih x49 x45 x48 x50 _ _ lx49 s4_e282 s5_e282 s12_e282 s13_e282 s14_e282 s78_e282 (hp.drop (L' := [⟨g1, 0, ints .u64 a0⟩, ⟨g2, 0, ints .u64 a1⟩, ⟨g3, 0, ints .u64 (List.replicate 4 (0 : Int))⟩, ⟨g4, 0, ints .u64 m31⟩, ⟨g32, 0, ints .u64 x49⟩]) (List.Sublist.refl _)) h
    · replace h := br_f hb h
      refine wexit rfl ?_
      exact hQ0 _ _ y35 y36 y34 ly34 s4_e275 s12_e275 s13_e275 s14_e275 (hp.drop (L' := [⟨g1, 0, ints .u64 a0⟩, ⟨g2, 0, ints .u64 a1⟩, ⟨g3, 0, ints .u64 (List.replicate 4 (0 : Int))⟩, ⟨g4, 0, ints .u64 m31⟩, ⟨g32, 0, ints .u64 y34⟩]) (List.Sublist.refl _)) (Option.some.inj h).symm
theorem postilionref04_Times_ok (k : Nat) (a0 : List Int) (a1 : List Int) (la0 : a0.length = 4) (la1 : a1.length = 4) (w0 : World) (hp : Hp w0 [] w0 [] []) {r : List Int} (h : postilionref04_Times.f k a0 a1 = some r) :
    Calls Try.prog 34 [.agg (ints .u64 a0).toArray, .agg (ints .u64 a1).toArray].toArray w0 fun x w' => ∃ v, x = .returned v ∧ v = .agg (ints .u64 r).toArray ∧ r.length = 4 ∧ Hp w0 [] w' [] [] := by
  refine calls_inP Try.func34 rfl (Nat.le_of_ble_eq_true (by kernel_rfl)) (by kernel_rfl) ?_
  intro e0 qe0
  have s0_e0 : e0 0 = .agg (ints .u64 a0).toArray := congrFun qe0 0
  have s1_e0 : e0 1 = .agg (ints .u64 a1).toArray := congrFun qe0 1
  clear qe0
  unfold postilionref04_Times.f at h
  refine wseqP (p0 := [0]) (p1 := [1]) rfl rfl rfl ?_
  refine wregionT postilionref04_Times.o1 (.ef 0 (.ef 1 (.ef 2 (.done)))) [] rfl rfl (by kernel_rfl) (by kernel_rfl) ?_
  refine k_box (v := .agg (ints .u64 a0).toArray) (ints .u64 a0) rfl s0_e0 rfl hp ?_
  intro g1 w hbg1 hp
  refine k_box (v := .agg (ints .u64 a1).toArray) (ints .u64 a1) rfl s1_e0 rfl hp ?_
  intro g2 w hbg2 hp
  refine k_alloc (ints .u64 (List.replicate 4 (0 : Int))) rfl (by kernel_rfl) hp ?_
  intro g3 w hbg3 hp
  refine k_end ?_; intro e249 qe249
  have s2_e249 : e249 2 = .pointer (some ⟨g1, 0, none⟩) := congrFun qe249 2
  have s3_e249 : e249 3 = .pointer (some ⟨g2, 0, none⟩) := congrFun qe249 3
  have s4_e249 : e249 4 = .pointer (some ⟨g3, 0, none⟩) := congrFun qe249 4
  clear qe249
  refine wseqP (p0 := [1, 0]) (p1 := [1, 1]) rfl rfl rfl ?_
  refine wregionT postilionref04_Times.o2 (.ef 0 (.done)) [] rfl rfl (by kernel_rfl) (by kernel_rfl) ?_
  refine k_alloc (ints .u64 (List.replicate 8 (0 : Int))) rfl (by kernel_rfl) hp ?_
  intro g4 w hbg4 hp
  refine k_end ?_; intro e250 qe250
  have s2_e250 : e250 2 = .pointer (some ⟨g1, 0, none⟩) := (congrFun qe250 2).trans s2_e249
  have s3_e250 : e250 3 = .pointer (some ⟨g2, 0, none⟩) := (congrFun qe250 3).trans s3_e249
  have s4_e250 : e250 4 = .pointer (some ⟨g3, 0, none⟩) := (congrFun qe250 4).trans s4_e249
  have s5_e250 : e250 5 = .pointer (some ⟨g4, 0, none⟩) := congrFun qe250 5
  clear qe250
  refine wseqP (p0 := [1, 1, 0]) (p1 := [1, 1, 1]) rfl rfl rfl ?_
  refine wseqP (p0 := [1, 1, 0, 0]) (p1 := [1, 1, 0, 1]) rfl rfl rfl ?_
  refine wregionT postilionref04_Times.o3 (.tp 0 (.done)) [] rfl rfl (by kernel_rfl) (by kernel_rfl) ?_
  refine k_move (v := .int .i64 0) rfl rfl ?_
  refine k_end ?_; intro e251 qe251
  have s2_e251 : e251 2 = .pointer (some ⟨g1, 0, none⟩) := (congrFun qe251 2).trans s2_e250
  have s3_e251 : e251 3 = .pointer (some ⟨g2, 0, none⟩) := (congrFun qe251 3).trans s3_e250
  have s4_e251 : e251 4 = .pointer (some ⟨g3, 0, none⟩) := (congrFun qe251 4).trans s4_e250
  have s5_e251 : e251 5 = .pointer (some ⟨g4, 0, none⟩) := (congrFun qe251 5).trans s5_e250
  have s19_e251 : e251 19 = .int .i64 0 := congrFun qe251 19
  clear qe251
  refine wblockP (p0 := [1, 1, 0, 1, 0]) 0 rfl rfl ?_
  obtain ⟨r30, qr30, h⟩ := bd_e h
  refine wloopP (p0 := [1, 1, 0, 1, 0, 0]) k rfl rfl (postilionref04_Times.p1_ok g1 g2 g3 g4 a0 a1 la0 la1 ?hq0 k (List.replicate 8 (0 : Int)) 0 e251 _ List.length_replicate s2_e251 s3_e251 s4_e251 s5_e251 s19_e251 hp qr30)
  case hq0 =>
    intro e270 w m31 lm31 s4_e270 s5_e270 hp qq
    rw [qq] at h; clear qq
    refine wseqP (p0 := [1, 1, 1, 0]) (p1 := [1, 1, 1, 1]) rfl rfl rfl ?_
    refine wregionT postilionref04_Times.o21 (.tp 0 (.tk 1 (.tp 2 (.tk 3 (.tp 4 (.tk 5 (.tp 6 (.tk 7 (.tp 8 (.ef 9 (.ef 10 (.done)))))))))))) [10] rfl rfl (by kernel_rfl) (by kernel_rfl) ?_
    refine k_indexA (n := 8) (s := 1) (j := 0) rfl Try.underlying68 (by kernel_rfl) s5_e270 rfl (by decide) ?_
    refine k_load (j := 0) (v := .int .u64 (m31.getD 0 0)) rfl (by kernel_rfl) rfl (hp.get (j := 3) rfl) rfl rfl (ints_get (Nat.lt_of_lt_of_eq (m := 8) (by decide) (lm31).symm)) ?_
    refine k_indexA (n := 8) (s := 1) (j := 1) rfl Try.underlying68 (by kernel_rfl) s5_e270 rfl (by decide) ?_
    refine k_load (j := 1) (v := .int .u64 (m31.getD 1 0)) rfl (by kernel_rfl) rfl (hp.get (j := 3) rfl) rfl rfl (ints_get (Nat.lt_of_lt_of_eq (m := 8) (by decide) (lm31).symm)) ?_
    refine k_indexA (n := 8) (s := 1) (j := 2) rfl Try.underlying68 (by kernel_rfl) s5_e270 rfl (by decide) ?_
    refine k_load (j := 2) (v := .int .u64 (m31.getD 2 0)) rfl (by kernel_rfl) rfl (hp.get (j := 3) rfl) rfl rfl (ints_get (Nat.lt_of_lt_of_eq (m := 8) (by decide) (lm31).symm)) ?_
    refine k_indexA (n := 8) (s := 1) (j := 3) rfl Try.underlying68 (by kernel_rfl) s5_e270 rfl (by decide) ?_
    refine k_load (j := 3) (v := .int .u64 (m31.getD 3 0)) rfl (by kernel_rfl) rfl (hp.get (j := 3) rfl) rfl rfl (ints_get (Nat.lt_of_lt_of_eq (m := 8) (by decide) (lm31).symm)) ?_
    refine k_build (v := .agg (ints .u64 [(m31.getD 0 0), (m31.getD 1 0), (m31.getD 2 0), (m31.getD 3 0)]).toArray) rfl (fun _ => by kernel_rfl) ?_
    refine k_alloc (ints .u64 (List.replicate 4 (0 : Int))) rfl (by kernel_rfl) hp ?_
    intro g32 w hbg32 hp
    refine k_storeA (v := .agg (ints .u64 [(m31.getD 0 0), (m31.getD 1 0), (m31.getD 2 0), (m31.getD 3 0)]).toArray) 4 0 (r := ⟨g32, 0, ints .u64 (List.replicate 4 (0 : Int))⟩) (ints .u64 [(m31.getD 0 0), (m31.getD 1 0), (m31.getD 2 0), (m31.getD 3 0)]) (ints .u64 [(m31.getD 0 0), (m31.getD 1 0), (m31.getD 2 0), (m31.getD 3 0)]) rfl (n := 4) (by kernel_rfl) rfl rfl rfl ((ints_length _ _).trans (rfl : List.length ([(m31.getD 0 0), (m31.getD 1 0), (m31.getD 2 0), (m31.getD 3 0)] : List Int) = 4)) (ints_one _ _) hp rfl rfl rfl (Nat.le_of_eq ((Nat.zero_add _).trans ((ints_length _ _).trans List.length_replicate).symm)) (setMany_all _ _ (((ints_length _ _).trans (rfl : List.length ([(m31.getD 0 0), (m31.getD 1 0), (m31.getD 2 0), (m31.getD 3 0)] : List Int) = 4)).trans ((ints_length _ _).trans List.length_replicate).symm)) (by decide) ?_; intro w hp
    refine k_end ?_; intro e271 qe271
    have s4_e271 : e271 4 = .pointer (some ⟨g3, 0, none⟩) := (congrFun qe271 4).trans s4_e270
    have s5_e271 : e271 5 = .pointer (some ⟨g4, 0, none⟩) := (congrFun qe271 5).trans s5_e270
    have s12_e271 : e271 12 = .pointer (some ⟨g32, 0, none⟩) := congrFun qe271 12
    clear qe271
    obtain ⟨x33, qx33, h⟩ := lt_e h
    have lx33 : x33.length = 4 := (congrArg List.length qx33).trans (rfl : List.length ([(m31.getD 0 0), (m31.getD 1 0), (m31.getD 2 0), (m31.getD 3 0)] : List Int) = 4)
    have hp : Hp w0 [] w [⟨g1, 0, ints .u64 a0⟩, ⟨g2, 0, ints .u64 a1⟩, ⟨g3, 0, ints .u64 (List.replicate 4 (0 : Int))⟩, ⟨g4, 0, ints .u64 m31⟩, ⟨g32, 0, ints .u64 x33⟩] [] := by rw [qx33]; exact hp
    refine wseqP (p0 := [1, 1, 1, 1, 0]) (p1 := [1, 1, 1, 1, 1]) rfl rfl rfl ?_
    refine wregionT postilionref04_Times.o22 (.tp 0 (.done)) [] rfl rfl (by kernel_rfl) (by kernel_rfl) ?_
    refine k_assign (v := .int .u64 0) rfl rfl ?_
    refine k_end ?_; intro e272 qe272
    have s4_e272 : e272 4 = .pointer (some ⟨g3, 0, none⟩) := (congrFun qe272 4).trans s4_e271
    have s5_e272 : e272 5 = .pointer (some ⟨g4, 0, none⟩) := (congrFun qe272 5).trans s5_e271
    have s12_e272 : e272 12 = .pointer (some ⟨g32, 0, none⟩) := (congrFun qe272 12).trans s12_e271
    have s13_e272 : e272 13 = .int .u64 0 := congrFun qe272 13
    clear qe272
    refine wseqP (p0 := [1, 1, 1, 1, 1, 0]) (p1 := [1, 1, 1, 1, 1, 1]) rfl rfl rfl ?_
    refine wregionT postilionref04_Times.o23 (.tp 0 (.done)) [] rfl rfl (by kernel_rfl) (by kernel_rfl) ?_
    refine k_assign (v := .int .u64 0) rfl rfl ?_
    refine k_end ?_; intro e273 qe273
    have s4_e273 : e273 4 = .pointer (some ⟨g3, 0, none⟩) := (congrFun qe273 4).trans s4_e272
    have s5_e273 : e273 5 = .pointer (some ⟨g4, 0, none⟩) := (congrFun qe273 5).trans s5_e272
    have s12_e273 : e273 12 = .pointer (some ⟨g32, 0, none⟩) := (congrFun qe273 12).trans s12_e272
    have s13_e273 : e273 13 = .int .u64 0 := (congrFun qe273 13).trans s13_e272
    have s14_e273 : e273 14 = .int .u64 0 := congrFun qe273 14
    clear qe273
    refine wseqP (p0 := [1, 1, 1, 1, 1, 1, 0]) (p1 := [1, 1, 1, 1, 1, 1, 1]) rfl rfl rfl ?_
    refine wseqP (p0 := [1, 1, 1, 1, 1, 1, 0, 0]) (p1 := [1, 1, 1, 1, 1, 1, 0, 1]) rfl rfl rfl ?_
    refine wregionT postilionref04_Times.o24 (.tp 0 (.done)) [] rfl rfl (by kernel_rfl) (by kernel_rfl) ?_
    refine k_move (v := .int .i64 0) rfl rfl ?_
    refine k_end ?_; intro e274 qe274
    have s4_e274 : e274 4 = .pointer (some ⟨g3, 0, none⟩) := (congrFun qe274 4).trans s4_e273
    have s5_e274 : e274 5 = .pointer (some ⟨g4, 0, none⟩) := (congrFun qe274 5).trans s5_e273
    have s12_e274 : e274 12 = .pointer (some ⟨g32, 0, none⟩) := (congrFun qe274 12).trans s12_e273
    have s13_e274 : e274 13 = .int .u64 0 := (congrFun qe274 13).trans s13_e273
    have s14_e274 : e274 14 = .int .u64 0 := (congrFun qe274 14).trans s14_e273
    have s78_e274 : e274 78 = .int .i64 0 := congrFun qe274 78
    clear qe274
    refine wblockP (p0 := [1, 1, 1, 1, 1, 1, 0, 1, 0]) 4 rfl rfl ?_
    obtain ⟨r51, qr51, h⟩ := bd_e h
    refine wloopP (p0 := [1, 1, 1, 1, 1, 1, 0, 1, 0, 0]) k rfl rfl (postilionref04_Times.p3_ok g1 g2 g3 g32 g4 a0 a1 m31 la0 la1 lm31 ?hq0 k x33 0 0 0 e274 _ lx33 s4_e274 s5_e274 s12_e274 s13_e274 s14_e274 s78_e274 hp qr51)
    case hq0 =>
      intro e283 w m52 m53 m54 lm54 s4_e283 s12_e283 s13_e283 s14_e283 hp qq
      rw [qq] at h; clear qq
      refine wseqP (p0 := [1, 1, 1, 1, 1, 1, 1, 0]) (p1 := [1, 1, 1, 1, 1, 1, 1, 1]) rfl rfl rfl ?_
      refine wregionT postilionref04_Times.o33 (.tk 0 (.tp 1 (.tp 2 (.tp 3 (.ef 4 (.ef 5 (.done))))))) [5] rfl rfl (by kernel_rfl) (by kernel_rfl) ?_
      refine k_loadA (n := 4) (xs := ints .u64 m54) 0 rfl (by kernel_rfl) (by kernel_rfl) s12_e283 (hp.get (j := 4) rfl) rfl rfl ((ints_length _ _).trans lm54) (fun m v hm => by rw [Nat.zero_add]; exact hm) ?_
      refine k_move (v := .int .u64 m52) rfl s13_e283 ?_
      refine k_move (v := .int .u64 m53) rfl s14_e283 ?_
      refine k_bin (X := .int .u64 m52) (Y := .int .u64 m53) rfl rfl rfl rfl ?_
      obtain ⟨r55, qr55, h⟩ := bd_e h
      refine k_call [.agg (ints .u64 m54).toArray, .int .u64 (IntKind.u64.wrap (m52 + m53))] rfl (by kernel_rfl) (args2 rfl rfl) (postilionref04_fold_ok k m54 (IntKind.u64.wrap (m52 + m53)) lm54 _ (hp.toR (fun _ h => by cases h)) qr55) ?_
      rintro _ w' ⟨_, rfl, rfl, lr550, hpc⟩
      refine ⟨_, rfl, .inr (.of_below hpc.chg.to_below), ?_⟩; have hp := hp.below hpc.chg.to_below; clear hpc
      refine k_storeA (v := .agg (ints .u64 r55).toArray) 2 0 (r := ⟨g3, 0, ints .u64 (List.replicate 4 (0 : Int))⟩) (ints .u64 r55) (ints .u64 r55) rfl (n := 4) (by kernel_rfl) s4_e283 rfl rfl ((ints_length _ _).trans lr550) (ints_one _ _) hp rfl rfl rfl (Nat.le_of_eq ((Nat.zero_add _).trans ((ints_length _ _).trans List.length_replicate).symm)) (setMany_all _ _ (((ints_length _ _).trans lr550).trans ((ints_length _ _).trans List.length_replicate).symm)) (by decide) ?_; intro w hp
      refine k_end ?_; intro e284 qe284
      have s4_e284 : e284 4 = .pointer (some ⟨g3, 0, none⟩) := (congrFun qe284 4).trans s4_e283
      clear qe284
      refine wret rfl ?_
      have hr : r = r55 := (Option.some.inj h).symm
      show RetP _ _ _ _ _
      rw [hr]
      exact ret_i [.agg (ints .u64 r55).toArray] (res_cell s4_e284 (loadVar_agg (by kernel_rfl) (by kernel_rfl) ((ints_length _ _).trans lr550) (hp.get (j := 2) rfl) rfl rfl rfl) res_nil) ⟨rfl, lr550, hp.none⟩
/-! 47 postilion/postilionref04.Power -/
noncomputable def postilionref04_Power.o1 : Array Oper := opsC (at_ (fbody Try.f47) [0])
noncomputable def postilionref04_Power.o2 : Array Oper := opsC (at_ (fbody Try.f47) [1, 0])
noncomputable def postilionref04_Power.o3 : Array Oper := opsC (at_ (fbody Try.f47) [1, 1, 0, 0])
noncomputable def postilionref04_Power.o4 : Array Oper := opsC (at_ (fbody Try.f47) [1, 1, 0, 1, 0, 0, 0, 0])
noncomputable def postilionref04_Power.o5 : Array Oper := opsC (at_ (fbody Try.f47) [1, 1, 0, 1, 0, 0, 1, 0, 0, 0])
noncomputable def postilionref04_Power.o6 : Array Oper := opsC (at_ (fbody Try.f47) [1, 1, 0, 1, 0, 0, 1, 0, 0, 1, 0])
noncomputable def postilionref04_Power.o7 : Array Oper := opsC (at_ (fbody Try.f47) [1, 1, 0, 1, 0, 0, 1, 0, 0, 1, 1, 0])
noncomputable def postilionref04_Power.o8 : Array Oper := opsC (at_ (fbody Try.f47) [1, 1, 0, 1, 0, 0, 1, 1])
noncomputable def postilionref04_Power.o9 : Array Oper := opsC (at_ (fbody Try.f47) [1, 1, 1, 0])
theorem postilionref04_Power.p3_ok {w0 : World} {Ws : List Wr} {Q : Exit → Env → World → Prop} (k : Nat) (g1 g2 g3 g5 : Nat) (y7 : Int) (t11 : Bool) (a0 : List Int) (a1 : List Int) (r8 : List Int) (la0 : a0.length = 4) (la1 : a1.length = 4) (lr80 : r8.length = 4) {r : List Int} (hQ0 : ∀ (e' : Env) (w' : World) (z0 : List Int), z0.length = 4 → e' 2 = .pointer (some ⟨g1, 0, none⟩) → e' 3 = .pointer (some ⟨g2, 0, none⟩) → e' 4 = .pointer (some ⟨g3, 0, none⟩) → e' 5 = .pointer (some ⟨g5, 0, none⟩) → e' 6 = .int .i64 y7 → Hp w0 Ws w' [⟨g1, 0, ints .u64 a0⟩, ⟨g2, 0, ints .u64 a1⟩, ⟨g3, 0, ints .u64 (List.replicate 4 (0 : Int))⟩, ⟨g5, 0, ints .u64 z0⟩] [] → r = (z0) → Q .normal e' w') (e : Env) (w : World) (s2_e : e 2 = .pointer (some ⟨g1, 0, none⟩)) (s3_e : e 3 = .pointer (some ⟨g2, 0, none⟩)) (s4_e : e 4 = .pointer (some ⟨g3, 0, none⟩)) (s5_e : e 5 = .pointer (some ⟨g5, 0, none⟩)) (s6_e : e 6 = .int .i64 y7) (s24_e : e 24 = .bool t11) (hp : Hp w0 Ws w [⟨g1, 0, ints .u64 a0⟩, ⟨g2, 0, ints .u64 a1⟩, ⟨g3, 0, ints .u64 (List.replicate 4 (0 : Int))⟩, ⟨g5, 0, ints .u64 r8⟩] []) (h : postilionref04_Power.p3 k t11 a0 r8 = some r) : Wp Try.prog Try.f47.ntmps (at_ (fbody Try.f47) [1, 1, 0, 1, 0, 0, 1, 0, 0, 1, 1]) Q e w := by
  unfold postilionref04_Power.p3 at h
  refine wcondP (p0 := [1, 1, 0, 1, 0, 0, 1, 0, 0, 1, 1, 0]) (p1 := [1, 1, 0, 1, 0, 0, 1, 0, 0, 1, 1, 1]) (t := t11) rfl rfl rfl (by decide) s24_e (fun hb => ?_) (fun hb => ?_)
  · replace h := br_t hb h
    refine wregionT postilionref04_Power.o7 (.tk 0 (.tk 1 (.ef 2 (.ef 3 (.done))))) [3] rfl rfl (by kernel_rfl) (by kernel_rfl) ?_
    refine k_loadA (n := 4) (xs := ints .u64 r8) 0 rfl (by kernel_rfl) (by kernel_rfl) s5_e (hp.get (j := 3) rfl) rfl rfl ((ints_length _ _).trans lr80) (fun m v hm => by rw [Nat.zero_add]; exact hm) ?_
    refine k_loadA (n := 4) (xs := ints .u64 a0) 0 rfl (by kernel_rfl) (by kernel_rfl) s2_e (hp.get (j := 0) rfl) rfl rfl ((ints_length _ _).trans la0) (fun m v hm => by rw [Nat.zero_add]; exact hm) ?_
    obtain ⟨r12, qr12, h⟩ := bd_e h
    refine k_call [.agg (ints .u64 r8).toArray, .agg (ints .u64 a0).toArray] rfl (by kernel_rfl) (args2 rfl rfl) (postilionref04_Times_ok k r8 a0 lr80 la0 _ (hp.toR (fun _ h => by cases h)) qr12) ?_
    rintro _ w' ⟨_, rfl, rfl, lr120, hpc⟩
    refine ⟨_, rfl, .inr (.of_below hpc.chg.to_below), ?_⟩; have hp := hp.below hpc.chg.to_below; clear hpc
    refine k_storeA (v := .agg (ints .u64 r12).toArray) 3 0 (r := ⟨g5, 0, ints .u64 r8⟩) (ints .u64 r12) (ints .u64 r12) rfl (n := 4) (by kernel_rfl) s5_e rfl rfl ((ints_length _ _).trans lr120) (ints_one _ _) hp rfl rfl rfl (Nat.le_of_eq ((Nat.zero_add _).trans ((ints_length _ _).trans lr80).symm)) (setMany_all _ _ (((ints_length _ _).trans lr120).trans ((ints_length _ _).trans lr80).symm)) (by decide) ?_; intro w hp
    refine k_end ?_; intro e291 qe291
    have s2_e291 : e291 2 = .pointer (some ⟨g1, 0, none⟩) := (congrFun qe291 2).trans s2_e
    have s3_e291 : e291 3 = .pointer (some ⟨g2, 0, none⟩) := (congrFun qe291 3).trans s3_e
    have s4_e291 : e291 4 = .pointer (some ⟨g3, 0, none⟩) := (congrFun qe291 4).trans s4_e
    have s5_e291 : e291 5 = .pointer (some ⟨g5, 0, none⟩) := (congrFun qe291 5).trans s5_e
    have s6_e291 : e291 6 = .int .i64 y7 := (congrFun qe291 6).trans s6_e
    clear qe291
    exact hQ0 _ _ r12 lr120 s2_e291 s3_e291 s4_e291 s5_e291 s6_e291 (hp.drop (L' := [⟨g1, 0, ints .u64 a0⟩, ⟨g2, 0, ints .u64 a1⟩, ⟨g3, 0, ints .u64 (List.replicate 4 (0 : Int))⟩, ⟨g5, 0, ints .u64 r12⟩]) (List.Sublist.refl _)) (Option.some.inj h).symm
  · replace h := br_f hb h
    refine wskip rfl ?_
    exact hQ0 _ _ r8 lr80 s2_e s3_e s4_e s5_e s6_e (hp.drop (L' := [⟨g1, 0, ints .u64 a0⟩, ⟨g2, 0, ints .u64 a1⟩, ⟨g3, 0, ints .u64 (List.replicate 4 (0 : Int))⟩, ⟨g5, 0, ints .u64 r8⟩]) (List.Sublist.refl _)) (Option.some.inj h).symm
theorem postilionref04_Power.p2_ok {w0 : World} {Ws : List Wr} {Q : Exit → Env → World → Prop} (k : Nat) (g1 g2 g3 g5 : Nat) (y7 : Int) (a0 : List Int) (a1 : List Int) (y6 : List Int) (ly6 : y6.length = 4) (la0 : a0.length = 4) (la1 : a1.length = 4) {r : List Int} (hQ0 : ∀ (e' : Env) (w' : World) (z0 : List Int), z0.length = 4 → e' 2 = .pointer (some ⟨g1, 0, none⟩) → e' 3 = .pointer (some ⟨g2, 0, none⟩) → e' 4 = .pointer (some ⟨g3, 0, none⟩) → e' 5 = .pointer (some ⟨g5, 0, none⟩) → e' 6 = .int .i64 y7 → Hp w0 Ws w' [⟨g1, 0, ints .u64 a0⟩, ⟨g2, 0, ints .u64 a1⟩, ⟨g3, 0, ints .u64 (List.replicate 4 (0 : Int))⟩, ⟨g5, 0, ints .u64 z0⟩] [] → r = (z0) → Q .normal e' w') (e : Env) (w : World) (s2_e : e 2 = .pointer (some ⟨g1, 0, none⟩)) (s3_e : e 3 = .pointer (some ⟨g2, 0, none⟩)) (s4_e : e 4 = .pointer (some ⟨g3, 0, none⟩)) (s5_e : e 5 = .pointer (some ⟨g5, 0, none⟩)) (s6_e : e 6 = .int .i64 y7) (hp : Hp w0 Ws w [⟨g1, 0, ints .u64 a0⟩, ⟨g2, 0, ints .u64 a1⟩, ⟨g3, 0, ints .u64 (List.replicate 4 (0 : Int))⟩, ⟨g5, 0, ints .u64 y6⟩] []) (h : postilionref04_Power.p2 k y7 a0 a1 y6 = some r) : Wp Try.prog Try.f47.ntmps (at_ (fbody Try.f47) [1, 1, 0, 1, 0, 0, 1, 0]) Q e w := by
  unfold postilionref04_Power.p2 at h
  refine wblockP (p0 := [1, 1, 0, 1, 0, 0, 1, 0, 0]) 1 rfl rfl ?_
  refine wseqP (p0 := [1, 1, 0, 1, 0, 0, 1, 0, 0, 0]) (p1 := [1, 1, 0, 1, 0, 0, 1, 0, 0, 1]) rfl rfl rfl ?_
  refine wregionT postilionref04_Power.o5 (.tk 0 (.tk 1 (.ef 2 (.ef 3 (.done))))) [3] rfl rfl (by kernel_rfl) (by kernel_rfl) ?_
  refine k_loadA (n := 4) (xs := ints .u64 y6) 0 rfl (by kernel_rfl) (by kernel_rfl) s5_e (hp.get (j := 3) rfl) rfl rfl ((ints_length _ _).trans ly6) (fun m v hm => by rw [Nat.zero_add]; exact hm) ?_
  refine k_loadA (n := 4) (xs := ints .u64 y6) 0 rfl (by kernel_rfl) (by kernel_rfl) s5_e (hp.get (j := 3) rfl) rfl rfl ((ints_length _ _).trans ly6) (fun m v hm => by rw [Nat.zero_add]; exact hm) ?_
  obtain ⟨r8, qr8, h⟩ := bd_e h
  refine k_call [.agg (ints .u64 y6).toArray, .agg (ints .u64 y6).toArray] rfl (by kernel_rfl) (args2 rfl rfl) (postilionref04_Times_ok k y6 y6 ly6 ly6 _ (hp.toR (fun _ h => by cases h)) qr8) ?_
  rintro _ w' ⟨_, rfl, rfl, lr80, hpc⟩
  refine ⟨_, rfl, .inr (.of_below hpc.chg.to_below), ?_⟩; have hp := hp.below hpc.chg.to_below; clear hpc
  refine k_storeA (v := .agg (ints .u64 r8).toArray) 3 0 (r := ⟨g5, 0, ints .u64 y6⟩) (ints .u64 r8) (ints .u64 r8) rfl (n := 4) (by kernel_rfl) s5_e rfl rfl ((ints_length _ _).trans lr80) (ints_one _ _) hp rfl rfl rfl (Nat.le_of_eq ((Nat.zero_add _).trans ((ints_length _ _).trans ly6).symm)) (setMany_all _ _ (((ints_length _ _).trans lr80).trans ((ints_length _ _).trans ly6).symm)) (by decide) ?_; intro w hp
  refine k_end ?_; intro e289 qe289
  have s2_e289 : e289 2 = .pointer (some ⟨g1, 0, none⟩) := (congrFun qe289 2).trans s2_e
  have s3_e289 : e289 3 = .pointer (some ⟨g2, 0, none⟩) := (congrFun qe289 3).trans s3_e
  have s4_e289 : e289 4 = .pointer (some ⟨g3, 0, none⟩) := (congrFun qe289 4).trans s4_e
  have s5_e289 : e289 5 = .pointer (some ⟨g5, 0, none⟩) := (congrFun qe289 5).trans s5_e
  have s6_e289 : e289 6 = .int .i64 y7 := (congrFun qe289 6).trans s6_e
  clear qe289
  refine wseqP (p0 := [1, 1, 0, 1, 0, 0, 1, 0, 0, 1, 0]) (p1 := [1, 1, 0, 1, 0, 0, 1, 0, 0, 1, 1]) rfl rfl rfl ?_
  refine wregionT postilionref04_Power.o6 (.tp 0 (.tp 1 (.tp 2 (.tk 3 (.tp 4 (.tp 5 (.tp 6 (.tp 7 (.tp 8 (.tp 9 (.done))))))))))) [] rfl rfl (by kernel_rfl) (by kernel_rfl) ?_
  refine k_move (v := .int .i64 y7) rfl s6_e289 ?_
  refine k_quo (a := y7) (b := 64) rfl rfl rfl (by decide) ?_
  obtain ⟨c9, h⟩ := chk_e h
  refine k_indexA (n := 4) (s := 1) (j := (IntKind.i64.wrap (Int.tdiv y7 64))) rfl Try.underlying48 (by kernel_rfl) s3_e289 rfl c9 ?_
  refine k_load (j := ((IntKind.i64.wrap (Int.tdiv y7 64)) : Int).toNat) (v := .int .u64 (a1.getD ((IntKind.i64.wrap (Int.tdiv y7 64)) : Int).toNat 0)) rfl (by kernel_rfl) rfl (hp.get (j := 1) rfl) rfl (show 0 + ((IntKind.i64.wrap (Int.tdiv y7 64)) : Int).toNat * 1 = 0 + ((IntKind.i64.wrap (Int.tdiv y7 64)) : Int).toNat by omega) (ints_get (idx_lt c9 la1)) ?_
  refine k_move (v := .int .i64 y7) rfl s6_e289 ?_
  refine k_rem (a := y7) (b := 64) rfl rfl rfl (by decide) ?_
  refine k_conv (k := .u64) (k' := .i64) (n := (Int.tmod y7 64)) rfl Try.underlying3 Try.underlying41 rfl ?_
  obtain ⟨c10, h⟩ := chk_e h
  refine k_shr (a := (a1.getD ((IntKind.i64.wrap (Int.tdiv y7 64)) : Int).toNat 0)) (b := (IntKind.u64.wrap (Int.tmod y7 64))) rfl rfl rfl c10 ?_
  refine k_bin (X := .int .u64 (Int.fdiv (a1.getD ((IntKind.i64.wrap (Int.tdiv y7 64)) : Int).toNat 0) (2 ^ (min ((IntKind.u64.wrap (Int.tmod y7 64)) : Int).toNat (IntKind.u64).bits)))) (Y := .int .u64 1) rfl rfl rfl rfl ?_
  refine k_bin (X := .int .u64 (bits .and .u64 (Int.fdiv (a1.getD ((IntKind.i64.wrap (Int.tdiv y7 64)) : Int).toNat 0) (2 ^ (min ((IntKind.u64.wrap (Int.tmod y7 64)) : Int).toNat (IntKind.u64).bits))) 1)) (Y := .int .u64 1) rfl rfl rfl rfl ?_
  refine k_end ?_; intro e290 qe290
  have s2_e290 : e290 2 = .pointer (some ⟨g1, 0, none⟩) := (congrFun qe290 2).trans s2_e289
  have s3_e290 : e290 3 = .pointer (some ⟨g2, 0, none⟩) := (congrFun qe290 3).trans s3_e289
  have s4_e290 : e290 4 = .pointer (some ⟨g3, 0, none⟩) := (congrFun qe290 4).trans s4_e289
  have s5_e290 : e290 5 = .pointer (some ⟨g5, 0, none⟩) := (congrFun qe290 5).trans s5_e289
  have s6_e290 : e290 6 = .int .i64 y7 := (congrFun qe290 6).trans s6_e289
  obtain ⟨t11, qt11, h⟩ := lt_e h
  have s24_e290 : e290 24 = .bool t11 := (congrFun qe290 24).trans (congrArg Value.bool qt11.symm)
  clear qe290
  obtain ⟨r13, qr13, h⟩ := bd_e h
  refine postilionref04_Power.p3_ok k g1 g2 g3 g5 y7 t11 a0 a1 r8 la0 la1 lr80 ?hq0 e290 _ s2_e290 s3_e290 s4_e290 s5_e290 s6_e290 s24_e290 hp qr13
  case hq0 =>
    intro e292 w m14 lm14 s2_e292 s3_e292 s4_e292 s5_e292 s6_e292 hp qq
    rw [qq] at h; clear qq
    exact hQ0 _ _ m14 lm14 s2_e292 s3_e292 s4_e292 s5_e292 s6_e292 (hp.drop (L' := [⟨g1, 0, ints .u64 a0⟩, ⟨g2, 0, ints .u64 a1⟩, ⟨g3, 0, ints .u64 (List.replicate 4 (0 : Int))⟩, ⟨g5, 0, ints .u64 m14⟩]) (List.Sublist.refl _)) (Option.some.inj h).symm
theorem postilionref04_Power.p1_ok {w0 : World} {Ws : List Wr} {Q : Exit → Env → World → Prop} (g1 g2 g3 g5 : Nat) (a0 : List Int) (a1 : List Int) (la0 : a0.length = 4) (la1 : a1.length = 4) {r : List Int} (hQ0 : ∀ (e' : Env) (w' : World) (z0 : List Int), z0.length = 4 → e' 4 = .pointer (some ⟨g3, 0, none⟩) → e' 5 = .pointer (some ⟨g5, 0, none⟩) → Hp w0 Ws w' [⟨g1, 0, ints .u64 a0⟩, ⟨g2, 0, ints .u64 a1⟩, ⟨g3, 0, ints .u64 (List.replicate 4 (0 : Int))⟩, ⟨g5, 0, ints .u64 z0⟩] [] → r = (z0) → Q (.exit 0) e' w') : ∀ (k : Nat), ∀ (y6 : List Int) (y7 : Int) (e : Env) (w : World) (ly6 : y6.length = 4) (s2_e : e 2 = .pointer (some ⟨g1, 0, none⟩)) (s3_e : e 3 = .pointer (some ⟨g2, 0, none⟩)) (s4_e : e 4 = .pointer (some ⟨g3, 0, none⟩)) (s5_e : e 5 = .pointer (some ⟨g5, 0, none⟩)) (s6_e : e 6 = .int .i64 y7) (hp : Hp w0 Ws w [⟨g1, 0, ints .u64 a0⟩, ⟨g2, 0, ints .u64 a1⟩, ⟨g3, 0, ints .u64 (List.replicate 4 (0 : Int))⟩, ⟨g5, 0, ints .u64 y6⟩] []) (h : postilionref04_Power.p1 k a0 a1 y6 y7 = some r), Lp Try.prog Try.f47.ntmps (at_ (fbody Try.f47) [1, 1, 0, 1, 0, 0]) Q k e w := by
  intro k
  induction k with
  | zero => intro y6 y7 e w ly6 s2_e s3_e s4_e s5_e s6_e hp h; cases h
  | succ k ih =>
    intro y6 y7 e w ly6 s2_e s3_e s4_e s5_e s6_e hp h
    unfold postilionref04_Power.p1 at h
    show Wp _ _ _ _ _ _
    refine wseqP (p0 := [1, 1, 0, 1, 0, 0, 0]) (p1 := [1, 1, 0, 1, 0, 0, 1]) rfl rfl rfl ?_
    refine wseqP (p0 := [1, 1, 0, 1, 0, 0, 0, 0]) (p1 := [1, 1, 0, 1, 0, 0, 0, 1]) rfl rfl rfl ?_
    refine wregionT postilionref04_Power.o4 (.tp 0 (.tp 1 (.done))) [] rfl rfl (by kernel_rfl) (by kernel_rfl) ?_
    refine k_move (v := .int .i64 y7) rfl s6_e ?_
    refine k_bin (X := .int .i64 y7) (Y := .int .i64 0) rfl rfl rfl rfl ?_
    refine k_end ?_; intro e288 qe288
    have s2_e288 : e288 2 = .pointer (some ⟨g1, 0, none⟩) := (congrFun qe288 2).trans s2_e
    have s3_e288 : e288 3 = .pointer (some ⟨g2, 0, none⟩) := (congrFun qe288 3).trans s3_e
    have s4_e288 : e288 4 = .pointer (some ⟨g3, 0, none⟩) := (congrFun qe288 4).trans s4_e
    have s5_e288 : e288 5 = .pointer (some ⟨g5, 0, none⟩) := (congrFun qe288 5).trans s5_e
    have s6_e288 : e288 6 = .int .i64 y7 := (congrFun qe288 6).trans s6_e
    have s9_e288 : e288 9 = .bool (decide (y7 ≥ 0)) := congrFun qe288 9
    clear qe288
    refine wcondP (p0 := [1, 1, 0, 1, 0, 0, 0, 1, 0]) (p1 := [1, 1, 0, 1, 0, 0, 0, 1, 1]) (t := (decide (y7 ≥ 0))) rfl rfl rfl (by decide) s9_e288 (fun hb => ?_) (fun hb => ?_)
    · replace h := br_t hb h
      refine wskip rfl ?_
      refine wseqP (p0 := [1, 1, 0, 1, 0, 0, 1, 0]) (p1 := [1, 1, 0, 1, 0, 0, 1, 1]) rfl rfl rfl ?_
      obtain ⟨r15, qr15, h⟩ := bd_e h
      refine postilionref04_Power.p2_ok k g1 g2 g3 g5 y7 a0 a1 y6 ly6 la0 la1 ?hq0 e288 _ s2_e288 s3_e288 s4_e288 s5_e288 s6_e288 hp qr15
      case hq0 =>
        intro e293 w m16 lm16 s2_e293 s3_e293 s4_e293 s5_e293 s6_e293 hp qq
        rw [qq] at h; clear qq
        refine wregionT postilionref04_Power.o8 (.tp 0 (.tp 1 (.tp 2 (.done)))) [] rfl rfl (by kernel_rfl) (by kernel_rfl) ?_
        refine k_move (v := .int .i64 y7) rfl s6_e293 ?_
        refine k_bin (X := .int .i64 y7) (Y := .int .i64 1) rfl rfl rfl rfl ?_
        refine k_assign (v := .int .i64 (IntKind.i64.wrap (y7 - 1))) rfl rfl ?_
        refine k_end ?_; intro e294 qe294
        have s2_e294 : e294 2 = .pointer (some ⟨g1, 0, none⟩) := (congrFun qe294 2).trans s2_e293
        have s3_e294 : e294 3 = .pointer (some ⟨g2, 0, none⟩) := (congrFun qe294 3).trans s3_e293
        have s4_e294 : e294 4 = .pointer (some ⟨g3, 0, none⟩) := (congrFun qe294 4).trans s4_e293
        have s5_e294 : e294 5 = .pointer (some ⟨g5, 0, none⟩) := (congrFun qe294 5).trans s5_e293
        obtain ⟨x17, qx17, h⟩ := lt_e h
        have s6_e294 : e294 6 = .int .i64 x17 := (congrFun qe294 6).trans (congrArg (Value.int .i64) qx17.symm)
        clear qe294
        exact ih m16 x17 _ _ lm16 s2_e294 s3_e294 s4_e294 s5_e294 s6_e294 (hp.drop (L' := [⟨g1, 0, ints .u64 a0⟩, ⟨g2, 0, ints .u64 a1⟩, ⟨g3, 0, ints .u64 (List.replicate 4 (0 : Int))⟩, ⟨g5, 0, ints .u64 m16⟩]) (List.Sublist.refl _)) h
    · replace h := br_f hb h
      refine wexit rfl ?_
      exact hQ0 _ _ y6 ly6 s4_e288 s5_e288 (hp.drop (L' := [⟨g1, 0, ints .u64 a0⟩, ⟨g2, 0, ints .u64 a1⟩, ⟨g3, 0, ints .u64 (List.replicate 4 (0 : Int))⟩, ⟨g5, 0, ints .u64 y6⟩]) (List.Sublist.refl _)) (Option.some.inj h).symm
theorem postilionref04_Power_ok (k : Nat) (a0 : List Int) (a1 : List Int) (la0 : a0.length = 4) (la1 : a1.length = 4) (w0 : World) (hp : Hp w0 [] w0 [] []) {r : List Int} (h : postilionref04_Power.f k a0 a1 = some r) :
    Calls Try.prog 47 [.agg (ints .u64 a0).toArray, .agg (ints .u64 a1).toArray].toArray w0 fun x w' => ∃ v, x = .returned v ∧ v = .agg (ints .u64 r).toArray ∧ r.length = 4 ∧ Hp w0 [] w' [] [] := by
  refine calls_inP Try.func47 rfl (Nat.le_of_ble_eq_true (by kernel_rfl)) (by kernel_rfl) ?_
  intro e0 qe0
  have s0_e0 : e0 0 = .agg (ints .u64 a0).toArray := congrFun qe0 0
  have s1_e0 : e0 1 = .agg (ints .u64 a1).toArray := congrFun qe0 1
  clear qe0
  unfold postilionref04_Power.f at h
  refine wseqP (p0 := [0]) (p1 := [1]) rfl rfl rfl ?_
  refine wregionT postilionref04_Power.o1 (.ef 0 (.ef 1 (.ef 2 (.done)))) [] rfl rfl (by kernel_rfl) (by kernel_rfl) ?_
  refine k_box (v := .agg (ints .u64 a0).toArray) (ints .u64 a0) rfl s0_e0 rfl hp ?_
  intro g1 w hbg1 hp
  refine k_box (v := .agg (ints .u64 a1).toArray) (ints .u64 a1) rfl s1_e0 rfl hp ?_
  intro g2 w hbg2 hp
  refine k_alloc (ints .u64 (List.replicate 4 (0 : Int))) rfl (by kernel_rfl) hp ?_
  intro g3 w hbg3 hp
  refine k_end ?_; intro e285 qe285
  have s2_e285 : e285 2 = .pointer (some ⟨g1, 0, none⟩) := congrFun qe285 2
  have s3_e285 : e285 3 = .pointer (some ⟨g2, 0, none⟩) := congrFun qe285 3
  have s4_e285 : e285 4 = .pointer (some ⟨g3, 0, none⟩) := congrFun qe285 4
  clear qe285
  refine wseqP (p0 := [1, 0]) (p1 := [1, 1]) rfl rfl rfl ?_
  refine wregionT postilionref04_Power.o2 (.ef 0 (.ef 1 (.ef 2 (.done)))) [2] rfl rfl (by kernel_rfl) (by kernel_rfl) ?_
  obtain ⟨r4, qr4, h⟩ := bd_e h
  refine k_call [.int .u64 1] rfl (by kernel_rfl) (args1 rfl) (postilionref04_Small_ok 1  _ (hp.toR (fun _ h => by cases h)) qr4) ?_
  rintro _ w' ⟨_, rfl, rfl, lr40, hpc⟩
  refine ⟨_, rfl, .inr (.of_below hpc.chg.to_below), ?_⟩; have hp := hp.below hpc.chg.to_below; clear hpc
  refine k_alloc (ints .u64 (List.replicate 4 (0 : Int))) rfl (by kernel_rfl) hp ?_
  intro g5 w hbg5 hp
  refine k_storeA (v := .agg (ints .u64 r4).toArray) 3 0 (r := ⟨g5, 0, ints .u64 (List.replicate 4 (0 : Int))⟩) (ints .u64 r4) (ints .u64 r4) rfl (n := 4) (by kernel_rfl) rfl rfl rfl ((ints_length _ _).trans lr40) (ints_one _ _) hp rfl rfl rfl (Nat.le_of_eq ((Nat.zero_add _).trans ((ints_length _ _).trans List.length_replicate).symm)) (setMany_all _ _ (((ints_length _ _).trans lr40).trans ((ints_length _ _).trans List.length_replicate).symm)) (by decide) ?_; intro w hp
  refine k_end ?_; intro e286 qe286
  have s2_e286 : e286 2 = .pointer (some ⟨g1, 0, none⟩) := (congrFun qe286 2).trans s2_e285
  have s3_e286 : e286 3 = .pointer (some ⟨g2, 0, none⟩) := (congrFun qe286 3).trans s3_e285
  have s4_e286 : e286 4 = .pointer (some ⟨g3, 0, none⟩) := (congrFun qe286 4).trans s4_e285
  have s5_e286 : e286 5 = .pointer (some ⟨g5, 0, none⟩) := congrFun qe286 5
  clear qe286
  refine wseqP (p0 := [1, 1, 0]) (p1 := [1, 1, 1]) rfl rfl rfl ?_
  refine wseqP (p0 := [1, 1, 0, 0]) (p1 := [1, 1, 0, 1]) rfl rfl rfl ?_
  refine wregionT postilionref04_Power.o3 (.tp 0 (.done)) [] rfl rfl (by kernel_rfl) (by kernel_rfl) ?_
  refine k_assign (v := .int .i64 255) rfl rfl ?_
  refine k_end ?_; intro e287 qe287
  have s2_e287 : e287 2 = .pointer (some ⟨g1, 0, none⟩) := (congrFun qe287 2).trans s2_e286
  have s3_e287 : e287 3 = .pointer (some ⟨g2, 0, none⟩) := (congrFun qe287 3).trans s3_e286
  have s4_e287 : e287 4 = .pointer (some ⟨g3, 0, none⟩) := (congrFun qe287 4).trans s4_e286
  have s5_e287 : e287 5 = .pointer (some ⟨g5, 0, none⟩) := (congrFun qe287 5).trans s5_e286
  have s6_e287 : e287 6 = .int .i64 255 := congrFun qe287 6
  clear qe287
  refine wblockP (p0 := [1, 1, 0, 1, 0]) 0 rfl rfl ?_
  obtain ⟨r18, qr18, h⟩ := bd_e h
  refine wloopP (p0 := [1, 1, 0, 1, 0, 0]) k rfl rfl (postilionref04_Power.p1_ok g1 g2 g3 g5 a0 a1 la0 la1 ?hq0 k r4 255 e287 _ lr40 s2_e287 s3_e287 s4_e287 s5_e287 s6_e287 hp qr18)
  case hq0 =>
    intro e295 w m19 lm19 s4_e295 s5_e295 hp qq
    rw [qq] at h; clear qq
    refine wseqP (p0 := [1, 1, 1, 0]) (p1 := [1, 1, 1, 1]) rfl rfl rfl ?_
    refine wregionT postilionref04_Power.o9 (.tk 0 (.ef 1 (.done))) [1] rfl rfl (by kernel_rfl) (by kernel_rfl) ?_
    refine k_loadA (n := 4) (xs := ints .u64 m19) 0 rfl (by kernel_rfl) (by kernel_rfl) s5_e295 (hp.get (j := 3) rfl) rfl rfl ((ints_length _ _).trans lm19) (fun m v hm => by rw [Nat.zero_add]; exact hm) ?_
    refine k_storeA (v := .agg (ints .u64 m19).toArray) 2 0 (r := ⟨g3, 0, ints .u64 (List.replicate 4 (0 : Int))⟩) (ints .u64 m19) (ints .u64 m19) rfl (n := 4) (by kernel_rfl) s4_e295 rfl rfl ((ints_length _ _).trans lm19) (ints_one _ _) hp rfl rfl rfl (Nat.le_of_eq ((Nat.zero_add _).trans ((ints_length _ _).trans List.length_replicate).symm)) (setMany_all _ _ (((ints_length _ _).trans lm19).trans ((ints_length _ _).trans List.length_replicate).symm)) (by decide) ?_; intro w hp
    refine k_end ?_; intro e296 qe296
    have s4_e296 : e296 4 = .pointer (some ⟨g3, 0, none⟩) := (congrFun qe296 4).trans s4_e295
    clear qe296
    refine wret rfl ?_
    have hr : r = m19 := (Option.some.inj h).symm
    show RetP _ _ _ _ _
    rw [hr]
    exact ret_i [.agg (ints .u64 m19).toArray] (res_cell s4_e296 (loadVar_agg (by kernel_rfl) (by kernel_rfl) ((ints_length _ _).trans lm19) (hp.get (j := 2) rfl) rfl rfl rfl) res_nil) ⟨rfl, lm19, hp.none⟩
/-! 35 postilion/postilionref04.Inverse -/
noncomputable def postilionref04_Inverse.o1 : Array Oper := opsC (at_ (fbody Try.f35) [0])
noncomputable def postilionref04_Inverse.o2 : Array Oper := opsC (at_ (fbody Try.f35) [1, 0])
noncomputable def postilionref04_Inverse.o3 : Array Oper := opsC (at_ (fbody Try.f35) [1, 1, 0])
noncomputable def postilionref04_Inverse.o4 : Array Oper := opsC (at_ (fbody Try.f35) [1, 1, 1, 0])
theorem postilionref04_Inverse_ok (k : Nat) (a0 : List Int) (la0 : a0.length = 4) (w0 : World) (hp : Hp w0 [] w0 [] []) {r : List Int} (h : postilionref04_Inverse.f k a0 = some r) :
    Calls Try.prog 35 [.agg (ints .u64 a0).toArray].toArray w0 fun x w' => ∃ v, x = .returned v ∧ v = .agg (ints .u64 r).toArray ∧ r.length = 4 ∧ Hp w0 [] w' [] [] := by
  refine calls_inP Try.func35 rfl (Nat.le_of_ble_eq_true (by kernel_rfl)) (by kernel_rfl) ?_
  intro e0 qe0
  have s0_e0 : e0 0 = .agg (ints .u64 a0).toArray := congrFun qe0 0
  clear qe0
  unfold postilionref04_Inverse.f at h
  refine wseqP (p0 := [0]) (p1 := [1]) rfl rfl rfl ?_
  refine wregionT postilionref04_Inverse.o1 (.ef 0 (.ef 1 (.done))) [] rfl rfl (by kernel_rfl) (by kernel_rfl) ?_
  refine k_box (v := .agg (ints .u64 a0).toArray) (ints .u64 a0) rfl s0_e0 rfl hp ?_
  intro g1 w hbg1 hp
  refine k_alloc (ints .u64 (List.replicate 4 (0 : Int))) rfl (by kernel_rfl) hp ?_
  intro g2 w hbg2 hp
  refine k_end ?_; intro e297 qe297
  have s1_e297 : e297 1 = .pointer (some ⟨g1, 0, none⟩) := congrFun qe297 1
  have s2_e297 : e297 2 = .pointer (some ⟨g2, 0, none⟩) := congrFun qe297 2
  clear qe297
  refine wseqP (p0 := [1, 0]) (p1 := [1, 1]) rfl rfl rfl ?_
  refine wregionT postilionref04_Inverse.o2 (.ef 0 (.ef 1 (.ef 2 (.done)))) [2] rfl rfl (by kernel_rfl) (by kernel_rfl) ?_
  obtain ⟨r3, qr3, h⟩ := bd_e h
  refine k_call [] rfl (by kernel_rfl) (args0 ) (postilionref04_p_ok   _ (hp.toR (fun _ h => by cases h)) qr3) ?_
  rintro _ w' ⟨_, rfl, rfl, lr30, hpc⟩
  refine ⟨_, rfl, .inr (.of_below hpc.chg.to_below), ?_⟩; have hp := hp.below hpc.chg.to_below; clear hpc
  refine k_alloc (ints .u64 (List.replicate 4 (0 : Int))) rfl (by kernel_rfl) hp ?_
  intro g4 w hbg4 hp
  refine k_storeA (v := .agg (ints .u64 r3).toArray) 2 0 (r := ⟨g4, 0, ints .u64 (List.replicate 4 (0 : Int))⟩) (ints .u64 r3) (ints .u64 r3) rfl (n := 4) (by kernel_rfl) rfl rfl rfl ((ints_length _ _).trans lr30) (ints_one _ _) hp rfl rfl rfl (Nat.le_of_eq ((Nat.zero_add _).trans ((ints_length _ _).trans List.length_replicate).symm)) (setMany_all _ _ (((ints_length _ _).trans lr30).trans ((ints_length _ _).trans List.length_replicate).symm)) (by decide) ?_; intro w hp
  refine k_end ?_; intro e298 qe298
  have s1_e298 : e298 1 = .pointer (some ⟨g1, 0, none⟩) := (congrFun qe298 1).trans s1_e297
  have s2_e298 : e298 2 = .pointer (some ⟨g2, 0, none⟩) := (congrFun qe298 2).trans s2_e297
  have s3_e298 : e298 3 = .pointer (some ⟨g4, 0, none⟩) := congrFun qe298 3
  clear qe298
  refine wseqP (p0 := [1, 1, 0]) (p1 := [1, 1, 1]) rfl rfl rfl ?_
  refine wregionT postilionref04_Inverse.o3 (.tp 0 (.tk 1 (.tp 2 (.tp 3 (.ef 4 (.done)))))) [4] rfl rfl (by kernel_rfl) (by kernel_rfl) ?_
  refine k_indexA (n := 4) (s := 1) (j := 0) rfl Try.underlying48 (by kernel_rfl) s3_e298 rfl (by decide) ?_
  refine k_load (j := 0) (v := .int .u64 (r3.getD 0 0)) rfl (by kernel_rfl) rfl (hp.get (j := 2) rfl) rfl rfl (ints_get (Nat.lt_of_lt_of_eq (m := 4) (by decide) (lr30).symm)) ?_
  refine k_bin (X := .int .u64 (r3.getD 0 0)) (Y := .int .u64 2) rfl rfl rfl rfl ?_
  refine k_indexA (n := 4) (s := 1) (j := 0) rfl Try.underlying48 (by kernel_rfl) s3_e298 rfl (by decide) ?_
  refine k_store (v := .int .u64 (IntKind.u64.wrap ((r3.getD 0 0) - 2))) 2 0 (r := ⟨g4, 0, ints .u64 r3⟩) rfl (by kernel_rfl) rfl rfl rfl hp rfl rfl rfl (Nat.lt_of_lt_of_eq (Nat.lt_of_lt_of_eq (m := 4) (by decide) (lr30).symm) (ints_length _ _).symm) (by decide) ?_; intro w hp; rw [ints_set] at hp
  refine k_end ?_; intro e299 qe299
  have s1_e299 : e299 1 = .pointer (some ⟨g1, 0, none⟩) := (congrFun qe299 1).trans s1_e298
  have s2_e299 : e299 2 = .pointer (some ⟨g2, 0, none⟩) := (congrFun qe299 2).trans s2_e298
  have s3_e299 : e299 3 = .pointer (some ⟨g4, 0, none⟩) := (congrFun qe299 3).trans s3_e298
  clear qe299
  refine wseqP (p0 := [1, 1, 1, 0]) (p1 := [1, 1, 1, 1]) rfl rfl rfl ?_
  refine wregionT postilionref04_Inverse.o4 (.tk 0 (.tk 1 (.ef 2 (.ef 3 (.done))))) [3] rfl rfl (by kernel_rfl) (by kernel_rfl) ?_
  refine k_loadA (n := 4) (xs := ints .u64 a0) 0 rfl (by kernel_rfl) (by kernel_rfl) s1_e299 (hp.get (j := 0) rfl) rfl rfl ((ints_length _ _).trans la0) (fun m v hm => by rw [Nat.zero_add]; exact hm) ?_
  refine k_loadA (n := 4) (xs := ints .u64 (r3.set 0 (IntKind.u64.wrap ((r3.getD 0 0) - 2)))) 0 rfl (by kernel_rfl) (by kernel_rfl) s3_e299 (hp.get (j := 2) rfl) rfl rfl ((ints_length _ _).trans (List.length_set.trans lr30)) (fun m v hm => by rw [Nat.zero_add]; exact hm) ?_
  obtain ⟨r5, qr5, h⟩ := bd_e h
  refine k_call [.agg (ints .u64 a0).toArray, .agg (ints .u64 (r3.set 0 (IntKind.u64.wrap ((r3.getD 0 0) - 2)))).toArray] rfl (by kernel_rfl) (args2 rfl rfl) (postilionref04_Power_ok k a0 (r3.set 0 (IntKind.u64.wrap ((r3.getD 0 0) - 2))) la0 (List.length_set.trans lr30) _ (hp.toR (fun _ h => by cases h)) qr5) ?_
  rintro _ w' ⟨_, rfl, rfl, lr50, hpc⟩
  refine ⟨_, rfl, .inr (.of_below hpc.chg.to_below), ?_⟩; have hp := hp.below hpc.chg.to_below; clear hpc
  refine k_storeA (v := .agg (ints .u64 r5).toArray) 1 0 (r := ⟨g2, 0, ints .u64 (List.replicate 4 (0 : Int))⟩) (ints .u64 r5) (ints .u64 r5) rfl (n := 4) (by kernel_rfl) s2_e299 rfl rfl ((ints_length _ _).trans lr50) (ints_one _ _) hp rfl rfl rfl (Nat.le_of_eq ((Nat.zero_add _).trans ((ints_length _ _).trans List.length_replicate).symm)) (setMany_all _ _ (((ints_length _ _).trans lr50).trans ((ints_length _ _).trans List.length_replicate).symm)) (by decide) ?_; intro w hp
  refine k_end ?_; intro e300 qe300
  have s2_e300 : e300 2 = .pointer (some ⟨g2, 0, none⟩) := (congrFun qe300 2).trans s2_e299
  clear qe300
  refine wret rfl ?_
  have hr : r = r5 := (Option.some.inj h).symm
  show RetP _ _ _ _ _
  rw [hr]
  exact ret_i [.agg (ints .u64 r5).toArray] (res_cell s2_e300 (loadVar_agg (by kernel_rfl) (by kernel_rfl) ((ints_length _ _).trans lr50) (hp.get (j := 1) rfl) rfl rfl rfl) res_nil) ⟨rfl, lr50, hp.none⟩
end Go.Proofs.Ytigbkodgnikigaa
