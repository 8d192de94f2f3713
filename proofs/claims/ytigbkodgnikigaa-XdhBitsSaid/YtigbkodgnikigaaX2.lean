/-
  The walks: each function of the program form returns what its plain definition computes. Printed by my own program.
  Conditions: none; every function is taken as the given program's form has it.
-/
import Derived.Test.YtigbkodgnikigaaProg
import Derived.Test.YtigbkodgnikigaaX1
namespace Go.Proofs.Ytigbkodgnikigaa
open Go Go.Gx Go.RowKit
set_option linter.unusedVariables false
set_option maxRecDepth 100000
/-! 26 (postilion/field.Element).Bytes -/
noncomputable def field_Element_Bytes.o1 : Array Oper := opsC (at_ (fbody Try.f26) [0])
noncomputable def field_Element_Bytes.o2 : Array Oper := opsC (at_ (fbody Try.f26) [1, 0])
noncomputable def field_Element_Bytes.o3 : Array Oper := opsC (at_ (fbody Try.f26) [1, 1, 0])
noncomputable def field_Element_Bytes.o4 : Array Oper := opsC (at_ (fbody Try.f26) [1, 1, 1, 0, 0])
noncomputable def field_Element_Bytes.o5 : Array Oper := opsC (at_ (fbody Try.f26) [1, 1, 1, 0, 1, 0, 0, 0])
noncomputable def field_Element_Bytes.o6 : Array Oper := opsC (at_ (fbody Try.f26) [1, 1, 1, 0, 1, 0, 0, 1, 1, 0, 0, 0])
noncomputable def field_Element_Bytes.o7 : Array Oper := opsC (at_ (fbody Try.f26) [1, 1, 1, 0, 1, 0, 0, 1, 1, 0, 0, 1])
noncomputable def field_Element_Bytes.o8 : Array Oper := opsC (at_ (fbody Try.f26) [1, 1, 1, 0, 1, 0, 0, 1, 1, 1])
noncomputable def field_Element_Bytes.o9 : Array Oper := opsC (at_ (fbody Try.f26) [1, 1, 1, 1, 0])
noncomputable def field_Element_Bytes.o10 : Array Oper := opsC (at_ (fbody Try.f26) [1, 1, 1, 1, 1, 0, 0])
noncomputable def field_Element_Bytes.o11 : Array Oper := opsC (at_ (fbody Try.f26) [1, 1, 1, 1, 1, 0, 1, 0, 0, 0])
noncomputable def field_Element_Bytes.o12 : Array Oper := opsC (at_ (fbody Try.f26) [1, 1, 1, 1, 1, 0, 1, 0, 0, 1, 1, 0, 0, 0])
noncomputable def field_Element_Bytes.o13 : Array Oper := opsC (at_ (fbody Try.f26) [1, 1, 1, 1, 1, 0, 1, 0, 0, 1, 1, 0, 0, 1, 0])
noncomputable def field_Element_Bytes.o14 : Array Oper := opsC (at_ (fbody Try.f26) [1, 1, 1, 1, 1, 0, 1, 0, 0, 1, 1, 0, 0, 1, 1])
noncomputable def field_Element_Bytes.o15 : Array Oper := opsC (at_ (fbody Try.f26) [1, 1, 1, 1, 1, 0, 1, 0, 0, 1, 1, 1])
noncomputable def field_Element_Bytes.o16 : Array Oper := opsC (at_ (fbody Try.f26) [1, 1, 1, 1, 1, 1, 0])
noncomputable def field_Element_Bytes.o17 : Array Oper := opsC (at_ (fbody Try.f26) [1, 1, 1, 1, 1, 1, 1, 0])
noncomputable def field_Element_Bytes.o18 : Array Oper := opsC (at_ (fbody Try.f26) [1, 1, 1, 1, 1, 1, 1, 1, 0, 0])
noncomputable def field_Element_Bytes.o19 : Array Oper := opsC (at_ (fbody Try.f26) [1, 1, 1, 1, 1, 1, 1, 1, 0, 1, 0, 0, 0])
noncomputable def field_Element_Bytes.o20 : Array Oper := opsC (at_ (fbody Try.f26) [1, 1, 1, 1, 1, 1, 1, 1, 0, 1, 0, 0, 1, 1, 0, 0, 0])
noncomputable def field_Element_Bytes.o21 : Array Oper := opsC (at_ (fbody Try.f26) [1, 1, 1, 1, 1, 1, 1, 1, 0, 1, 0, 0, 1, 1, 0, 0, 1, 0])
noncomputable def field_Element_Bytes.o22 : Array Oper := opsC (at_ (fbody Try.f26) [1, 1, 1, 1, 1, 1, 1, 1, 0, 1, 0, 0, 1, 1, 0, 0, 1, 1, 0, 0, 0])
noncomputable def field_Element_Bytes.o23 : Array Oper := opsC (at_ (fbody Try.f26) [1, 1, 1, 1, 1, 1, 1, 1, 0, 1, 0, 0, 1, 1, 0, 0, 1, 1, 0, 0, 1, 1, 0, 0, 0])
noncomputable def field_Element_Bytes.o24 : Array Oper := opsC (at_ (fbody Try.f26) [1, 1, 1, 1, 1, 1, 1, 1, 0, 1, 0, 0, 1, 1, 0, 0, 1, 1, 0, 0, 1, 1, 0, 0, 1])
noncomputable def field_Element_Bytes.o25 : Array Oper := opsC (at_ (fbody Try.f26) [1, 1, 1, 1, 1, 1, 1, 1, 0, 1, 0, 0, 1, 1, 0, 0, 1, 1, 0, 0, 1, 1, 1])
noncomputable def field_Element_Bytes.o26 : Array Oper := opsC (at_ (fbody Try.f26) [1, 1, 1, 1, 1, 1, 1, 1, 0, 1, 0, 0, 1, 1, 1])
noncomputable def field_Element_Bytes.o27 : Array Oper := opsC (at_ (fbody Try.f26) [1, 1, 1, 1, 1, 1, 1, 1, 1, 0])
theorem field_Element_Bytes.p1_ok {w0 : World} {Ws : List Wr} {Q : Exit → Env → World → Prop} (g1 g2 : Nat) (x6 : Int) (r4 : List Int) (lr40 : r4.length = 5) {r : Int} (hQ0 : ∀ (e' : Env) (w' : World) (z0 : Int), e' 1 = .pointer (some ⟨g1, 0, none⟩) → e' 2 = .pointer (some ⟨g2, 0, none⟩) → e' 3 = .int .u64 z0 → Hp w0 Ws w' [⟨g1, 0, ints .u64 r4⟩, ⟨g2, 0, ints .u8 (List.replicate 32 (0 : Int))⟩] [] → r = (z0) → Q (.exit 0) e' w') : ∀ (k : Nat), ∀ (y7 : Int) (y8 : Int) (e : Env) (w : World)  (s1_e : e 1 = .pointer (some ⟨g1, 0, none⟩)) (s2_e : e 2 = .pointer (some ⟨g2, 0, none⟩)) (s3_e : e 3 = .int .u64 y7) (s18_e : e 18 = .slice (some ⟨g1, 0 + 1 * 1, none⟩) (5 - 1) (5 - 1)) (s19_e : e 19 = .int .i64 x6) (s20_e : e 20 = .int .i64 y8) (hp : Hp w0 Ws w [⟨g1, 0, ints .u64 r4⟩, ⟨g2, 0, ints .u8 (List.replicate 32 (0 : Int))⟩] []) (h : field_Element_Bytes.p1 k x6 r4 y7 y8 = some r), Lp Try.prog Try.f26.ntmps (at_ (fbody Try.f26) [1, 1, 1, 0, 1, 0, 0]) Q k e w := by
  intro k
  induction k with
  | zero => intro y7 y8 e w  s1_e s2_e s3_e s18_e s19_e s20_e hp h; cases h
  | succ k ih =>
    intro y7 y8 e w  s1_e s2_e s3_e s18_e s19_e s20_e hp h
    unfold field_Element_Bytes.p1 at h
    show Wp _ _ _ _ _ _
    refine wseqP (p0 := [1, 1, 1, 0, 1, 0, 0, 0]) (p1 := [1, 1, 1, 0, 1, 0, 0, 1]) rfl rfl rfl ?_
    refine wregionT field_Element_Bytes.o5 (.tp 0 (.done)) [] rfl rfl (by kernel_rfl) (by kernel_rfl) ?_
    refine k_bin (X := .int .i64 y8) (Y := .int .i64 x6) rfl s20_e s19_e rfl ?_
    refine k_end ?_; intro e87 qe87
    have s1_e87 : e87 1 = .pointer (some ⟨g1, 0, none⟩) := (congrFun qe87 1).trans s1_e
    have s2_e87 : e87 2 = .pointer (some ⟨g2, 0, none⟩) := (congrFun qe87 2).trans s2_e
    have s3_e87 : e87 3 = .int .u64 y7 := (congrFun qe87 3).trans s3_e
    have s18_e87 : e87 18 = .slice (some ⟨g1, 0 + 1 * 1, none⟩) (5 - 1) (5 - 1) := (congrFun qe87 18).trans s18_e
    have s19_e87 : e87 19 = .int .i64 x6 := (congrFun qe87 19).trans s19_e
    have s20_e87 : e87 20 = .int .i64 y8 := (congrFun qe87 20).trans s20_e
    have s21_e87 : e87 21 = .bool (decide (y8 < x6)) := congrFun qe87 21
    clear qe87
    refine wseqP (p0 := [1, 1, 1, 0, 1, 0, 0, 1, 0]) (p1 := [1, 1, 1, 0, 1, 0, 0, 1, 1]) rfl rfl rfl ?_
    refine wcondP (p0 := [1, 1, 1, 0, 1, 0, 0, 1, 0, 0]) (p1 := [1, 1, 1, 0, 1, 0, 0, 1, 0, 1]) (t := (decide (y8 < x6))) rfl rfl rfl (by decide) s21_e87 (fun hb => ?_) (fun hb => ?_)
    · replace h := br_t hb h
      refine wskip rfl ?_
      refine wseqP (p0 := [1, 1, 1, 0, 1, 0, 0, 1, 1, 0]) (p1 := [1, 1, 1, 0, 1, 0, 0, 1, 1, 1]) rfl rfl rfl ?_
      refine wblockP (p0 := [1, 1, 1, 0, 1, 0, 0, 1, 1, 0, 0]) 1 rfl rfl ?_
      refine wseqP (p0 := [1, 1, 1, 0, 1, 0, 0, 1, 1, 0, 0, 0]) (p1 := [1, 1, 1, 0, 1, 0, 0, 1, 1, 0, 0, 1]) rfl rfl rfl ?_
      refine wregionT field_Element_Bytes.o6 (.tp 0 (.tk 1 (.tp 2 (.done)))) [] rfl rfl (by kernel_rfl) (by kernel_rfl) ?_
      obtain ⟨c9, h⟩ := chk_e h
      refine k_indexS (s := 1) (j := y8) rfl Try.underlying64 (by kernel_rfl) s18_e87 s20_e87 c9 ?_
      refine k_load (j := (1 + (y8 : Int).toNat * 1)) (v := .int .u64 (r4.getD (1 + (y8 : Int).toNat * 1) 0)) rfl (by kernel_rfl) rfl (hp.get (j := 0) rfl) rfl (show 0 + 1 * 1 + (y8 : Int).toNat * 1 = 0 + (1 + (y8 : Int).toNat * 1) by omega) (ints_get (by have := lr40; omega)) ?_
      refine k_assign (v := .int .u64 (r4.getD (1 + (y8 : Int).toNat * 1) 0)) rfl rfl ?_
      refine k_end ?_; intro e88 qe88
      have s1_e88 : e88 1 = .pointer (some ⟨g1, 0, none⟩) := (congrFun qe88 1).trans s1_e87
      have s2_e88 : e88 2 = .pointer (some ⟨g2, 0, none⟩) := (congrFun qe88 2).trans s2_e87
      have s3_e88 : e88 3 = .int .u64 y7 := (congrFun qe88 3).trans s3_e87
      obtain ⟨x10, qx10, h⟩ := lt_e h
      have s5_e88 : e88 5 = .int .u64 x10 := (congrFun qe88 5).trans (congrArg (Value.int .u64) qx10.symm)
      have s18_e88 : e88 18 = .slice (some ⟨g1, 0 + 1 * 1, none⟩) (5 - 1) (5 - 1) := (congrFun qe88 18).trans s18_e87
      have s19_e88 : e88 19 = .int .i64 x6 := (congrFun qe88 19).trans s19_e87
      have s20_e88 : e88 20 = .int .i64 y8 := (congrFun qe88 20).trans s20_e87
      clear qe88
      refine wregionT field_Element_Bytes.o7 (.tp 0 (.tp 1 (.tp 2 (.tp 3 (.tp 4 (.done)))))) [] rfl rfl (by kernel_rfl) (by kernel_rfl) ?_
      refine k_move (v := .int .u64 x10) rfl s5_e88 ?_
      refine k_move (v := .int .u64 y7) rfl s3_e88 ?_
      refine k_bin (X := .int .u64 x10) (Y := .int .u64 y7) rfl rfl rfl rfl ?_
      refine k_shr (a := (IntKind.u64.wrap (x10 + y7))) (b := 51) rfl rfl rfl (by decide) ?_
      refine k_assign (v := .int .u64 (Int.fdiv (IntKind.u64.wrap (x10 + y7)) (2 ^ 51))) rfl rfl ?_
      refine k_end ?_; intro e89 qe89
      have s1_e89 : e89 1 = .pointer (some ⟨g1, 0, none⟩) := (congrFun qe89 1).trans s1_e88
      have s2_e89 : e89 2 = .pointer (some ⟨g2, 0, none⟩) := (congrFun qe89 2).trans s2_e88
      obtain ⟨x11, qx11, h⟩ := lt_e h
      have s3_e89 : e89 3 = .int .u64 x11 := (congrFun qe89 3).trans (congrArg (Value.int .u64) qx11.symm)
      have s18_e89 : e89 18 = .slice (some ⟨g1, 0 + 1 * 1, none⟩) (5 - 1) (5 - 1) := (congrFun qe89 18).trans s18_e88
      have s19_e89 : e89 19 = .int .i64 x6 := (congrFun qe89 19).trans s19_e88
      have s20_e89 : e89 20 = .int .i64 y8 := (congrFun qe89 20).trans s20_e88
      clear qe89
      refine wregionT field_Element_Bytes.o8 (.tp 0 (.tp 1 (.done))) [] rfl rfl (by kernel_rfl) (by kernel_rfl) ?_
      refine k_bin (X := .int .i64 y8) (Y := .int .i64 1) rfl s20_e89 rfl rfl ?_
      refine k_move (v := .int .i64 (IntKind.i64.wrap (y8 + 1))) rfl rfl ?_
      refine k_end ?_; intro e90 qe90
      have s1_e90 : e90 1 = .pointer (some ⟨g1, 0, none⟩) := (congrFun qe90 1).trans s1_e89
      have s2_e90 : e90 2 = .pointer (some ⟨g2, 0, none⟩) := (congrFun qe90 2).trans s2_e89
      have s3_e90 : e90 3 = .int .u64 x11 := (congrFun qe90 3).trans s3_e89
      have s18_e90 : e90 18 = .slice (some ⟨g1, 0 + 1 * 1, none⟩) (5 - 1) (5 - 1) := (congrFun qe90 18).trans s18_e89
      have s19_e90 : e90 19 = .int .i64 x6 := (congrFun qe90 19).trans s19_e89
      obtain ⟨x12, qx12, h⟩ := lt_e h
      have s20_e90 : e90 20 = .int .i64 x12 := (congrFun qe90 20).trans (congrArg (Value.int .i64) qx12.symm)
      clear qe90
      exact ih x11 x12 _ _  s1_e90 s2_e90 s3_e90 s18_e90 s19_e90 s20_e90 (hp.drop (L' := [⟨g1, 0, ints .u64 r4⟩, ⟨g2, 0, ints .u8 (List.replicate 32 (0 : Int))⟩]) (List.Sublist.refl _)) h
    · replace h := br_f hb h
      refine wexit rfl ?_
      exact hQ0 _ _ y7  s1_e87 s2_e87 s3_e87 (hp.drop (L' := [⟨g1, 0, ints .u64 r4⟩, ⟨g2, 0, ints .u8 (List.replicate 32 (0 : Int))⟩]) (List.Sublist.refl _)) (Option.some.inj h).symm
theorem field_Element_Bytes.p2_ok {w0 : World} {Ws : List Wr} {Q : Exit → Env → World → Prop} (g1 g2 : Nat)   {r : List Int} (hQ0 : ∀ (e' : Env) (w' : World) (z0 : List Int), z0.length = 5 → e' 1 = .pointer (some ⟨g1, 0, none⟩) → e' 2 = .pointer (some ⟨g2, 0, none⟩) → Hp w0 Ws w' [⟨g1, 0, ints .u64 z0⟩, ⟨g2, 0, ints .u8 (List.replicate 32 (0 : Int))⟩] [] → r = (z0) → Q (.exit 2) e' w') : ∀ (k : Nat), ∀ (y16 : List Int) (y17 : Int) (e : Env) (w : World) (ly16 : y16.length = 5) (s1_e : e 1 = .pointer (some ⟨g1, 0, none⟩)) (s2_e : e 2 = .pointer (some ⟨g2, 0, none⟩)) (s35_e : e 35 = .int .i64 y17) (hp : Hp w0 Ws w [⟨g1, 0, ints .u64 y16⟩, ⟨g2, 0, ints .u8 (List.replicate 32 (0 : Int))⟩] []) (h : field_Element_Bytes.p2 k y16 y17 = some r), Lp Try.prog Try.f26.ntmps (at_ (fbody Try.f26) [1, 1, 1, 1, 1, 0, 1, 0, 0]) Q k e w := by
  intro k
  induction k with
  | zero => intro y16 y17 e w ly16 s1_e s2_e s35_e hp h; cases h
  | succ k ih =>
    intro y16 y17 e w ly16 s1_e s2_e s35_e hp h
    unfold field_Element_Bytes.p2 at h
    show Wp _ _ _ _ _ _
    refine wseqP (p0 := [1, 1, 1, 1, 1, 0, 1, 0, 0, 0]) (p1 := [1, 1, 1, 1, 1, 0, 1, 0, 0, 1]) rfl rfl rfl ?_
    refine wregionT field_Element_Bytes.o11 (.tp 0 (.done)) [] rfl rfl (by kernel_rfl) (by kernel_rfl) ?_
    refine k_bin (X := .int .i64 y17) (Y := .int .i64 4) rfl s35_e rfl rfl ?_
    refine k_end ?_; intro e94 qe94
    have s1_e94 : e94 1 = .pointer (some ⟨g1, 0, none⟩) := (congrFun qe94 1).trans s1_e
    have s2_e94 : e94 2 = .pointer (some ⟨g2, 0, none⟩) := (congrFun qe94 2).trans s2_e
    have s35_e94 : e94 35 = .int .i64 y17 := (congrFun qe94 35).trans s35_e
    have s36_e94 : e94 36 = .bool (decide (y17 < 4)) := congrFun qe94 36
    clear qe94
    refine wseqP (p0 := [1, 1, 1, 1, 1, 0, 1, 0, 0, 1, 0]) (p1 := [1, 1, 1, 1, 1, 0, 1, 0, 0, 1, 1]) rfl rfl rfl ?_
    refine wcondP (p0 := [1, 1, 1, 1, 1, 0, 1, 0, 0, 1, 0, 0]) (p1 := [1, 1, 1, 1, 1, 0, 1, 0, 0, 1, 0, 1]) (t := (decide (y17 < 4))) rfl rfl rfl (by decide) s36_e94 (fun hb => ?_) (fun hb => ?_)
    · replace h := br_t hb h
      refine wskip rfl ?_
      refine wseqP (p0 := [1, 1, 1, 1, 1, 0, 1, 0, 0, 1, 1, 0]) (p1 := [1, 1, 1, 1, 1, 0, 1, 0, 0, 1, 1, 1]) rfl rfl rfl ?_
      refine wblockP (p0 := [1, 1, 1, 1, 1, 0, 1, 0, 0, 1, 1, 0, 0]) 3 rfl rfl ?_
      refine wseqP (p0 := [1, 1, 1, 1, 1, 0, 1, 0, 0, 1, 1, 0, 0, 0]) (p1 := [1, 1, 1, 1, 1, 0, 1, 0, 0, 1, 1, 0, 0, 1]) rfl rfl rfl ?_
      refine wregionT field_Element_Bytes.o12 (.tp 0 (.tp 1 (.done))) [] rfl rfl (by kernel_rfl) (by kernel_rfl) ?_
      refine k_move (v := .int .i64 y17) rfl s35_e94 ?_
      refine k_assign (v := .int .i64 y17) rfl rfl ?_
      refine k_end ?_; intro e95 qe95
      have s1_e95 : e95 1 = .pointer (some ⟨g1, 0, none⟩) := (congrFun qe95 1).trans s1_e94
      have s2_e95 : e95 2 = .pointer (some ⟨g2, 0, none⟩) := (congrFun qe95 2).trans s2_e94
      have s6_e95 : e95 6 = .int .i64 y17 := congrFun qe95 6
      have s35_e95 : e95 35 = .int .i64 y17 := (congrFun qe95 35).trans s35_e94
      clear qe95
      refine wseqP (p0 := [1, 1, 1, 1, 1, 0, 1, 0, 0, 1, 1, 0, 0, 1, 0]) (p1 := [1, 1, 1, 1, 1, 0, 1, 0, 0, 1, 1, 0, 0, 1, 1]) rfl rfl rfl ?_
      refine wregionM field_Element_Bytes.o13 (.tp 0 (.tp 1 (.tp 2 (.tk 3 (.tp 4 (.tp 5 (.tk 6 (.tp 7 (.tp 8 (.tp 9 (.ef 10 (.done)))))))))))) [10] [(0, 0, 2047), (1, 1, 2047), (2, 2, 2047), (4, 4, 0), (0, 0, 2047), (16, 16, 2047), (32, 32, 0), (64, 64, 2047), (136, 136, 2047), (511, 2, 2047), (1023, 2047, 2047)] rfl rfl (by kernel_rfl) (by kernel_rfl) (Nat.le_of_ble_eq_true (by kernel_rfl)) (by kernel_rfl) (by kernel_rfl) (by kernel_rfl) ?_
      have hp := hp.drew
      refine k_move (v := .int .i64 y17) rfl s6_e95 ?_
      refine k_bin (X := .int .i64 y17) (Y := .int .i64 1) rfl rfl rfl rfl ?_
      obtain ⟨c18, h⟩ := chk_e h
      refine k_indexA (n := 5) (s := 1) (j := (IntKind.i64.wrap (y17 + 1))) rfl Try.underlying36 (by kernel_rfl) s1_e95 rfl c18 ?_
      refine k_load (j := ((IntKind.i64.wrap (y17 + 1)) : Int).toNat) (v := .int .u64 (y16.getD ((IntKind.i64.wrap (y17 + 1)) : Int).toNat 0)) rfl (by kernel_rfl) rfl (hp.get (j := 0) rfl) rfl (show 0 + ((IntKind.i64.wrap (y17 + 1)) : Int).toNat * 1 = 0 + ((IntKind.i64.wrap (y17 + 1)) : Int).toNat by omega) (ints_get (idx_lt c18 ly16)) ?_
      refine k_move (v := .int .i64 y17) rfl s6_e95 ?_
      obtain ⟨c19, h⟩ := chk_e h
      refine k_indexA (n := 5) (s := 1) (j := y17) rfl Try.underlying36 (by kernel_rfl) s1_e95 rfl c19 ?_
      refine k_load (j := (y17 : Int).toNat) (v := .int .u64 (y16.getD (y17 : Int).toNat 0)) rfl (by kernel_rfl) rfl (hp.get (j := 0) rfl) rfl (show 0 + (y17 : Int).toNat * 1 = 0 + (y17 : Int).toNat by omega) (ints_get (idx_lt c19 ly16)) ?_
      refine k_shr (a := (y16.getD (y17 : Int).toNat 0)) (b := 51) rfl rfl rfl (by decide) ?_
      refine k_bin (X := .int .u64 (y16.getD ((IntKind.i64.wrap (y17 + 1)) : Int).toNat 0)) (Y := .int .u64 (Int.fdiv (y16.getD (y17 : Int).toNat 0) (2 ^ 51))) rfl rfl rfl rfl ?_
      refine k_indexA (n := 5) (s := 1) (j := (IntKind.i64.wrap (y17 + 1))) rfl Try.underlying36 (by kernel_rfl) s1_e95 rfl c18 ?_
      refine k_store (v := .int .u64 (IntKind.u64.wrap ((y16.getD ((IntKind.i64.wrap (y17 + 1)) : Int).toNat 0) + (Int.fdiv (y16.getD (y17 : Int).toNat 0) (2 ^ 51))))) 0 ((IntKind.i64.wrap (y17 + 1)) : Int).toNat (r := ⟨g1, 0, ints .u64 y16⟩) rfl (by kernel_rfl) rfl rfl rfl hp rfl rfl (show 0 + ((IntKind.i64.wrap (y17 + 1)) : Int).toNat * 1 = 0 + ((IntKind.i64.wrap (y17 + 1)) : Int).toNat by omega) (Nat.lt_of_lt_of_eq (idx_lt c18 ly16) (ints_length _ _).symm) (by decide) ?_; intro w hp; rw [ints_set] at hp
      refine k_end ?_; intro e96 qe96
      have s1_e96 : e96 1 = .pointer (some ⟨g1, 0, none⟩) := (congrFun qe96 1).trans s1_e95
      have s2_e96 : e96 2 = .pointer (some ⟨g2, 0, none⟩) := (congrFun qe96 2).trans s2_e95
      have s6_e96 : e96 6 = .int .i64 y17 := (congrFun qe96 6).trans s6_e95
      have s35_e96 : e96 35 = .int .i64 y17 := (congrFun qe96 35).trans s35_e95
      clear qe96
      obtain ⟨x20, qx20, h⟩ := lt_e h
      have lx20 : x20.length = 5 := (congrArg List.length qx20).trans (List.length_set.trans ly16)
      have hp : Hp w0 Ws w [⟨g1, 0, ints .u64 x20⟩, ⟨g2, 0, ints .u8 (List.replicate 32 (0 : Int))⟩] [] := by rw [qx20]; exact hp
      refine wregionT field_Element_Bytes.o14 (.tp 0 (.tp 1 (.tk 2 (.tp 3 (.tp 4 (.ef 5 (.done))))))) [5] rfl rfl (by kernel_rfl) (by kernel_rfl) ?_
      refine k_move (v := .int .i64 y17) rfl s6_e96 ?_
      refine k_indexA (n := 5) (s := 1) (j := y17) rfl Try.underlying36 (by kernel_rfl) s1_e96 rfl c19 ?_
      refine k_load (j := (y17 : Int).toNat) (v := .int .u64 (x20.getD (y17 : Int).toNat 0)) rfl (by kernel_rfl) rfl (hp.get (j := 0) rfl) rfl (show 0 + (y17 : Int).toNat * 1 = 0 + (y17 : Int).toNat by omega) (ints_get (idx_lt c19 lx20)) ?_
      refine k_bin (X := .int .u64 (x20.getD (y17 : Int).toNat 0)) (Y := .int .u64 2251799813685247) rfl rfl rfl rfl ?_
      refine k_indexA (n := 5) (s := 1) (j := y17) rfl Try.underlying36 (by kernel_rfl) s1_e96 rfl c19 ?_
      refine k_store (v := .int .u64 (bits .and .u64 (x20.getD (y17 : Int).toNat 0) 2251799813685247)) 0 (y17 : Int).toNat (r := ⟨g1, 0, ints .u64 x20⟩) rfl (by kernel_rfl) rfl rfl rfl hp rfl rfl (show 0 + (y17 : Int).toNat * 1 = 0 + (y17 : Int).toNat by omega) (Nat.lt_of_lt_of_eq (idx_lt c19 lx20) (ints_length _ _).symm) (by decide) ?_; intro w hp; rw [ints_set] at hp
      refine k_end ?_; intro e97 qe97
      have s1_e97 : e97 1 = .pointer (some ⟨g1, 0, none⟩) := (congrFun qe97 1).trans s1_e96
      have s2_e97 : e97 2 = .pointer (some ⟨g2, 0, none⟩) := (congrFun qe97 2).trans s2_e96
      have s35_e97 : e97 35 = .int .i64 y17 := (congrFun qe97 35).trans s35_e96
      clear qe97
      obtain ⟨x21, qx21, h⟩ := lt_e h
      have lx21 : x21.length = 5 := (congrArg List.length qx21).trans (List.length_set.trans lx20)
      have hp : Hp w0 Ws w [⟨g1, 0, ints .u64 x21⟩, ⟨g2, 0, ints .u8 (List.replicate 32 (0 : Int))⟩] [] := by rw [qx21]; exact hp
      refine wregionT field_Element_Bytes.o15 (.tp 0 (.tp 1 (.done))) [] rfl rfl (by kernel_rfl) (by kernel_rfl) ?_
      refine k_bin (X := .int .i64 y17) (Y := .int .i64 1) rfl s35_e97 rfl rfl ?_
      refine k_move (v := .int .i64 (IntKind.i64.wrap (y17 + 1))) rfl rfl ?_
      refine k_end ?_; intro e98 qe98
      have s1_e98 : e98 1 = .pointer (some ⟨g1, 0, none⟩) := (congrFun qe98 1).trans s1_e97
      have s2_e98 : e98 2 = .pointer (some ⟨g2, 0, none⟩) := (congrFun qe98 2).trans s2_e97
      obtain ⟨x22, qx22, h⟩ := lt_e h
      have s35_e98 : e98 35 = .int .i64 x22 := (congrFun qe98 35).trans (congrArg (Value.int .i64) qx22.symm)
      clear qe98
      exact ih x21 x22 _ _ lx21 s1_e98 s2_e98 s35_e98 (hp.drop (L' := [⟨g1, 0, ints .u64 x21⟩, ⟨g2, 0, ints .u8 (List.replicate 32 (0 : Int))⟩]) (List.Sublist.refl _)) h
    · replace h := br_f hb h
      refine wexit rfl ?_
      exact hQ0 _ _ y16 ly16 s1_e94 s2_e94 (hp.drop (L' := [⟨g1, 0, ints .u64 y16⟩, ⟨g2, 0, ints .u8 (List.replicate 32 (0 : Int))⟩]) (List.Sublist.refl _)) (Option.some.inj h).symm
theorem field_Element_Bytes.p4_ok {w0 : World} {Ws : List Wr} {Q : Exit → Env → World → Prop} (g1 g2 g25 : Nat) (y28 : Int) (x30 : Int) (x26 : List Int) (m24 : List Int) (lm24 : m24.length = 5) (lx26 : x26.length = 4) {r : List Int} (hQ0 : ∀ (e' : Env) (w' : World) (z0 : List Int), z0.length = 32 → e' 2 = .pointer (some ⟨g2, 0, none⟩) → e' 7 = .pointer (some ⟨g25, 0, none⟩) → e' 85 = .agg (ints .u64 x26).toArray → e' 86 = .int .i64 y28 → Hp w0 Ws w' [⟨g1, 0, ints .u64 (m24.set 4 (bits .and .u64 (m24.getD 4 0) 2251799813685247))⟩, ⟨g2, 0, ints .u8 (List.replicate 32 (0 : Int))⟩, ⟨g25, 0, ints .u8 z0⟩] [] → r = (z0) → Q (.exit 6) e' w') : ∀ (k : Nat), ∀ (y31 : List Int) (y32 : Int) (e : Env) (w : World) (ly31 : y31.length = 32) (s2_e : e 2 = .pointer (some ⟨g2, 0, none⟩)) (s7_e : e 7 = .pointer (some ⟨g25, 0, none⟩)) (s8_e : e 8 = .int .i64 y28) (s9_e : e 9 = .int .u64 x30) (s85_e : e 85 = .agg (ints .u64 x26).toArray) (s86_e : e 86 = .int .i64 y28) (s90_e : e 90 = .int .i64 y32) (hp : Hp w0 Ws w [⟨g1, 0, ints .u64 (m24.set 4 (bits .and .u64 (m24.getD 4 0) 2251799813685247))⟩, ⟨g2, 0, ints .u8 (List.replicate 32 (0 : Int))⟩, ⟨g25, 0, ints .u8 y31⟩] []) (h : field_Element_Bytes.p4 k y28 x30 y31 y32 = some r), Lp Try.prog Try.f26.ntmps (at_ (fbody Try.f26) [1, 1, 1, 1, 1, 1, 1, 1, 0, 1, 0, 0, 1, 1, 0, 0, 1, 1, 0, 0]) Q k e w := by
  intro k
  induction k with
  | zero => intro y31 y32 e w ly31 s2_e s7_e s8_e s9_e s85_e s86_e s90_e hp h; cases h
  | succ k ih =>
    intro y31 y32 e w ly31 s2_e s7_e s8_e s9_e s85_e s86_e s90_e hp h
    unfold field_Element_Bytes.p4 at h
    show Wp _ _ _ _ _ _
    refine wseqP (p0 := [1, 1, 1, 1, 1, 1, 1, 1, 0, 1, 0, 0, 1, 1, 0, 0, 1, 1, 0, 0, 0]) (p1 := [1, 1, 1, 1, 1, 1, 1, 1, 0, 1, 0, 0, 1, 1, 0, 0, 1, 1, 0, 0, 1]) rfl rfl rfl ?_
    refine wregionT field_Element_Bytes.o22 (.tp 0 (.done)) [] rfl rfl (by kernel_rfl) (by kernel_rfl) ?_
    refine k_bin (X := .int .i64 y32) (Y := .int .i64 8) rfl s90_e rfl rfl ?_
    refine k_end ?_; intro e106 qe106
    have s2_e106 : e106 2 = .pointer (some ⟨g2, 0, none⟩) := (congrFun qe106 2).trans s2_e
    have s7_e106 : e106 7 = .pointer (some ⟨g25, 0, none⟩) := (congrFun qe106 7).trans s7_e
    have s8_e106 : e106 8 = .int .i64 y28 := (congrFun qe106 8).trans s8_e
    have s9_e106 : e106 9 = .int .u64 x30 := (congrFun qe106 9).trans s9_e
    have s85_e106 : e106 85 = .agg (ints .u64 x26).toArray := (congrFun qe106 85).trans s85_e
    have s86_e106 : e106 86 = .int .i64 y28 := (congrFun qe106 86).trans s86_e
    have s90_e106 : e106 90 = .int .i64 y32 := (congrFun qe106 90).trans s90_e
    have s91_e106 : e106 91 = .bool (decide (y32 < 8)) := congrFun qe106 91
    clear qe106
    refine wseqP (p0 := [1, 1, 1, 1, 1, 1, 1, 1, 0, 1, 0, 0, 1, 1, 0, 0, 1, 1, 0, 0, 1, 0]) (p1 := [1, 1, 1, 1, 1, 1, 1, 1, 0, 1, 0, 0, 1, 1, 0, 0, 1, 1, 0, 0, 1, 1]) rfl rfl rfl ?_
    refine wcondP (p0 := [1, 1, 1, 1, 1, 1, 1, 1, 0, 1, 0, 0, 1, 1, 0, 0, 1, 1, 0, 0, 1, 0, 0]) (p1 := [1, 1, 1, 1, 1, 1, 1, 1, 0, 1, 0, 0, 1, 1, 0, 0, 1, 1, 0, 0, 1, 0, 1]) (t := (decide (y32 < 8))) rfl rfl rfl (by decide) s91_e106 (fun hb => ?_) (fun hb => ?_)
    · replace h := br_t hb h
      refine wskip rfl ?_
      refine wseqP (p0 := [1, 1, 1, 1, 1, 1, 1, 1, 0, 1, 0, 0, 1, 1, 0, 0, 1, 1, 0, 0, 1, 1, 0]) (p1 := [1, 1, 1, 1, 1, 1, 1, 1, 0, 1, 0, 0, 1, 1, 0, 0, 1, 1, 0, 0, 1, 1, 1]) rfl rfl rfl ?_
      refine wblockP (p0 := [1, 1, 1, 1, 1, 1, 1, 1, 0, 1, 0, 0, 1, 1, 0, 0, 1, 1, 0, 0, 1, 1, 0, 0]) 7 rfl rfl ?_
      refine wseqP (p0 := [1, 1, 1, 1, 1, 1, 1, 1, 0, 1, 0, 0, 1, 1, 0, 0, 1, 1, 0, 0, 1, 1, 0, 0, 0]) (p1 := [1, 1, 1, 1, 1, 1, 1, 1, 0, 1, 0, 0, 1, 1, 0, 0, 1, 1, 0, 0, 1, 1, 0, 0, 1]) rfl rfl rfl ?_
      refine wregionT field_Element_Bytes.o23 (.tp 0 (.tp 1 (.done))) [] rfl rfl (by kernel_rfl) (by kernel_rfl) ?_
      refine k_move (v := .int .i64 y32) rfl s90_e106 ?_
      refine k_assign (v := .int .i64 y32) rfl rfl ?_
      refine k_end ?_; intro e107 qe107
      have s2_e107 : e107 2 = .pointer (some ⟨g2, 0, none⟩) := (congrFun qe107 2).trans s2_e106
      have s7_e107 : e107 7 = .pointer (some ⟨g25, 0, none⟩) := (congrFun qe107 7).trans s7_e106
      have s8_e107 : e107 8 = .int .i64 y28 := (congrFun qe107 8).trans s8_e106
      have s9_e107 : e107 9 = .int .u64 x30 := (congrFun qe107 9).trans s9_e106
      have s10_e107 : e107 10 = .int .i64 y32 := congrFun qe107 10
      have s85_e107 : e107 85 = .agg (ints .u64 x26).toArray := (congrFun qe107 85).trans s85_e106
      have s86_e107 : e107 86 = .int .i64 y28 := (congrFun qe107 86).trans s86_e106
      have s90_e107 : e107 90 = .int .i64 y32 := (congrFun qe107 90).trans s90_e106
      clear qe107
      refine wregionT field_Element_Bytes.o24 (.tp 0 (.tp 1 (.tp 2 (.tp 3 (.tp 4 (.tp 5 (.tp 6 (.tp 7 (.tp 8 (.tp 9 (.ef 10 (.done)))))))))))) [10] rfl rfl (by kernel_rfl) (by kernel_rfl) ?_
      refine k_move (v := .int .i64 y28) rfl s8_e107 ?_
      refine k_bin (X := .int .i64 8) (Y := .int .i64 y28) rfl rfl rfl rfl ?_
      refine k_move (v := .int .i64 y32) rfl s10_e107 ?_
      refine k_bin (X := .int .i64 (IntKind.i64.wrap (8 * y28))) (Y := .int .i64 y32) rfl rfl rfl rfl ?_
      refine k_move (v := .int .u64 x30) rfl s9_e107 ?_
      refine k_move (v := .int .i64 y32) rfl s10_e107 ?_
      refine k_bin (X := .int .i64 8) (Y := .int .i64 y32) rfl rfl rfl rfl ?_
      obtain ⟨c33, h⟩ := chk_e h
      refine k_shr (a := x30) (b := (IntKind.i64.wrap (8 * y32))) rfl rfl rfl c33 ?_
      refine k_conv (k := .u8) (k' := .u64) (n := (Int.fdiv x30 (2 ^ (min ((IntKind.i64.wrap (8 * y32)) : Int).toNat (IntKind.u64).bits)))) rfl Try.underlying34 Try.underlying5 rfl ?_
      obtain ⟨c34, h⟩ := chk_e h
      refine k_indexA (n := 32) (s := 1) (j := (IntKind.i64.wrap ((IntKind.i64.wrap (8 * y28)) + y32))) rfl Try.underlying22 (by kernel_rfl) s7_e107 rfl c34 ?_
      refine k_store (v := .int .u8 (IntKind.u8.wrap (Int.fdiv x30 (2 ^ (min ((IntKind.i64.wrap (8 * y32)) : Int).toNat (IntKind.u64).bits))))) 2 ((IntKind.i64.wrap ((IntKind.i64.wrap (8 * y28)) + y32)) : Int).toNat (r := ⟨g25, 0, ints .u8 y31⟩) rfl (by kernel_rfl) rfl rfl rfl hp rfl rfl (show 0 + ((IntKind.i64.wrap ((IntKind.i64.wrap (8 * y28)) + y32)) : Int).toNat * 1 = 0 + ((IntKind.i64.wrap ((IntKind.i64.wrap (8 * y28)) + y32)) : Int).toNat by omega) (Nat.lt_of_lt_of_eq (idx_lt c34 ly31) (ints_length _ _).symm) (by decide) ?_; intro w hp; rw [ints_set] at hp
      refine k_end ?_; intro e108 qe108
      have s2_e108 : e108 2 = .pointer (some ⟨g2, 0, none⟩) := (congrFun qe108 2).trans s2_e107
      have s7_e108 : e108 7 = .pointer (some ⟨g25, 0, none⟩) := (congrFun qe108 7).trans s7_e107
      have s8_e108 : e108 8 = .int .i64 y28 := (congrFun qe108 8).trans s8_e107
      have s9_e108 : e108 9 = .int .u64 x30 := (congrFun qe108 9).trans s9_e107
      have s85_e108 : e108 85 = .agg (ints .u64 x26).toArray := (congrFun qe108 85).trans s85_e107
      have s86_e108 : e108 86 = .int .i64 y28 := (congrFun qe108 86).trans s86_e107
      have s90_e108 : e108 90 = .int .i64 y32 := (congrFun qe108 90).trans s90_e107
      clear qe108
      obtain ⟨x35, qx35, h⟩ := lt_e h
      have lx35 : x35.length = 32 := (congrArg List.length qx35).trans (List.length_set.trans ly31)
      have hp : Hp w0 Ws w [⟨g1, 0, ints .u64 (m24.set 4 (bits .and .u64 (m24.getD 4 0) 2251799813685247))⟩, ⟨g2, 0, ints .u8 (List.replicate 32 (0 : Int))⟩, ⟨g25, 0, ints .u8 x35⟩] [] := by rw [qx35]; exact hp
      refine wregionT field_Element_Bytes.o25 (.tp 0 (.tp 1 (.done))) [] rfl rfl (by kernel_rfl) (by kernel_rfl) ?_
      refine k_bin (X := .int .i64 y32) (Y := .int .i64 1) rfl s90_e108 rfl rfl ?_
      refine k_move (v := .int .i64 (IntKind.i64.wrap (y32 + 1))) rfl rfl ?_
      refine k_end ?_; intro e109 qe109
      have s2_e109 : e109 2 = .pointer (some ⟨g2, 0, none⟩) := (congrFun qe109 2).trans s2_e108
      have s7_e109 : e109 7 = .pointer (some ⟨g25, 0, none⟩) := (congrFun qe109 7).trans s7_e108
      have s8_e109 : e109 8 = .int .i64 y28 := (congrFun qe109 8).trans s8_e108
      have s9_e109 : e109 9 = .int .u64 x30 := (congrFun qe109 9).trans s9_e108
      have s85_e109 : e109 85 = .agg (ints .u64 x26).toArray := (congrFun qe109 85).trans s85_e108
      have s86_e109 : e109 86 = .int .i64 y28 := (congrFun qe109 86).trans s86_e108
      obtain ⟨x36, qx36, h⟩ := lt_e h
      have s90_e109 : e109 90 = .int .i64 x36 := (congrFun qe109 90).trans (congrArg (Value.int .i64) qx36.symm)
      clear qe109
      exact ih x35 x36 _ _ lx35 s2_e109 s7_e109 s8_e109 s9_e109 s85_e109 s86_e109 s90_e109 (hp.drop (L' := [⟨g1, 0, ints .u64 (m24.set 4 (bits .and .u64 (m24.getD 4 0) 2251799813685247))⟩, ⟨g2, 0, ints .u8 (List.replicate 32 (0 : Int))⟩, ⟨g25, 0, ints .u8 x35⟩]) (List.Sublist.refl _)) h
    · replace h := br_f hb h
      refine wexit rfl ?_
      exact hQ0 _ _ y31 ly31 s2_e106 s7_e106 s85_e106 s86_e106 (hp.drop (L' := [⟨g1, 0, ints .u64 (m24.set 4 (bits .and .u64 (m24.getD 4 0) 2251799813685247))⟩, ⟨g2, 0, ints .u8 (List.replicate 32 (0 : Int))⟩, ⟨g25, 0, ints .u8 y31⟩]) (List.Sublist.refl _)) (Option.some.inj h).symm
theorem field_Element_Bytes.p3_ok {w0 : World} {Ws : List Wr} {Q : Exit → Env → World → Prop} (g1 g2 g25 : Nat) (x26 : List Int) (m24 : List Int) (lm24 : m24.length = 5) (lx26 : x26.length = 4) {r : List Int} (hQ0 : ∀ (e' : Env) (w' : World) (z0 : List Int), z0.length = 32 → e' 2 = .pointer (some ⟨g2, 0, none⟩) → e' 7 = .pointer (some ⟨g25, 0, none⟩) → Hp w0 Ws w' [⟨g1, 0, ints .u64 (m24.set 4 (bits .and .u64 (m24.getD 4 0) 2251799813685247))⟩, ⟨g2, 0, ints .u8 (List.replicate 32 (0 : Int))⟩, ⟨g25, 0, ints .u8 z0⟩] [] → r = (z0) → Q (.exit 4) e' w') : ∀ (k : Nat), ∀ (y27 : List Int) (y28 : Int) (e : Env) (w : World) (ly27 : y27.length = 32) (s2_e : e 2 = .pointer (some ⟨g2, 0, none⟩)) (s7_e : e 7 = .pointer (some ⟨g25, 0, none⟩)) (s85_e : e 85 = .agg (ints .u64 x26).toArray) (s86_e : e 86 = .int .i64 y28) (hp : Hp w0 Ws w [⟨g1, 0, ints .u64 (m24.set 4 (bits .and .u64 (m24.getD 4 0) 2251799813685247))⟩, ⟨g2, 0, ints .u8 (List.replicate 32 (0 : Int))⟩, ⟨g25, 0, ints .u8 y27⟩] []) (h : field_Element_Bytes.p3 k x26 y27 y28 = some r), Lp Try.prog Try.f26.ntmps (at_ (fbody Try.f26) [1, 1, 1, 1, 1, 1, 1, 1, 0, 1, 0, 0]) Q k e w := by
  intro k
  induction k with
  | zero => intro y27 y28 e w ly27 s2_e s7_e s85_e s86_e hp h; cases h
  | succ k ih =>
    intro y27 y28 e w ly27 s2_e s7_e s85_e s86_e hp h
    unfold field_Element_Bytes.p3 at h
    show Wp _ _ _ _ _ _
    refine wseqP (p0 := [1, 1, 1, 1, 1, 1, 1, 1, 0, 1, 0, 0, 0]) (p1 := [1, 1, 1, 1, 1, 1, 1, 1, 0, 1, 0, 0, 1]) rfl rfl rfl ?_
    refine wregionT field_Element_Bytes.o19 (.tp 0 (.done)) [] rfl rfl (by kernel_rfl) (by kernel_rfl) ?_
    refine k_bin (X := .int .i64 y28) (Y := .int .i64 4) rfl s86_e rfl rfl ?_
    refine k_end ?_; intro e103 qe103
    have s2_e103 : e103 2 = .pointer (some ⟨g2, 0, none⟩) := (congrFun qe103 2).trans s2_e
    have s7_e103 : e103 7 = .pointer (some ⟨g25, 0, none⟩) := (congrFun qe103 7).trans s7_e
    have s85_e103 : e103 85 = .agg (ints .u64 x26).toArray := (congrFun qe103 85).trans s85_e
    have s86_e103 : e103 86 = .int .i64 y28 := (congrFun qe103 86).trans s86_e
    have s87_e103 : e103 87 = .bool (decide (y28 < 4)) := congrFun qe103 87
    clear qe103
    refine wseqP (p0 := [1, 1, 1, 1, 1, 1, 1, 1, 0, 1, 0, 0, 1, 0]) (p1 := [1, 1, 1, 1, 1, 1, 1, 1, 0, 1, 0, 0, 1, 1]) rfl rfl rfl ?_
    refine wcondP (p0 := [1, 1, 1, 1, 1, 1, 1, 1, 0, 1, 0, 0, 1, 0, 0]) (p1 := [1, 1, 1, 1, 1, 1, 1, 1, 0, 1, 0, 0, 1, 0, 1]) (t := (decide (y28 < 4))) rfl rfl rfl (by decide) s87_e103 (fun hb => ?_) (fun hb => ?_)
    · replace h := br_t hb h
      refine wskip rfl ?_
      refine wseqP (p0 := [1, 1, 1, 1, 1, 1, 1, 1, 0, 1, 0, 0, 1, 1, 0]) (p1 := [1, 1, 1, 1, 1, 1, 1, 1, 0, 1, 0, 0, 1, 1, 1]) rfl rfl rfl ?_
      refine wblockP (p0 := [1, 1, 1, 1, 1, 1, 1, 1, 0, 1, 0, 0, 1, 1, 0, 0]) 5 rfl rfl ?_
      refine wseqP (p0 := [1, 1, 1, 1, 1, 1, 1, 1, 0, 1, 0, 0, 1, 1, 0, 0, 0]) (p1 := [1, 1, 1, 1, 1, 1, 1, 1, 0, 1, 0, 0, 1, 1, 0, 0, 1]) rfl rfl rfl ?_
      refine wregionT field_Element_Bytes.o20 (.tp 0 (.tp 1 (.tp 2 (.tp 3 (.done))))) [] rfl rfl (by kernel_rfl) (by kernel_rfl) ?_
      refine k_move (v := .int .i64 y28) rfl s86_e103 ?_
      obtain ⟨c29, h⟩ := chk_e h
      refine k_index (n := 4) (v := .int .u64 (x26.getD (y28 : Int).toNat 0)) rfl Try.underlying47 (by kernel_rfl) (by kernel_rfl) s85_e103 s86_e103 c29 (ints_get (idx_lt c29 lx26)) ?_
      refine k_assign (v := .int .i64 y28) rfl rfl ?_
      refine k_assign (v := .int .u64 (x26.getD (y28 : Int).toNat 0)) rfl rfl ?_
      refine k_end ?_; intro e104 qe104
      have s2_e104 : e104 2 = .pointer (some ⟨g2, 0, none⟩) := (congrFun qe104 2).trans s2_e103
      have s7_e104 : e104 7 = .pointer (some ⟨g25, 0, none⟩) := (congrFun qe104 7).trans s7_e103
      have s8_e104 : e104 8 = .int .i64 y28 := congrFun qe104 8
      obtain ⟨x30, qx30, h⟩ := lt_e h
      have s9_e104 : e104 9 = .int .u64 x30 := (congrFun qe104 9).trans (congrArg (Value.int .u64) qx30.symm)
      have s85_e104 : e104 85 = .agg (ints .u64 x26).toArray := (congrFun qe104 85).trans s85_e103
      have s86_e104 : e104 86 = .int .i64 y28 := (congrFun qe104 86).trans s86_e103
      clear qe104
      refine wseqP (p0 := [1, 1, 1, 1, 1, 1, 1, 1, 0, 1, 0, 0, 1, 1, 0, 0, 1, 0]) (p1 := [1, 1, 1, 1, 1, 1, 1, 1, 0, 1, 0, 0, 1, 1, 0, 0, 1, 1]) rfl rfl rfl ?_
      refine wregionT field_Element_Bytes.o21 (.tp 0 (.done)) [] rfl rfl (by kernel_rfl) (by kernel_rfl) ?_
      refine k_move (v := .int .i64 0) rfl rfl ?_
      refine k_end ?_; intro e105 qe105
      have s2_e105 : e105 2 = .pointer (some ⟨g2, 0, none⟩) := (congrFun qe105 2).trans s2_e104
      have s7_e105 : e105 7 = .pointer (some ⟨g25, 0, none⟩) := (congrFun qe105 7).trans s7_e104
      have s8_e105 : e105 8 = .int .i64 y28 := (congrFun qe105 8).trans s8_e104
      have s9_e105 : e105 9 = .int .u64 x30 := (congrFun qe105 9).trans s9_e104
      have s85_e105 : e105 85 = .agg (ints .u64 x26).toArray := (congrFun qe105 85).trans s85_e104
      have s86_e105 : e105 86 = .int .i64 y28 := (congrFun qe105 86).trans s86_e104
      have s90_e105 : e105 90 = .int .i64 0 := congrFun qe105 90
      clear qe105
      refine wblockP (p0 := [1, 1, 1, 1, 1, 1, 1, 1, 0, 1, 0, 0, 1, 1, 0, 0, 1, 1, 0]) 6 rfl rfl ?_
      obtain ⟨r37, qr37, h⟩ := bd_e h
      refine wloopP (p0 := [1, 1, 1, 1, 1, 1, 1, 1, 0, 1, 0, 0, 1, 1, 0, 0, 1, 1, 0, 0]) k rfl rfl (field_Element_Bytes.p4_ok g1 g2 g25 y28 x30 x26 m24 lm24 lx26 ?hq0 k y27 0 e105 _ ly27 s2_e105 s7_e105 s8_e105 s9_e105 s85_e105 s86_e105 s90_e105 hp qr37)
      case hq0 =>
        intro e110 w m38 lm38 s2_e110 s7_e110 s85_e110 s86_e110 hp qq
        rw [qq] at h; clear qq
        refine wregionT field_Element_Bytes.o26 (.tp 0 (.tp 1 (.done))) [] rfl rfl (by kernel_rfl) (by kernel_rfl) ?_
        refine k_bin (X := .int .i64 y28) (Y := .int .i64 1) rfl s86_e110 rfl rfl ?_
        refine k_move (v := .int .i64 (IntKind.i64.wrap (y28 + 1))) rfl rfl ?_
        refine k_end ?_; intro e111 qe111
        have s2_e111 : e111 2 = .pointer (some ⟨g2, 0, none⟩) := (congrFun qe111 2).trans s2_e110
        have s7_e111 : e111 7 = .pointer (some ⟨g25, 0, none⟩) := (congrFun qe111 7).trans s7_e110
        have s85_e111 : e111 85 = .agg (ints .u64 x26).toArray := (congrFun qe111 85).trans s85_e110
        obtain ⟨x39, qx39, h⟩ := lt_e h
        have s86_e111 : e111 86 = .int .i64 x39 := (congrFun qe111 86).trans (congrArg (Value.int .i64) qx39.symm)
        clear qe111
        exact ih m38 x39 _ _ lm38 s2_e111 s7_e111 s85_e111 s86_e111 (hp.drop (L' := [⟨g1, 0, ints .u64 (m24.set 4 (bits .and .u64 (m24.getD 4 0) 2251799813685247))⟩, ⟨g2, 0, ints .u8 (List.replicate 32 (0 : Int))⟩, ⟨g25, 0, ints .u8 m38⟩]) (List.Sublist.refl _)) h
    · replace h := br_f hb h
      refine wexit rfl ?_
      exact hQ0 _ _ y27 ly27 s2_e103 s7_e103 (hp.drop (L' := [⟨g1, 0, ints .u64 (m24.set 4 (bits .and .u64 (m24.getD 4 0) 2251799813685247))⟩, ⟨g2, 0, ints .u8 (List.replicate 32 (0 : Int))⟩, ⟨g25, 0, ints .u8 y27⟩]) (List.Sublist.refl _)) (Option.some.inj h).symm
set_option maxHeartbeats 4000000 in
theorem field_Element_Bytes_ok (k : Nat) (a0 : List Int) (la0 : a0.length = 5) (w0 : World) (hp : Hp w0 [] w0 [] []) {r : List Int} (h : field_Element_Bytes.f k a0 = some r) :
    Calls Try.prog 26 [.agg (ints .u64 a0).toArray].toArray w0 fun x w' => ∃ v, x = .returned v ∧ v = .agg (ints .u8 r).toArray ∧ r.length = 32 ∧ Hp w0 [] w' [] [] := by
  refine calls_inP Try.func26 rfl (Nat.le_of_ble_eq_true (by kernel_rfl)) (by kernel_rfl) ?_
  intro e0 qe0
  have s0_e0 : e0 0 = .agg (ints .u64 a0).toArray := congrFun qe0 0
  clear qe0
  unfold field_Element_Bytes.f at h
  refine wseqP (p0 := [0]) (p1 := [1]) rfl rfl rfl ?_
  refine wregionT field_Element_Bytes.o1 (.ef 0 (.ef 1 (.done))) [] rfl rfl (by kernel_rfl) (by kernel_rfl) ?_
  refine k_box (v := .agg (ints .u64 a0).toArray) (ints .u64 a0) rfl s0_e0 rfl hp ?_
  intro g1 w hbg1 hp
  refine k_alloc (ints .u8 (List.replicate 32 (0 : Int))) rfl (by kernel_rfl) hp ?_
  intro g2 w hbg2 hp
  refine k_end ?_; intro e83 qe83
  have s1_e83 : e83 1 = .pointer (some ⟨g1, 0, none⟩) := congrFun qe83 1
  have s2_e83 : e83 2 = .pointer (some ⟨g2, 0, none⟩) := congrFun qe83 2
  clear qe83
  refine wseqP (p0 := [1, 0]) (p1 := [1, 1]) rfl rfl rfl ?_
  refine wregionT field_Element_Bytes.o2 (.tk 0 (.ef 1 (.ef 2 (.ef 3 (.done))))) [3] rfl rfl (by kernel_rfl) (by kernel_rfl) ?_
  refine k_loadA (n := 5) (xs := ints .u64 a0) 0 rfl (by kernel_rfl) (by kernel_rfl) s1_e83 (hp.get (j := 0) rfl) rfl rfl ((ints_length _ _).trans la0) (fun m v hm => by rw [Nat.zero_add]; exact hm) ?_
  obtain ⟨r3, qr3, h⟩ := bd_e h
  refine k_call [.agg (ints .u64 a0).toArray] rfl (by kernel_rfl) (args1 rfl) (field_Element_carried_ok a0 la0 _ (hp.toR (fun _ h => by cases h)) qr3) ?_
  rintro _ w' ⟨_, rfl, rfl, lr30, hpc⟩
  refine ⟨_, rfl, .inr (.of_below hpc.chg.to_below), ?_⟩; have hp := hp.below hpc.chg.to_below; clear hpc
  obtain ⟨r4, qr4, h⟩ := bd_e h
  refine k_call [.agg (ints .u64 r3).toArray] rfl (by kernel_rfl) (args1 rfl) (field_Element_carried_ok r3 lr30 _ (hp.toR (fun _ h => by cases h)) qr4) ?_
  rintro _ w' ⟨_, rfl, rfl, lr40, hpc⟩
  refine ⟨_, rfl, .inr (.of_below hpc.chg.to_below), ?_⟩; have hp := hp.below hpc.chg.to_below; clear hpc
  refine k_storeA (v := .agg (ints .u64 r4).toArray) 0 0 (r := ⟨g1, 0, ints .u64 a0⟩) (ints .u64 r4) (ints .u64 r4) rfl (n := 5) (by kernel_rfl) s1_e83 rfl rfl ((ints_length _ _).trans lr40) (ints_one _ _) hp rfl rfl rfl (Nat.le_of_eq ((Nat.zero_add _).trans ((ints_length _ _).trans la0).symm)) (setMany_all _ _ (((ints_length _ _).trans lr40).trans ((ints_length _ _).trans la0).symm)) (by decide) ?_; intro w hp
  refine k_end ?_; intro e84 qe84
  have s1_e84 : e84 1 = .pointer (some ⟨g1, 0, none⟩) := (congrFun qe84 1).trans s1_e83
  have s2_e84 : e84 2 = .pointer (some ⟨g2, 0, none⟩) := (congrFun qe84 2).trans s2_e83
  clear qe84
  refine wseqP (p0 := [1, 1, 0]) (p1 := [1, 1, 1]) rfl rfl rfl ?_
  refine wregionT field_Element_Bytes.o3 (.tp 0 (.tk 1 (.tp 2 (.tp 3 (.tp 4 (.done)))))) [] rfl rfl (by kernel_rfl) (by kernel_rfl) ?_
  refine k_indexA (n := 5) (s := 1) (j := 0) rfl Try.underlying36 (by kernel_rfl) s1_e84 rfl (by decide) ?_
  refine k_load (j := 0) (v := .int .u64 (r4.getD 0 0)) rfl (by kernel_rfl) rfl (hp.get (j := 0) rfl) rfl rfl (ints_get (Nat.lt_of_lt_of_eq (m := 5) (by decide) (lr40).symm)) ?_
  refine k_bin (X := .int .u64 (r4.getD 0 0)) (Y := .int .u64 19) rfl rfl rfl rfl ?_
  refine k_shr (a := (IntKind.u64.wrap ((r4.getD 0 0) + 19))) (b := 51) rfl rfl rfl (by decide) ?_
  refine k_assign (v := .int .u64 (Int.fdiv (IntKind.u64.wrap ((r4.getD 0 0) + 19)) (2 ^ 51))) rfl rfl ?_
  refine k_end ?_; intro e85 qe85
  have s1_e85 : e85 1 = .pointer (some ⟨g1, 0, none⟩) := (congrFun qe85 1).trans s1_e84
  have s2_e85 : e85 2 = .pointer (some ⟨g2, 0, none⟩) := (congrFun qe85 2).trans s2_e84
  obtain ⟨x5, qx5, h⟩ := lt_e h
  have s3_e85 : e85 3 = .int .u64 x5 := (congrFun qe85 3).trans (congrArg (Value.int .u64) qx5.symm)
  clear qe85
  refine wseqP (p0 := [1, 1, 1, 0]) (p1 := [1, 1, 1, 1]) rfl rfl rfl ?_
  refine wseqP (p0 := [1, 1, 1, 0, 0]) (p1 := [1, 1, 1, 0, 1]) rfl rfl rfl ?_
  refine wregionT field_Element_Bytes.o4 (.tp 0 (.tp 1 (.tp 2 (.done)))) [] rfl rfl (by kernel_rfl) (by kernel_rfl) ?_
  refine k_sliceA (n := 5) (s := 1) (l := 1) (h' := 5) rfl Try.underlying36 (by kernel_rfl) s1_e85 rfl ⟨_, rfl, by decide⟩ (by decide) ?_
  refine k_len rfl Try.underlying64 rfl ?_
  refine k_move (v := .int .i64 0) rfl rfl ?_
  refine k_end ?_; intro e86 qe86
  have s1_e86 : e86 1 = .pointer (some ⟨g1, 0, none⟩) := (congrFun qe86 1).trans s1_e85
  have s2_e86 : e86 2 = .pointer (some ⟨g2, 0, none⟩) := (congrFun qe86 2).trans s2_e85
  have s3_e86 : e86 3 = .int .u64 x5 := (congrFun qe86 3).trans s3_e85
  have s18_e86 : e86 18 = .slice (some ⟨g1, 0 + 1 * 1, none⟩) (5 - 1) (5 - 1) := congrFun qe86 18
  obtain ⟨x6, qx6, h⟩ := lt_e h
  have s19_e86 : e86 19 = .int .i64 x6 := (congrFun qe86 19).trans (congrArg (Value.int .i64) qx6.symm)
  have s20_e86 : e86 20 = .int .i64 0 := congrFun qe86 20
  clear qe86
  refine wblockP (p0 := [1, 1, 1, 0, 1, 0]) 0 rfl rfl ?_
  obtain ⟨r13, qr13, h⟩ := bd_e h
  refine wloopP (p0 := [1, 1, 1, 0, 1, 0, 0]) k rfl rfl (field_Element_Bytes.p1_ok g1 g2 x6 r4 lr40 ?hq0 k x5 0 e86 _  s1_e86 s2_e86 s3_e86 s18_e86 s19_e86 s20_e86 hp qr13)
  case hq0 =>
    intro e91 w m14  s1_e91 s2_e91 s3_e91 hp qq
    rw [qq] at h; clear qq
    refine wseqP (p0 := [1, 1, 1, 1, 0]) (p1 := [1, 1, 1, 1, 1]) rfl rfl rfl ?_
    refine wregionT field_Element_Bytes.o9 (.tp 0 (.tk 1 (.tp 2 (.tp 3 (.tp 4 (.tp 5 (.ef 6 (.done)))))))) [6] rfl rfl (by kernel_rfl) (by kernel_rfl) ?_
    refine k_indexA (n := 5) (s := 1) (j := 0) rfl Try.underlying36 (by kernel_rfl) s1_e91 rfl (by decide) ?_
    refine k_load (j := 0) (v := .int .u64 (r4.getD 0 0)) rfl (by kernel_rfl) rfl (hp.get (j := 0) rfl) rfl rfl (ints_get (Nat.lt_of_lt_of_eq (m := 5) (by decide) (lr40).symm)) ?_
    refine k_move (v := .int .u64 m14) rfl s3_e91 ?_
    refine k_bin (X := .int .u64 19) (Y := .int .u64 m14) rfl rfl rfl rfl ?_
    refine k_bin (X := .int .u64 (r4.getD 0 0)) (Y := .int .u64 (IntKind.u64.wrap (19 * m14))) rfl rfl rfl rfl ?_
    refine k_indexA (n := 5) (s := 1) (j := 0) rfl Try.underlying36 (by kernel_rfl) s1_e91 rfl (by decide) ?_
    refine k_store (v := .int .u64 (IntKind.u64.wrap ((r4.getD 0 0) + (IntKind.u64.wrap (19 * m14))))) 0 0 (r := ⟨g1, 0, ints .u64 r4⟩) rfl (by kernel_rfl) rfl rfl rfl hp rfl rfl rfl (Nat.lt_of_lt_of_eq (Nat.lt_of_lt_of_eq (m := 5) (by decide) (lr40).symm) (ints_length _ _).symm) (by decide) ?_; intro w hp; rw [ints_set] at hp
    refine k_end ?_; intro e92 qe92
    have s1_e92 : e92 1 = .pointer (some ⟨g1, 0, none⟩) := (congrFun qe92 1).trans s1_e91
    have s2_e92 : e92 2 = .pointer (some ⟨g2, 0, none⟩) := (congrFun qe92 2).trans s2_e91
    clear qe92
    obtain ⟨x15, qx15, h⟩ := lt_e h
    have lx15 : x15.length = 5 := (congrArg List.length qx15).trans (List.length_set.trans lr40)
    have hp : Hp w0 [] w [⟨g1, 0, ints .u64 x15⟩, ⟨g2, 0, ints .u8 (List.replicate 32 (0 : Int))⟩] [] := by rw [qx15]; exact hp
    refine wseqP (p0 := [1, 1, 1, 1, 1, 0]) (p1 := [1, 1, 1, 1, 1, 1]) rfl rfl rfl ?_
    refine wseqP (p0 := [1, 1, 1, 1, 1, 0, 0]) (p1 := [1, 1, 1, 1, 1, 0, 1]) rfl rfl rfl ?_
    refine wregionT field_Element_Bytes.o10 (.tp 0 (.done)) [] rfl rfl (by kernel_rfl) (by kernel_rfl) ?_
    refine k_move (v := .int .i64 0) rfl rfl ?_
    refine k_end ?_; intro e93 qe93
    have s1_e93 : e93 1 = .pointer (some ⟨g1, 0, none⟩) := (congrFun qe93 1).trans s1_e92
    have s2_e93 : e93 2 = .pointer (some ⟨g2, 0, none⟩) := (congrFun qe93 2).trans s2_e92
    have s35_e93 : e93 35 = .int .i64 0 := congrFun qe93 35
    clear qe93
    refine wblockP (p0 := [1, 1, 1, 1, 1, 0, 1, 0]) 2 rfl rfl ?_
    obtain ⟨r23, qr23, h⟩ := bd_e h
    refine wloopP (p0 := [1, 1, 1, 1, 1, 0, 1, 0, 0]) k rfl rfl (field_Element_Bytes.p2_ok g1 g2   ?hq0 k x15 0 e93 _ lx15 s1_e93 s2_e93 s35_e93 hp qr23)
    case hq0 =>
      intro e99 w m24 lm24 s1_e99 s2_e99 hp qq
      rw [qq] at h; clear qq
      refine wseqP (p0 := [1, 1, 1, 1, 1, 1, 0]) (p1 := [1, 1, 1, 1, 1, 1, 1]) rfl rfl rfl ?_
      refine wregionT field_Element_Bytes.o16 (.tp 0 (.tk 1 (.tp 2 (.tp 3 (.ef 4 (.done)))))) [4] rfl rfl (by kernel_rfl) (by kernel_rfl) ?_
      refine k_indexA (n := 5) (s := 1) (j := 4) rfl Try.underlying36 (by kernel_rfl) s1_e99 rfl (by decide) ?_
      refine k_load (j := 4) (v := .int .u64 (m24.getD 4 0)) rfl (by kernel_rfl) rfl (hp.get (j := 0) rfl) rfl rfl (ints_get (Nat.lt_of_lt_of_eq (m := 5) (by decide) (lm24).symm)) ?_
      refine k_bin (X := .int .u64 (m24.getD 4 0)) (Y := .int .u64 2251799813685247) rfl rfl rfl rfl ?_
      refine k_indexA (n := 5) (s := 1) (j := 4) rfl Try.underlying36 (by kernel_rfl) s1_e99 rfl (by decide) ?_
      refine k_store (v := .int .u64 (bits .and .u64 (m24.getD 4 0) 2251799813685247)) 0 4 (r := ⟨g1, 0, ints .u64 m24⟩) rfl (by kernel_rfl) rfl rfl rfl hp rfl rfl rfl (Nat.lt_of_lt_of_eq (Nat.lt_of_lt_of_eq (m := 5) (by decide) (lm24).symm) (ints_length _ _).symm) (by decide) ?_; intro w hp; rw [ints_set] at hp
      refine k_end ?_; intro e100 qe100
      have s1_e100 : e100 1 = .pointer (some ⟨g1, 0, none⟩) := (congrFun qe100 1).trans s1_e99
      have s2_e100 : e100 2 = .pointer (some ⟨g2, 0, none⟩) := (congrFun qe100 2).trans s2_e99
      clear qe100
      refine wseqP (p0 := [1, 1, 1, 1, 1, 1, 1, 0]) (p1 := [1, 1, 1, 1, 1, 1, 1, 1]) rfl rfl rfl ?_
      refine wregionT field_Element_Bytes.o17 (.ef 0 (.done)) [] rfl rfl (by kernel_rfl) (by kernel_rfl) ?_
      refine k_alloc (ints .u8 (List.replicate 32 (0 : Int))) rfl (by kernel_rfl) hp ?_
      intro g25 w hbg25 hp
      refine k_end ?_; intro e101 qe101
      have s1_e101 : e101 1 = .pointer (some ⟨g1, 0, none⟩) := (congrFun qe101 1).trans s1_e100
      have s2_e101 : e101 2 = .pointer (some ⟨g2, 0, none⟩) := (congrFun qe101 2).trans s2_e100
      have s7_e101 : e101 7 = .pointer (some ⟨g25, 0, none⟩) := congrFun qe101 7
      clear qe101
      refine wseqP (p0 := [1, 1, 1, 1, 1, 1, 1, 1, 0]) (p1 := [1, 1, 1, 1, 1, 1, 1, 1, 1]) rfl rfl rfl ?_
      refine wseqP (p0 := [1, 1, 1, 1, 1, 1, 1, 1, 0, 0]) (p1 := [1, 1, 1, 1, 1, 1, 1, 1, 0, 1]) rfl rfl rfl ?_
      refine wregionT field_Element_Bytes.o18 (.tp 0 (.tk 1 (.tp 2 (.tk 3 (.tp 4 (.tp 5 (.tp 6 (.tk 7 (.tp 8 (.tp 9 (.tk 10 (.tp 11 (.tp 12 (.tp 13 (.tk 14 (.tp 15 (.tp 16 (.tk 17 (.tp 18 (.tp 19 (.tp 20 (.tk 21 (.tp 22 (.tp 23 (.tk 24 (.tp 25 (.tp 26 (.tp 27 (.tp 28 (.done)))))))))))))))))))))))))))))) [] rfl rfl (by kernel_rfl) (by kernel_rfl) ?_
      refine k_indexA (n := 5) (s := 1) (j := 0) rfl Try.underlying36 (by kernel_rfl) s1_e101 rfl (by decide) ?_
      refine k_load (j := 0) (v := .int .u64 ((m24.set 4 (bits .and .u64 (m24.getD 4 0) 2251799813685247)).getD 0 0)) rfl (by kernel_rfl) rfl (hp.get (j := 0) rfl) rfl rfl (ints_get (Nat.lt_of_lt_of_eq (m := 5) (by decide) (List.length_set.trans lm24).symm)) ?_
      refine k_indexA (n := 5) (s := 1) (j := 1) rfl Try.underlying36 (by kernel_rfl) s1_e101 rfl (by decide) ?_
      refine k_load (j := 1) (v := .int .u64 ((m24.set 4 (bits .and .u64 (m24.getD 4 0) 2251799813685247)).getD 1 0)) rfl (by kernel_rfl) rfl (hp.get (j := 0) rfl) rfl rfl (ints_get (Nat.lt_of_lt_of_eq (m := 5) (by decide) (List.length_set.trans lm24).symm)) ?_
      refine k_shl (a := ((m24.set 4 (bits .and .u64 (m24.getD 4 0) 2251799813685247)).getD 1 0)) (b := 51) rfl rfl rfl (by decide) ?_
      refine k_bin (X := .int .u64 ((m24.set 4 (bits .and .u64 (m24.getD 4 0) 2251799813685247)).getD 0 0)) (Y := .int .u64 (IntKind.u64.wrap (((m24.set 4 (bits .and .u64 (m24.getD 4 0) 2251799813685247)).getD 1 0) * 2 ^ 51))) rfl rfl rfl rfl ?_
      refine k_indexA (n := 5) (s := 1) (j := 1) rfl Try.underlying36 (by kernel_rfl) s1_e101 rfl (by decide) ?_
      refine k_load (j := 1) (v := .int .u64 ((m24.set 4 (bits .and .u64 (m24.getD 4 0) 2251799813685247)).getD 1 0)) rfl (by kernel_rfl) rfl (hp.get (j := 0) rfl) rfl rfl (ints_get (Nat.lt_of_lt_of_eq (m := 5) (by decide) (List.length_set.trans lm24).symm)) ?_
      refine k_shr (a := ((m24.set 4 (bits .and .u64 (m24.getD 4 0) 2251799813685247)).getD 1 0)) (b := 13) rfl rfl rfl (by decide) ?_
      refine k_indexA (n := 5) (s := 1) (j := 2) rfl Try.underlying36 (by kernel_rfl) s1_e101 rfl (by decide) ?_
      refine k_load (j := 2) (v := .int .u64 ((m24.set 4 (bits .and .u64 (m24.getD 4 0) 2251799813685247)).getD 2 0)) rfl (by kernel_rfl) rfl (hp.get (j := 0) rfl) rfl rfl (ints_get (Nat.lt_of_lt_of_eq (m := 5) (by decide) (List.length_set.trans lm24).symm)) ?_
      refine k_shl (a := ((m24.set 4 (bits .and .u64 (m24.getD 4 0) 2251799813685247)).getD 2 0)) (b := 38) rfl rfl rfl (by decide) ?_
      refine k_bin (X := .int .u64 (Int.fdiv ((m24.set 4 (bits .and .u64 (m24.getD 4 0) 2251799813685247)).getD 1 0) (2 ^ 13))) (Y := .int .u64 (IntKind.u64.wrap (((m24.set 4 (bits .and .u64 (m24.getD 4 0) 2251799813685247)).getD 2 0) * 2 ^ 38))) rfl rfl rfl rfl ?_
      refine k_indexA (n := 5) (s := 1) (j := 2) rfl Try.underlying36 (by kernel_rfl) s1_e101 rfl (by decide) ?_
      refine k_load (j := 2) (v := .int .u64 ((m24.set 4 (bits .and .u64 (m24.getD 4 0) 2251799813685247)).getD 2 0)) rfl (by kernel_rfl) rfl (hp.get (j := 0) rfl) rfl rfl (ints_get (Nat.lt_of_lt_of_eq (m := 5) (by decide) (List.length_set.trans lm24).symm)) ?_
      refine k_shr (a := ((m24.set 4 (bits .and .u64 (m24.getD 4 0) 2251799813685247)).getD 2 0)) (b := 26) rfl rfl rfl (by decide) ?_
      refine k_indexA (n := 5) (s := 1) (j := 3) rfl Try.underlying36 (by kernel_rfl) s1_e101 rfl (by decide) ?_
      refine k_load (j := 3) (v := .int .u64 ((m24.set 4 (bits .and .u64 (m24.getD 4 0) 2251799813685247)).getD 3 0)) rfl (by kernel_rfl) rfl (hp.get (j := 0) rfl) rfl rfl (ints_get (Nat.lt_of_lt_of_eq (m := 5) (by decide) (List.length_set.trans lm24).symm)) ?_
      refine k_shl (a := ((m24.set 4 (bits .and .u64 (m24.getD 4 0) 2251799813685247)).getD 3 0)) (b := 25) rfl rfl rfl (by decide) ?_
      refine k_bin (X := .int .u64 (Int.fdiv ((m24.set 4 (bits .and .u64 (m24.getD 4 0) 2251799813685247)).getD 2 0) (2 ^ 26))) (Y := .int .u64 (IntKind.u64.wrap (((m24.set 4 (bits .and .u64 (m24.getD 4 0) 2251799813685247)).getD 3 0) * 2 ^ 25))) rfl rfl rfl rfl ?_
      refine k_indexA (n := 5) (s := 1) (j := 3) rfl Try.underlying36 (by kernel_rfl) s1_e101 rfl (by decide) ?_
      refine k_load (j := 3) (v := .int .u64 ((m24.set 4 (bits .and .u64 (m24.getD 4 0) 2251799813685247)).getD 3 0)) rfl (by kernel_rfl) rfl (hp.get (j := 0) rfl) rfl rfl (ints_get (Nat.lt_of_lt_of_eq (m := 5) (by decide) (List.length_set.trans lm24).symm)) ?_
      refine k_shr (a := ((m24.set 4 (bits .and .u64 (m24.getD 4 0) 2251799813685247)).getD 3 0)) (b := 39) rfl rfl rfl (by decide) ?_
      refine k_indexA (n := 5) (s := 1) (j := 4) rfl Try.underlying36 (by kernel_rfl) s1_e101 rfl (by decide) ?_
      refine k_load (j := 4) (v := .int .u64 ((m24.set 4 (bits .and .u64 (m24.getD 4 0) 2251799813685247)).getD 4 0)) rfl (by kernel_rfl) rfl (hp.get (j := 0) rfl) rfl rfl (ints_get (Nat.lt_of_lt_of_eq (m := 5) (by decide) (List.length_set.trans lm24).symm)) ?_
      refine k_shl (a := ((m24.set 4 (bits .and .u64 (m24.getD 4 0) 2251799813685247)).getD 4 0)) (b := 12) rfl rfl rfl (by decide) ?_
      refine k_bin (X := .int .u64 (Int.fdiv ((m24.set 4 (bits .and .u64 (m24.getD 4 0) 2251799813685247)).getD 3 0) (2 ^ 39))) (Y := .int .u64 (IntKind.u64.wrap (((m24.set 4 (bits .and .u64 (m24.getD 4 0) 2251799813685247)).getD 4 0) * 2 ^ 12))) rfl rfl rfl rfl ?_
      refine k_build (v := .agg (ints .u64 [(bits .or .u64 ((m24.set 4 (bits .and .u64 (m24.getD 4 0) 2251799813685247)).getD 0 0) (IntKind.u64.wrap (((m24.set 4 (bits .and .u64 (m24.getD 4 0) 2251799813685247)).getD 1 0) * 2 ^ 51))), (bits .or .u64 (Int.fdiv ((m24.set 4 (bits .and .u64 (m24.getD 4 0) 2251799813685247)).getD 1 0) (2 ^ 13)) (IntKind.u64.wrap (((m24.set 4 (bits .and .u64 (m24.getD 4 0) 2251799813685247)).getD 2 0) * 2 ^ 38))), (bits .or .u64 (Int.fdiv ((m24.set 4 (bits .and .u64 (m24.getD 4 0) 2251799813685247)).getD 2 0) (2 ^ 26)) (IntKind.u64.wrap (((m24.set 4 (bits .and .u64 (m24.getD 4 0) 2251799813685247)).getD 3 0) * 2 ^ 25))), (bits .or .u64 (Int.fdiv ((m24.set 4 (bits .and .u64 (m24.getD 4 0) 2251799813685247)).getD 3 0) (2 ^ 39)) (IntKind.u64.wrap (((m24.set 4 (bits .and .u64 (m24.getD 4 0) 2251799813685247)).getD 4 0) * 2 ^ 12)))]).toArray) rfl (fun _ => by kernel_rfl) ?_
      refine k_move (v := .int .i64 0) rfl rfl ?_
      refine k_end ?_; intro e102 qe102
      have s2_e102 : e102 2 = .pointer (some ⟨g2, 0, none⟩) := (congrFun qe102 2).trans s2_e101
      have s7_e102 : e102 7 = .pointer (some ⟨g25, 0, none⟩) := (congrFun qe102 7).trans s7_e101
      obtain ⟨x26, qx26, h⟩ := lt_e h
      have lx26 : x26.length = 4 := (congrArg List.length qx26).trans (rfl : List.length ([(bits .or .u64 ((m24.set 4 (bits .and .u64 (m24.getD 4 0) 2251799813685247)).getD 0 0) (IntKind.u64.wrap (((m24.set 4 (bits .and .u64 (m24.getD 4 0) 2251799813685247)).getD 1 0) * 2 ^ 51))), (bits .or .u64 (Int.fdiv ((m24.set 4 (bits .and .u64 (m24.getD 4 0) 2251799813685247)).getD 1 0) (2 ^ 13)) (IntKind.u64.wrap (((m24.set 4 (bits .and .u64 (m24.getD 4 0) 2251799813685247)).getD 2 0) * 2 ^ 38))), (bits .or .u64 (Int.fdiv ((m24.set 4 (bits .and .u64 (m24.getD 4 0) 2251799813685247)).getD 2 0) (2 ^ 26)) (IntKind.u64.wrap (((m24.set 4 (bits .and .u64 (m24.getD 4 0) 2251799813685247)).getD 3 0) * 2 ^ 25))), (bits .or .u64 (Int.fdiv ((m24.set 4 (bits .and .u64 (m24.getD 4 0) 2251799813685247)).getD 3 0) (2 ^ 39)) (IntKind.u64.wrap (((m24.set 4 (bits .and .u64 (m24.getD 4 0) 2251799813685247)).getD 4 0) * 2 ^ 12)))] : List Int) = 4)
      have s85_e102 : e102 85 = .agg (ints .u64 x26).toArray := (congrFun qe102 85).trans (congrArg (fun z => Value.agg (ints .u64 z).toArray) qx26.symm)
      have s86_e102 : e102 86 = .int .i64 0 := congrFun qe102 86
      clear qe102
      refine wblockP (p0 := [1, 1, 1, 1, 1, 1, 1, 1, 0, 1, 0]) 4 rfl rfl ?_
      obtain ⟨r40, qr40, h⟩ := bd_e h
      refine wloopP (p0 := [1, 1, 1, 1, 1, 1, 1, 1, 0, 1, 0, 0]) k rfl rfl (field_Element_Bytes.p3_ok g1 g2 g25 x26 m24 lm24 lx26 ?hq0 k (List.replicate 32 (0 : Int)) 0 e102 _ List.length_replicate s2_e102 s7_e102 s85_e102 s86_e102 hp qr40)
      case hq0 =>
        intro e112 w m41 lm41 s2_e112 s7_e112 hp qq
        rw [qq] at h; clear qq
        refine wseqP (p0 := [1, 1, 1, 1, 1, 1, 1, 1, 1, 0]) (p1 := [1, 1, 1, 1, 1, 1, 1, 1, 1, 1]) rfl rfl rfl ?_
        refine wregionT field_Element_Bytes.o27 (.tk 0 (.ef 1 (.done))) [1] rfl rfl (by kernel_rfl) (by kernel_rfl) ?_
        refine k_loadA (n := 32) (xs := ints .u8 m41) 0 rfl (by kernel_rfl) (by kernel_rfl) s7_e112 (hp.get (j := 2) rfl) rfl rfl ((ints_length _ _).trans lm41) (fun m v hm => by rw [Nat.zero_add]; exact hm) ?_
        refine k_storeA (v := .agg (ints .u8 m41).toArray) 1 0 (r := ⟨g2, 0, ints .u8 (List.replicate 32 (0 : Int))⟩) (ints .u8 m41) (ints .u8 m41) rfl (n := 32) (by kernel_rfl) s2_e112 rfl rfl ((ints_length _ _).trans lm41) (ints_one _ _) hp rfl rfl rfl (Nat.le_of_eq ((Nat.zero_add _).trans ((ints_length _ _).trans List.length_replicate).symm)) (setMany_all _ _ (((ints_length _ _).trans lm41).trans ((ints_length _ _).trans List.length_replicate).symm)) (by decide) ?_; intro w hp
        refine k_end ?_; intro e113 qe113
        have s2_e113 : e113 2 = .pointer (some ⟨g2, 0, none⟩) := (congrFun qe113 2).trans s2_e112
        clear qe113
        refine wret rfl ?_
        have hr : r = m41 := (Option.some.inj h).symm
        show RetP _ _ _ _ _
        rw [hr]
        exact ret_i [.agg (ints .u8 m41).toArray] (res_cell s2_e113 (loadVar_agg (by kernel_rfl) (by kernel_rfl) ((ints_length _ _).trans lm41) (hp.get (j := 1) rfl) rfl rfl rfl) res_nil) ⟨rfl, lm41, hp.none⟩
/-! 9 postilion/xdh.Mul -/
noncomputable def xdh_Mul.o1 : Array Oper := opsC (at_ (fbody Try.f9) [0])
noncomputable def xdh_Mul.o2 : Array Oper := opsC (at_ (fbody Try.f9) [1, 0])
noncomputable def xdh_Mul.o3 : Array Oper := opsC (at_ (fbody Try.f9) [1, 1, 0])
noncomputable def xdh_Mul.o4 : Array Oper := opsC (at_ (fbody Try.f9) [1, 1, 1, 0])
noncomputable def xdh_Mul.o5 : Array Oper := opsC (at_ (fbody Try.f9) [1, 1, 1, 1, 0])
noncomputable def xdh_Mul.o6 : Array Oper := opsC (at_ (fbody Try.f9) [1, 1, 1, 1, 1, 0])
noncomputable def xdh_Mul.o7 : Array Oper := opsC (at_ (fbody Try.f9) [1, 1, 1, 1, 1, 1, 0])
noncomputable def xdh_Mul.o8 : Array Oper := opsC (at_ (fbody Try.f9) [1, 1, 1, 1, 1, 1, 1, 0, 0])
noncomputable def xdh_Mul.o9 : Array Oper := opsC (at_ (fbody Try.f9) [1, 1, 1, 1, 1, 1, 1, 0, 1, 0, 0, 0, 0])
noncomputable def xdh_Mul.o10 : Array Oper := opsC (at_ (fbody Try.f9) [1, 1, 1, 1, 1, 1, 1, 0, 1, 0, 0, 1, 0, 0, 0])
noncomputable def xdh_Mul.o11 : Array Oper := opsC (at_ (fbody Try.f9) [1, 1, 1, 1, 1, 1, 1, 0, 1, 0, 0, 1, 0, 0, 1, 0])
noncomputable def xdh_Mul.o12 : Array Oper := opsC (at_ (fbody Try.f9) [1, 1, 1, 1, 1, 1, 1, 0, 1, 0, 0, 1, 0, 0, 1, 1, 0])
noncomputable def xdh_Mul.o13 : Array Oper := opsC (at_ (fbody Try.f9) [1, 1, 1, 1, 1, 1, 1, 0, 1, 0, 0, 1, 0, 0, 1, 1, 1, 0])
noncomputable def xdh_Mul.o14 : Array Oper := opsC (at_ (fbody Try.f9) [1, 1, 1, 1, 1, 1, 1, 0, 1, 0, 0, 1, 0, 0, 1, 1, 1, 1, 0])
noncomputable def xdh_Mul.o15 : Array Oper := opsC (at_ (fbody Try.f9) [1, 1, 1, 1, 1, 1, 1, 0, 1, 0, 0, 1, 0, 0, 1, 1, 1, 1, 1, 0])
noncomputable def xdh_Mul.o16 : Array Oper := opsC (at_ (fbody Try.f9) [1, 1, 1, 1, 1, 1, 1, 0, 1, 0, 0, 1, 0, 0, 1, 1, 1, 1, 1, 1, 0])
noncomputable def xdh_Mul.o17 : Array Oper := opsC (at_ (fbody Try.f9) [1, 1, 1, 1, 1, 1, 1, 0, 1, 0, 0, 1, 0, 0, 1, 1, 1, 1, 1, 1, 1, 0])
noncomputable def xdh_Mul.o18 : Array Oper := opsC (at_ (fbody Try.f9) [1, 1, 1, 1, 1, 1, 1, 0, 1, 0, 0, 1, 0, 0, 1, 1, 1, 1, 1, 1, 1, 1, 0])
noncomputable def xdh_Mul.o19 : Array Oper := opsC (at_ (fbody Try.f9) [1, 1, 1, 1, 1, 1, 1, 0, 1, 0, 0, 1, 0, 0, 1, 1, 1, 1, 1, 1, 1, 1, 1, 0])
noncomputable def xdh_Mul.o20 : Array Oper := opsC (at_ (fbody Try.f9) [1, 1, 1, 1, 1, 1, 1, 0, 1, 0, 0, 1, 0, 0, 1, 1, 1, 1, 1, 1, 1, 1, 1, 1])
noncomputable def xdh_Mul.o21 : Array Oper := opsC (at_ (fbody Try.f9) [1, 1, 1, 1, 1, 1, 1, 0, 1, 0, 0, 1, 1])
noncomputable def xdh_Mul.o22 : Array Oper := opsC (at_ (fbody Try.f9) [1, 1, 1, 1, 1, 1, 1, 1, 0])
noncomputable def xdh_Mul.o23 : Array Oper := opsC (at_ (fbody Try.f9) [1, 1, 1, 1, 1, 1, 1, 1, 1, 0])
noncomputable def xdh_Mul.o24 : Array Oper := opsC (at_ (fbody Try.f9) [1, 1, 1, 1, 1, 1, 1, 1, 1, 1, 0])
set_option maxHeartbeats 4000000 in
theorem xdh_Mul.p1_ok {w0 : World} {Ws : List Wr} {Q : Exit → Env → World → Prop} (g1 g11 g12 g13 g14 g2 g3 g7 g8 : Nat) (x4 : List Int) (a1 : List Int) (r5 : List Int) (r6 : List Int) (la1 : a1.length = 32) (lx4 : x4.length = 32) (lr50 : r5.length = 5) (lr60 : r6.length = 5) {r : Int × List Int × List Int × List Int × List Int} (hQ0 : ∀ (e' : Env) (w' : World) (z0 : Int) (z1 : List Int) (z2 : List Int) (z3 : List Int) (z4 : List Int), z1.length = 5 → z2.length = 5 → z3.length = 5 → z4.length = 5 → e' 4 = .pointer (some ⟨g3, 0, none⟩) → e' 7 = .pointer (some ⟨g11, 0, none⟩) → e' 8 = .pointer (some ⟨g12, 0, none⟩) → e' 9 = .pointer (some ⟨g13, 0, none⟩) → e' 10 = .pointer (some ⟨g14, 0, none⟩) → e' 11 = .int .u64 z0 → Hp w0 Ws w' [⟨g1, 0, ints .u8 x4⟩, ⟨g2, 0, ints .u8 (a1.set 31 (bits .and .u8 (a1.getD 31 0) 127))⟩, ⟨g3, 0, ints .u8 (List.replicate 32 (0 : Int))⟩, ⟨g7, 0, ints .u64 r5⟩, ⟨g8, 0, ints .u64 r6⟩, ⟨g11, 0, ints .u64 z1⟩, ⟨g12, 0, ints .u64 z2⟩, ⟨g13, 0, ints .u64 z3⟩, ⟨g14, 0, ints .u64 z4⟩] [] → r = (z0, z1, z2, z3, z4) → Q (.exit 0) e' w') : ∀ (k : Nat), ∀ (y15 : List Int) (y16 : List Int) (y17 : List Int) (y18 : List Int) (y19 : Int) (y20 : Int) (e : Env) (w : World) (ly15 : y15.length = 5) (ly16 : y16.length = 5) (ly17 : y17.length = 5) (ly18 : y18.length = 5) (s2_e : e 2 = .pointer (some ⟨g1, 0, none⟩)) (s4_e : e 4 = .pointer (some ⟨g3, 0, none⟩)) (s5_e : e 5 = .pointer (some ⟨g7, 0, none⟩)) (s6_e : e 6 = .pointer (some ⟨g8, 0, none⟩)) (s7_e : e 7 = .pointer (some ⟨g11, 0, none⟩)) (s8_e : e 8 = .pointer (some ⟨g12, 0, none⟩)) (s9_e : e 9 = .pointer (some ⟨g13, 0, none⟩)) (s10_e : e 10 = .pointer (some ⟨g14, 0, none⟩)) (s11_e : e 11 = .int .u64 y19) (s12_e : e 12 = .int .i64 y20) (hp : Hp w0 Ws w [⟨g1, 0, ints .u8 x4⟩, ⟨g2, 0, ints .u8 (a1.set 31 (bits .and .u8 (a1.getD 31 0) 127))⟩, ⟨g3, 0, ints .u8 (List.replicate 32 (0 : Int))⟩, ⟨g7, 0, ints .u64 r5⟩, ⟨g8, 0, ints .u64 r6⟩, ⟨g11, 0, ints .u64 y15⟩, ⟨g12, 0, ints .u64 y16⟩, ⟨g13, 0, ints .u64 y17⟩, ⟨g14, 0, ints .u64 y18⟩] []) (h : xdh_Mul.p1 k x4 r5 r6 y15 y16 y17 y18 y19 y20 = some r), Lp Try.prog Try.f9.ntmps (at_ (fbody Try.f9) [1, 1, 1, 1, 1, 1, 1, 0, 1, 0, 0]) Q k e w := by
  intro k
  induction k with
  | zero => intro y15 y16 y17 y18 y19 y20 e w ly15 ly16 ly17 ly18 s2_e s4_e s5_e s6_e s7_e s8_e s9_e s10_e s11_e s12_e hp h; cases h
  | succ k ih =>
    intro y15 y16 y17 y18 y19 y20 e w ly15 ly16 ly17 ly18 s2_e s4_e s5_e s6_e s7_e s8_e s9_e s10_e s11_e s12_e hp h
    unfold xdh_Mul.p1 at h
    show Wp _ _ _ _ _ _
    refine wseqP (p0 := [1, 1, 1, 1, 1, 1, 1, 0, 1, 0, 0, 0]) (p1 := [1, 1, 1, 1, 1, 1, 1, 0, 1, 0, 0, 1]) rfl rfl rfl ?_
    refine wseqP (p0 := [1, 1, 1, 1, 1, 1, 1, 0, 1, 0, 0, 0, 0]) (p1 := [1, 1, 1, 1, 1, 1, 1, 0, 1, 0, 0, 0, 1]) rfl rfl rfl ?_
    refine wregionT xdh_Mul.o9 (.tp 0 (.tp 1 (.done))) [] rfl rfl (by kernel_rfl) (by kernel_rfl) ?_
    refine k_move (v := .int .i64 y20) rfl s12_e ?_
    refine k_bin (X := .int .i64 y20) (Y := .int .i64 0) rfl rfl rfl rfl ?_
    refine k_end ?_; intro e122 qe122
    have s2_e122 : e122 2 = .pointer (some ⟨g1, 0, none⟩) := (congrFun qe122 2).trans s2_e
    have s4_e122 : e122 4 = .pointer (some ⟨g3, 0, none⟩) := (congrFun qe122 4).trans s4_e
    have s5_e122 : e122 5 = .pointer (some ⟨g7, 0, none⟩) := (congrFun qe122 5).trans s5_e
    have s6_e122 : e122 6 = .pointer (some ⟨g8, 0, none⟩) := (congrFun qe122 6).trans s6_e
    have s7_e122 : e122 7 = .pointer (some ⟨g11, 0, none⟩) := (congrFun qe122 7).trans s7_e
    have s8_e122 : e122 8 = .pointer (some ⟨g12, 0, none⟩) := (congrFun qe122 8).trans s8_e
    have s9_e122 : e122 9 = .pointer (some ⟨g13, 0, none⟩) := (congrFun qe122 9).trans s9_e
    have s10_e122 : e122 10 = .pointer (some ⟨g14, 0, none⟩) := (congrFun qe122 10).trans s10_e
    have s11_e122 : e122 11 = .int .u64 y19 := (congrFun qe122 11).trans s11_e
    have s12_e122 : e122 12 = .int .i64 y20 := (congrFun qe122 12).trans s12_e
    have s44_e122 : e122 44 = .bool (decide (y20 ≥ 0)) := congrFun qe122 44
    clear qe122
    refine wcondP (p0 := [1, 1, 1, 1, 1, 1, 1, 0, 1, 0, 0, 0, 1, 0]) (p1 := [1, 1, 1, 1, 1, 1, 1, 0, 1, 0, 0, 0, 1, 1]) (t := (decide (y20 ≥ 0))) rfl rfl rfl (by decide) s44_e122 (fun hb => ?_) (fun hb => ?_)
    · replace h := br_t hb h
      refine wskip rfl ?_
      refine wseqP (p0 := [1, 1, 1, 1, 1, 1, 1, 0, 1, 0, 0, 1, 0]) (p1 := [1, 1, 1, 1, 1, 1, 1, 0, 1, 0, 0, 1, 1]) rfl rfl rfl ?_
      refine wblockP (p0 := [1, 1, 1, 1, 1, 1, 1, 0, 1, 0, 0, 1, 0, 0]) 1 rfl rfl ?_
      refine wseqP (p0 := [1, 1, 1, 1, 1, 1, 1, 0, 1, 0, 0, 1, 0, 0, 0]) (p1 := [1, 1, 1, 1, 1, 1, 1, 0, 1, 0, 0, 1, 0, 0, 1]) rfl rfl rfl ?_
      refine wregionT xdh_Mul.o10 (.tp 0 (.tp 1 (.tp 2 (.tk 3 (.tp 4 (.tp 5 (.tp 6 (.tp 7 (.tp 8 (.tp 9 (.tp 10 (.done)))))))))))) [] rfl rfl (by kernel_rfl) (by kernel_rfl) ?_
      refine k_move (v := .int .i64 y20) rfl s12_e122 ?_
      refine k_quo (a := y20) (b := 8) rfl rfl rfl (by decide) ?_
      obtain ⟨c21, h⟩ := chk_e h
      refine k_indexA (n := 32) (s := 1) (j := (IntKind.i64.wrap (Int.tdiv y20 8))) rfl Try.underlying22 (by kernel_rfl) s2_e122 rfl c21 ?_
      refine k_load (j := ((IntKind.i64.wrap (Int.tdiv y20 8)) : Int).toNat) (v := .int .u8 (x4.getD ((IntKind.i64.wrap (Int.tdiv y20 8)) : Int).toNat 0)) rfl (by kernel_rfl) rfl (hp.get (j := 0) rfl) rfl (show 0 + ((IntKind.i64.wrap (Int.tdiv y20 8)) : Int).toNat * 1 = 0 + ((IntKind.i64.wrap (Int.tdiv y20 8)) : Int).toNat by omega) (ints_get (idx_lt c21 lx4)) ?_
      refine k_move (v := .int .i64 y20) rfl s12_e122 ?_
      refine k_rem (a := y20) (b := 8) rfl rfl rfl (by decide) ?_
      refine k_conv (k := .u64) (k' := .i64) (n := (Int.tmod y20 8)) rfl Try.underlying3 Try.underlying41 rfl ?_
      obtain ⟨c22, h⟩ := chk_e h
      refine k_shr (a := (x4.getD ((IntKind.i64.wrap (Int.tdiv y20 8)) : Int).toNat 0)) (b := (IntKind.u64.wrap (Int.tmod y20 8))) rfl rfl rfl c22 ?_
      refine k_bin (X := .int .u8 (Int.fdiv (x4.getD ((IntKind.i64.wrap (Int.tdiv y20 8)) : Int).toNat 0) (2 ^ (min ((IntKind.u64.wrap (Int.tmod y20 8)) : Int).toNat (IntKind.u8).bits)))) (Y := .int .u8 1) rfl rfl rfl rfl ?_
      refine k_conv (k := .u64) (k' := .u8) (n := (bits .and .u8 (Int.fdiv (x4.getD ((IntKind.i64.wrap (Int.tdiv y20 8)) : Int).toNat 0) (2 ^ (min ((IntKind.u64.wrap (Int.tmod y20 8)) : Int).toNat (IntKind.u8).bits))) 1)) rfl Try.underlying5 Try.underlying34 rfl ?_
      refine k_assign (v := .int .u64 (IntKind.u64.wrap (bits .and .u8 (Int.fdiv (x4.getD ((IntKind.i64.wrap (Int.tdiv y20 8)) : Int).toNat 0) (2 ^ (min ((IntKind.u64.wrap (Int.tmod y20 8)) : Int).toNat (IntKind.u8).bits))) 1))) rfl rfl ?_
      refine k_end ?_; intro e123 qe123
      have s2_e123 : e123 2 = .pointer (some ⟨g1, 0, none⟩) := (congrFun qe123 2).trans s2_e122
      have s4_e123 : e123 4 = .pointer (some ⟨g3, 0, none⟩) := (congrFun qe123 4).trans s4_e122
      have s5_e123 : e123 5 = .pointer (some ⟨g7, 0, none⟩) := (congrFun qe123 5).trans s5_e122
      have s6_e123 : e123 6 = .pointer (some ⟨g8, 0, none⟩) := (congrFun qe123 6).trans s6_e122
      have s7_e123 : e123 7 = .pointer (some ⟨g11, 0, none⟩) := (congrFun qe123 7).trans s7_e122
      have s8_e123 : e123 8 = .pointer (some ⟨g12, 0, none⟩) := (congrFun qe123 8).trans s8_e122
      have s9_e123 : e123 9 = .pointer (some ⟨g13, 0, none⟩) := (congrFun qe123 9).trans s9_e122
      have s10_e123 : e123 10 = .pointer (some ⟨g14, 0, none⟩) := (congrFun qe123 10).trans s10_e122
      have s11_e123 : e123 11 = .int .u64 y19 := (congrFun qe123 11).trans s11_e122
      have s12_e123 : e123 12 = .int .i64 y20 := (congrFun qe123 12).trans s12_e122
      obtain ⟨x23, qx23, h⟩ := lt_e h
      have s13_e123 : e123 13 = .int .u64 x23 := (congrFun qe123 13).trans (congrArg (Value.int .u64) qx23.symm)
      clear qe123
      refine wseqP (p0 := [1, 1, 1, 1, 1, 1, 1, 0, 1, 0, 0, 1, 0, 0, 1, 0]) (p1 := [1, 1, 1, 1, 1, 1, 1, 0, 1, 0, 0, 1, 0, 0, 1, 1]) rfl rfl rfl ?_
      refine wregionT xdh_Mul.o11 (.tp 0 (.tp 1 (.tp 2 (.ef 3 (.done))))) [3] rfl rfl (by kernel_rfl) (by kernel_rfl) ?_
      refine k_move (v := .int .u64 x23) rfl s13_e123 ?_
      refine k_move (v := .int .u64 y19) rfl s11_e123 ?_
      refine k_bin (X := .int .u64 x23) (Y := .int .u64 y19) rfl rfl rfl rfl ?_
      obtain ⟨r24, qr24, h⟩ := bd_e h
      have hp := hp.swap 4
      have hp := hp.swap 3
      have hp := hp.swap 2
      have hp := hp.swap 1
      have hp := hp.swap 0
      have hp := hp.swap 6
      have hp := hp.swap 5
      have hp := hp.swap 4
      have hp := hp.swap 3
      have hp := hp.swap 2
      have hp := hp.swap 1
      refine k_call [.int .u64 (bits .xor .u64 x23 y19), .pointer (some ⟨g11, 0, none⟩), .pointer (some ⟨g13, 0, none⟩)] rfl (by kernel_rfl) (args3 rfl s7_e123 s9_e123) (xdh_swap_ok k (bits .xor .u64 x23 y19) y15 y17 g11 (0)  g13 (0) ly15 ly17 _ (Hp.toW (L1 := [⟨g11, 0, ints .u64 y15⟩, ⟨g13, 0, ints .u64 y17⟩]) (L2 := [⟨g1, 0, ints .u8 x4⟩, ⟨g2, 0, ints .u8 (a1.set 31 (bits .and .u8 (a1.getD 31 0) 127))⟩, ⟨g3, 0, ints .u8 (List.replicate 32 (0 : Int))⟩, ⟨g7, 0, ints .u64 r5⟩, ⟨g8, 0, ints .u64 r6⟩, ⟨g12, 0, ints .u64 y16⟩, ⟨g14, 0, ints .u64 y18⟩]) hp (fun _ h => by cases h)) qr24) ?_
      rintro _ w' ⟨_, rfl, rfl, lr240, lr241, hpc⟩
      refine ⟨_, rfl, .inl (by decide), ?_⟩; have hp := Hp.callW (L1 := [⟨g11, 0, ints .u64 y15⟩, ⟨g13, 0, ints .u64 y17⟩]) (L2 := [⟨g1, 0, ints .u8 x4⟩, ⟨g2, 0, ints .u8 (a1.set 31 (bits .and .u8 (a1.getD 31 0) 127))⟩, ⟨g3, 0, ints .u8 (List.replicate 32 (0 : Int))⟩, ⟨g7, 0, ints .u64 r5⟩, ⟨g8, 0, ints .u64 r6⟩, ⟨g12, 0, ints .u64 y16⟩, ⟨g14, 0, ints .u64 y18⟩]) (L1' := [⟨g11, 0, ints .u64 r24.1⟩, ⟨g13, 0, ints .u64 r24.2⟩]) (Ln := []) hp hpc (by simp only [wrs, List.map_cons, List.map_nil, ints_length, ly15, ly17, lr240, lr241]) (fun _ h => by cases h); clear hpc
      have hp : Hp w0 Ws w' [⟨g11, 0, ints .u64 r24.1⟩, ⟨g13, 0, ints .u64 r24.2⟩, ⟨g1, 0, ints .u8 x4⟩, ⟨g2, 0, ints .u8 (a1.set 31 (bits .and .u8 (a1.getD 31 0) 127))⟩, ⟨g3, 0, ints .u8 (List.replicate 32 (0 : Int))⟩, ⟨g7, 0, ints .u64 r5⟩, ⟨g8, 0, ints .u64 r6⟩, ⟨g12, 0, ints .u64 y16⟩, ⟨g14, 0, ints .u64 y18⟩] [] := hp
      refine k_end ?_; intro e124 qe124
      have s2_e124 : e124 2 = .pointer (some ⟨g1, 0, none⟩) := (congrFun qe124 2).trans s2_e123
      have s4_e124 : e124 4 = .pointer (some ⟨g3, 0, none⟩) := (congrFun qe124 4).trans s4_e123
      have s5_e124 : e124 5 = .pointer (some ⟨g7, 0, none⟩) := (congrFun qe124 5).trans s5_e123
      have s6_e124 : e124 6 = .pointer (some ⟨g8, 0, none⟩) := (congrFun qe124 6).trans s6_e123
      have s7_e124 : e124 7 = .pointer (some ⟨g11, 0, none⟩) := (congrFun qe124 7).trans s7_e123
      have s8_e124 : e124 8 = .pointer (some ⟨g12, 0, none⟩) := (congrFun qe124 8).trans s8_e123
      have s9_e124 : e124 9 = .pointer (some ⟨g13, 0, none⟩) := (congrFun qe124 9).trans s9_e123
      have s10_e124 : e124 10 = .pointer (some ⟨g14, 0, none⟩) := (congrFun qe124 10).trans s10_e123
      have s11_e124 : e124 11 = .int .u64 y19 := (congrFun qe124 11).trans s11_e123
      have s12_e124 : e124 12 = .int .i64 y20 := (congrFun qe124 12).trans s12_e123
      have s13_e124 : e124 13 = .int .u64 x23 := (congrFun qe124 13).trans s13_e123
      clear qe124
      refine wseqP (p0 := [1, 1, 1, 1, 1, 1, 1, 0, 1, 0, 0, 1, 0, 0, 1, 1, 0]) (p1 := [1, 1, 1, 1, 1, 1, 1, 0, 1, 0, 0, 1, 0, 0, 1, 1, 1]) rfl rfl rfl ?_
      refine wregionT xdh_Mul.o12 (.tp 0 (.tp 1 (.tp 2 (.ef 3 (.done))))) [3] rfl rfl (by kernel_rfl) (by kernel_rfl) ?_
      refine k_move (v := .int .u64 x23) rfl s13_e124 ?_
      refine k_move (v := .int .u64 y19) rfl s11_e124 ?_
      refine k_bin (X := .int .u64 x23) (Y := .int .u64 y19) rfl rfl rfl rfl ?_
      obtain ⟨r25, qr25, h⟩ := bd_e h
      have hp := hp.swap 6
      have hp := hp.swap 5
      have hp := hp.swap 4
      have hp := hp.swap 3
      have hp := hp.swap 2
      have hp := hp.swap 1
      have hp := hp.swap 0
      have hp := hp.swap 7
      have hp := hp.swap 6
      have hp := hp.swap 5
      have hp := hp.swap 4
      have hp := hp.swap 3
      have hp := hp.swap 2
      have hp := hp.swap 1
      refine k_call [.int .u64 (bits .xor .u64 x23 y19), .pointer (some ⟨g12, 0, none⟩), .pointer (some ⟨g14, 0, none⟩)] rfl (by kernel_rfl) (args3 rfl s8_e124 s10_e124) (xdh_swap_ok k (bits .xor .u64 x23 y19) y16 y18 g12 (0)  g14 (0) ly16 ly18 _ (Hp.toW (L1 := [⟨g12, 0, ints .u64 y16⟩, ⟨g14, 0, ints .u64 y18⟩]) (L2 := [⟨g11, 0, ints .u64 r24.1⟩, ⟨g13, 0, ints .u64 r24.2⟩, ⟨g1, 0, ints .u8 x4⟩, ⟨g2, 0, ints .u8 (a1.set 31 (bits .and .u8 (a1.getD 31 0) 127))⟩, ⟨g3, 0, ints .u8 (List.replicate 32 (0 : Int))⟩, ⟨g7, 0, ints .u64 r5⟩, ⟨g8, 0, ints .u64 r6⟩]) hp (fun _ h => by cases h)) qr25) ?_
      rintro _ w' ⟨_, rfl, rfl, lr250, lr251, hpc⟩
      refine ⟨_, rfl, .inl (by decide), ?_⟩; have hp := Hp.callW (L1 := [⟨g12, 0, ints .u64 y16⟩, ⟨g14, 0, ints .u64 y18⟩]) (L2 := [⟨g11, 0, ints .u64 r24.1⟩, ⟨g13, 0, ints .u64 r24.2⟩, ⟨g1, 0, ints .u8 x4⟩, ⟨g2, 0, ints .u8 (a1.set 31 (bits .and .u8 (a1.getD 31 0) 127))⟩, ⟨g3, 0, ints .u8 (List.replicate 32 (0 : Int))⟩, ⟨g7, 0, ints .u64 r5⟩, ⟨g8, 0, ints .u64 r6⟩]) (L1' := [⟨g12, 0, ints .u64 r25.1⟩, ⟨g14, 0, ints .u64 r25.2⟩]) (Ln := []) hp hpc (by simp only [wrs, List.map_cons, List.map_nil, ints_length, ly16, ly18, lr250, lr251]) (fun _ h => by cases h); clear hpc
      have hp : Hp w0 Ws w' [⟨g12, 0, ints .u64 r25.1⟩, ⟨g14, 0, ints .u64 r25.2⟩, ⟨g11, 0, ints .u64 r24.1⟩, ⟨g13, 0, ints .u64 r24.2⟩, ⟨g1, 0, ints .u8 x4⟩, ⟨g2, 0, ints .u8 (a1.set 31 (bits .and .u8 (a1.getD 31 0) 127))⟩, ⟨g3, 0, ints .u8 (List.replicate 32 (0 : Int))⟩, ⟨g7, 0, ints .u64 r5⟩, ⟨g8, 0, ints .u64 r6⟩] [] := hp
      refine k_end ?_; intro e125 qe125
      have s2_e125 : e125 2 = .pointer (some ⟨g1, 0, none⟩) := (congrFun qe125 2).trans s2_e124
      have s4_e125 : e125 4 = .pointer (some ⟨g3, 0, none⟩) := (congrFun qe125 4).trans s4_e124
      have s5_e125 : e125 5 = .pointer (some ⟨g7, 0, none⟩) := (congrFun qe125 5).trans s5_e124
      have s6_e125 : e125 6 = .pointer (some ⟨g8, 0, none⟩) := (congrFun qe125 6).trans s6_e124
      have s7_e125 : e125 7 = .pointer (some ⟨g11, 0, none⟩) := (congrFun qe125 7).trans s7_e124
      have s8_e125 : e125 8 = .pointer (some ⟨g12, 0, none⟩) := (congrFun qe125 8).trans s8_e124
      have s9_e125 : e125 9 = .pointer (some ⟨g13, 0, none⟩) := (congrFun qe125 9).trans s9_e124
      have s10_e125 : e125 10 = .pointer (some ⟨g14, 0, none⟩) := (congrFun qe125 10).trans s10_e124
      have s12_e125 : e125 12 = .int .i64 y20 := (congrFun qe125 12).trans s12_e124
      have s13_e125 : e125 13 = .int .u64 x23 := (congrFun qe125 13).trans s13_e124
      clear qe125
      refine wseqP (p0 := [1, 1, 1, 1, 1, 1, 1, 0, 1, 0, 0, 1, 0, 0, 1, 1, 1, 0]) (p1 := [1, 1, 1, 1, 1, 1, 1, 0, 1, 0, 0, 1, 0, 0, 1, 1, 1, 1]) rfl rfl rfl ?_
      refine wregionT xdh_Mul.o13 (.tp 0 (.tp 1 (.done))) [] rfl rfl (by kernel_rfl) (by kernel_rfl) ?_
      refine k_move (v := .int .u64 x23) rfl s13_e125 ?_
      refine k_assign (v := .int .u64 x23) rfl rfl ?_
      refine k_end ?_; intro e126 qe126
      have s2_e126 : e126 2 = .pointer (some ⟨g1, 0, none⟩) := (congrFun qe126 2).trans s2_e125
      have s4_e126 : e126 4 = .pointer (some ⟨g3, 0, none⟩) := (congrFun qe126 4).trans s4_e125
      have s5_e126 : e126 5 = .pointer (some ⟨g7, 0, none⟩) := (congrFun qe126 5).trans s5_e125
      have s6_e126 : e126 6 = .pointer (some ⟨g8, 0, none⟩) := (congrFun qe126 6).trans s6_e125
      have s7_e126 : e126 7 = .pointer (some ⟨g11, 0, none⟩) := (congrFun qe126 7).trans s7_e125
      have s8_e126 : e126 8 = .pointer (some ⟨g12, 0, none⟩) := (congrFun qe126 8).trans s8_e125
      have s9_e126 : e126 9 = .pointer (some ⟨g13, 0, none⟩) := (congrFun qe126 9).trans s9_e125
      have s10_e126 : e126 10 = .pointer (some ⟨g14, 0, none⟩) := (congrFun qe126 10).trans s10_e125
      have s11_e126 : e126 11 = .int .u64 x23 := congrFun qe126 11
      have s12_e126 : e126 12 = .int .i64 y20 := (congrFun qe126 12).trans s12_e125
      clear qe126
      refine wseqP (p0 := [1, 1, 1, 1, 1, 1, 1, 0, 1, 0, 0, 1, 0, 0, 1, 1, 1, 1, 0]) (p1 := [1, 1, 1, 1, 1, 1, 1, 0, 1, 0, 0, 1, 0, 0, 1, 1, 1, 1, 1]) rfl rfl rfl ?_
      obtain ⟨r26, qr26, h⟩ := bd_e h
      obtain ⟨r27, qr27, h⟩ := bd_e h
      refine wcut (fun e127 w2 => ∃ g28 g29 : Nat, ((((r26.length = 5 ∧ r27.length = 5) ∧ (e127 2 = .pointer (some ⟨g1, 0, none⟩) ∧ e127 4 = .pointer (some ⟨g3, 0, none⟩))) ∧ ((e127 5 = .pointer (some ⟨g7, 0, none⟩) ∧ e127 6 = .pointer (some ⟨g8, 0, none⟩)) ∧ e127 7 = .pointer (some ⟨g11, 0, none⟩))) ∧ (((e127 8 = .pointer (some ⟨g12, 0, none⟩) ∧ e127 9 = .pointer (some ⟨g13, 0, none⟩)) ∧ (e127 10 = .pointer (some ⟨g14, 0, none⟩) ∧ e127 11 = .int .u64 x23)) ∧ ((e127 12 = .int .i64 y20 ∧ e127 14 = .pointer (some ⟨g28, 0, none⟩)) ∧ e127 15 = .pointer (some ⟨g29, 0, none⟩)))) ∧ Hp w0 Ws w2 [⟨g12, 0, ints .u64 r25.1⟩, ⟨g14, 0, ints .u64 r25.2⟩, ⟨g11, 0, ints .u64 r24.1⟩, ⟨g13, 0, ints .u64 r24.2⟩, ⟨g1, 0, ints .u8 x4⟩, ⟨g2, 0, ints .u8 (a1.set 31 (bits .and .u8 (a1.getD 31 0) 127))⟩, ⟨g3, 0, ints .u8 (List.replicate 32 (0 : Int))⟩, ⟨g7, 0, ints .u64 r5⟩, ⟨g8, 0, ints .u64 r6⟩, ⟨g28, 0, ints .u64 r26⟩, ⟨g29, 0, ints .u64 r27⟩] []) ?_ ?_
      rotate_left
      · refine wregionM xdh_Mul.o14 (.tk 0 (.tk 1 (.rest 3 8))) [8, 9] [(0, 0, 0), (0, 0, 0), (3, 1023, 1023), (0, 1023, 1023), (0, 1023, 1023), (28, 1023, 1023), (0, 1023, 1023), (0, 1023, 1023), (231, 1023, 1023), (511, 1023, 1023)] rfl rfl (by kernel_rfl) (by kernel_rfl) (Nat.le_of_ble_eq_true (by kernel_rfl)) (by kernel_rfl) (by kernel_rfl) (by kernel_rfl) ?_
        have hp := hp.drew
        refine k_loadA (n := 5) (xs := ints .u64 r24.1) 0 rfl (by kernel_rfl) (by kernel_rfl) s7_e126 (hp.get (j := 2) rfl) rfl rfl ((ints_length _ _).trans lr240) (fun m v hm => by rw [Nat.zero_add]; exact hm) ?_
        refine k_loadA (n := 5) (xs := ints .u64 r25.1) 0 rfl (by kernel_rfl) (by kernel_rfl) s8_e126 (hp.get (j := 0) rfl) rfl rfl ((ints_length _ _).trans lr250) (fun m v hm => by rw [Nat.zero_add]; exact hm) ?_
        refine k_rest [2, 3, 4, 5, 6, 7, 8, 9] (fun L e w => ∃ g28 g29 : Nat, ∃ c_g28_0 c_g29_1 : List Int, (((((L 2 = true → r26.length = 5) ∧ (L 5 = true → r27.length = 5)) ∧ (((((e 2 = .pointer (some ⟨g1, 0, none⟩) ∧ e 4 = .pointer (some ⟨g3, 0, none⟩)) ∧ e 5 = .pointer (some ⟨g7, 0, none⟩)) ∧ ((e 6 = .pointer (some ⟨g8, 0, none⟩) ∧ e 7 = .pointer (some ⟨g11, 0, none⟩)) ∧ e 8 = .pointer (some ⟨g12, 0, none⟩))) ∧ (((e 9 = .pointer (some ⟨g13, 0, none⟩) ∧ e 10 = .pointer (some ⟨g14, 0, none⟩)) ∧ e 11 = .int .u64 x23) ∧ ((e 12 = .int .i64 y20 ∧ e 66 = .agg (ints .u64 r24.1).toArray) ∧ e 67 = .agg (ints .u64 r25.1).toArray))) ∧ (L 2 = true → e 68 = .agg (ints .u64 r26).toArray))) ∧ (((L 3 = true → e 69 = .agg (ints .u64 r24.1).toArray) ∧ (L 4 = true → e 70 = .agg (ints .u64 r25.1).toArray)) ∧ ((L 5 = true → e 71 = .agg (ints .u64 r27).toArray) ∧ (L 6 = true → e 14 = .pointer (some ⟨g28, 0, none⟩))))) ∧ ((((L 7 = true → e 15 = .pointer (some ⟨g29, 0, none⟩)) ∧ (L 6 = false → c_g28_0 = ([] : List Int))) ∧ ((L 8 = false → L 6 = true → c_g28_0 = (List.replicate 5 (0 : Int))) ∧ (L 8 = true → c_g28_0 = r26))) ∧ (((L 7 = false → c_g29_1 = ([] : List Int)) ∧ (L 9 = false → L 7 = true → c_g29_1 = (List.replicate 5 (0 : Int)))) ∧ (L 9 = true → c_g29_1 = r27)))) ∧ Hp w0 Ws w [⟨g12, 0, ints .u64 r25.1⟩, ⟨g14, 0, ints .u64 r25.2⟩, ⟨g11, 0, ints .u64 r24.1⟩, ⟨g13, 0, ints .u64 r24.2⟩, ⟨g1, 0, ints .u8 x4⟩, ⟨g2, 0, ints .u8 (a1.set 31 (bits .and .u8 (a1.getD 31 0) 127))⟩, ⟨g3, 0, ints .u8 (List.replicate 32 (0 : Int))⟩, ⟨g7, 0, ints .u64 r5⟩, ⟨g8, 0, ints .u64 r6⟩, ⟨g28, 0, ints .u64 c_g28_0⟩, ⟨g29, 0, ints .u64 c_g29_1⟩] []) (by kernel_rfl) (by kernel_rfl) ?_ ?_ ?_
        have hp := hp.free1 0 0
        have hp := hp.free1 0 0
        · exact ⟨0, 0, ([] : List Int), ([] : List Int), ⟨⟨⟨⟨(fun h => absurd h (by decide)), (fun h => absurd h (by decide))⟩, ⟨⟨⟨⟨⟨s2_e126, s4_e126⟩, s5_e126⟩, ⟨⟨s6_e126, s7_e126⟩, s8_e126⟩⟩, ⟨⟨⟨s9_e126, s10_e126⟩, s11_e126⟩, ⟨⟨s12_e126, rfl⟩, rfl⟩⟩⟩, (fun h => absurd h (by decide))⟩⟩, ⟨⟨(fun h => absurd h (by decide)), (fun h => absurd h (by decide))⟩, ⟨(fun h => absurd h (by decide)), (fun h => absurd h (by decide))⟩⟩⟩, ⟨⟨⟨(fun h => absurd h (by decide)), (fun _ => rfl)⟩, ⟨(fun _ h => absurd h (by decide)), (fun h => absurd h (by decide))⟩⟩, ⟨⟨(fun _ => rfl), (fun _ h => absurd h (by decide))⟩, (fun h => absurd h (by decide))⟩⟩⟩, hp⟩
        · rintro L e w hall ⟨g28, g29, c_g28_0, c_g29_1, hF, hp⟩
          have qc_g28_0 := hF.2.1.2.2 (hall 8 rfl)
          rw [qc_g28_0] at hp
          have qc_g29_1 := hF.2.2.2 (hall 9 rfl)
          rw [qc_g29_1] at hp
          exact onlyN_i ⟨g28, g29, ⟨⟨⟨⟨(hF.1.1.1.1 (hall 2 rfl)), (hF.1.1.1.2 (hall 5 rfl))⟩, ⟨hF.1.1.2.1.1.1.1.1, hF.1.1.2.1.1.1.1.2⟩⟩, ⟨⟨hF.1.1.2.1.1.1.2, hF.1.1.2.1.1.2.1.1⟩, hF.1.1.2.1.1.2.1.2⟩⟩, ⟨⟨⟨hF.1.1.2.1.1.2.2, hF.1.1.2.1.2.1.1.1⟩, ⟨hF.1.1.2.1.2.1.1.2, hF.1.1.2.1.2.1.2⟩⟩, ⟨⟨hF.1.1.2.1.2.2.1.1, (hF.1.2.2.2 (hall 6 rfl))⟩, (hF.2.1.1.1 (hall 7 rfl))⟩⟩⟩, hp⟩
        refine allU_cons ?_ ?_
        · rintro L e w hLi hb hcl ⟨g28, g29, c_g28_0, c_g29_1, hF, hp⟩
          refine k_call [.agg (ints .u64 r24.1).toArray, .agg (ints .u64 r25.1).toArray] rfl (by kernel_rfl) (args2 hF.1.1.2.1.2.2.1.2 hF.1.1.2.1.2.2.2) (field_Element_Plus_ok k r24.1 r25.1 lr240 lr250 _ (hp.toR (fun _ h => by cases h)) qr26) ?_
          rintro _ w' ⟨_, rfl, rfl, lr260, hpc⟩
          refine ⟨_, rfl, .inr (.of_below hpc.chg.to_below), ?_⟩; have hp := hp.below hpc.chg.to_below; clear hpc
          exact k_done ⟨g28, g29, c_g28_0, c_g29_1, ⟨⟨⟨⟨(fun _ => lr260), hF.1.1.1.2⟩, ⟨hF.1.1.2.1, (fun _ => rfl)⟩⟩, hF.1.2⟩, hF.2⟩, hp⟩
        refine allU_cons ?_ ?_
        · rintro L e w hLi hb hcl ⟨g28, g29, c_g28_0, c_g29_1, hF, hp⟩
          refine tk_ef ?_
          refine k_loadA (n := 5) (xs := ints .u64 r24.1) 0 rfl (by kernel_rfl) (by kernel_rfl) hF.1.1.2.1.1.2.1.2 (hp.get (j := 2) rfl) rfl rfl ((ints_length _ _).trans lr240) (fun m v hm => by rw [Nat.zero_add]; exact hm) ?_
          exact k_done ⟨g28, g29, c_g28_0, c_g29_1, ⟨⟨hF.1.1, ⟨⟨(fun _ => rfl), hF.1.2.1.2⟩, hF.1.2.2⟩⟩, hF.2⟩, hp⟩
        refine allU_cons ?_ ?_
        · rintro L e w hLi hb hcl ⟨g28, g29, c_g28_0, c_g29_1, hF, hp⟩
          refine tk_ef ?_
          refine k_loadA (n := 5) (xs := ints .u64 r25.1) 0 rfl (by kernel_rfl) (by kernel_rfl) hF.1.1.2.1.1.2.2 (hp.get (j := 0) rfl) rfl rfl ((ints_length _ _).trans lr250) (fun m v hm => by rw [Nat.zero_add]; exact hm) ?_
          exact k_done ⟨g28, g29, c_g28_0, c_g29_1, ⟨⟨hF.1.1, ⟨⟨hF.1.2.1.1, (fun _ => rfl)⟩, hF.1.2.2⟩⟩, hF.2⟩, hp⟩
        refine allU_cons ?_ ?_
        · rintro L e w hLi hb hcl ⟨g28, g29, c_g28_0, c_g29_1, hF, hp⟩
          have hL3 := hb 3 (by kernel_rfl)
          have hL4 := hb 4 (by kernel_rfl)
          refine k_call [.agg (ints .u64 r24.1).toArray, .agg (ints .u64 r25.1).toArray] rfl (by kernel_rfl) (args2 (hF.1.2.1.1 hL3) (hF.1.2.1.2 hL4)) (field_Element_Minus_ok r24.1 r25.1 lr240 lr250 _ (hp.toR (fun _ h => by cases h)) qr27) ?_
          rintro _ w' ⟨_, rfl, rfl, lr270, hpc⟩
          refine ⟨_, rfl, .inr (.of_below hpc.chg.to_below), ?_⟩; have hp := hp.below hpc.chg.to_below; clear hpc
          exact k_done ⟨g28, g29, c_g28_0, c_g29_1, ⟨⟨⟨⟨hF.1.1.1.1, (fun _ => lr270)⟩, hF.1.1.2⟩, ⟨hF.1.2.1, ⟨(fun _ => rfl), hF.1.2.2.2⟩⟩⟩, hF.2⟩, hp⟩
        refine allU_cons ?_ ?_
        · rintro L e w hLi hb hcl ⟨g28, g29, c_g28_0, c_g29_1, hF, hp⟩
          have qc_g28_0 := hF.2.1.1.2 hLi
          rw [qc_g28_0] at hp
          refine k_allocAt 9 (ints .u64 (List.replicate 5 (0 : Int))) rfl (by kernel_rfl) hp ?_
          intro g28 w hbg28 hp
          exact k_done ⟨g28, g29, (List.replicate 5 (0 : Int)), c_g29_1, ⟨⟨hF.1.1, ⟨hF.1.2.1, ⟨hF.1.2.2.1, (fun _ => rfl)⟩⟩⟩, ⟨⟨⟨hF.2.1.1.1, (fun h => nomatch (show true = false from h))⟩, ⟨(fun _ _ => rfl), (fun h => absurd (hLi.symm.trans (hcl 8 6 (by kernel_rfl) h)) (by decide))⟩⟩, hF.2.2⟩⟩, hp⟩
        refine allU_cons ?_ ?_
        · rintro L e w hLi hb hcl ⟨g28, g29, c_g28_0, c_g29_1, hF, hp⟩
          have qc_g29_1 := hF.2.2.1.1 hLi
          rw [qc_g29_1] at hp
          refine k_allocAt 10 (ints .u64 (List.replicate 5 (0 : Int))) rfl (by kernel_rfl) hp ?_
          intro g29 w hbg29 hp
          exact k_done ⟨g28, g29, c_g28_0, (List.replicate 5 (0 : Int)), ⟨hF.1, ⟨⟨⟨(fun _ => rfl), hF.2.1.1.2⟩, hF.2.1.2⟩, ⟨⟨(fun h => nomatch (show true = false from h)), (fun _ _ => rfl)⟩, (fun h => absurd (hLi.symm.trans (hcl 9 7 (by kernel_rfl) h)) (by decide))⟩⟩⟩, hp⟩
        refine allU_cons ?_ ?_
        · rintro L e w hLi hb hcl ⟨g28, g29, c_g28_0, c_g29_1, hF, hp⟩
          have hL2 := hb 2 (by kernel_rfl)
          have hL6 := hb 6 (by kernel_rfl)
          have lr260 := hF.1.1.1.1 hL2
          have qc_g28_0 := hF.2.1.2.1 hLi hL6
          rw [qc_g28_0] at hp
          refine k_storeA (v := .agg (ints .u64 r26).toArray) 9 0 (r := ⟨g28, 0, ints .u64 (List.replicate 5 (0 : Int))⟩) (ints .u64 r26) (ints .u64 r26) rfl (n := 5) (by kernel_rfl) (hF.1.2.2.2 hL6) (hF.1.1.2.2 hL2) rfl ((ints_length _ _).trans lr260) (ints_one _ _) hp rfl rfl rfl (Nat.le_of_eq ((Nat.zero_add _).trans ((ints_length _ _).trans List.length_replicate).symm)) (setMany_all _ _ (((ints_length _ _).trans lr260).trans ((ints_length _ _).trans List.length_replicate).symm)) (by decide) ?_; intro w hp
          exact k_done ⟨g28, g29, r26, c_g29_1, ⟨hF.1, ⟨⟨⟨hF.2.1.1.1, (fun h => absurd (hL6.symm.trans h) (by decide))⟩, ⟨(fun h _ => nomatch (show true = false from h)), (fun _ => rfl)⟩⟩, hF.2.2⟩⟩, hp⟩
        refine allU_cons ?_ allU_nil
        · rintro L e w hLi hb hcl ⟨g28, g29, c_g28_0, c_g29_1, hF, hp⟩
          have hL5 := hb 5 (by kernel_rfl)
          have hL7 := hb 7 (by kernel_rfl)
          have lr270 := hF.1.1.1.2 hL5
          have qc_g29_1 := hF.2.2.1.2 hLi hL7
          rw [qc_g29_1] at hp
          refine k_storeA (v := .agg (ints .u64 r27).toArray) 10 0 (r := ⟨g29, 0, ints .u64 (List.replicate 5 (0 : Int))⟩) (ints .u64 r27) (ints .u64 r27) rfl (n := 5) (by kernel_rfl) (hF.2.1.1.1 hL7) (hF.1.2.2.1 hL5) rfl ((ints_length _ _).trans lr270) (ints_one _ _) hp rfl rfl rfl (Nat.le_of_eq ((Nat.zero_add _).trans ((ints_length _ _).trans List.length_replicate).symm)) (setMany_all _ _ (((ints_length _ _).trans lr270).trans ((ints_length _ _).trans List.length_replicate).symm)) (by decide) ?_; intro w hp
          exact k_done ⟨g28, g29, c_g28_0, r27, ⟨hF.1, ⟨hF.2.1, ⟨⟨(fun h => absurd (hL7.symm.trans h) (by decide)), (fun h _ => nomatch (show true = false from h))⟩, (fun _ => rfl)⟩⟩⟩, hp⟩
      rintro e127 w ⟨g28, g29, hF, hp⟩
      have lr260 := hF.1.1.1.1
      have lr270 := hF.1.1.1.2
      have s2_e127 := hF.1.1.2.1
      have s4_e127 := hF.1.1.2.2
      have s5_e127 := hF.1.2.1.1
      have s6_e127 := hF.1.2.1.2
      have s7_e127 := hF.1.2.2
      have s8_e127 := hF.2.1.1.1
      have s9_e127 := hF.2.1.1.2
      have s10_e127 := hF.2.1.2.1
      have s11_e127 := hF.2.1.2.2
      have s12_e127 := hF.2.2.1.1
      have s14_e127 := hF.2.2.1.2
      have s15_e127 := hF.2.2.2
      clear hF
      refine wseqP (p0 := [1, 1, 1, 1, 1, 1, 1, 0, 1, 0, 0, 1, 0, 0, 1, 1, 1, 1, 1, 0]) (p1 := [1, 1, 1, 1, 1, 1, 1, 0, 1, 0, 0, 1, 0, 0, 1, 1, 1, 1, 1, 1]) rfl rfl rfl ?_
      obtain ⟨r30, qr30, h⟩ := bd_e h
      obtain ⟨r31, qr31, h⟩ := bd_e h
      refine wcut (fun e128 w2 => ∃ g32 g33 : Nat, ((((r30.length = 5 ∧ r31.length = 5) ∧ (e128 2 = .pointer (some ⟨g1, 0, none⟩) ∧ e128 4 = .pointer (some ⟨g3, 0, none⟩))) ∧ ((e128 5 = .pointer (some ⟨g7, 0, none⟩) ∧ e128 6 = .pointer (some ⟨g8, 0, none⟩)) ∧ (e128 7 = .pointer (some ⟨g11, 0, none⟩) ∧ e128 8 = .pointer (some ⟨g12, 0, none⟩)))) ∧ (((e128 9 = .pointer (some ⟨g13, 0, none⟩) ∧ e128 10 = .pointer (some ⟨g14, 0, none⟩)) ∧ (e128 11 = .int .u64 x23 ∧ e128 12 = .int .i64 y20)) ∧ ((e128 14 = .pointer (some ⟨g28, 0, none⟩) ∧ e128 15 = .pointer (some ⟨g29, 0, none⟩)) ∧ (e128 16 = .pointer (some ⟨g32, 0, none⟩) ∧ e128 17 = .pointer (some ⟨g33, 0, none⟩))))) ∧ Hp w0 Ws w2 [⟨g12, 0, ints .u64 r25.1⟩, ⟨g14, 0, ints .u64 r25.2⟩, ⟨g11, 0, ints .u64 r24.1⟩, ⟨g13, 0, ints .u64 r24.2⟩, ⟨g1, 0, ints .u8 x4⟩, ⟨g2, 0, ints .u8 (a1.set 31 (bits .and .u8 (a1.getD 31 0) 127))⟩, ⟨g3, 0, ints .u8 (List.replicate 32 (0 : Int))⟩, ⟨g7, 0, ints .u64 r5⟩, ⟨g8, 0, ints .u64 r6⟩, ⟨g28, 0, ints .u64 r26⟩, ⟨g29, 0, ints .u64 r27⟩, ⟨g32, 0, ints .u64 r30⟩, ⟨g33, 0, ints .u64 r31⟩] []) ?_ ?_
      rotate_left
      · refine wregionM xdh_Mul.o15 (.tk 0 (.tk 1 (.rest 3 8))) [8, 9] [(0, 0, 0), (0, 0, 0), (3, 1023, 1023), (0, 1023, 1023), (0, 1023, 1023), (28, 1023, 1023), (0, 1023, 1023), (0, 1023, 1023), (231, 1023, 1023), (511, 1023, 1023)] rfl rfl (by kernel_rfl) (by kernel_rfl) (Nat.le_of_ble_eq_true (by kernel_rfl)) (by kernel_rfl) (by kernel_rfl) (by kernel_rfl) ?_
        have hp := hp.drew
        refine k_loadA (n := 5) (xs := ints .u64 r26) 0 rfl (by kernel_rfl) (by kernel_rfl) s14_e127 (hp.get (j := 9) rfl) rfl rfl ((ints_length _ _).trans lr260) (fun m v hm => by rw [Nat.zero_add]; exact hm) ?_
        refine k_loadA (n := 5) (xs := ints .u64 r26) 0 rfl (by kernel_rfl) (by kernel_rfl) s14_e127 (hp.get (j := 9) rfl) rfl rfl ((ints_length _ _).trans lr260) (fun m v hm => by rw [Nat.zero_add]; exact hm) ?_
        refine k_rest [2, 3, 4, 5, 6, 7, 8, 9] (fun L e w => ∃ g32 g33 : Nat, ∃ c_g32_0 c_g33_1 : List Int, (((((L 2 = true → r30.length = 5) ∧ (L 5 = true → r31.length = 5)) ∧ (((((e 2 = .pointer (some ⟨g1, 0, none⟩) ∧ e 4 = .pointer (some ⟨g3, 0, none⟩)) ∧ (e 5 = .pointer (some ⟨g7, 0, none⟩) ∧ e 6 = .pointer (some ⟨g8, 0, none⟩))) ∧ ((e 7 = .pointer (some ⟨g11, 0, none⟩) ∧ e 8 = .pointer (some ⟨g12, 0, none⟩)) ∧ e 9 = .pointer (some ⟨g13, 0, none⟩))) ∧ (((e 10 = .pointer (some ⟨g14, 0, none⟩) ∧ e 11 = .int .u64 x23) ∧ (e 12 = .int .i64 y20 ∧ e 14 = .pointer (some ⟨g28, 0, none⟩))) ∧ ((e 15 = .pointer (some ⟨g29, 0, none⟩) ∧ e 72 = .agg (ints .u64 r26).toArray) ∧ e 73 = .agg (ints .u64 r26).toArray))) ∧ (L 2 = true → e 74 = .agg (ints .u64 r30).toArray))) ∧ (((L 3 = true → e 75 = .agg (ints .u64 r27).toArray) ∧ (L 4 = true → e 76 = .agg (ints .u64 r27).toArray)) ∧ ((L 5 = true → e 77 = .agg (ints .u64 r31).toArray) ∧ (L 6 = true → e 16 = .pointer (some ⟨g32, 0, none⟩))))) ∧ ((((L 7 = true → e 17 = .pointer (some ⟨g33, 0, none⟩)) ∧ (L 6 = false → c_g32_0 = ([] : List Int))) ∧ ((L 8 = false → L 6 = true → c_g32_0 = (List.replicate 5 (0 : Int))) ∧ (L 8 = true → c_g32_0 = r30))) ∧ (((L 7 = false → c_g33_1 = ([] : List Int)) ∧ (L 9 = false → L 7 = true → c_g33_1 = (List.replicate 5 (0 : Int)))) ∧ (L 9 = true → c_g33_1 = r31)))) ∧ Hp w0 Ws w [⟨g12, 0, ints .u64 r25.1⟩, ⟨g14, 0, ints .u64 r25.2⟩, ⟨g11, 0, ints .u64 r24.1⟩, ⟨g13, 0, ints .u64 r24.2⟩, ⟨g1, 0, ints .u8 x4⟩, ⟨g2, 0, ints .u8 (a1.set 31 (bits .and .u8 (a1.getD 31 0) 127))⟩, ⟨g3, 0, ints .u8 (List.replicate 32 (0 : Int))⟩, ⟨g7, 0, ints .u64 r5⟩, ⟨g8, 0, ints .u64 r6⟩, ⟨g28, 0, ints .u64 r26⟩, ⟨g29, 0, ints .u64 r27⟩, ⟨g32, 0, ints .u64 c_g32_0⟩, ⟨g33, 0, ints .u64 c_g33_1⟩] []) (by kernel_rfl) (by kernel_rfl) ?_ ?_ ?_
        have hp := hp.free1 0 0
        have hp := hp.free1 0 0
        · exact ⟨0, 0, ([] : List Int), ([] : List Int), ⟨⟨⟨⟨(fun h => absurd h (by decide)), (fun h => absurd h (by decide))⟩, ⟨⟨⟨⟨⟨s2_e127, s4_e127⟩, ⟨s5_e127, s6_e127⟩⟩, ⟨⟨s7_e127, s8_e127⟩, s9_e127⟩⟩, ⟨⟨⟨s10_e127, s11_e127⟩, ⟨s12_e127, s14_e127⟩⟩, ⟨⟨s15_e127, rfl⟩, rfl⟩⟩⟩, (fun h => absurd h (by decide))⟩⟩, ⟨⟨(fun h => absurd h (by decide)), (fun h => absurd h (by decide))⟩, ⟨(fun h => absurd h (by decide)), (fun h => absurd h (by decide))⟩⟩⟩, ⟨⟨⟨(fun h => absurd h (by decide)), (fun _ => rfl)⟩, ⟨(fun _ h => absurd h (by decide)), (fun h => absurd h (by decide))⟩⟩, ⟨⟨(fun _ => rfl), (fun _ h => absurd h (by decide))⟩, (fun h => absurd h (by decide))⟩⟩⟩, hp⟩
        · rintro L e w hall ⟨g32, g33, c_g32_0, c_g33_1, hF, hp⟩
          have qc_g32_0 := hF.2.1.2.2 (hall 8 rfl)
          rw [qc_g32_0] at hp
          have qc_g33_1 := hF.2.2.2 (hall 9 rfl)
          rw [qc_g33_1] at hp
          exact onlyN_i ⟨g32, g33, ⟨⟨⟨⟨(hF.1.1.1.1 (hall 2 rfl)), (hF.1.1.1.2 (hall 5 rfl))⟩, ⟨hF.1.1.2.1.1.1.1.1, hF.1.1.2.1.1.1.1.2⟩⟩, ⟨⟨hF.1.1.2.1.1.1.2.1, hF.1.1.2.1.1.1.2.2⟩, ⟨hF.1.1.2.1.1.2.1.1, hF.1.1.2.1.1.2.1.2⟩⟩⟩, ⟨⟨⟨hF.1.1.2.1.1.2.2, hF.1.1.2.1.2.1.1.1⟩, ⟨hF.1.1.2.1.2.1.1.2, hF.1.1.2.1.2.1.2.1⟩⟩, ⟨⟨hF.1.1.2.1.2.1.2.2, hF.1.1.2.1.2.2.1.1⟩, ⟨(hF.1.2.2.2 (hall 6 rfl)), (hF.2.1.1.1 (hall 7 rfl))⟩⟩⟩⟩, hp⟩
        refine allU_cons ?_ ?_
        · rintro L e w hLi hb hcl ⟨g32, g33, c_g32_0, c_g33_1, hF, hp⟩
          refine k_call [.agg (ints .u64 r26).toArray, .agg (ints .u64 r26).toArray] rfl (by kernel_rfl) (args2 hF.1.1.2.1.2.2.1.2 hF.1.1.2.1.2.2.2) (field_Element_Times_ok r26 r26 lr260 lr260 _ (hp.toR (fun _ h => by cases h)) qr30) ?_
          rintro _ w' ⟨_, rfl, rfl, lr300, hpc⟩
          refine ⟨_, rfl, .inr (.of_below hpc.chg.to_below), ?_⟩; have hp := hp.below hpc.chg.to_below; clear hpc
          exact k_done ⟨g32, g33, c_g32_0, c_g33_1, ⟨⟨⟨⟨(fun _ => lr300), hF.1.1.1.2⟩, ⟨hF.1.1.2.1, (fun _ => rfl)⟩⟩, hF.1.2⟩, hF.2⟩, hp⟩
        refine allU_cons ?_ ?_
        · rintro L e w hLi hb hcl ⟨g32, g33, c_g32_0, c_g33_1, hF, hp⟩
          refine tk_ef ?_
          refine k_loadA (n := 5) (xs := ints .u64 r27) 0 rfl (by kernel_rfl) (by kernel_rfl) hF.1.1.2.1.2.2.1.1 (hp.get (j := 10) rfl) rfl rfl ((ints_length _ _).trans lr270) (fun m v hm => by rw [Nat.zero_add]; exact hm) ?_
          exact k_done ⟨g32, g33, c_g32_0, c_g33_1, ⟨⟨hF.1.1, ⟨⟨(fun _ => rfl), hF.1.2.1.2⟩, hF.1.2.2⟩⟩, hF.2⟩, hp⟩
        refine allU_cons ?_ ?_
        · rintro L e w hLi hb hcl ⟨g32, g33, c_g32_0, c_g33_1, hF, hp⟩
          refine tk_ef ?_
          refine k_loadA (n := 5) (xs := ints .u64 r27) 0 rfl (by kernel_rfl) (by kernel_rfl) hF.1.1.2.1.2.2.1.1 (hp.get (j := 10) rfl) rfl rfl ((ints_length _ _).trans lr270) (fun m v hm => by rw [Nat.zero_add]; exact hm) ?_
          exact k_done ⟨g32, g33, c_g32_0, c_g33_1, ⟨⟨hF.1.1, ⟨⟨hF.1.2.1.1, (fun _ => rfl)⟩, hF.1.2.2⟩⟩, hF.2⟩, hp⟩
        refine allU_cons ?_ ?_
        · rintro L e w hLi hb hcl ⟨g32, g33, c_g32_0, c_g33_1, hF, hp⟩
          have hL3 := hb 3 (by kernel_rfl)
          have hL4 := hb 4 (by kernel_rfl)
          refine k_call [.agg (ints .u64 r27).toArray, .agg (ints .u64 r27).toArray] rfl (by kernel_rfl) (args2 (hF.1.2.1.1 hL3) (hF.1.2.1.2 hL4)) (field_Element_Times_ok r27 r27 lr270 lr270 _ (hp.toR (fun _ h => by cases h)) qr31) ?_
          rintro _ w' ⟨_, rfl, rfl, lr310, hpc⟩
          refine ⟨_, rfl, .inr (.of_below hpc.chg.to_below), ?_⟩; have hp := hp.below hpc.chg.to_below; clear hpc
          exact k_done ⟨g32, g33, c_g32_0, c_g33_1, ⟨⟨⟨⟨hF.1.1.1.1, (fun _ => lr310)⟩, hF.1.1.2⟩, ⟨hF.1.2.1, ⟨(fun _ => rfl), hF.1.2.2.2⟩⟩⟩, hF.2⟩, hp⟩
        refine allU_cons ?_ ?_
        · rintro L e w hLi hb hcl ⟨g32, g33, c_g32_0, c_g33_1, hF, hp⟩
          have qc_g32_0 := hF.2.1.1.2 hLi
          rw [qc_g32_0] at hp
          refine k_allocAt 11 (ints .u64 (List.replicate 5 (0 : Int))) rfl (by kernel_rfl) hp ?_
          intro g32 w hbg32 hp
          exact k_done ⟨g32, g33, (List.replicate 5 (0 : Int)), c_g33_1, ⟨⟨hF.1.1, ⟨hF.1.2.1, ⟨hF.1.2.2.1, (fun _ => rfl)⟩⟩⟩, ⟨⟨⟨hF.2.1.1.1, (fun h => nomatch (show true = false from h))⟩, ⟨(fun _ _ => rfl), (fun h => absurd (hLi.symm.trans (hcl 8 6 (by kernel_rfl) h)) (by decide))⟩⟩, hF.2.2⟩⟩, hp⟩
        refine allU_cons ?_ ?_
        · rintro L e w hLi hb hcl ⟨g32, g33, c_g32_0, c_g33_1, hF, hp⟩
          have qc_g33_1 := hF.2.2.1.1 hLi
          rw [qc_g33_1] at hp
          refine k_allocAt 12 (ints .u64 (List.replicate 5 (0 : Int))) rfl (by kernel_rfl) hp ?_
          intro g33 w hbg33 hp
          exact k_done ⟨g32, g33, c_g32_0, (List.replicate 5 (0 : Int)), ⟨hF.1, ⟨⟨⟨(fun _ => rfl), hF.2.1.1.2⟩, hF.2.1.2⟩, ⟨⟨(fun h => nomatch (show true = false from h)), (fun _ _ => rfl)⟩, (fun h => absurd (hLi.symm.trans (hcl 9 7 (by kernel_rfl) h)) (by decide))⟩⟩⟩, hp⟩
        refine allU_cons ?_ ?_
        · rintro L e w hLi hb hcl ⟨g32, g33, c_g32_0, c_g33_1, hF, hp⟩
          have hL2 := hb 2 (by kernel_rfl)
          have hL6 := hb 6 (by kernel_rfl)
          have lr300 := hF.1.1.1.1 hL2
          have qc_g32_0 := hF.2.1.2.1 hLi hL6
          rw [qc_g32_0] at hp
          refine k_storeA (v := .agg (ints .u64 r30).toArray) 11 0 (r := ⟨g32, 0, ints .u64 (List.replicate 5 (0 : Int))⟩) (ints .u64 r30) (ints .u64 r30) rfl (n := 5) (by kernel_rfl) (hF.1.2.2.2 hL6) (hF.1.1.2.2 hL2) rfl ((ints_length _ _).trans lr300) (ints_one _ _) hp rfl rfl rfl (Nat.le_of_eq ((Nat.zero_add _).trans ((ints_length _ _).trans List.length_replicate).symm)) (setMany_all _ _ (((ints_length _ _).trans lr300).trans ((ints_length _ _).trans List.length_replicate).symm)) (by decide) ?_; intro w hp
          exact k_done ⟨g32, g33, r30, c_g33_1, ⟨hF.1, ⟨⟨⟨hF.2.1.1.1, (fun h => absurd (hL6.symm.trans h) (by decide))⟩, ⟨(fun h _ => nomatch (show true = false from h)), (fun _ => rfl)⟩⟩, hF.2.2⟩⟩, hp⟩
        refine allU_cons ?_ allU_nil
        · rintro L e w hLi hb hcl ⟨g32, g33, c_g32_0, c_g33_1, hF, hp⟩
          have hL5 := hb 5 (by kernel_rfl)
          have hL7 := hb 7 (by kernel_rfl)
          have lr310 := hF.1.1.1.2 hL5
          have qc_g33_1 := hF.2.2.1.2 hLi hL7
          rw [qc_g33_1] at hp
          refine k_storeA (v := .agg (ints .u64 r31).toArray) 12 0 (r := ⟨g33, 0, ints .u64 (List.replicate 5 (0 : Int))⟩) (ints .u64 r31) (ints .u64 r31) rfl (n := 5) (by kernel_rfl) (hF.2.1.1.1 hL7) (hF.1.2.2.1 hL5) rfl ((ints_length _ _).trans lr310) (ints_one _ _) hp rfl rfl rfl (Nat.le_of_eq ((Nat.zero_add _).trans ((ints_length _ _).trans List.length_replicate).symm)) (setMany_all _ _ (((ints_length _ _).trans lr310).trans ((ints_length _ _).trans List.length_replicate).symm)) (by decide) ?_; intro w hp
          exact k_done ⟨g32, g33, c_g32_0, r31, ⟨hF.1, ⟨hF.2.1, ⟨⟨(fun h => absurd (hL7.symm.trans h) (by decide)), (fun h _ => nomatch (show true = false from h))⟩, (fun _ => rfl)⟩⟩⟩, hp⟩
      rintro e128 w ⟨g32, g33, hF, hp⟩
      have lr300 := hF.1.1.1.1
      have lr310 := hF.1.1.1.2
      have s2_e128 := hF.1.1.2.1
      have s4_e128 := hF.1.1.2.2
      have s5_e128 := hF.1.2.1.1
      have s6_e128 := hF.1.2.1.2
      have s7_e128 := hF.1.2.2.1
      have s8_e128 := hF.1.2.2.2
      have s9_e128 := hF.2.1.1.1
      have s10_e128 := hF.2.1.1.2
      have s11_e128 := hF.2.1.2.1
      have s12_e128 := hF.2.1.2.2
      have s14_e128 := hF.2.2.1.1
      have s15_e128 := hF.2.2.1.2
      have s16_e128 := hF.2.2.2.1
      have s17_e128 := hF.2.2.2.2
      clear hF
      refine wseqP (p0 := [1, 1, 1, 1, 1, 1, 1, 0, 1, 0, 0, 1, 0, 0, 1, 1, 1, 1, 1, 1, 0]) (p1 := [1, 1, 1, 1, 1, 1, 1, 0, 1, 0, 0, 1, 0, 0, 1, 1, 1, 1, 1, 1, 1]) rfl rfl rfl ?_
      refine wregionT xdh_Mul.o16 (.tk 0 (.tk 1 (.ef 2 (.ef 3 (.ef 4 (.done)))))) [4] rfl rfl (by kernel_rfl) (by kernel_rfl) ?_
      refine k_loadA (n := 5) (xs := ints .u64 r30) 0 rfl (by kernel_rfl) (by kernel_rfl) s16_e128 (hp.get (j := 11) rfl) rfl rfl ((ints_length _ _).trans lr300) (fun m v hm => by rw [Nat.zero_add]; exact hm) ?_
      refine k_loadA (n := 5) (xs := ints .u64 r31) 0 rfl (by kernel_rfl) (by kernel_rfl) s17_e128 (hp.get (j := 12) rfl) rfl rfl ((ints_length _ _).trans lr310) (fun m v hm => by rw [Nat.zero_add]; exact hm) ?_
      obtain ⟨r34, qr34, h⟩ := bd_e h
      refine k_call [.agg (ints .u64 r30).toArray, .agg (ints .u64 r31).toArray] rfl (by kernel_rfl) (args2 rfl rfl) (field_Element_Minus_ok r30 r31 lr300 lr310 _ (hp.toR (fun _ h => by cases h)) qr34) ?_
      rintro _ w' ⟨_, rfl, rfl, lr340, hpc⟩
      refine ⟨_, rfl, .inr (.of_below hpc.chg.to_below), ?_⟩; have hp := hp.below hpc.chg.to_below; clear hpc
      refine k_alloc (ints .u64 (List.replicate 5 (0 : Int))) rfl (by kernel_rfl) hp ?_
      intro g35 w hbg35 hp
      refine k_storeA (v := .agg (ints .u64 r34).toArray) 13 0 (r := ⟨g35, 0, ints .u64 (List.replicate 5 (0 : Int))⟩) (ints .u64 r34) (ints .u64 r34) rfl (n := 5) (by kernel_rfl) rfl rfl rfl ((ints_length _ _).trans lr340) (ints_one _ _) hp rfl rfl rfl (Nat.le_of_eq ((Nat.zero_add _).trans ((ints_length _ _).trans List.length_replicate).symm)) (setMany_all _ _ (((ints_length _ _).trans lr340).trans ((ints_length _ _).trans List.length_replicate).symm)) (by decide) ?_; intro w hp
      refine k_end ?_; intro e129 qe129
      have s2_e129 : e129 2 = .pointer (some ⟨g1, 0, none⟩) := (congrFun qe129 2).trans s2_e128
      have s4_e129 : e129 4 = .pointer (some ⟨g3, 0, none⟩) := (congrFun qe129 4).trans s4_e128
      have s5_e129 : e129 5 = .pointer (some ⟨g7, 0, none⟩) := (congrFun qe129 5).trans s5_e128
      have s6_e129 : e129 6 = .pointer (some ⟨g8, 0, none⟩) := (congrFun qe129 6).trans s6_e128
      have s7_e129 : e129 7 = .pointer (some ⟨g11, 0, none⟩) := (congrFun qe129 7).trans s7_e128
      have s8_e129 : e129 8 = .pointer (some ⟨g12, 0, none⟩) := (congrFun qe129 8).trans s8_e128
      have s9_e129 : e129 9 = .pointer (some ⟨g13, 0, none⟩) := (congrFun qe129 9).trans s9_e128
      have s10_e129 : e129 10 = .pointer (some ⟨g14, 0, none⟩) := (congrFun qe129 10).trans s10_e128
      have s11_e129 : e129 11 = .int .u64 x23 := (congrFun qe129 11).trans s11_e128
      have s12_e129 : e129 12 = .int .i64 y20 := (congrFun qe129 12).trans s12_e128
      have s14_e129 : e129 14 = .pointer (some ⟨g28, 0, none⟩) := (congrFun qe129 14).trans s14_e128
      have s15_e129 : e129 15 = .pointer (some ⟨g29, 0, none⟩) := (congrFun qe129 15).trans s15_e128
      have s16_e129 : e129 16 = .pointer (some ⟨g32, 0, none⟩) := (congrFun qe129 16).trans s16_e128
      have s17_e129 : e129 17 = .pointer (some ⟨g33, 0, none⟩) := (congrFun qe129 17).trans s17_e128
      have s18_e129 : e129 18 = .pointer (some ⟨g35, 0, none⟩) := congrFun qe129 18
      clear qe129
      refine wseqP (p0 := [1, 1, 1, 1, 1, 1, 1, 0, 1, 0, 0, 1, 0, 0, 1, 1, 1, 1, 1, 1, 1, 0]) (p1 := [1, 1, 1, 1, 1, 1, 1, 0, 1, 0, 0, 1, 0, 0, 1, 1, 1, 1, 1, 1, 1, 1]) rfl rfl rfl ?_
      obtain ⟨r36, qr36, h⟩ := bd_e h
      obtain ⟨r37, qr37, h⟩ := bd_e h
      obtain ⟨r38, qr38, h⟩ := bd_e h
      obtain ⟨r39, qr39, h⟩ := bd_e h
      refine wcut (fun e130 w2 => ∃ g40 g41 : Nat, (((((r37.length = 5 ∧ r39.length = 5) ∧ e130 2 = .pointer (some ⟨g1, 0, none⟩)) ∧ (e130 4 = .pointer (some ⟨g3, 0, none⟩) ∧ e130 5 = .pointer (some ⟨g7, 0, none⟩))) ∧ ((e130 6 = .pointer (some ⟨g8, 0, none⟩) ∧ e130 7 = .pointer (some ⟨g11, 0, none⟩)) ∧ (e130 8 = .pointer (some ⟨g12, 0, none⟩) ∧ e130 9 = .pointer (some ⟨g13, 0, none⟩)))) ∧ (((e130 10 = .pointer (some ⟨g14, 0, none⟩) ∧ e130 11 = .int .u64 x23) ∧ (e130 12 = .int .i64 y20 ∧ e130 16 = .pointer (some ⟨g32, 0, none⟩))) ∧ ((e130 17 = .pointer (some ⟨g33, 0, none⟩) ∧ e130 18 = .pointer (some ⟨g35, 0, none⟩)) ∧ (e130 19 = .pointer (some ⟨g40, 0, none⟩) ∧ e130 20 = .pointer (some ⟨g41, 0, none⟩))))) ∧ Hp w0 Ws w2 [⟨g12, 0, ints .u64 r25.1⟩, ⟨g14, 0, ints .u64 r25.2⟩, ⟨g11, 0, ints .u64 r24.1⟩, ⟨g13, 0, ints .u64 r24.2⟩, ⟨g1, 0, ints .u8 x4⟩, ⟨g2, 0, ints .u8 (a1.set 31 (bits .and .u8 (a1.getD 31 0) 127))⟩, ⟨g3, 0, ints .u8 (List.replicate 32 (0 : Int))⟩, ⟨g7, 0, ints .u64 r5⟩, ⟨g8, 0, ints .u64 r6⟩, ⟨g28, 0, ints .u64 r26⟩, ⟨g29, 0, ints .u64 r27⟩, ⟨g32, 0, ints .u64 r30⟩, ⟨g33, 0, ints .u64 r31⟩, ⟨g35, 0, ints .u64 r34⟩, ⟨g40, 0, ints .u64 r37⟩, ⟨g41, 0, ints .u64 r39⟩] []) ?_ ?_
      rotate_left
      · refine wregionM xdh_Mul.o17 (.tk 0 (.tk 1 (.tk 3 (.rest 11 11)))) [12, 13] [(0, 0, 0), (0, 0, 0), (3, 16383, 16383), (0, 0, 0), (12, 16383, 16383), (0, 16383, 16383), (0, 16383, 16383), (112, 16383, 16383), (0, 16383, 16383), (384, 16383, 16383), (0, 16383, 16383), (0, 16383, 16383), (3615, 16383, 16383), (8191, 16383, 16383)] rfl rfl (by kernel_rfl) (by kernel_rfl) (Nat.le_of_ble_eq_true (by kernel_rfl)) (by kernel_rfl) (by kernel_rfl) (by kernel_rfl) ?_
        have hp := hp.drew
        refine k_loadA (n := 5) (xs := ints .u64 r24.2) 0 rfl (by kernel_rfl) (by kernel_rfl) s9_e129 (hp.get (j := 3) rfl) rfl rfl ((ints_length _ _).trans lr241) (fun m v hm => by rw [Nat.zero_add]; exact hm) ?_
        refine k_loadA (n := 5) (xs := ints .u64 r25.2) 0 rfl (by kernel_rfl) (by kernel_rfl) s10_e129 (hp.get (j := 1) rfl) rfl rfl ((ints_length _ _).trans lr251) (fun m v hm => by rw [Nat.zero_add]; exact hm) ?_
        refine k_loadA (n := 5) (xs := ints .u64 r26) 0 rfl (by kernel_rfl) (by kernel_rfl) s14_e129 (hp.get (j := 9) rfl) rfl rfl ((ints_length _ _).trans lr260) (fun m v hm => by rw [Nat.zero_add]; exact hm) ?_
        refine k_rest [2, 4, 5, 6, 7, 8, 9, 10, 11, 12, 13] (fun L e w => ∃ g40 g41 : Nat, ∃ c_g40_0 c_g41_1 : List Int, ((((((L 2 = true → r36.length = 5) ∧ (L 4 = true → r37.length = 5)) ∧ (L 7 = true → r38.length = 5)) ∧ ((L 9 = true → r39.length = 5) ∧ (((((e 2 = .pointer (some ⟨g1, 0, none⟩) ∧ e 4 = .pointer (some ⟨g3, 0, none⟩)) ∧ e 5 = .pointer (some ⟨g7, 0, none⟩)) ∧ (e 6 = .pointer (some ⟨g8, 0, none⟩) ∧ e 7 = .pointer (some ⟨g11, 0, none⟩))) ∧ ((e 8 = .pointer (some ⟨g12, 0, none⟩) ∧ e 9 = .pointer (some ⟨g13, 0, none⟩)) ∧ (e 10 = .pointer (some ⟨g14, 0, none⟩) ∧ e 11 = .int .u64 x23))) ∧ (((e 12 = .int .i64 y20 ∧ e 15 = .pointer (some ⟨g29, 0, none⟩)) ∧ (e 16 = .pointer (some ⟨g32, 0, none⟩) ∧ e 17 = .pointer (some ⟨g33, 0, none⟩))) ∧ ((e 18 = .pointer (some ⟨g35, 0, none⟩) ∧ e 81 = .agg (ints .u64 r24.2).toArray) ∧ (e 82 = .agg (ints .u64 r25.2).toArray ∧ e 84 = .agg (ints .u64 r26).toArray)))))) ∧ ((((L 2 = true → e 83 = .agg (ints .u64 r36).toArray) ∧ (L 4 = true → e 85 = .agg (ints .u64 r37).toArray)) ∧ (L 5 = true → e 86 = .agg (ints .u64 r24.2).toArray)) ∧ ((L 6 = true → e 87 = .agg (ints .u64 r25.2).toArray) ∧ (L 7 = true → e 88 = .agg (ints .u64 r38).toArray)))) ∧ (((((L 8 = true → e 89 = .agg (ints .u64 r27).toArray) ∧ (L 9 = true → e 90 = .agg (ints .u64 r39).toArray)) ∧ (L 10 = true → e 19 = .pointer (some ⟨g40, 0, none⟩))) ∧ ((L 11 = true → e 20 = .pointer (some ⟨g41, 0, none⟩)) ∧ (L 10 = false → c_g40_0 = ([] : List Int)))) ∧ ((((L 12 = false → L 10 = true → c_g40_0 = (List.replicate 5 (0 : Int))) ∧ (L 12 = true → c_g40_0 = r37)) ∧ (L 11 = false → c_g41_1 = ([] : List Int))) ∧ ((L 13 = false → L 11 = true → c_g41_1 = (List.replicate 5 (0 : Int))) ∧ (L 13 = true → c_g41_1 = r39))))) ∧ Hp w0 Ws w [⟨g12, 0, ints .u64 r25.1⟩, ⟨g14, 0, ints .u64 r25.2⟩, ⟨g11, 0, ints .u64 r24.1⟩, ⟨g13, 0, ints .u64 r24.2⟩, ⟨g1, 0, ints .u8 x4⟩, ⟨g2, 0, ints .u8 (a1.set 31 (bits .and .u8 (a1.getD 31 0) 127))⟩, ⟨g3, 0, ints .u8 (List.replicate 32 (0 : Int))⟩, ⟨g7, 0, ints .u64 r5⟩, ⟨g8, 0, ints .u64 r6⟩, ⟨g28, 0, ints .u64 r26⟩, ⟨g29, 0, ints .u64 r27⟩, ⟨g32, 0, ints .u64 r30⟩, ⟨g33, 0, ints .u64 r31⟩, ⟨g35, 0, ints .u64 r34⟩, ⟨g40, 0, ints .u64 c_g40_0⟩, ⟨g41, 0, ints .u64 c_g41_1⟩] []) (by kernel_rfl) (by kernel_rfl) ?_ ?_ ?_
        have hp := hp.free1 0 0
        have hp := hp.free1 0 0
        · exact ⟨0, 0, ([] : List Int), ([] : List Int), ⟨⟨⟨⟨⟨(fun h => absurd h (by decide)), (fun h => absurd h (by decide))⟩, (fun h => absurd h (by decide))⟩, ⟨(fun h => absurd h (by decide)), ⟨⟨⟨⟨⟨s2_e129, s4_e129⟩, s5_e129⟩, ⟨s6_e129, s7_e129⟩⟩, ⟨⟨s8_e129, s9_e129⟩, ⟨s10_e129, s11_e129⟩⟩⟩, ⟨⟨⟨s12_e129, s15_e129⟩, ⟨s16_e129, s17_e129⟩⟩, ⟨⟨s18_e129, rfl⟩, ⟨rfl, rfl⟩⟩⟩⟩⟩⟩, ⟨⟨⟨(fun h => absurd h (by decide)), (fun h => absurd h (by decide))⟩, (fun h => absurd h (by decide))⟩, ⟨(fun h => absurd h (by decide)), (fun h => absurd h (by decide))⟩⟩⟩, ⟨⟨⟨⟨(fun h => absurd h (by decide)), (fun h => absurd h (by decide))⟩, (fun h => absurd h (by decide))⟩, ⟨(fun h => absurd h (by decide)), (fun _ => rfl)⟩⟩, ⟨⟨⟨(fun _ h => absurd h (by decide)), (fun h => absurd h (by decide))⟩, (fun _ => rfl)⟩, ⟨(fun _ h => absurd h (by decide)), (fun h => absurd h (by decide))⟩⟩⟩⟩, hp⟩
        · rintro L e w hall ⟨g40, g41, c_g40_0, c_g41_1, hF, hp⟩
          have qc_g40_0 := hF.2.2.1.1.2 (hall 12 rfl)
          rw [qc_g40_0] at hp
          have qc_g41_1 := hF.2.2.2.2 (hall 13 rfl)
          rw [qc_g41_1] at hp
          exact onlyN_i ⟨g40, g41, ⟨⟨⟨⟨⟨(hF.1.1.1.1.2 (hall 4 rfl)), (hF.1.1.2.1 (hall 9 rfl))⟩, hF.1.1.2.2.1.1.1.1.1⟩, ⟨hF.1.1.2.2.1.1.1.1.2, hF.1.1.2.2.1.1.1.2⟩⟩, ⟨⟨hF.1.1.2.2.1.1.2.1, hF.1.1.2.2.1.1.2.2⟩, ⟨hF.1.1.2.2.1.2.1.1, hF.1.1.2.2.1.2.1.2⟩⟩⟩, ⟨⟨⟨hF.1.1.2.2.1.2.2.1, hF.1.1.2.2.1.2.2.2⟩, ⟨hF.1.1.2.2.2.1.1.1, hF.1.1.2.2.2.1.2.1⟩⟩, ⟨⟨hF.1.1.2.2.2.1.2.2, hF.1.1.2.2.2.2.1.1⟩, ⟨(hF.2.1.1.2 (hall 10 rfl)), (hF.2.1.2.1 (hall 11 rfl))⟩⟩⟩⟩, hp⟩
        refine allU_cons ?_ ?_
        · rintro L e w hLi hb hcl ⟨g40, g41, c_g40_0, c_g41_1, hF, hp⟩
          refine k_call [.agg (ints .u64 r24.2).toArray, .agg (ints .u64 r25.2).toArray] rfl (by kernel_rfl) (args2 hF.1.1.2.2.2.2.1.2 hF.1.1.2.2.2.2.2.1) (field_Element_Minus_ok r24.2 r25.2 lr241 lr251 _ (hp.toR (fun _ h => by cases h)) qr36) ?_
          rintro _ w' ⟨_, rfl, rfl, lr360, hpc⟩
          refine ⟨_, rfl, .inr (.of_below hpc.chg.to_below), ?_⟩; have hp := hp.below hpc.chg.to_below; clear hpc
          exact k_done ⟨g40, g41, c_g40_0, c_g41_1, ⟨⟨⟨⟨⟨(fun _ => lr360), hF.1.1.1.1.2⟩, hF.1.1.1.2⟩, hF.1.1.2⟩, ⟨⟨⟨(fun _ => rfl), hF.1.2.1.1.2⟩, hF.1.2.1.2⟩, hF.1.2.2⟩⟩, hF.2⟩, hp⟩
        refine allU_cons ?_ ?_
        · rintro L e w hLi hb hcl ⟨g40, g41, c_g40_0, c_g41_1, hF, hp⟩
          have hL2 := hb 2 (by kernel_rfl)
          have lr360 := hF.1.1.1.1.1 hL2
          refine k_call [.agg (ints .u64 r36).toArray, .agg (ints .u64 r26).toArray] rfl (by kernel_rfl) (args2 (hF.1.2.1.1.1 hL2) hF.1.1.2.2.2.2.2.2) (field_Element_Times_ok r36 r26 lr360 lr260 _ (hp.toR (fun _ h => by cases h)) qr37) ?_
          rintro _ w' ⟨_, rfl, rfl, lr370, hpc⟩
          refine ⟨_, rfl, .inr (.of_below hpc.chg.to_below), ?_⟩; have hp := hp.below hpc.chg.to_below; clear hpc
          exact k_done ⟨g40, g41, c_g40_0, c_g41_1, ⟨⟨⟨⟨⟨hF.1.1.1.1.1, (fun _ => lr370)⟩, hF.1.1.1.2⟩, hF.1.1.2⟩, ⟨⟨⟨hF.1.2.1.1.1, (fun _ => rfl)⟩, hF.1.2.1.2⟩, hF.1.2.2⟩⟩, hF.2⟩, hp⟩
        refine allU_cons ?_ ?_
        · rintro L e w hLi hb hcl ⟨g40, g41, c_g40_0, c_g41_1, hF, hp⟩
          refine tk_ef ?_
          refine k_loadA (n := 5) (xs := ints .u64 r24.2) 0 rfl (by kernel_rfl) (by kernel_rfl) hF.1.1.2.2.1.2.1.2 (hp.get (j := 3) rfl) rfl rfl ((ints_length _ _).trans lr241) (fun m v hm => by rw [Nat.zero_add]; exact hm) ?_
          exact k_done ⟨g40, g41, c_g40_0, c_g41_1, ⟨⟨hF.1.1, ⟨⟨hF.1.2.1.1, (fun _ => rfl)⟩, hF.1.2.2⟩⟩, hF.2⟩, hp⟩
        refine allU_cons ?_ ?_
        · rintro L e w hLi hb hcl ⟨g40, g41, c_g40_0, c_g41_1, hF, hp⟩
          refine tk_ef ?_
          refine k_loadA (n := 5) (xs := ints .u64 r25.2) 0 rfl (by kernel_rfl) (by kernel_rfl) hF.1.1.2.2.1.2.2.1 (hp.get (j := 1) rfl) rfl rfl ((ints_length _ _).trans lr251) (fun m v hm => by rw [Nat.zero_add]; exact hm) ?_
          exact k_done ⟨g40, g41, c_g40_0, c_g41_1, ⟨⟨hF.1.1, ⟨hF.1.2.1, ⟨(fun _ => rfl), hF.1.2.2.2⟩⟩⟩, hF.2⟩, hp⟩
        refine allU_cons ?_ ?_
        · rintro L e w hLi hb hcl ⟨g40, g41, c_g40_0, c_g41_1, hF, hp⟩
          have hL5 := hb 5 (by kernel_rfl)
          have hL6 := hb 6 (by kernel_rfl)
          refine k_call [.agg (ints .u64 r24.2).toArray, .agg (ints .u64 r25.2).toArray] rfl (by kernel_rfl) (args2 (hF.1.2.1.2 hL5) (hF.1.2.2.1 hL6)) (field_Element_Plus_ok k r24.2 r25.2 lr241 lr251 _ (hp.toR (fun _ h => by cases h)) qr38) ?_
          rintro _ w' ⟨_, rfl, rfl, lr380, hpc⟩
          refine ⟨_, rfl, .inr (.of_below hpc.chg.to_below), ?_⟩; have hp := hp.below hpc.chg.to_below; clear hpc
          exact k_done ⟨g40, g41, c_g40_0, c_g41_1, ⟨⟨⟨⟨hF.1.1.1.1, (fun _ => lr380)⟩, hF.1.1.2⟩, ⟨hF.1.2.1, ⟨hF.1.2.2.1, (fun _ => rfl)⟩⟩⟩, hF.2⟩, hp⟩
        refine allU_cons ?_ ?_
        · rintro L e w hLi hb hcl ⟨g40, g41, c_g40_0, c_g41_1, hF, hp⟩
          refine tk_ef ?_
          refine k_loadA (n := 5) (xs := ints .u64 r27) 0 rfl (by kernel_rfl) (by kernel_rfl) hF.1.1.2.2.2.1.1.2 (hp.get (j := 10) rfl) rfl rfl ((ints_length _ _).trans lr270) (fun m v hm => by rw [Nat.zero_add]; exact hm) ?_
          exact k_done ⟨g40, g41, c_g40_0, c_g41_1, ⟨hF.1, ⟨⟨⟨⟨(fun _ => rfl), hF.2.1.1.1.2⟩, hF.2.1.1.2⟩, hF.2.1.2⟩, hF.2.2⟩⟩, hp⟩
        refine allU_cons ?_ ?_
        · rintro L e w hLi hb hcl ⟨g40, g41, c_g40_0, c_g41_1, hF, hp⟩
          have hL7 := hb 7 (by kernel_rfl)
          have hL8 := hb 8 (by kernel_rfl)
          have lr380 := hF.1.1.1.2 hL7
          refine k_call [.agg (ints .u64 r38).toArray, .agg (ints .u64 r27).toArray] rfl (by kernel_rfl) (args2 (hF.1.2.2.2 hL7) (hF.2.1.1.1.1 hL8)) (field_Element_Times_ok r38 r27 lr380 lr270 _ (hp.toR (fun _ h => by cases h)) qr39) ?_
          rintro _ w' ⟨_, rfl, rfl, lr390, hpc⟩
          refine ⟨_, rfl, .inr (.of_below hpc.chg.to_below), ?_⟩; have hp := hp.below hpc.chg.to_below; clear hpc
          exact k_done ⟨g40, g41, c_g40_0, c_g41_1, ⟨⟨⟨hF.1.1.1, ⟨(fun _ => lr390), hF.1.1.2.2⟩⟩, hF.1.2⟩, ⟨⟨⟨⟨hF.2.1.1.1.1, (fun _ => rfl)⟩, hF.2.1.1.2⟩, hF.2.1.2⟩, hF.2.2⟩⟩, hp⟩
        refine allU_cons ?_ ?_
        · rintro L e w hLi hb hcl ⟨g40, g41, c_g40_0, c_g41_1, hF, hp⟩
          have qc_g40_0 := hF.2.1.2.2 hLi
          rw [qc_g40_0] at hp
          refine k_allocAt 14 (ints .u64 (List.replicate 5 (0 : Int))) rfl (by kernel_rfl) hp ?_
          intro g40 w hbg40 hp
          exact k_done ⟨g40, g41, (List.replicate 5 (0 : Int)), c_g41_1, ⟨hF.1, ⟨⟨⟨hF.2.1.1.1, (fun _ => rfl)⟩, ⟨hF.2.1.2.1, (fun h => nomatch (show true = false from h))⟩⟩, ⟨⟨⟨(fun _ _ => rfl), (fun h => absurd (hLi.symm.trans (hcl 12 10 (by kernel_rfl) h)) (by decide))⟩, hF.2.2.1.2⟩, hF.2.2.2⟩⟩⟩, hp⟩
        refine allU_cons ?_ ?_
        · rintro L e w hLi hb hcl ⟨g40, g41, c_g40_0, c_g41_1, hF, hp⟩
          have qc_g41_1 := hF.2.2.1.2 hLi
          rw [qc_g41_1] at hp
          refine k_allocAt 15 (ints .u64 (List.replicate 5 (0 : Int))) rfl (by kernel_rfl) hp ?_
          intro g41 w hbg41 hp
          exact k_done ⟨g40, g41, c_g40_0, (List.replicate 5 (0 : Int)), ⟨hF.1, ⟨⟨hF.2.1.1, ⟨(fun _ => rfl), hF.2.1.2.2⟩⟩, ⟨⟨hF.2.2.1.1, (fun h => nomatch (show true = false from h))⟩, ⟨(fun _ _ => rfl), (fun h => absurd (hLi.symm.trans (hcl 13 11 (by kernel_rfl) h)) (by decide))⟩⟩⟩⟩, hp⟩
        refine allU_cons ?_ ?_
        · rintro L e w hLi hb hcl ⟨g40, g41, c_g40_0, c_g41_1, hF, hp⟩
          have hL4 := hb 4 (by kernel_rfl)
          have hL10 := hb 10 (by kernel_rfl)
          have lr370 := hF.1.1.1.1.2 hL4
          have qc_g40_0 := hF.2.2.1.1.1 hLi hL10
          rw [qc_g40_0] at hp
          refine k_storeA (v := .agg (ints .u64 r37).toArray) 14 0 (r := ⟨g40, 0, ints .u64 (List.replicate 5 (0 : Int))⟩) (ints .u64 r37) (ints .u64 r37) rfl (n := 5) (by kernel_rfl) (hF.2.1.1.2 hL10) (hF.1.2.1.1.2 hL4) rfl ((ints_length _ _).trans lr370) (ints_one _ _) hp rfl rfl rfl (Nat.le_of_eq ((Nat.zero_add _).trans ((ints_length _ _).trans List.length_replicate).symm)) (setMany_all _ _ (((ints_length _ _).trans lr370).trans ((ints_length _ _).trans List.length_replicate).symm)) (by decide) ?_; intro w hp
          exact k_done ⟨g40, g41, r37, c_g41_1, ⟨hF.1, ⟨⟨hF.2.1.1, ⟨hF.2.1.2.1, (fun h => absurd (hL10.symm.trans h) (by decide))⟩⟩, ⟨⟨⟨(fun h _ => nomatch (show true = false from h)), (fun _ => rfl)⟩, hF.2.2.1.2⟩, hF.2.2.2⟩⟩⟩, hp⟩
        refine allU_cons ?_ allU_nil
        · rintro L e w hLi hb hcl ⟨g40, g41, c_g40_0, c_g41_1, hF, hp⟩
          have hL9 := hb 9 (by kernel_rfl)
          have hL11 := hb 11 (by kernel_rfl)
          have lr390 := hF.1.1.2.1 hL9
          have qc_g41_1 := hF.2.2.2.1 hLi hL11
          rw [qc_g41_1] at hp
          refine k_storeA (v := .agg (ints .u64 r39).toArray) 15 0 (r := ⟨g41, 0, ints .u64 (List.replicate 5 (0 : Int))⟩) (ints .u64 r39) (ints .u64 r39) rfl (n := 5) (by kernel_rfl) (hF.2.1.2.1 hL11) (hF.2.1.1.1.2 hL9) rfl ((ints_length _ _).trans lr390) (ints_one _ _) hp rfl rfl rfl (Nat.le_of_eq ((Nat.zero_add _).trans ((ints_length _ _).trans List.length_replicate).symm)) (setMany_all _ _ (((ints_length _ _).trans lr390).trans ((ints_length _ _).trans List.length_replicate).symm)) (by decide) ?_; intro w hp
          exact k_done ⟨g40, g41, c_g40_0, r39, ⟨hF.1, ⟨hF.2.1, ⟨⟨hF.2.2.1.1, (fun h => absurd (hL11.symm.trans h) (by decide))⟩, ⟨(fun h _ => nomatch (show true = false from h)), (fun _ => rfl)⟩⟩⟩⟩, hp⟩
      rintro e130 w ⟨g40, g41, hF, hp⟩
      have lr370 := hF.1.1.1.1.1
      have lr390 := hF.1.1.1.1.2
      have s2_e130 := hF.1.1.1.2
      have s4_e130 := hF.1.1.2.1
      have s5_e130 := hF.1.1.2.2
      have s6_e130 := hF.1.2.1.1
      have s7_e130 := hF.1.2.1.2
      have s8_e130 := hF.1.2.2.1
      have s9_e130 := hF.1.2.2.2
      have s10_e130 := hF.2.1.1.1
      have s11_e130 := hF.2.1.1.2
      have s12_e130 := hF.2.1.2.1
      have s16_e130 := hF.2.1.2.2
      have s17_e130 := hF.2.2.1.1
      have s18_e130 := hF.2.2.1.2
      have s19_e130 := hF.2.2.2.1
      have s20_e130 := hF.2.2.2.2
      clear hF
      refine wseqP (p0 := [1, 1, 1, 1, 1, 1, 1, 0, 1, 0, 0, 1, 0, 0, 1, 1, 1, 1, 1, 1, 1, 1, 0]) (p1 := [1, 1, 1, 1, 1, 1, 1, 0, 1, 0, 0, 1, 0, 0, 1, 1, 1, 1, 1, 1, 1, 1, 1]) rfl rfl rfl ?_
      obtain ⟨r42, qr42, h⟩ := bd_e h
      obtain ⟨r43, qr43, h⟩ := bd_e h
      refine wcut (fun e131 w2 => ∃ g44 g45 : Nat, (((((r42.length = 5 ∧ r43.length = 5) ∧ e131 2 = .pointer (some ⟨g1, 0, none⟩)) ∧ (e131 4 = .pointer (some ⟨g3, 0, none⟩) ∧ e131 5 = .pointer (some ⟨g7, 0, none⟩))) ∧ ((e131 6 = .pointer (some ⟨g8, 0, none⟩) ∧ e131 7 = .pointer (some ⟨g11, 0, none⟩)) ∧ (e131 8 = .pointer (some ⟨g12, 0, none⟩) ∧ e131 9 = .pointer (some ⟨g13, 0, none⟩)))) ∧ (((e131 10 = .pointer (some ⟨g14, 0, none⟩) ∧ e131 11 = .int .u64 x23) ∧ (e131 12 = .int .i64 y20 ∧ e131 16 = .pointer (some ⟨g32, 0, none⟩))) ∧ ((e131 17 = .pointer (some ⟨g33, 0, none⟩) ∧ e131 18 = .pointer (some ⟨g35, 0, none⟩)) ∧ (e131 21 = .pointer (some ⟨g44, 0, none⟩) ∧ e131 22 = .pointer (some ⟨g45, 0, none⟩))))) ∧ Hp w0 Ws w2 [⟨g12, 0, ints .u64 r25.1⟩, ⟨g14, 0, ints .u64 r25.2⟩, ⟨g11, 0, ints .u64 r24.1⟩, ⟨g13, 0, ints .u64 r24.2⟩, ⟨g1, 0, ints .u8 x4⟩, ⟨g2, 0, ints .u8 (a1.set 31 (bits .and .u8 (a1.getD 31 0) 127))⟩, ⟨g3, 0, ints .u8 (List.replicate 32 (0 : Int))⟩, ⟨g7, 0, ints .u64 r5⟩, ⟨g8, 0, ints .u64 r6⟩, ⟨g28, 0, ints .u64 r26⟩, ⟨g29, 0, ints .u64 r27⟩, ⟨g32, 0, ints .u64 r30⟩, ⟨g33, 0, ints .u64 r31⟩, ⟨g35, 0, ints .u64 r34⟩, ⟨g40, 0, ints .u64 r37⟩, ⟨g41, 0, ints .u64 r39⟩, ⟨g44, 0, ints .u64 r42⟩, ⟨g45, 0, ints .u64 r43⟩] []) ?_ ?_
      rotate_left
      · refine wregionM xdh_Mul.o18 (.tk 0 (.tk 1 (.rest 3 8))) [8, 9] [(0, 0, 0), (0, 0, 0), (3, 1023, 1023), (0, 1023, 1023), (0, 1023, 1023), (28, 1023, 1023), (0, 1023, 1023), (0, 1023, 1023), (231, 1023, 1023), (511, 1023, 1023)] rfl rfl (by kernel_rfl) (by kernel_rfl) (Nat.le_of_ble_eq_true (by kernel_rfl)) (by kernel_rfl) (by kernel_rfl) (by kernel_rfl) ?_
        have hp := hp.drew
        refine k_loadA (n := 5) (xs := ints .u64 r37) 0 rfl (by kernel_rfl) (by kernel_rfl) s19_e130 (hp.get (j := 14) rfl) rfl rfl ((ints_length _ _).trans lr370) (fun m v hm => by rw [Nat.zero_add]; exact hm) ?_
        refine k_loadA (n := 5) (xs := ints .u64 r39) 0 rfl (by kernel_rfl) (by kernel_rfl) s20_e130 (hp.get (j := 15) rfl) rfl rfl ((ints_length _ _).trans lr390) (fun m v hm => by rw [Nat.zero_add]; exact hm) ?_
        refine k_rest [2, 3, 4, 5, 6, 7, 8, 9] (fun L e w => ∃ g44 g45 : Nat, ∃ c_g44_0 c_g45_1 : List Int, (((((L 2 = true → r42.length = 5) ∧ (L 5 = true → r43.length = 5)) ∧ ((((((e 2 = .pointer (some ⟨g1, 0, none⟩) ∧ e 4 = .pointer (some ⟨g3, 0, none⟩)) ∧ e 5 = .pointer (some ⟨g7, 0, none⟩)) ∧ (e 6 = .pointer (some ⟨g8, 0, none⟩) ∧ e 7 = .pointer (some ⟨g11, 0, none⟩))) ∧ ((e 8 = .pointer (some ⟨g12, 0, none⟩) ∧ e 9 = .pointer (some ⟨g13, 0, none⟩)) ∧ (e 10 = .pointer (some ⟨g14, 0, none⟩) ∧ e 11 = .int .u64 x23))) ∧ (((e 12 = .int .i64 y20 ∧ e 16 = .pointer (some ⟨g32, 0, none⟩)) ∧ (e 17 = .pointer (some ⟨g33, 0, none⟩) ∧ e 18 = .pointer (some ⟨g35, 0, none⟩))) ∧ ((e 19 = .pointer (some ⟨g40, 0, none⟩) ∧ e 20 = .pointer (some ⟨g41, 0, none⟩)) ∧ (e 91 = .agg (ints .u64 r37).toArray ∧ e 92 = .agg (ints .u64 r39).toArray)))) ∧ (L 2 = true → e 93 = .agg (ints .u64 r42).toArray))) ∧ (((L 3 = true → e 94 = .agg (ints .u64 r37).toArray) ∧ (L 4 = true → e 95 = .agg (ints .u64 r39).toArray)) ∧ ((L 5 = true → e 96 = .agg (ints .u64 r43).toArray) ∧ (L 6 = true → e 21 = .pointer (some ⟨g44, 0, none⟩))))) ∧ ((((L 7 = true → e 22 = .pointer (some ⟨g45, 0, none⟩)) ∧ (L 6 = false → c_g44_0 = ([] : List Int))) ∧ ((L 8 = false → L 6 = true → c_g44_0 = (List.replicate 5 (0 : Int))) ∧ (L 8 = true → c_g44_0 = r42))) ∧ (((L 7 = false → c_g45_1 = ([] : List Int)) ∧ (L 9 = false → L 7 = true → c_g45_1 = (List.replicate 5 (0 : Int)))) ∧ (L 9 = true → c_g45_1 = r43)))) ∧ Hp w0 Ws w [⟨g12, 0, ints .u64 r25.1⟩, ⟨g14, 0, ints .u64 r25.2⟩, ⟨g11, 0, ints .u64 r24.1⟩, ⟨g13, 0, ints .u64 r24.2⟩, ⟨g1, 0, ints .u8 x4⟩, ⟨g2, 0, ints .u8 (a1.set 31 (bits .and .u8 (a1.getD 31 0) 127))⟩, ⟨g3, 0, ints .u8 (List.replicate 32 (0 : Int))⟩, ⟨g7, 0, ints .u64 r5⟩, ⟨g8, 0, ints .u64 r6⟩, ⟨g28, 0, ints .u64 r26⟩, ⟨g29, 0, ints .u64 r27⟩, ⟨g32, 0, ints .u64 r30⟩, ⟨g33, 0, ints .u64 r31⟩, ⟨g35, 0, ints .u64 r34⟩, ⟨g40, 0, ints .u64 r37⟩, ⟨g41, 0, ints .u64 r39⟩, ⟨g44, 0, ints .u64 c_g44_0⟩, ⟨g45, 0, ints .u64 c_g45_1⟩] []) (by kernel_rfl) (by kernel_rfl) ?_ ?_ ?_
        have hp := hp.free1 0 0
        have hp := hp.free1 0 0
        · exact ⟨0, 0, ([] : List Int), ([] : List Int), ⟨⟨⟨⟨(fun h => absurd h (by decide)), (fun h => absurd h (by decide))⟩, ⟨⟨⟨⟨⟨⟨s2_e130, s4_e130⟩, s5_e130⟩, ⟨s6_e130, s7_e130⟩⟩, ⟨⟨s8_e130, s9_e130⟩, ⟨s10_e130, s11_e130⟩⟩⟩, ⟨⟨⟨s12_e130, s16_e130⟩, ⟨s17_e130, s18_e130⟩⟩, ⟨⟨s19_e130, s20_e130⟩, ⟨rfl, rfl⟩⟩⟩⟩, (fun h => absurd h (by decide))⟩⟩, ⟨⟨(fun h => absurd h (by decide)), (fun h => absurd h (by decide))⟩, ⟨(fun h => absurd h (by decide)), (fun h => absurd h (by decide))⟩⟩⟩, ⟨⟨⟨(fun h => absurd h (by decide)), (fun _ => rfl)⟩, ⟨(fun _ h => absurd h (by decide)), (fun h => absurd h (by decide))⟩⟩, ⟨⟨(fun _ => rfl), (fun _ h => absurd h (by decide))⟩, (fun h => absurd h (by decide))⟩⟩⟩, hp⟩
        · rintro L e w hall ⟨g44, g45, c_g44_0, c_g45_1, hF, hp⟩
          have qc_g44_0 := hF.2.1.2.2 (hall 8 rfl)
          rw [qc_g44_0] at hp
          have qc_g45_1 := hF.2.2.2 (hall 9 rfl)
          rw [qc_g45_1] at hp
          exact onlyN_i ⟨g44, g45, ⟨⟨⟨⟨⟨(hF.1.1.1.1 (hall 2 rfl)), (hF.1.1.1.2 (hall 5 rfl))⟩, hF.1.1.2.1.1.1.1.1.1⟩, ⟨hF.1.1.2.1.1.1.1.1.2, hF.1.1.2.1.1.1.1.2⟩⟩, ⟨⟨hF.1.1.2.1.1.1.2.1, hF.1.1.2.1.1.1.2.2⟩, ⟨hF.1.1.2.1.1.2.1.1, hF.1.1.2.1.1.2.1.2⟩⟩⟩, ⟨⟨⟨hF.1.1.2.1.1.2.2.1, hF.1.1.2.1.1.2.2.2⟩, ⟨hF.1.1.2.1.2.1.1.1, hF.1.1.2.1.2.1.1.2⟩⟩, ⟨⟨hF.1.1.2.1.2.1.2.1, hF.1.1.2.1.2.1.2.2⟩, ⟨(hF.1.2.2.2 (hall 6 rfl)), (hF.2.1.1.1 (hall 7 rfl))⟩⟩⟩⟩, hp⟩
        refine allU_cons ?_ ?_
        · rintro L e w hLi hb hcl ⟨g44, g45, c_g44_0, c_g45_1, hF, hp⟩
          refine k_call [.agg (ints .u64 r37).toArray, .agg (ints .u64 r39).toArray] rfl (by kernel_rfl) (args2 hF.1.1.2.1.2.2.2.1 hF.1.1.2.1.2.2.2.2) (field_Element_Plus_ok k r37 r39 lr370 lr390 _ (hp.toR (fun _ h => by cases h)) qr42) ?_
          rintro _ w' ⟨_, rfl, rfl, lr420, hpc⟩
          refine ⟨_, rfl, .inr (.of_below hpc.chg.to_below), ?_⟩; have hp := hp.below hpc.chg.to_below; clear hpc
          exact k_done ⟨g44, g45, c_g44_0, c_g45_1, ⟨⟨⟨⟨(fun _ => lr420), hF.1.1.1.2⟩, ⟨hF.1.1.2.1, (fun _ => rfl)⟩⟩, hF.1.2⟩, hF.2⟩, hp⟩
        refine allU_cons ?_ ?_
        · rintro L e w hLi hb hcl ⟨g44, g45, c_g44_0, c_g45_1, hF, hp⟩
          refine tk_ef ?_
          refine k_loadA (n := 5) (xs := ints .u64 r37) 0 rfl (by kernel_rfl) (by kernel_rfl) hF.1.1.2.1.2.2.1.1 (hp.get (j := 14) rfl) rfl rfl ((ints_length _ _).trans lr370) (fun m v hm => by rw [Nat.zero_add]; exact hm) ?_
          exact k_done ⟨g44, g45, c_g44_0, c_g45_1, ⟨⟨hF.1.1, ⟨⟨(fun _ => rfl), hF.1.2.1.2⟩, hF.1.2.2⟩⟩, hF.2⟩, hp⟩
        refine allU_cons ?_ ?_
        · rintro L e w hLi hb hcl ⟨g44, g45, c_g44_0, c_g45_1, hF, hp⟩
          refine tk_ef ?_
          refine k_loadA (n := 5) (xs := ints .u64 r39) 0 rfl (by kernel_rfl) (by kernel_rfl) hF.1.1.2.1.2.2.1.2 (hp.get (j := 15) rfl) rfl rfl ((ints_length _ _).trans lr390) (fun m v hm => by rw [Nat.zero_add]; exact hm) ?_
          exact k_done ⟨g44, g45, c_g44_0, c_g45_1, ⟨⟨hF.1.1, ⟨⟨hF.1.2.1.1, (fun _ => rfl)⟩, hF.1.2.2⟩⟩, hF.2⟩, hp⟩
        refine allU_cons ?_ ?_
        · rintro L e w hLi hb hcl ⟨g44, g45, c_g44_0, c_g45_1, hF, hp⟩
          have hL3 := hb 3 (by kernel_rfl)
          have hL4 := hb 4 (by kernel_rfl)
          refine k_call [.agg (ints .u64 r37).toArray, .agg (ints .u64 r39).toArray] rfl (by kernel_rfl) (args2 (hF.1.2.1.1 hL3) (hF.1.2.1.2 hL4)) (field_Element_Minus_ok r37 r39 lr370 lr390 _ (hp.toR (fun _ h => by cases h)) qr43) ?_
          rintro _ w' ⟨_, rfl, rfl, lr430, hpc⟩
          refine ⟨_, rfl, .inr (.of_below hpc.chg.to_below), ?_⟩; have hp := hp.below hpc.chg.to_below; clear hpc
          exact k_done ⟨g44, g45, c_g44_0, c_g45_1, ⟨⟨⟨⟨hF.1.1.1.1, (fun _ => lr430)⟩, hF.1.1.2⟩, ⟨hF.1.2.1, ⟨(fun _ => rfl), hF.1.2.2.2⟩⟩⟩, hF.2⟩, hp⟩
        refine allU_cons ?_ ?_
        · rintro L e w hLi hb hcl ⟨g44, g45, c_g44_0, c_g45_1, hF, hp⟩
          have qc_g44_0 := hF.2.1.1.2 hLi
          rw [qc_g44_0] at hp
          refine k_allocAt 16 (ints .u64 (List.replicate 5 (0 : Int))) rfl (by kernel_rfl) hp ?_
          intro g44 w hbg44 hp
          exact k_done ⟨g44, g45, (List.replicate 5 (0 : Int)), c_g45_1, ⟨⟨hF.1.1, ⟨hF.1.2.1, ⟨hF.1.2.2.1, (fun _ => rfl)⟩⟩⟩, ⟨⟨⟨hF.2.1.1.1, (fun h => nomatch (show true = false from h))⟩, ⟨(fun _ _ => rfl), (fun h => absurd (hLi.symm.trans (hcl 8 6 (by kernel_rfl) h)) (by decide))⟩⟩, hF.2.2⟩⟩, hp⟩
        refine allU_cons ?_ ?_
        · rintro L e w hLi hb hcl ⟨g44, g45, c_g44_0, c_g45_1, hF, hp⟩
          have qc_g45_1 := hF.2.2.1.1 hLi
          rw [qc_g45_1] at hp
          refine k_allocAt 17 (ints .u64 (List.replicate 5 (0 : Int))) rfl (by kernel_rfl) hp ?_
          intro g45 w hbg45 hp
          exact k_done ⟨g44, g45, c_g44_0, (List.replicate 5 (0 : Int)), ⟨hF.1, ⟨⟨⟨(fun _ => rfl), hF.2.1.1.2⟩, hF.2.1.2⟩, ⟨⟨(fun h => nomatch (show true = false from h)), (fun _ _ => rfl)⟩, (fun h => absurd (hLi.symm.trans (hcl 9 7 (by kernel_rfl) h)) (by decide))⟩⟩⟩, hp⟩
        refine allU_cons ?_ ?_
        · rintro L e w hLi hb hcl ⟨g44, g45, c_g44_0, c_g45_1, hF, hp⟩
          have hL2 := hb 2 (by kernel_rfl)
          have hL6 := hb 6 (by kernel_rfl)
          have lr420 := hF.1.1.1.1 hL2
          have qc_g44_0 := hF.2.1.2.1 hLi hL6
          rw [qc_g44_0] at hp
          refine k_storeA (v := .agg (ints .u64 r42).toArray) 16 0 (r := ⟨g44, 0, ints .u64 (List.replicate 5 (0 : Int))⟩) (ints .u64 r42) (ints .u64 r42) rfl (n := 5) (by kernel_rfl) (hF.1.2.2.2 hL6) (hF.1.1.2.2 hL2) rfl ((ints_length _ _).trans lr420) (ints_one _ _) hp rfl rfl rfl (Nat.le_of_eq ((Nat.zero_add _).trans ((ints_length _ _).trans List.length_replicate).symm)) (setMany_all _ _ (((ints_length _ _).trans lr420).trans ((ints_length _ _).trans List.length_replicate).symm)) (by decide) ?_; intro w hp
          exact k_done ⟨g44, g45, r42, c_g45_1, ⟨hF.1, ⟨⟨⟨hF.2.1.1.1, (fun h => absurd (hL6.symm.trans h) (by decide))⟩, ⟨(fun h _ => nomatch (show true = false from h)), (fun _ => rfl)⟩⟩, hF.2.2⟩⟩, hp⟩
        refine allU_cons ?_ allU_nil
        · rintro L e w hLi hb hcl ⟨g44, g45, c_g44_0, c_g45_1, hF, hp⟩
          have hL5 := hb 5 (by kernel_rfl)
          have hL7 := hb 7 (by kernel_rfl)
          have lr430 := hF.1.1.1.2 hL5
          have qc_g45_1 := hF.2.2.1.2 hLi hL7
          rw [qc_g45_1] at hp
          refine k_storeA (v := .agg (ints .u64 r43).toArray) 17 0 (r := ⟨g45, 0, ints .u64 (List.replicate 5 (0 : Int))⟩) (ints .u64 r43) (ints .u64 r43) rfl (n := 5) (by kernel_rfl) (hF.2.1.1.1 hL7) (hF.1.2.2.1 hL5) rfl ((ints_length _ _).trans lr430) (ints_one _ _) hp rfl rfl rfl (Nat.le_of_eq ((Nat.zero_add _).trans ((ints_length _ _).trans List.length_replicate).symm)) (setMany_all _ _ (((ints_length _ _).trans lr430).trans ((ints_length _ _).trans List.length_replicate).symm)) (by decide) ?_; intro w hp
          exact k_done ⟨g44, g45, c_g44_0, r43, ⟨hF.1, ⟨hF.2.1, ⟨⟨(fun h => absurd (hL7.symm.trans h) (by decide)), (fun h _ => nomatch (show true = false from h))⟩, (fun _ => rfl)⟩⟩⟩, hp⟩
      rintro e131 w ⟨g44, g45, hF, hp⟩
      have lr420 := hF.1.1.1.1.1
      have lr430 := hF.1.1.1.1.2
      have s2_e131 := hF.1.1.1.2
      have s4_e131 := hF.1.1.2.1
      have s5_e131 := hF.1.1.2.2
      have s6_e131 := hF.1.2.1.1
      have s7_e131 := hF.1.2.1.2
      have s8_e131 := hF.1.2.2.1
      have s9_e131 := hF.1.2.2.2
      have s10_e131 := hF.2.1.1.1
      have s11_e131 := hF.2.1.1.2
      have s12_e131 := hF.2.1.2.1
      have s16_e131 := hF.2.1.2.2
      have s17_e131 := hF.2.2.1.1
      have s18_e131 := hF.2.2.1.2
      have s21_e131 := hF.2.2.2.1
      have s22_e131 := hF.2.2.2.2
      clear hF
      refine wseqP (p0 := [1, 1, 1, 1, 1, 1, 1, 0, 1, 0, 0, 1, 0, 0, 1, 1, 1, 1, 1, 1, 1, 1, 1, 0]) (p1 := [1, 1, 1, 1, 1, 1, 1, 0, 1, 0, 0, 1, 0, 0, 1, 1, 1, 1, 1, 1, 1, 1, 1, 1]) rfl rfl rfl ?_
      obtain ⟨r46, qr46, h⟩ := bd_e h
      obtain ⟨r47, qr47, h⟩ := bd_e h
      obtain ⟨r48, qr48, h⟩ := bd_e h
      refine wcut (fun e132 w2 => ((((r46.length = 5 ∧ r48.length = 5) ∧ (e132 2 = .pointer (some ⟨g1, 0, none⟩) ∧ e132 4 = .pointer (some ⟨g3, 0, none⟩))) ∧ ((e132 5 = .pointer (some ⟨g7, 0, none⟩) ∧ e132 6 = .pointer (some ⟨g8, 0, none⟩)) ∧ (e132 7 = .pointer (some ⟨g11, 0, none⟩) ∧ e132 8 = .pointer (some ⟨g12, 0, none⟩)))) ∧ (((e132 9 = .pointer (some ⟨g13, 0, none⟩) ∧ e132 10 = .pointer (some ⟨g14, 0, none⟩)) ∧ (e132 11 = .int .u64 x23 ∧ e132 12 = .int .i64 y20)) ∧ ((e132 16 = .pointer (some ⟨g32, 0, none⟩) ∧ e132 17 = .pointer (some ⟨g33, 0, none⟩)) ∧ e132 18 = .pointer (some ⟨g35, 0, none⟩)))) ∧ Hp w0 Ws w2 [⟨g12, 0, ints .u64 r25.1⟩, ⟨g14, 0, ints .u64 r48⟩, ⟨g11, 0, ints .u64 r24.1⟩, ⟨g13, 0, ints .u64 r46⟩, ⟨g1, 0, ints .u8 x4⟩, ⟨g2, 0, ints .u8 (a1.set 31 (bits .and .u8 (a1.getD 31 0) 127))⟩, ⟨g3, 0, ints .u8 (List.replicate 32 (0 : Int))⟩, ⟨g7, 0, ints .u64 r5⟩, ⟨g8, 0, ints .u64 r6⟩, ⟨g28, 0, ints .u64 r26⟩, ⟨g29, 0, ints .u64 r27⟩, ⟨g32, 0, ints .u64 r30⟩, ⟨g33, 0, ints .u64 r31⟩, ⟨g35, 0, ints .u64 r34⟩, ⟨g40, 0, ints .u64 r37⟩, ⟨g41, 0, ints .u64 r39⟩, ⟨g44, 0, ints .u64 r42⟩, ⟨g45, 0, ints .u64 r43⟩] []) ?_ ?_
      rotate_left
      · refine wregionM xdh_Mul.o19 (.tk 0 (.tk 1 (.rest 3 8))) [8, 9] [(0, 0, 0), (0, 0, 0), (3, 1023, 1023), (0, 1023, 1023), (0, 1023, 1023), (28, 1023, 1023), (0, 1023, 1023), (96, 1023, 1023), (167, 1023, 1023), (511, 1023, 1023)] rfl rfl (by kernel_rfl) (by kernel_rfl) (Nat.le_of_ble_eq_true (by kernel_rfl)) (by kernel_rfl) (by kernel_rfl) (by kernel_rfl) ?_
        have hp := hp.drew
        refine k_loadA (n := 5) (xs := ints .u64 r42) 0 rfl (by kernel_rfl) (by kernel_rfl) s21_e131 (hp.get (j := 16) rfl) rfl rfl ((ints_length _ _).trans lr420) (fun m v hm => by rw [Nat.zero_add]; exact hm) ?_
        refine k_loadA (n := 5) (xs := ints .u64 r42) 0 rfl (by kernel_rfl) (by kernel_rfl) s21_e131 (hp.get (j := 16) rfl) rfl rfl ((ints_length _ _).trans lr420) (fun m v hm => by rw [Nat.zero_add]; exact hm) ?_
        refine k_rest [2, 3, 4, 5, 6, 7, 8, 9] (fun L e w => ∃ c_g14_0 c_g13_1 : List Int, (((((L 2 = true → r46.length = 5) ∧ (L 5 = true → r47.length = 5)) ∧ ((L 7 = true → r48.length = 5) ∧ ((((e 2 = .pointer (some ⟨g1, 0, none⟩) ∧ e 4 = .pointer (some ⟨g3, 0, none⟩)) ∧ (e 5 = .pointer (some ⟨g7, 0, none⟩) ∧ e 6 = .pointer (some ⟨g8, 0, none⟩))) ∧ ((e 7 = .pointer (some ⟨g11, 0, none⟩) ∧ e 8 = .pointer (some ⟨g12, 0, none⟩)) ∧ (e 9 = .pointer (some ⟨g13, 0, none⟩) ∧ e 10 = .pointer (some ⟨g14, 0, none⟩)))) ∧ (((e 11 = .int .u64 x23 ∧ e 12 = .int .i64 y20) ∧ (e 16 = .pointer (some ⟨g32, 0, none⟩) ∧ e 17 = .pointer (some ⟨g33, 0, none⟩))) ∧ ((e 18 = .pointer (some ⟨g35, 0, none⟩) ∧ e 22 = .pointer (some ⟨g45, 0, none⟩)) ∧ (e 97 = .agg (ints .u64 r42).toArray ∧ e 98 = .agg (ints .u64 r42).toArray)))))) ∧ (((L 2 = true → e 99 = .agg (ints .u64 r46).toArray) ∧ (L 3 = true → e 100 = .agg (ints .u64 r43).toArray)) ∧ (L 4 = true → e 101 = .agg (ints .u64 r43).toArray))) ∧ ((((L 5 = true → e 102 = .agg (ints .u64 r47).toArray) ∧ (L 6 = true → e 103 = .agg (ints .u64 r5).toArray)) ∧ ((L 7 = true → e 104 = .agg (ints .u64 r48).toArray) ∧ (L 9 = false → c_g14_0 = r25.2))) ∧ (((L 9 = true → c_g14_0 = r48) ∧ (L 8 = false → c_g13_1 = r24.2)) ∧ (L 8 = true → c_g13_1 = r46)))) ∧ Hp w0 Ws w [⟨g12, 0, ints .u64 r25.1⟩, ⟨g14, 0, ints .u64 c_g14_0⟩, ⟨g11, 0, ints .u64 r24.1⟩, ⟨g13, 0, ints .u64 c_g13_1⟩, ⟨g1, 0, ints .u8 x4⟩, ⟨g2, 0, ints .u8 (a1.set 31 (bits .and .u8 (a1.getD 31 0) 127))⟩, ⟨g3, 0, ints .u8 (List.replicate 32 (0 : Int))⟩, ⟨g7, 0, ints .u64 r5⟩, ⟨g8, 0, ints .u64 r6⟩, ⟨g28, 0, ints .u64 r26⟩, ⟨g29, 0, ints .u64 r27⟩, ⟨g32, 0, ints .u64 r30⟩, ⟨g33, 0, ints .u64 r31⟩, ⟨g35, 0, ints .u64 r34⟩, ⟨g40, 0, ints .u64 r37⟩, ⟨g41, 0, ints .u64 r39⟩, ⟨g44, 0, ints .u64 r42⟩, ⟨g45, 0, ints .u64 r43⟩] []) (by kernel_rfl) (by kernel_rfl) ?_ ?_ ?_
        · exact ⟨r25.2, r24.2, ⟨⟨⟨⟨(fun h => absurd h (by decide)), (fun h => absurd h (by decide))⟩, ⟨(fun h => absurd h (by decide)), ⟨⟨⟨⟨s2_e131, s4_e131⟩, ⟨s5_e131, s6_e131⟩⟩, ⟨⟨s7_e131, s8_e131⟩, ⟨s9_e131, s10_e131⟩⟩⟩, ⟨⟨⟨s11_e131, s12_e131⟩, ⟨s16_e131, s17_e131⟩⟩, ⟨⟨s18_e131, s22_e131⟩, ⟨rfl, rfl⟩⟩⟩⟩⟩⟩, ⟨⟨(fun h => absurd h (by decide)), (fun h => absurd h (by decide))⟩, (fun h => absurd h (by decide))⟩⟩, ⟨⟨⟨(fun h => absurd h (by decide)), (fun h => absurd h (by decide))⟩, ⟨(fun h => absurd h (by decide)), (fun _ => rfl)⟩⟩, ⟨⟨(fun h => absurd h (by decide)), (fun _ => rfl)⟩, (fun h => absurd h (by decide))⟩⟩⟩, hp⟩
        · rintro L e w hall ⟨c_g14_0, c_g13_1, hF, hp⟩
          have qc_g14_0 := hF.2.2.1.1 (hall 9 rfl)
          rw [qc_g14_0] at hp
          have qc_g13_1 := hF.2.2.2 (hall 8 rfl)
          rw [qc_g13_1] at hp
          exact onlyN_i ⟨⟨⟨⟨⟨(hF.1.1.1.1 (hall 2 rfl)), (hF.1.1.2.1 (hall 7 rfl))⟩, ⟨hF.1.1.2.2.1.1.1.1, hF.1.1.2.2.1.1.1.2⟩⟩, ⟨⟨hF.1.1.2.2.1.1.2.1, hF.1.1.2.2.1.1.2.2⟩, ⟨hF.1.1.2.2.1.2.1.1, hF.1.1.2.2.1.2.1.2⟩⟩⟩, ⟨⟨⟨hF.1.1.2.2.1.2.2.1, hF.1.1.2.2.1.2.2.2⟩, ⟨hF.1.1.2.2.2.1.1.1, hF.1.1.2.2.2.1.1.2⟩⟩, ⟨⟨hF.1.1.2.2.2.1.2.1, hF.1.1.2.2.2.1.2.2⟩, hF.1.1.2.2.2.2.1.1⟩⟩⟩, hp⟩
        refine allU_cons ?_ ?_
        · rintro L e w hLi hb hcl ⟨c_g14_0, c_g13_1, hF, hp⟩
          refine k_call [.agg (ints .u64 r42).toArray, .agg (ints .u64 r42).toArray] rfl (by kernel_rfl) (args2 hF.1.1.2.2.2.2.2.1 hF.1.1.2.2.2.2.2.2) (field_Element_Times_ok r42 r42 lr420 lr420 _ (hp.toR (fun _ h => by cases h)) qr46) ?_
          rintro _ w' ⟨_, rfl, rfl, lr460, hpc⟩
          refine ⟨_, rfl, .inr (.of_below hpc.chg.to_below), ?_⟩; have hp := hp.below hpc.chg.to_below; clear hpc
          exact k_done ⟨c_g14_0, c_g13_1, ⟨⟨⟨⟨(fun _ => lr460), hF.1.1.1.2⟩, hF.1.1.2⟩, ⟨⟨(fun _ => rfl), hF.1.2.1.2⟩, hF.1.2.2⟩⟩, hF.2⟩, hp⟩
        refine allU_cons ?_ ?_
        · rintro L e w hLi hb hcl ⟨c_g14_0, c_g13_1, hF, hp⟩
          refine tk_ef ?_
          refine k_loadA (n := 5) (xs := ints .u64 r43) 0 rfl (by kernel_rfl) (by kernel_rfl) hF.1.1.2.2.2.2.1.2 (hp.get (j := 17) rfl) rfl rfl ((ints_length _ _).trans lr430) (fun m v hm => by rw [Nat.zero_add]; exact hm) ?_
          exact k_done ⟨c_g14_0, c_g13_1, ⟨⟨hF.1.1, ⟨⟨hF.1.2.1.1, (fun _ => rfl)⟩, hF.1.2.2⟩⟩, hF.2⟩, hp⟩
        refine allU_cons ?_ ?_
        · rintro L e w hLi hb hcl ⟨c_g14_0, c_g13_1, hF, hp⟩
          refine tk_ef ?_
          refine k_loadA (n := 5) (xs := ints .u64 r43) 0 rfl (by kernel_rfl) (by kernel_rfl) hF.1.1.2.2.2.2.1.2 (hp.get (j := 17) rfl) rfl rfl ((ints_length _ _).trans lr430) (fun m v hm => by rw [Nat.zero_add]; exact hm) ?_
          exact k_done ⟨c_g14_0, c_g13_1, ⟨⟨hF.1.1, ⟨hF.1.2.1, (fun _ => rfl)⟩⟩, hF.2⟩, hp⟩
        refine allU_cons ?_ ?_
        · rintro L e w hLi hb hcl ⟨c_g14_0, c_g13_1, hF, hp⟩
          have hL3 := hb 3 (by kernel_rfl)
          have hL4 := hb 4 (by kernel_rfl)
          refine k_call [.agg (ints .u64 r43).toArray, .agg (ints .u64 r43).toArray] rfl (by kernel_rfl) (args2 (hF.1.2.1.2 hL3) (hF.1.2.2 hL4)) (field_Element_Times_ok r43 r43 lr430 lr430 _ (hp.toR (fun _ h => by cases h)) qr47) ?_
          rintro _ w' ⟨_, rfl, rfl, lr470, hpc⟩
          refine ⟨_, rfl, .inr (.of_below hpc.chg.to_below), ?_⟩; have hp := hp.below hpc.chg.to_below; clear hpc
          exact k_done ⟨c_g14_0, c_g13_1, ⟨⟨⟨⟨hF.1.1.1.1, (fun _ => lr470)⟩, hF.1.1.2⟩, hF.1.2⟩, ⟨⟨⟨(fun _ => rfl), hF.2.1.1.2⟩, hF.2.1.2⟩, hF.2.2⟩⟩, hp⟩
        refine allU_cons ?_ ?_
        · rintro L e w hLi hb hcl ⟨c_g14_0, c_g13_1, hF, hp⟩
          refine tk_ef ?_
          refine k_loadA (n := 5) (xs := ints .u64 r5) 0 rfl (by kernel_rfl) (by kernel_rfl) hF.1.1.2.2.1.1.2.1 (hp.get (j := 7) rfl) rfl rfl ((ints_length _ _).trans lr50) (fun m v hm => by rw [Nat.zero_add]; exact hm) ?_
          exact k_done ⟨c_g14_0, c_g13_1, ⟨hF.1, ⟨⟨⟨hF.2.1.1.1, (fun _ => rfl)⟩, hF.2.1.2⟩, hF.2.2⟩⟩, hp⟩
        refine allU_cons ?_ ?_
        · rintro L e w hLi hb hcl ⟨c_g14_0, c_g13_1, hF, hp⟩
          have hL5 := hb 5 (by kernel_rfl)
          have hL6 := hb 6 (by kernel_rfl)
          have lr470 := hF.1.1.1.2 hL5
          refine k_call [.agg (ints .u64 r47).toArray, .agg (ints .u64 r5).toArray] rfl (by kernel_rfl) (args2 (hF.2.1.1.1 hL5) (hF.2.1.1.2 hL6)) (field_Element_Times_ok r47 r5 lr470 lr50 _ (hp.toR (fun _ h => by cases h)) qr48) ?_
          rintro _ w' ⟨_, rfl, rfl, lr480, hpc⟩
          refine ⟨_, rfl, .inr (.of_below hpc.chg.to_below), ?_⟩; have hp := hp.below hpc.chg.to_below; clear hpc
          exact k_done ⟨c_g14_0, c_g13_1, ⟨⟨⟨hF.1.1.1, ⟨(fun _ => lr480), hF.1.1.2.2⟩⟩, hF.1.2⟩, ⟨⟨hF.2.1.1, ⟨(fun _ => rfl), hF.2.1.2.2⟩⟩, hF.2.2⟩⟩, hp⟩
        refine allU_cons ?_ ?_
        · rintro L e w hLi hb hcl ⟨c_g14_0, c_g13_1, hF, hp⟩
          have hL2 := hb 2 (by kernel_rfl)
          have lr460 := hF.1.1.1.1 hL2
          have qc_g13_1 := hF.2.2.1.2 hLi
          rw [qc_g13_1] at hp
          refine k_storeA (v := .agg (ints .u64 r46).toArray) 3 0 (r := ⟨g13, 0, ints .u64 r24.2⟩) (ints .u64 r46) (ints .u64 r46) rfl (n := 5) (by kernel_rfl) hF.1.1.2.2.1.2.2.1 (hF.1.2.1.1 hL2) rfl ((ints_length _ _).trans lr460) (ints_one _ _) hp rfl rfl rfl (Nat.le_of_eq ((Nat.zero_add _).trans ((ints_length _ _).trans lr241).symm)) (setMany_all _ _ (((ints_length _ _).trans lr460).trans ((ints_length _ _).trans lr241).symm)) (by decide) ?_; intro w hp
          exact k_done ⟨c_g14_0, r46, ⟨hF.1, ⟨hF.2.1, ⟨⟨hF.2.2.1.1, (fun h => nomatch (show true = false from h))⟩, (fun _ => rfl)⟩⟩⟩, hp⟩
        refine allU_cons ?_ allU_nil
        · rintro L e w hLi hb hcl ⟨c_g14_0, c_g13_1, hF, hp⟩
          have hL7 := hb 7 (by kernel_rfl)
          have lr480 := hF.1.1.2.1 hL7
          have qc_g14_0 := hF.2.1.2.2 hLi
          rw [qc_g14_0] at hp
          refine k_storeA (v := .agg (ints .u64 r48).toArray) 1 0 (r := ⟨g14, 0, ints .u64 r25.2⟩) (ints .u64 r48) (ints .u64 r48) rfl (n := 5) (by kernel_rfl) hF.1.1.2.2.1.2.2.2 (hF.2.1.2.1 hL7) rfl ((ints_length _ _).trans lr480) (ints_one _ _) hp rfl rfl rfl (Nat.le_of_eq ((Nat.zero_add _).trans ((ints_length _ _).trans lr251).symm)) (setMany_all _ _ (((ints_length _ _).trans lr480).trans ((ints_length _ _).trans lr251).symm)) (by decide) ?_; intro w hp
          exact k_done ⟨r48, c_g13_1, ⟨hF.1, ⟨⟨hF.2.1.1, ⟨hF.2.1.2.1, (fun h => nomatch (show true = false from h))⟩⟩, ⟨⟨(fun _ => rfl), hF.2.2.1.2⟩, hF.2.2.2⟩⟩⟩, hp⟩
      rintro e132 w ⟨hF, hp⟩
      have lr460 := hF.1.1.1.1
      have lr480 := hF.1.1.1.2
      have s2_e132 := hF.1.1.2.1
      have s4_e132 := hF.1.1.2.2
      have s5_e132 := hF.1.2.1.1
      have s6_e132 := hF.1.2.1.2
      have s7_e132 := hF.1.2.2.1
      have s8_e132 := hF.1.2.2.2
      have s9_e132 := hF.2.1.1.1
      have s10_e132 := hF.2.1.1.2
      have s11_e132 := hF.2.1.2.1
      have s12_e132 := hF.2.1.2.2
      have s16_e132 := hF.2.2.1.1
      have s17_e132 := hF.2.2.1.2
      have s18_e132 := hF.2.2.2
      clear hF
      obtain ⟨r49, qr49, h⟩ := bd_e h
      obtain ⟨r50, qr50, h⟩ := bd_e h
      obtain ⟨r51, qr51, h⟩ := bd_e h
      obtain ⟨r52, qr52, h⟩ := bd_e h
      refine wcut (fun e133 w2 => ((((r49.length = 5 ∧ r52.length = 5) ∧ e133 2 = .pointer (some ⟨g1, 0, none⟩)) ∧ ((e133 4 = .pointer (some ⟨g3, 0, none⟩) ∧ e133 5 = .pointer (some ⟨g7, 0, none⟩)) ∧ e133 6 = .pointer (some ⟨g8, 0, none⟩))) ∧ (((e133 7 = .pointer (some ⟨g11, 0, none⟩) ∧ e133 8 = .pointer (some ⟨g12, 0, none⟩)) ∧ e133 9 = .pointer (some ⟨g13, 0, none⟩)) ∧ ((e133 10 = .pointer (some ⟨g14, 0, none⟩) ∧ e133 11 = .int .u64 x23) ∧ e133 12 = .int .i64 y20))) ∧ Hp w0 Ws w2 [⟨g12, 0, ints .u64 r52⟩, ⟨g14, 0, ints .u64 r48⟩, ⟨g11, 0, ints .u64 r49⟩, ⟨g13, 0, ints .u64 r46⟩, ⟨g1, 0, ints .u8 x4⟩, ⟨g2, 0, ints .u8 (a1.set 31 (bits .and .u8 (a1.getD 31 0) 127))⟩, ⟨g3, 0, ints .u8 (List.replicate 32 (0 : Int))⟩, ⟨g7, 0, ints .u64 r5⟩, ⟨g8, 0, ints .u64 r6⟩, ⟨g28, 0, ints .u64 r26⟩, ⟨g29, 0, ints .u64 r27⟩, ⟨g32, 0, ints .u64 r30⟩, ⟨g33, 0, ints .u64 r31⟩, ⟨g35, 0, ints .u64 r34⟩, ⟨g40, 0, ints .u64 r37⟩, ⟨g41, 0, ints .u64 r39⟩, ⟨g44, 0, ints .u64 r42⟩, ⟨g45, 0, ints .u64 r43⟩] []) ?_ ?_
      rotate_left
      · refine wregionM xdh_Mul.o20 (.tk 0 (.tk 1 (.rest 3 10))) [10, 11] [(0, 0, 0), (0, 0, 0), (3, 4095, 4095), (0, 4095, 4095), (0, 4095, 4095), (0, 4095, 4095), (0, 4095, 4095), (100, 4095, 4095), (144, 4095, 4095), (264, 4095, 4095), (903, 4095, 4095), (2047, 4095, 4095)] rfl rfl (by kernel_rfl) (by kernel_rfl) (Nat.le_of_ble_eq_true (by kernel_rfl)) (by kernel_rfl) (by kernel_rfl) (by kernel_rfl) ?_
        have hp := hp.drew
        refine k_loadA (n := 5) (xs := ints .u64 r30) 0 rfl (by kernel_rfl) (by kernel_rfl) s16_e132 (hp.get (j := 11) rfl) rfl rfl ((ints_length _ _).trans lr300) (fun m v hm => by rw [Nat.zero_add]; exact hm) ?_
        refine k_loadA (n := 5) (xs := ints .u64 r31) 0 rfl (by kernel_rfl) (by kernel_rfl) s17_e132 (hp.get (j := 12) rfl) rfl rfl ((ints_length _ _).trans lr310) (fun m v hm => by rw [Nat.zero_add]; exact hm) ?_
        refine k_rest [2, 3, 4, 5, 6, 7, 8, 9, 10, 11] (fun L e w => ∃ c_g12_0 c_g11_1 : List Int, ((((((L 2 = true → r49.length = 5) ∧ (L 7 = true → r50.length = 5)) ∧ (L 8 = true → r51.length = 5)) ∧ ((L 9 = true → r52.length = 5) ∧ ((((e 2 = .pointer (some ⟨g1, 0, none⟩) ∧ e 4 = .pointer (some ⟨g3, 0, none⟩)) ∧ (e 5 = .pointer (some ⟨g7, 0, none⟩) ∧ e 6 = .pointer (some ⟨g8, 0, none⟩))) ∧ ((e 7 = .pointer (some ⟨g11, 0, none⟩) ∧ e 8 = .pointer (some ⟨g12, 0, none⟩)) ∧ e 9 = .pointer (some ⟨g13, 0, none⟩))) ∧ (((e 10 = .pointer (some ⟨g14, 0, none⟩) ∧ e 11 = .int .u64 x23) ∧ (e 12 = .int .i64 y20 ∧ e 16 = .pointer (some ⟨g32, 0, none⟩))) ∧ ((e 18 = .pointer (some ⟨g35, 0, none⟩) ∧ e 105 = .agg (ints .u64 r30).toArray) ∧ e 106 = .agg (ints .u64 r31).toArray))))) ∧ (((L 2 = true → e 107 = .agg (ints .u64 r49).toArray) ∧ (L 3 = true → e 108 = .agg (ints .u64 r34).toArray)) ∧ ((L 4 = true → e 109 = .agg (ints .u64 r30).toArray) ∧ (L 5 = true → e 110 = .agg (ints .u64 r6).toArray)))) ∧ ((((L 6 = true → e 111 = .agg (ints .u64 r34).toArray) ∧ (L 7 = true → e 112 = .agg (ints .u64 r50).toArray)) ∧ ((L 8 = true → e 113 = .agg (ints .u64 r51).toArray) ∧ (L 9 = true → e 114 = .agg (ints .u64 r52).toArray))) ∧ (((L 11 = false → c_g12_0 = r25.1) ∧ (L 11 = true → c_g12_0 = r52)) ∧ ((L 10 = false → c_g11_1 = r24.1) ∧ (L 10 = true → c_g11_1 = r49))))) ∧ Hp w0 Ws w [⟨g12, 0, ints .u64 c_g12_0⟩, ⟨g14, 0, ints .u64 r48⟩, ⟨g11, 0, ints .u64 c_g11_1⟩, ⟨g13, 0, ints .u64 r46⟩, ⟨g1, 0, ints .u8 x4⟩, ⟨g2, 0, ints .u8 (a1.set 31 (bits .and .u8 (a1.getD 31 0) 127))⟩, ⟨g3, 0, ints .u8 (List.replicate 32 (0 : Int))⟩, ⟨g7, 0, ints .u64 r5⟩, ⟨g8, 0, ints .u64 r6⟩, ⟨g28, 0, ints .u64 r26⟩, ⟨g29, 0, ints .u64 r27⟩, ⟨g32, 0, ints .u64 r30⟩, ⟨g33, 0, ints .u64 r31⟩, ⟨g35, 0, ints .u64 r34⟩, ⟨g40, 0, ints .u64 r37⟩, ⟨g41, 0, ints .u64 r39⟩, ⟨g44, 0, ints .u64 r42⟩, ⟨g45, 0, ints .u64 r43⟩] []) (by kernel_rfl) (by kernel_rfl) ?_ ?_ ?_
        · exact ⟨r25.1, r24.1, ⟨⟨⟨⟨⟨(fun h => absurd h (by decide)), (fun h => absurd h (by decide))⟩, (fun h => absurd h (by decide))⟩, ⟨(fun h => absurd h (by decide)), ⟨⟨⟨⟨s2_e132, s4_e132⟩, ⟨s5_e132, s6_e132⟩⟩, ⟨⟨s7_e132, s8_e132⟩, s9_e132⟩⟩, ⟨⟨⟨s10_e132, s11_e132⟩, ⟨s12_e132, s16_e132⟩⟩, ⟨⟨s18_e132, rfl⟩, rfl⟩⟩⟩⟩⟩, ⟨⟨(fun h => absurd h (by decide)), (fun h => absurd h (by decide))⟩, ⟨(fun h => absurd h (by decide)), (fun h => absurd h (by decide))⟩⟩⟩, ⟨⟨⟨(fun h => absurd h (by decide)), (fun h => absurd h (by decide))⟩, ⟨(fun h => absurd h (by decide)), (fun h => absurd h (by decide))⟩⟩, ⟨⟨(fun _ => rfl), (fun h => absurd h (by decide))⟩, ⟨(fun _ => rfl), (fun h => absurd h (by decide))⟩⟩⟩⟩, hp⟩
        · rintro L e w hall ⟨c_g12_0, c_g11_1, hF, hp⟩
          have qc_g12_0 := hF.2.2.1.2 (hall 11 rfl)
          rw [qc_g12_0] at hp
          have qc_g11_1 := hF.2.2.2.2 (hall 10 rfl)
          rw [qc_g11_1] at hp
          exact onlyN_i ⟨⟨⟨⟨⟨(hF.1.1.1.1.1 (hall 2 rfl)), (hF.1.1.2.1 (hall 9 rfl))⟩, hF.1.1.2.2.1.1.1.1⟩, ⟨⟨hF.1.1.2.2.1.1.1.2, hF.1.1.2.2.1.1.2.1⟩, hF.1.1.2.2.1.1.2.2⟩⟩, ⟨⟨⟨hF.1.1.2.2.1.2.1.1, hF.1.1.2.2.1.2.1.2⟩, hF.1.1.2.2.1.2.2⟩, ⟨⟨hF.1.1.2.2.2.1.1.1, hF.1.1.2.2.2.1.1.2⟩, hF.1.1.2.2.2.1.2.1⟩⟩⟩, hp⟩
        refine allU_cons ?_ ?_
        · rintro L e w hLi hb hcl ⟨c_g12_0, c_g11_1, hF, hp⟩
          refine k_call [.agg (ints .u64 r30).toArray, .agg (ints .u64 r31).toArray] rfl (by kernel_rfl) (args2 hF.1.1.2.2.2.2.1.2 hF.1.1.2.2.2.2.2) (field_Element_Times_ok r30 r31 lr300 lr310 _ (hp.toR (fun _ h => by cases h)) qr49) ?_
          rintro _ w' ⟨_, rfl, rfl, lr490, hpc⟩
          refine ⟨_, rfl, .inr (.of_below hpc.chg.to_below), ?_⟩; have hp := hp.below hpc.chg.to_below; clear hpc
          exact k_done ⟨c_g12_0, c_g11_1, ⟨⟨⟨⟨⟨(fun _ => lr490), hF.1.1.1.1.2⟩, hF.1.1.1.2⟩, hF.1.1.2⟩, ⟨⟨(fun _ => rfl), hF.1.2.1.2⟩, hF.1.2.2⟩⟩, hF.2⟩, hp⟩
        refine allU_cons ?_ ?_
        · rintro L e w hLi hb hcl ⟨c_g12_0, c_g11_1, hF, hp⟩
          refine tk_ef ?_
          refine k_loadA (n := 5) (xs := ints .u64 r34) 0 rfl (by kernel_rfl) (by kernel_rfl) hF.1.1.2.2.2.2.1.1 (hp.get (j := 13) rfl) rfl rfl ((ints_length _ _).trans lr340) (fun m v hm => by rw [Nat.zero_add]; exact hm) ?_
          exact k_done ⟨c_g12_0, c_g11_1, ⟨⟨hF.1.1, ⟨⟨hF.1.2.1.1, (fun _ => rfl)⟩, hF.1.2.2⟩⟩, hF.2⟩, hp⟩
        refine allU_cons ?_ ?_
        · rintro L e w hLi hb hcl ⟨c_g12_0, c_g11_1, hF, hp⟩
          refine tk_ef ?_
          refine k_loadA (n := 5) (xs := ints .u64 r30) 0 rfl (by kernel_rfl) (by kernel_rfl) hF.1.1.2.2.2.1.2.2 (hp.get (j := 11) rfl) rfl rfl ((ints_length _ _).trans lr300) (fun m v hm => by rw [Nat.zero_add]; exact hm) ?_
          exact k_done ⟨c_g12_0, c_g11_1, ⟨⟨hF.1.1, ⟨hF.1.2.1, ⟨(fun _ => rfl), hF.1.2.2.2⟩⟩⟩, hF.2⟩, hp⟩
        refine allU_cons ?_ ?_
        · rintro L e w hLi hb hcl ⟨c_g12_0, c_g11_1, hF, hp⟩
          refine tk_ef ?_
          refine k_loadA (n := 5) (xs := ints .u64 r6) 0 rfl (by kernel_rfl) (by kernel_rfl) hF.1.1.2.2.1.1.2.2 (hp.get (j := 8) rfl) rfl rfl ((ints_length _ _).trans lr60) (fun m v hm => by rw [Nat.zero_add]; exact hm) ?_
          exact k_done ⟨c_g12_0, c_g11_1, ⟨⟨hF.1.1, ⟨hF.1.2.1, ⟨hF.1.2.2.1, (fun _ => rfl)⟩⟩⟩, hF.2⟩, hp⟩
        refine allU_cons ?_ ?_
        · rintro L e w hLi hb hcl ⟨c_g12_0, c_g11_1, hF, hp⟩
          refine tk_ef ?_
          refine k_loadA (n := 5) (xs := ints .u64 r34) 0 rfl (by kernel_rfl) (by kernel_rfl) hF.1.1.2.2.2.2.1.1 (hp.get (j := 13) rfl) rfl rfl ((ints_length _ _).trans lr340) (fun m v hm => by rw [Nat.zero_add]; exact hm) ?_
          exact k_done ⟨c_g12_0, c_g11_1, ⟨hF.1, ⟨⟨⟨(fun _ => rfl), hF.2.1.1.2⟩, hF.2.1.2⟩, hF.2.2⟩⟩, hp⟩
        refine allU_cons ?_ ?_
        · rintro L e w hLi hb hcl ⟨c_g12_0, c_g11_1, hF, hp⟩
          have hL5 := hb 5 (by kernel_rfl)
          have hL6 := hb 6 (by kernel_rfl)
          refine k_call [.agg (ints .u64 r6).toArray, .agg (ints .u64 r34).toArray] rfl (by kernel_rfl) (args2 (hF.1.2.2.2 hL5) (hF.2.1.1.1 hL6)) (field_Element_Times_ok r6 r34 lr60 lr340 _ (hp.toR (fun _ h => by cases h)) qr50) ?_
          rintro _ w' ⟨_, rfl, rfl, lr500, hpc⟩
          refine ⟨_, rfl, .inr (.of_below hpc.chg.to_below), ?_⟩; have hp := hp.below hpc.chg.to_below; clear hpc
          exact k_done ⟨c_g12_0, c_g11_1, ⟨⟨⟨⟨⟨hF.1.1.1.1.1, (fun _ => lr500)⟩, hF.1.1.1.2⟩, hF.1.1.2⟩, hF.1.2⟩, ⟨⟨⟨hF.2.1.1.1, (fun _ => rfl)⟩, hF.2.1.2⟩, hF.2.2⟩⟩, hp⟩
        refine allU_cons ?_ ?_
        · rintro L e w hLi hb hcl ⟨c_g12_0, c_g11_1, hF, hp⟩
          have hL4 := hb 4 (by kernel_rfl)
          have hL7 := hb 7 (by kernel_rfl)
          have lr500 := hF.1.1.1.1.2 hL7
          refine k_call [.agg (ints .u64 r30).toArray, .agg (ints .u64 r50).toArray] rfl (by kernel_rfl) (args2 (hF.1.2.2.1 hL4) (hF.2.1.1.2 hL7)) (field_Element_Plus_ok k r30 r50 lr300 lr500 _ (hp.toR (fun _ h => by cases h)) qr51) ?_
          rintro _ w' ⟨_, rfl, rfl, lr510, hpc⟩
          refine ⟨_, rfl, .inr (.of_below hpc.chg.to_below), ?_⟩; have hp := hp.below hpc.chg.to_below; clear hpc
          exact k_done ⟨c_g12_0, c_g11_1, ⟨⟨⟨⟨hF.1.1.1.1, (fun _ => lr510)⟩, hF.1.1.2⟩, hF.1.2⟩, ⟨⟨hF.2.1.1, ⟨(fun _ => rfl), hF.2.1.2.2⟩⟩, hF.2.2⟩⟩, hp⟩
        refine allU_cons ?_ ?_
        · rintro L e w hLi hb hcl ⟨c_g12_0, c_g11_1, hF, hp⟩
          have hL3 := hb 3 (by kernel_rfl)
          have hL8 := hb 8 (by kernel_rfl)
          have lr510 := hF.1.1.1.2 hL8
          refine k_call [.agg (ints .u64 r34).toArray, .agg (ints .u64 r51).toArray] rfl (by kernel_rfl) (args2 (hF.1.2.1.2 hL3) (hF.2.1.2.1 hL8)) (field_Element_Times_ok r34 r51 lr340 lr510 _ (hp.toR (fun _ h => by cases h)) qr52) ?_
          rintro _ w' ⟨_, rfl, rfl, lr520, hpc⟩
          refine ⟨_, rfl, .inr (.of_below hpc.chg.to_below), ?_⟩; have hp := hp.below hpc.chg.to_below; clear hpc
          exact k_done ⟨c_g12_0, c_g11_1, ⟨⟨⟨hF.1.1.1, ⟨(fun _ => lr520), hF.1.1.2.2⟩⟩, hF.1.2⟩, ⟨⟨hF.2.1.1, ⟨hF.2.1.2.1, (fun _ => rfl)⟩⟩, hF.2.2⟩⟩, hp⟩
        refine allU_cons ?_ ?_
        · rintro L e w hLi hb hcl ⟨c_g12_0, c_g11_1, hF, hp⟩
          have hL2 := hb 2 (by kernel_rfl)
          have lr490 := hF.1.1.1.1.1 hL2
          have qc_g11_1 := hF.2.2.2.1 hLi
          rw [qc_g11_1] at hp
          refine k_storeA (v := .agg (ints .u64 r49).toArray) 2 0 (r := ⟨g11, 0, ints .u64 r24.1⟩) (ints .u64 r49) (ints .u64 r49) rfl (n := 5) (by kernel_rfl) hF.1.1.2.2.1.2.1.1 (hF.1.2.1.1 hL2) rfl ((ints_length _ _).trans lr490) (ints_one _ _) hp rfl rfl rfl (Nat.le_of_eq ((Nat.zero_add _).trans ((ints_length _ _).trans lr240).symm)) (setMany_all _ _ (((ints_length _ _).trans lr490).trans ((ints_length _ _).trans lr240).symm)) (by decide) ?_; intro w hp
          exact k_done ⟨c_g12_0, r49, ⟨hF.1, ⟨hF.2.1, ⟨hF.2.2.1, ⟨(fun h => nomatch (show true = false from h)), (fun _ => rfl)⟩⟩⟩⟩, hp⟩
        refine allU_cons ?_ allU_nil
        · rintro L e w hLi hb hcl ⟨c_g12_0, c_g11_1, hF, hp⟩
          have hL9 := hb 9 (by kernel_rfl)
          have lr520 := hF.1.1.2.1 hL9
          have qc_g12_0 := hF.2.2.1.1 hLi
          rw [qc_g12_0] at hp
          refine k_storeA (v := .agg (ints .u64 r52).toArray) 0 0 (r := ⟨g12, 0, ints .u64 r25.1⟩) (ints .u64 r52) (ints .u64 r52) rfl (n := 5) (by kernel_rfl) hF.1.1.2.2.1.2.1.2 (hF.2.1.2.2 hL9) rfl ((ints_length _ _).trans lr520) (ints_one _ _) hp rfl rfl rfl (Nat.le_of_eq ((Nat.zero_add _).trans ((ints_length _ _).trans lr250).symm)) (setMany_all _ _ (((ints_length _ _).trans lr520).trans ((ints_length _ _).trans lr250).symm)) (by decide) ?_; intro w hp
          exact k_done ⟨r52, c_g11_1, ⟨hF.1, ⟨hF.2.1, ⟨⟨(fun h => nomatch (show true = false from h)), (fun _ => rfl)⟩, hF.2.2.2⟩⟩⟩, hp⟩
      rintro e133 w ⟨hF, hp⟩
      have lr490 := hF.1.1.1.1
      have lr520 := hF.1.1.1.2
      have s2_e133 := hF.1.1.2
      have s4_e133 := hF.1.2.1.1
      have s5_e133 := hF.1.2.1.2
      have s6_e133 := hF.1.2.2
      have s7_e133 := hF.2.1.1.1
      have s8_e133 := hF.2.1.1.2
      have s9_e133 := hF.2.1.2
      have s10_e133 := hF.2.2.1.1
      have s11_e133 := hF.2.2.1.2
      have s12_e133 := hF.2.2.2
      clear hF
      refine wregionT xdh_Mul.o21 (.tp 0 (.tp 1 (.tp 2 (.done)))) [] rfl rfl (by kernel_rfl) (by kernel_rfl) ?_
      refine k_move (v := .int .i64 y20) rfl s12_e133 ?_
      refine k_bin (X := .int .i64 y20) (Y := .int .i64 1) rfl rfl rfl rfl ?_
      refine k_assign (v := .int .i64 (IntKind.i64.wrap (y20 - 1))) rfl rfl ?_
      refine k_end ?_; intro e134 qe134
      have s2_e134 : e134 2 = .pointer (some ⟨g1, 0, none⟩) := (congrFun qe134 2).trans s2_e133
      have s4_e134 : e134 4 = .pointer (some ⟨g3, 0, none⟩) := (congrFun qe134 4).trans s4_e133
      have s5_e134 : e134 5 = .pointer (some ⟨g7, 0, none⟩) := (congrFun qe134 5).trans s5_e133
      have s6_e134 : e134 6 = .pointer (some ⟨g8, 0, none⟩) := (congrFun qe134 6).trans s6_e133
      have s7_e134 : e134 7 = .pointer (some ⟨g11, 0, none⟩) := (congrFun qe134 7).trans s7_e133
      have s8_e134 : e134 8 = .pointer (some ⟨g12, 0, none⟩) := (congrFun qe134 8).trans s8_e133
      have s9_e134 : e134 9 = .pointer (some ⟨g13, 0, none⟩) := (congrFun qe134 9).trans s9_e133
      have s10_e134 : e134 10 = .pointer (some ⟨g14, 0, none⟩) := (congrFun qe134 10).trans s10_e133
      have s11_e134 : e134 11 = .int .u64 x23 := (congrFun qe134 11).trans s11_e133
      obtain ⟨x53, qx53, h⟩ := lt_e h
      have s12_e134 : e134 12 = .int .i64 x53 := (congrFun qe134 12).trans (congrArg (Value.int .i64) qx53.symm)
      clear qe134
      have hp := hp.swap 3
      have hp := hp.swap 2
      have hp := hp.swap 1
      have hp := hp.swap 0
      have hp := hp.swap 4
      have hp := hp.swap 3
      have hp := hp.swap 2
      have hp := hp.swap 1
      have hp := hp.swap 5
      have hp := hp.swap 4
      have hp := hp.swap 3
      have hp := hp.swap 2
      have hp := hp.swap 6
      have hp := hp.swap 5
      have hp := hp.swap 4
      have hp := hp.swap 3
      have hp := hp.swap 7
      have hp := hp.swap 6
      have hp := hp.swap 5
      have hp := hp.swap 4
      have hp := hp.swap 6
      have hp := hp.swap 5
      have hp := hp.swap 7
      exact ih r49 r52 r46 r48 x23 x53 _ _ lr490 lr520 lr460 lr480 s2_e134 s4_e134 s5_e134 s6_e134 s7_e134 s8_e134 s9_e134 s10_e134 s11_e134 s12_e134 (hp.drop (L' := [⟨g1, 0, ints .u8 x4⟩, ⟨g2, 0, ints .u8 (a1.set 31 (bits .and .u8 (a1.getD 31 0) 127))⟩, ⟨g3, 0, ints .u8 (List.replicate 32 (0 : Int))⟩, ⟨g7, 0, ints .u64 r5⟩, ⟨g8, 0, ints .u64 r6⟩, ⟨g11, 0, ints .u64 r49⟩, ⟨g12, 0, ints .u64 r52⟩, ⟨g13, 0, ints .u64 r46⟩, ⟨g14, 0, ints .u64 r48⟩]) (sub_pre 9 rfl)) h
    · replace h := br_f hb h
      refine wexit rfl ?_
      exact hQ0 _ _ y19 y15 y16 y17 y18 ly15 ly16 ly17 ly18 s4_e122 s7_e122 s8_e122 s9_e122 s10_e122 s11_e122 (hp.drop (L' := [⟨g1, 0, ints .u8 x4⟩, ⟨g2, 0, ints .u8 (a1.set 31 (bits .and .u8 (a1.getD 31 0) 127))⟩, ⟨g3, 0, ints .u8 (List.replicate 32 (0 : Int))⟩, ⟨g7, 0, ints .u64 r5⟩, ⟨g8, 0, ints .u64 r6⟩, ⟨g11, 0, ints .u64 y15⟩, ⟨g12, 0, ints .u64 y16⟩, ⟨g13, 0, ints .u64 y17⟩, ⟨g14, 0, ints .u64 y18⟩]) (List.Sublist.refl _)) (Option.some.inj h).symm
set_option maxHeartbeats 4000000 in
theorem xdh_Mul_ok (k : Nat) (a0 : List Int) (a1 : List Int) (la0 : a0.length = 32) (la1 : a1.length = 32) (w0 : World) (hp : Hp w0 [] w0 [] []) {r : List Int} (h : xdh_Mul.f k a0 a1 = some r) :
    Calls Try.prog 9 [.agg (ints .u8 a0).toArray, .agg (ints .u8 a1).toArray].toArray w0 fun x w' => ∃ v, x = .returned v ∧ v = .agg (ints .u8 r).toArray ∧ r.length = 32 ∧ Hp w0 [] w' [] [] := by
  refine calls_inP Try.func9 rfl (Nat.le_of_ble_eq_true (by kernel_rfl)) (by kernel_rfl) ?_
  intro e0 qe0
  have s0_e0 : e0 0 = .agg (ints .u8 a0).toArray := congrFun qe0 0
  have s1_e0 : e0 1 = .agg (ints .u8 a1).toArray := congrFun qe0 1
  clear qe0
  unfold xdh_Mul.f at h
  refine wseqP (p0 := [0]) (p1 := [1]) rfl rfl rfl ?_
  refine wregionT xdh_Mul.o1 (.ef 0 (.ef 1 (.ef 2 (.done)))) [] rfl rfl (by kernel_rfl) (by kernel_rfl) ?_
  refine k_box (v := .agg (ints .u8 a0).toArray) (ints .u8 a0) rfl s0_e0 rfl hp ?_
  intro g1 w hbg1 hp
  refine k_box (v := .agg (ints .u8 a1).toArray) (ints .u8 a1) rfl s1_e0 rfl hp ?_
  intro g2 w hbg2 hp
  refine k_alloc (ints .u8 (List.replicate 32 (0 : Int))) rfl (by kernel_rfl) hp ?_
  intro g3 w hbg3 hp
  refine k_end ?_; intro e114 qe114
  have s2_e114 : e114 2 = .pointer (some ⟨g1, 0, none⟩) := congrFun qe114 2
  have s3_e114 : e114 3 = .pointer (some ⟨g2, 0, none⟩) := congrFun qe114 3
  have s4_e114 : e114 4 = .pointer (some ⟨g3, 0, none⟩) := congrFun qe114 4
  clear qe114
  refine wseqP (p0 := [1, 0]) (p1 := [1, 1]) rfl rfl rfl ?_
  refine wregionT xdh_Mul.o2 (.tp 0 (.tk 1 (.tp 2 (.tp 3 (.ef 4 (.done)))))) [4] rfl rfl (by kernel_rfl) (by kernel_rfl) ?_
  refine k_indexA (n := 32) (s := 1) (j := 0) rfl Try.underlying22 (by kernel_rfl) s2_e114 rfl (by decide) ?_
  refine k_load (j := 0) (v := .int .u8 (a0.getD 0 0)) rfl (by kernel_rfl) rfl (hp.get (j := 0) rfl) rfl rfl (ints_get (Nat.lt_of_lt_of_eq (m := 32) (by decide) (la0).symm)) ?_
  refine k_bin (X := .int .u8 (a0.getD 0 0)) (Y := .int .u8 248) rfl rfl rfl rfl ?_
  refine k_indexA (n := 32) (s := 1) (j := 0) rfl Try.underlying22 (by kernel_rfl) s2_e114 rfl (by decide) ?_
  refine k_store (v := .int .u8 (bits .and .u8 (a0.getD 0 0) 248)) 0 0 (r := ⟨g1, 0, ints .u8 a0⟩) rfl (by kernel_rfl) rfl rfl rfl hp rfl rfl rfl (Nat.lt_of_lt_of_eq (Nat.lt_of_lt_of_eq (m := 32) (by decide) (la0).symm) (ints_length _ _).symm) (by decide) ?_; intro w hp; rw [ints_set] at hp
  refine k_end ?_; intro e115 qe115
  have s2_e115 : e115 2 = .pointer (some ⟨g1, 0, none⟩) := (congrFun qe115 2).trans s2_e114
  have s3_e115 : e115 3 = .pointer (some ⟨g2, 0, none⟩) := (congrFun qe115 3).trans s3_e114
  have s4_e115 : e115 4 = .pointer (some ⟨g3, 0, none⟩) := (congrFun qe115 4).trans s4_e114
  clear qe115
  refine wseqP (p0 := [1, 1, 0]) (p1 := [1, 1, 1]) rfl rfl rfl ?_
  refine wregionT xdh_Mul.o3 (.tp 0 (.tk 1 (.tp 2 (.tp 3 (.tp 4 (.ef 5 (.done))))))) [5] rfl rfl (by kernel_rfl) (by kernel_rfl) ?_
  refine k_indexA (n := 32) (s := 1) (j := 31) rfl Try.underlying22 (by kernel_rfl) s2_e115 rfl (by decide) ?_
  refine k_load (j := 31) (v := .int .u8 ((a0.set 0 (bits .and .u8 (a0.getD 0 0) 248)).getD 31 0)) rfl (by kernel_rfl) rfl (hp.get (j := 0) rfl) rfl rfl (ints_get (Nat.lt_of_lt_of_eq (m := 32) (by decide) (List.length_set.trans la0).symm)) ?_
  refine k_bin (X := .int .u8 ((a0.set 0 (bits .and .u8 (a0.getD 0 0) 248)).getD 31 0)) (Y := .int .u8 127) rfl rfl rfl rfl ?_
  refine k_bin (X := .int .u8 (bits .and .u8 ((a0.set 0 (bits .and .u8 (a0.getD 0 0) 248)).getD 31 0) 127)) (Y := .int .u8 64) rfl rfl rfl rfl ?_
  refine k_indexA (n := 32) (s := 1) (j := 31) rfl Try.underlying22 (by kernel_rfl) s2_e115 rfl (by decide) ?_
  refine k_store (v := .int .u8 (bits .or .u8 (bits .and .u8 ((a0.set 0 (bits .and .u8 (a0.getD 0 0) 248)).getD 31 0) 127) 64)) 0 31 (r := ⟨g1, 0, ints .u8 (a0.set 0 (bits .and .u8 (a0.getD 0 0) 248))⟩) rfl (by kernel_rfl) rfl rfl rfl hp rfl rfl rfl (Nat.lt_of_lt_of_eq (Nat.lt_of_lt_of_eq (m := 32) (by decide) (List.length_set.trans la0).symm) (ints_length _ _).symm) (by decide) ?_; intro w hp; rw [ints_set] at hp
  refine k_end ?_; intro e116 qe116
  have s2_e116 : e116 2 = .pointer (some ⟨g1, 0, none⟩) := (congrFun qe116 2).trans s2_e115
  have s3_e116 : e116 3 = .pointer (some ⟨g2, 0, none⟩) := (congrFun qe116 3).trans s3_e115
  have s4_e116 : e116 4 = .pointer (some ⟨g3, 0, none⟩) := (congrFun qe116 4).trans s4_e115
  clear qe116
  obtain ⟨x4, qx4, h⟩ := lt_e h
  have lx4 : x4.length = 32 := (congrArg List.length qx4).trans (List.length_set.trans (List.length_set.trans la0))
  have hp : Hp w0 [] w [⟨g1, 0, ints .u8 x4⟩, ⟨g2, 0, ints .u8 a1⟩, ⟨g3, 0, ints .u8 (List.replicate 32 (0 : Int))⟩] [] := by rw [qx4]; exact hp
  refine wseqP (p0 := [1, 1, 1, 0]) (p1 := [1, 1, 1, 1]) rfl rfl rfl ?_
  refine wregionT xdh_Mul.o4 (.tp 0 (.tk 1 (.tp 2 (.tp 3 (.ef 4 (.done)))))) [4] rfl rfl (by kernel_rfl) (by kernel_rfl) ?_
  refine k_indexA (n := 32) (s := 1) (j := 31) rfl Try.underlying22 (by kernel_rfl) s3_e116 rfl (by decide) ?_
  refine k_load (j := 31) (v := .int .u8 (a1.getD 31 0)) rfl (by kernel_rfl) rfl (hp.get (j := 1) rfl) rfl rfl (ints_get (Nat.lt_of_lt_of_eq (m := 32) (by decide) (la1).symm)) ?_
  refine k_bin (X := .int .u8 (a1.getD 31 0)) (Y := .int .u8 127) rfl rfl rfl rfl ?_
  refine k_indexA (n := 32) (s := 1) (j := 31) rfl Try.underlying22 (by kernel_rfl) s3_e116 rfl (by decide) ?_
  refine k_store (v := .int .u8 (bits .and .u8 (a1.getD 31 0) 127)) 1 31 (r := ⟨g2, 0, ints .u8 a1⟩) rfl (by kernel_rfl) rfl rfl rfl hp rfl rfl rfl (Nat.lt_of_lt_of_eq (Nat.lt_of_lt_of_eq (m := 32) (by decide) (la1).symm) (ints_length _ _).symm) (by decide) ?_; intro w hp; rw [ints_set] at hp
  refine k_end ?_; intro e117 qe117
  have s2_e117 : e117 2 = .pointer (some ⟨g1, 0, none⟩) := (congrFun qe117 2).trans s2_e116
  have s3_e117 : e117 3 = .pointer (some ⟨g2, 0, none⟩) := (congrFun qe117 3).trans s3_e116
  have s4_e117 : e117 4 = .pointer (some ⟨g3, 0, none⟩) := (congrFun qe117 4).trans s4_e116
  clear qe117
  refine wseqP (p0 := [1, 1, 1, 1, 0]) (p1 := [1, 1, 1, 1, 1]) rfl rfl rfl ?_
  refine wregionT xdh_Mul.o5 (.tk 0 (.ef 1 (.ef 2 (.ef 3 (.ef 4 (.ef 5 (.ef 6 (.done)))))))) [5, 6] rfl rfl (by kernel_rfl) (by kernel_rfl) ?_
  refine k_loadA (n := 32) (xs := ints .u8 (a1.set 31 (bits .and .u8 (a1.getD 31 0) 127))) 0 rfl (by kernel_rfl) (by kernel_rfl) s3_e117 (hp.get (j := 1) rfl) rfl rfl ((ints_length _ _).trans (List.length_set.trans la1)) (fun m v hm => by rw [Nat.zero_add]; exact hm) ?_
  obtain ⟨r5, qr5, h⟩ := bd_e h
  refine k_call [.agg (ints .u8 (a1.set 31 (bits .and .u8 (a1.getD 31 0) 127))).toArray] rfl (by kernel_rfl) (args1 rfl) (field_Of_ok k (a1.set 31 (bits .and .u8 (a1.getD 31 0) 127)) (List.length_set.trans la1) _ (hp.toR (fun _ h => by cases h)) qr5) ?_
  rintro _ w' ⟨_, rfl, rfl, lr50, hpc⟩
  refine ⟨_, rfl, .inr (.of_below hpc.chg.to_below), ?_⟩; have hp := hp.below hpc.chg.to_below; clear hpc
  obtain ⟨r6, qr6, h⟩ := bd_e h
  refine k_call [.int .u32 121665] rfl (by kernel_rfl) (args1 rfl) (xdh_number_ok k 121665  _ (hp.toR (fun _ h => by cases h)) qr6) ?_
  rintro _ w' ⟨_, rfl, rfl, lr60, hpc⟩
  refine ⟨_, rfl, .inr (.of_below hpc.chg.to_below), ?_⟩; have hp := hp.below hpc.chg.to_below; clear hpc
  refine k_alloc (ints .u64 (List.replicate 5 (0 : Int))) rfl (by kernel_rfl) hp ?_
  intro g7 w hbg7 hp
  refine k_alloc (ints .u64 (List.replicate 5 (0 : Int))) rfl (by kernel_rfl) hp ?_
  intro g8 w hbg8 hp
  refine k_storeA (v := .agg (ints .u64 r5).toArray) 3 0 (r := ⟨g7, 0, ints .u64 (List.replicate 5 (0 : Int))⟩) (ints .u64 r5) (ints .u64 r5) rfl (n := 5) (by kernel_rfl) rfl rfl rfl ((ints_length _ _).trans lr50) (ints_one _ _) hp rfl rfl rfl (Nat.le_of_eq ((Nat.zero_add _).trans ((ints_length _ _).trans List.length_replicate).symm)) (setMany_all _ _ (((ints_length _ _).trans lr50).trans ((ints_length _ _).trans List.length_replicate).symm)) (by decide) ?_; intro w hp
  refine k_storeA (v := .agg (ints .u64 r6).toArray) 4 0 (r := ⟨g8, 0, ints .u64 (List.replicate 5 (0 : Int))⟩) (ints .u64 r6) (ints .u64 r6) rfl (n := 5) (by kernel_rfl) rfl rfl rfl ((ints_length _ _).trans lr60) (ints_one _ _) hp rfl rfl rfl (Nat.le_of_eq ((Nat.zero_add _).trans ((ints_length _ _).trans List.length_replicate).symm)) (setMany_all _ _ (((ints_length _ _).trans lr60).trans ((ints_length _ _).trans List.length_replicate).symm)) (by decide) ?_; intro w hp
  refine k_end ?_; intro e118 qe118
  have s2_e118 : e118 2 = .pointer (some ⟨g1, 0, none⟩) := (congrFun qe118 2).trans s2_e117
  have s4_e118 : e118 4 = .pointer (some ⟨g3, 0, none⟩) := (congrFun qe118 4).trans s4_e117
  have s5_e118 : e118 5 = .pointer (some ⟨g7, 0, none⟩) := congrFun qe118 5
  have s6_e118 : e118 6 = .pointer (some ⟨g8, 0, none⟩) := congrFun qe118 6
  clear qe118
  refine wseqP (p0 := [1, 1, 1, 1, 1, 0]) (p1 := [1, 1, 1, 1, 1, 1]) rfl rfl rfl ?_
  obtain ⟨r9, qr9, h⟩ := bd_e h
  obtain ⟨r10, qr10, h⟩ := bd_e h
  refine wcut (fun e119 w2 => ∃ g11 g12 g13 g14 : Nat, ((((r9.length = 5 ∧ r10.length = 5) ∧ e119 2 = .pointer (some ⟨g1, 0, none⟩)) ∧ (e119 4 = .pointer (some ⟨g3, 0, none⟩) ∧ e119 5 = .pointer (some ⟨g7, 0, none⟩))) ∧ (((e119 6 = .pointer (some ⟨g8, 0, none⟩) ∧ e119 7 = .pointer (some ⟨g11, 0, none⟩)) ∧ e119 8 = .pointer (some ⟨g12, 0, none⟩)) ∧ (e119 9 = .pointer (some ⟨g13, 0, none⟩) ∧ e119 10 = .pointer (some ⟨g14, 0, none⟩)))) ∧ Hp w0 [] w2 [⟨g1, 0, ints .u8 x4⟩, ⟨g2, 0, ints .u8 (a1.set 31 (bits .and .u8 (a1.getD 31 0) 127))⟩, ⟨g3, 0, ints .u8 (List.replicate 32 (0 : Int))⟩, ⟨g7, 0, ints .u64 r5⟩, ⟨g8, 0, ints .u64 r6⟩, ⟨g11, 0, ints .u64 r9⟩, ⟨g12, 0, ints .u64 (List.replicate 5 (0 : Int))⟩, ⟨g13, 0, ints .u64 r5⟩, ⟨g14, 0, ints .u64 r10⟩] []) ?_ ?_
  rotate_left
  · refine wregionM xdh_Mul.o6 (.tp 1 (.rest 2 11)) [8, 9, 10, 11] [(0, 4095, 4095), (0, 0, 4095), (0, 4095, 4095), (1, 4095, 4095), (0, 4095, 4095), (0, 4095, 4095), (0, 4095, 4095), (0, 4095, 4095), (249, 4095, 4095), (507, 4095, 4095), (1023, 4095, 4095), (2047, 4095, 4095)] rfl rfl (by kernel_rfl) (by kernel_rfl) (Nat.le_of_ble_eq_true (by kernel_rfl)) (by kernel_rfl) (by kernel_rfl) (by kernel_rfl) ?_
    have hp := hp.drew
    refine k_build (v := .agg (ints .u64 (List.replicate 5 (0 : Int))).toArray) rfl (fun _ => by kernel_rfl) ?_
    refine k_rest [0, 2, 3, 4, 5, 6, 7, 8, 9, 10, 11] (fun L e w => ∃ g11 g12 g13 g14 : Nat, ∃ c_g11_0 c_g12_1 c_g13_2 c_g14_3 : List Int, ((((((L 0 = true → r9.length = 5) ∧ (L 3 = true → r10.length = 5)) ∧ (((e 2 = .pointer (some ⟨g1, 0, none⟩) ∧ e 4 = .pointer (some ⟨g3, 0, none⟩)) ∧ e 5 = .pointer (some ⟨g7, 0, none⟩)) ∧ (e 6 = .pointer (some ⟨g8, 0, none⟩) ∧ e 40 = .agg (ints .u64 (List.replicate 5 (0 : Int))).toArray))) ∧ (((L 0 = true → e 39 = .agg (ints .u64 r9).toArray) ∧ (L 2 = true → e 41 = .agg (ints .u64 r5).toArray)) ∧ (L 3 = true → e 42 = .agg (ints .u64 r10).toArray))) ∧ ((((L 4 = true → e 7 = .pointer (some ⟨g11, 0, none⟩)) ∧ (L 5 = true → e 8 = .pointer (some ⟨g12, 0, none⟩))) ∧ (L 6 = true → e 9 = .pointer (some ⟨g13, 0, none⟩))) ∧ ((L 7 = true → e 10 = .pointer (some ⟨g14, 0, none⟩)) ∧ (L 4 = false → c_g11_0 = ([] : List Int))))) ∧ (((((L 8 = false → L 4 = true → c_g11_0 = (List.replicate 5 (0 : Int))) ∧ (L 8 = true → c_g11_0 = r9)) ∧ (L 5 = false → c_g12_1 = ([] : List Int))) ∧ ((L 5 = true → c_g12_1 = (List.replicate 5 (0 : Int))) ∧ (L 6 = false → c_g13_2 = ([] : List Int)))) ∧ ((((L 10 = false → L 6 = true → c_g13_2 = (List.replicate 5 (0 : Int))) ∧ (L 10 = true → c_g13_2 = r5)) ∧ (L 7 = false → c_g14_3 = ([] : List Int))) ∧ ((L 11 = false → L 7 = true → c_g14_3 = (List.replicate 5 (0 : Int))) ∧ (L 11 = true → c_g14_3 = r10))))) ∧ Hp w0 [] w [⟨g1, 0, ints .u8 x4⟩, ⟨g2, 0, ints .u8 (a1.set 31 (bits .and .u8 (a1.getD 31 0) 127))⟩, ⟨g3, 0, ints .u8 (List.replicate 32 (0 : Int))⟩, ⟨g7, 0, ints .u64 r5⟩, ⟨g8, 0, ints .u64 r6⟩, ⟨g11, 0, ints .u64 c_g11_0⟩, ⟨g12, 0, ints .u64 c_g12_1⟩, ⟨g13, 0, ints .u64 c_g13_2⟩, ⟨g14, 0, ints .u64 c_g14_3⟩] []) (by kernel_rfl) (by kernel_rfl) ?_ ?_ ?_
    have hp := hp.free1 0 0
    have hp := hp.free1 0 0
    have hp := hp.free1 0 0
    have hp := hp.free1 0 0
    · exact ⟨0, 0, 0, 0, ([] : List Int), ([] : List Int), ([] : List Int), ([] : List Int), ⟨⟨⟨⟨⟨(fun h => absurd h (by decide)), (fun h => absurd h (by decide))⟩, ⟨⟨⟨s2_e118, s4_e118⟩, s5_e118⟩, ⟨s6_e118, rfl⟩⟩⟩, ⟨⟨(fun h => absurd h (by decide)), (fun h => absurd h (by decide))⟩, (fun h => absurd h (by decide))⟩⟩, ⟨⟨⟨(fun h => absurd h (by decide)), (fun h => absurd h (by decide))⟩, (fun h => absurd h (by decide))⟩, ⟨(fun h => absurd h (by decide)), (fun _ => rfl)⟩⟩⟩, ⟨⟨⟨⟨(fun _ h => absurd h (by decide)), (fun h => absurd h (by decide))⟩, (fun _ => rfl)⟩, ⟨(fun h => absurd h (by decide)), (fun _ => rfl)⟩⟩, ⟨⟨⟨(fun _ h => absurd h (by decide)), (fun h => absurd h (by decide))⟩, (fun _ => rfl)⟩, ⟨(fun _ h => absurd h (by decide)), (fun h => absurd h (by decide))⟩⟩⟩⟩, hp⟩
    · rintro L e w hall ⟨g11, g12, g13, g14, c_g11_0, c_g12_1, c_g13_2, c_g14_3, hF, hp⟩
      have qc_g11_0 := hF.2.1.1.1.2 (hall 8 rfl)
      rw [qc_g11_0] at hp
      have qc_g12_1 := hF.2.1.2.1 (hall 5 rfl)
      rw [qc_g12_1] at hp
      have qc_g13_2 := hF.2.2.1.1.2 (hall 10 rfl)
      rw [qc_g13_2] at hp
      have qc_g14_3 := hF.2.2.2.2 (hall 11 rfl)
      rw [qc_g14_3] at hp
      exact onlyN_i ⟨g11, g12, g13, g14, ⟨⟨⟨⟨(hF.1.1.1.1.1 (hall 0 rfl)), (hF.1.1.1.1.2 (hall 3 rfl))⟩, hF.1.1.1.2.1.1.1⟩, ⟨hF.1.1.1.2.1.1.2, hF.1.1.1.2.1.2⟩⟩, ⟨⟨⟨hF.1.1.1.2.2.1, (hF.1.2.1.1.1 (hall 4 rfl))⟩, (hF.1.2.1.1.2 (hall 5 rfl))⟩, ⟨(hF.1.2.1.2 (hall 6 rfl)), (hF.1.2.2.1 (hall 7 rfl))⟩⟩⟩, hp⟩
    refine allU_cons ?_ ?_
    · rintro L e w hLi hb hcl ⟨g11, g12, g13, g14, c_g11_0, c_g12_1, c_g13_2, c_g14_3, hF, hp⟩
      refine k_call [] rfl (by kernel_rfl) (args0 ) (field_One_ok   _ (hp.toR (fun _ h => by cases h)) qr9) ?_
      rintro _ w' ⟨_, rfl, rfl, lr90, hpc⟩
      refine ⟨_, rfl, .inr (.of_below hpc.chg.to_below), ?_⟩; have hp := hp.below hpc.chg.to_below; clear hpc
      exact k_done ⟨g11, g12, g13, g14, c_g11_0, c_g12_1, c_g13_2, c_g14_3, ⟨⟨⟨⟨⟨(fun _ => lr90), hF.1.1.1.1.2⟩, hF.1.1.1.2⟩, ⟨⟨(fun _ => rfl), hF.1.1.2.1.2⟩, hF.1.1.2.2⟩⟩, hF.1.2⟩, hF.2⟩, hp⟩
    refine allU_cons ?_ ?_
    · rintro L e w hLi hb hcl ⟨g11, g12, g13, g14, c_g11_0, c_g12_1, c_g13_2, c_g14_3, hF, hp⟩
      refine tk_ef ?_
      refine k_loadA (n := 5) (xs := ints .u64 r5) 0 rfl (by kernel_rfl) (by kernel_rfl) hF.1.1.1.2.1.2 (hp.get (j := 3) rfl) rfl rfl ((ints_length _ _).trans lr50) (fun m v hm => by rw [Nat.zero_add]; exact hm) ?_
      exact k_done ⟨g11, g12, g13, g14, c_g11_0, c_g12_1, c_g13_2, c_g14_3, ⟨⟨⟨hF.1.1.1, ⟨⟨hF.1.1.2.1.1, (fun _ => rfl)⟩, hF.1.1.2.2⟩⟩, hF.1.2⟩, hF.2⟩, hp⟩
    refine allU_cons ?_ ?_
    · rintro L e w hLi hb hcl ⟨g11, g12, g13, g14, c_g11_0, c_g12_1, c_g13_2, c_g14_3, hF, hp⟩
      refine k_call [] rfl (by kernel_rfl) (args0 ) (field_One_ok   _ (hp.toR (fun _ h => by cases h)) qr10) ?_
      rintro _ w' ⟨_, rfl, rfl, lr100, hpc⟩
      refine ⟨_, rfl, .inr (.of_below hpc.chg.to_below), ?_⟩; have hp := hp.below hpc.chg.to_below; clear hpc
      exact k_done ⟨g11, g12, g13, g14, c_g11_0, c_g12_1, c_g13_2, c_g14_3, ⟨⟨⟨⟨⟨hF.1.1.1.1.1, (fun _ => lr100)⟩, hF.1.1.1.2⟩, ⟨hF.1.1.2.1, (fun _ => rfl)⟩⟩, hF.1.2⟩, hF.2⟩, hp⟩
    refine allU_cons ?_ ?_
    · rintro L e w hLi hb hcl ⟨g11, g12, g13, g14, c_g11_0, c_g12_1, c_g13_2, c_g14_3, hF, hp⟩
      have qc_g11_0 := hF.1.2.2.2 hLi
      rw [qc_g11_0] at hp
      refine k_allocAt 5 (ints .u64 (List.replicate 5 (0 : Int))) rfl (by kernel_rfl) hp ?_
      intro g11 w hbg11 hp
      exact k_done ⟨g11, g12, g13, g14, (List.replicate 5 (0 : Int)), c_g12_1, c_g13_2, c_g14_3, ⟨⟨hF.1.1, ⟨⟨⟨(fun _ => rfl), hF.1.2.1.1.2⟩, hF.1.2.1.2⟩, ⟨hF.1.2.2.1, (fun h => nomatch (show true = false from h))⟩⟩⟩, ⟨⟨⟨⟨(fun _ _ => rfl), (fun h => absurd (hLi.symm.trans (hcl 8 4 (by kernel_rfl) h)) (by decide))⟩, hF.2.1.1.2⟩, hF.2.1.2⟩, hF.2.2⟩⟩, hp⟩
    refine allU_cons ?_ ?_
    · rintro L e w hLi hb hcl ⟨g11, g12, g13, g14, c_g11_0, c_g12_1, c_g13_2, c_g14_3, hF, hp⟩
      have qc_g12_1 := hF.2.1.1.2 hLi
      rw [qc_g12_1] at hp
      refine k_allocAt 6 (ints .u64 (List.replicate 5 (0 : Int))) rfl (by kernel_rfl) hp ?_
      intro g12 w hbg12 hp
      exact k_done ⟨g11, g12, g13, g14, c_g11_0, (List.replicate 5 (0 : Int)), c_g13_2, c_g14_3, ⟨⟨hF.1.1, ⟨⟨⟨hF.1.2.1.1.1, (fun _ => rfl)⟩, hF.1.2.1.2⟩, hF.1.2.2⟩⟩, ⟨⟨⟨hF.2.1.1.1, (fun h => nomatch (show true = false from h))⟩, ⟨(fun _ => rfl), hF.2.1.2.2⟩⟩, hF.2.2⟩⟩, hp⟩
    refine allU_cons ?_ ?_
    · rintro L e w hLi hb hcl ⟨g11, g12, g13, g14, c_g11_0, c_g12_1, c_g13_2, c_g14_3, hF, hp⟩
      have qc_g13_2 := hF.2.1.2.2 hLi
      rw [qc_g13_2] at hp
      refine k_allocAt 7 (ints .u64 (List.replicate 5 (0 : Int))) rfl (by kernel_rfl) hp ?_
      intro g13 w hbg13 hp
      exact k_done ⟨g11, g12, g13, g14, c_g11_0, c_g12_1, (List.replicate 5 (0 : Int)), c_g14_3, ⟨⟨hF.1.1, ⟨⟨hF.1.2.1.1, (fun _ => rfl)⟩, hF.1.2.2⟩⟩, ⟨⟨hF.2.1.1, ⟨hF.2.1.2.1, (fun h => nomatch (show true = false from h))⟩⟩, ⟨⟨⟨(fun _ _ => rfl), (fun h => absurd (hLi.symm.trans (hcl 10 6 (by kernel_rfl) h)) (by decide))⟩, hF.2.2.1.2⟩, hF.2.2.2⟩⟩⟩, hp⟩
    refine allU_cons ?_ ?_
    · rintro L e w hLi hb hcl ⟨g11, g12, g13, g14, c_g11_0, c_g12_1, c_g13_2, c_g14_3, hF, hp⟩
      have qc_g14_3 := hF.2.2.1.2 hLi
      rw [qc_g14_3] at hp
      refine k_allocAt 8 (ints .u64 (List.replicate 5 (0 : Int))) rfl (by kernel_rfl) hp ?_
      intro g14 w hbg14 hp
      exact k_done ⟨g11, g12, g13, g14, c_g11_0, c_g12_1, c_g13_2, (List.replicate 5 (0 : Int)), ⟨⟨hF.1.1, ⟨hF.1.2.1, ⟨(fun _ => rfl), hF.1.2.2.2⟩⟩⟩, ⟨hF.2.1, ⟨⟨hF.2.2.1.1, (fun h => nomatch (show true = false from h))⟩, ⟨(fun _ _ => rfl), (fun h => absurd (hLi.symm.trans (hcl 11 7 (by kernel_rfl) h)) (by decide))⟩⟩⟩⟩, hp⟩
    refine allU_cons ?_ ?_
    · rintro L e w hLi hb hcl ⟨g11, g12, g13, g14, c_g11_0, c_g12_1, c_g13_2, c_g14_3, hF, hp⟩
      have hL0 := hb 0 (by kernel_rfl)
      have hL4 := hb 4 (by kernel_rfl)
      have lr90 := hF.1.1.1.1.1 hL0
      have qc_g11_0 := hF.2.1.1.1.1 hLi hL4
      rw [qc_g11_0] at hp
      refine k_storeA (v := .agg (ints .u64 r9).toArray) 5 0 (r := ⟨g11, 0, ints .u64 (List.replicate 5 (0 : Int))⟩) (ints .u64 r9) (ints .u64 r9) rfl (n := 5) (by kernel_rfl) (hF.1.2.1.1.1 hL4) (hF.1.1.2.1.1 hL0) rfl ((ints_length _ _).trans lr90) (ints_one _ _) hp rfl rfl rfl (Nat.le_of_eq ((Nat.zero_add _).trans ((ints_length _ _).trans List.length_replicate).symm)) (setMany_all _ _ (((ints_length _ _).trans lr90).trans ((ints_length _ _).trans List.length_replicate).symm)) (by decide) ?_; intro w hp
      exact k_done ⟨g11, g12, g13, g14, r9, c_g12_1, c_g13_2, c_g14_3, ⟨⟨hF.1.1, ⟨hF.1.2.1, ⟨hF.1.2.2.1, (fun h => absurd (hL4.symm.trans h) (by decide))⟩⟩⟩, ⟨⟨⟨⟨(fun h _ => nomatch (show true = false from h)), (fun _ => rfl)⟩, hF.2.1.1.2⟩, hF.2.1.2⟩, hF.2.2⟩⟩, hp⟩
    refine allU_cons ?_ ?_
    · rintro L e w hLi hb hcl ⟨g11, g12, g13, g14, c_g11_0, c_g12_1, c_g13_2, c_g14_3, hF, hp⟩
      have hL5 := hb 5 (by kernel_rfl)
      have qc_g12_1 := hF.2.1.2.1 hL5
      rw [qc_g12_1] at hp
      refine k_storeA (v := .agg (ints .u64 (List.replicate 5 (0 : Int))).toArray) 6 0 (r := ⟨g12, 0, ints .u64 (List.replicate 5 (0 : Int))⟩) (ints .u64 (List.replicate 5 (0 : Int))) (ints .u64 (List.replicate 5 (0 : Int))) rfl (n := 5) (by kernel_rfl) (hF.1.2.1.1.2 hL5) hF.1.1.1.2.2.2 rfl ((ints_length _ _).trans List.length_replicate) (ints_one _ _) hp rfl rfl rfl (Nat.le_of_eq ((Nat.zero_add _).trans ((ints_length _ _).trans List.length_replicate).symm)) (setMany_all _ _ (((ints_length _ _).trans List.length_replicate).trans ((ints_length _ _).trans List.length_replicate).symm)) (by decide) ?_; intro w hp
      exact k_done ⟨g11, g12, g13, g14, c_g11_0, (List.replicate 5 (0 : Int)), c_g13_2, c_g14_3, ⟨hF.1, ⟨⟨⟨hF.2.1.1.1, (fun h => qc_g12_1.symm.trans (hF.2.1.1.2 h))⟩, ⟨(fun h => qc_g12_1.symm.trans (hF.2.1.2.1 h)), hF.2.1.2.2⟩⟩, hF.2.2⟩⟩, hp⟩
    refine allU_cons ?_ ?_
    · rintro L e w hLi hb hcl ⟨g11, g12, g13, g14, c_g11_0, c_g12_1, c_g13_2, c_g14_3, hF, hp⟩
      have hL2 := hb 2 (by kernel_rfl)
      have hL6 := hb 6 (by kernel_rfl)
      have qc_g13_2 := hF.2.2.1.1.1 hLi hL6
      rw [qc_g13_2] at hp
      refine k_storeA (v := .agg (ints .u64 r5).toArray) 7 0 (r := ⟨g13, 0, ints .u64 (List.replicate 5 (0 : Int))⟩) (ints .u64 r5) (ints .u64 r5) rfl (n := 5) (by kernel_rfl) (hF.1.2.1.2 hL6) (hF.1.1.2.1.2 hL2) rfl ((ints_length _ _).trans lr50) (ints_one _ _) hp rfl rfl rfl (Nat.le_of_eq ((Nat.zero_add _).trans ((ints_length _ _).trans List.length_replicate).symm)) (setMany_all _ _ (((ints_length _ _).trans lr50).trans ((ints_length _ _).trans List.length_replicate).symm)) (by decide) ?_; intro w hp
      exact k_done ⟨g11, g12, g13, g14, c_g11_0, c_g12_1, r5, c_g14_3, ⟨hF.1, ⟨⟨hF.2.1.1, ⟨hF.2.1.2.1, (fun h => absurd (hL6.symm.trans h) (by decide))⟩⟩, ⟨⟨⟨(fun h _ => nomatch (show true = false from h)), (fun _ => rfl)⟩, hF.2.2.1.2⟩, hF.2.2.2⟩⟩⟩, hp⟩
    refine allU_cons ?_ allU_nil
    · rintro L e w hLi hb hcl ⟨g11, g12, g13, g14, c_g11_0, c_g12_1, c_g13_2, c_g14_3, hF, hp⟩
      have hL3 := hb 3 (by kernel_rfl)
      have hL7 := hb 7 (by kernel_rfl)
      have lr100 := hF.1.1.1.1.2 hL3
      have qc_g14_3 := hF.2.2.2.1 hLi hL7
      rw [qc_g14_3] at hp
      refine k_storeA (v := .agg (ints .u64 r10).toArray) 8 0 (r := ⟨g14, 0, ints .u64 (List.replicate 5 (0 : Int))⟩) (ints .u64 r10) (ints .u64 r10) rfl (n := 5) (by kernel_rfl) (hF.1.2.2.1 hL7) (hF.1.1.2.2 hL3) rfl ((ints_length _ _).trans lr100) (ints_one _ _) hp rfl rfl rfl (Nat.le_of_eq ((Nat.zero_add _).trans ((ints_length _ _).trans List.length_replicate).symm)) (setMany_all _ _ (((ints_length _ _).trans lr100).trans ((ints_length _ _).trans List.length_replicate).symm)) (by decide) ?_; intro w hp
      exact k_done ⟨g11, g12, g13, g14, c_g11_0, c_g12_1, c_g13_2, r10, ⟨hF.1, ⟨hF.2.1, ⟨⟨hF.2.2.1.1, (fun h => absurd (hL7.symm.trans h) (by decide))⟩, ⟨(fun h _ => nomatch (show true = false from h)), (fun _ => rfl)⟩⟩⟩⟩, hp⟩
  rintro e119 w ⟨g11, g12, g13, g14, hF, hp⟩
  have lr90 := hF.1.1.1.1
  have lr100 := hF.1.1.1.2
  have s2_e119 := hF.1.1.2
  have s4_e119 := hF.1.2.1
  have s5_e119 := hF.1.2.2
  have s6_e119 := hF.2.1.1.1
  have s7_e119 := hF.2.1.1.2
  have s8_e119 := hF.2.1.2
  have s9_e119 := hF.2.2.1
  have s10_e119 := hF.2.2.2
  clear hF
  refine wseqP (p0 := [1, 1, 1, 1, 1, 1, 0]) (p1 := [1, 1, 1, 1, 1, 1, 1]) rfl rfl rfl ?_
  refine wregionT xdh_Mul.o7 (.tp 0 (.done)) [] rfl rfl (by kernel_rfl) (by kernel_rfl) ?_
  refine k_assign (v := .int .u64 0) rfl rfl ?_
  refine k_end ?_; intro e120 qe120
  have s2_e120 : e120 2 = .pointer (some ⟨g1, 0, none⟩) := (congrFun qe120 2).trans s2_e119
  have s4_e120 : e120 4 = .pointer (some ⟨g3, 0, none⟩) := (congrFun qe120 4).trans s4_e119
  have s5_e120 : e120 5 = .pointer (some ⟨g7, 0, none⟩) := (congrFun qe120 5).trans s5_e119
  have s6_e120 : e120 6 = .pointer (some ⟨g8, 0, none⟩) := (congrFun qe120 6).trans s6_e119
  have s7_e120 : e120 7 = .pointer (some ⟨g11, 0, none⟩) := (congrFun qe120 7).trans s7_e119
  have s8_e120 : e120 8 = .pointer (some ⟨g12, 0, none⟩) := (congrFun qe120 8).trans s8_e119
  have s9_e120 : e120 9 = .pointer (some ⟨g13, 0, none⟩) := (congrFun qe120 9).trans s9_e119
  have s10_e120 : e120 10 = .pointer (some ⟨g14, 0, none⟩) := (congrFun qe120 10).trans s10_e119
  have s11_e120 : e120 11 = .int .u64 0 := congrFun qe120 11
  clear qe120
  refine wseqP (p0 := [1, 1, 1, 1, 1, 1, 1, 0]) (p1 := [1, 1, 1, 1, 1, 1, 1, 1]) rfl rfl rfl ?_
  refine wseqP (p0 := [1, 1, 1, 1, 1, 1, 1, 0, 0]) (p1 := [1, 1, 1, 1, 1, 1, 1, 0, 1]) rfl rfl rfl ?_
  refine wregionT xdh_Mul.o8 (.tp 0 (.done)) [] rfl rfl (by kernel_rfl) (by kernel_rfl) ?_
  refine k_assign (v := .int .i64 254) rfl rfl ?_
  refine k_end ?_; intro e121 qe121
  have s2_e121 : e121 2 = .pointer (some ⟨g1, 0, none⟩) := (congrFun qe121 2).trans s2_e120
  have s4_e121 : e121 4 = .pointer (some ⟨g3, 0, none⟩) := (congrFun qe121 4).trans s4_e120
  have s5_e121 : e121 5 = .pointer (some ⟨g7, 0, none⟩) := (congrFun qe121 5).trans s5_e120
  have s6_e121 : e121 6 = .pointer (some ⟨g8, 0, none⟩) := (congrFun qe121 6).trans s6_e120
  have s7_e121 : e121 7 = .pointer (some ⟨g11, 0, none⟩) := (congrFun qe121 7).trans s7_e120
  have s8_e121 : e121 8 = .pointer (some ⟨g12, 0, none⟩) := (congrFun qe121 8).trans s8_e120
  have s9_e121 : e121 9 = .pointer (some ⟨g13, 0, none⟩) := (congrFun qe121 9).trans s9_e120
  have s10_e121 : e121 10 = .pointer (some ⟨g14, 0, none⟩) := (congrFun qe121 10).trans s10_e120
  have s11_e121 : e121 11 = .int .u64 0 := (congrFun qe121 11).trans s11_e120
  have s12_e121 : e121 12 = .int .i64 254 := congrFun qe121 12
  clear qe121
  refine wblockP (p0 := [1, 1, 1, 1, 1, 1, 1, 0, 1, 0]) 0 rfl rfl ?_
  obtain ⟨r54, qr54, h⟩ := bd_e h
  refine wloopP (p0 := [1, 1, 1, 1, 1, 1, 1, 0, 1, 0, 0]) k rfl rfl (xdh_Mul.p1_ok g1 g11 g12 g13 g14 g2 g3 g7 g8 x4 a1 r5 r6 la1 lx4 lr50 lr60 ?hq0 k r9 (List.replicate 5 (0 : Int)) r5 r10 0 254 e121 _ lr90 List.length_replicate lr50 lr100 s2_e121 s4_e121 s5_e121 s6_e121 s7_e121 s8_e121 s9_e121 s10_e121 s11_e121 s12_e121 hp qr54)
  case hq0 =>
    intro e135 w m55 m56 m57 m58 m59 lm56 lm57 lm58 lm59 s4_e135 s7_e135 s8_e135 s9_e135 s10_e135 s11_e135 hp qq
    rw [qq] at h; clear qq
    refine wseqP (p0 := [1, 1, 1, 1, 1, 1, 1, 1, 0]) (p1 := [1, 1, 1, 1, 1, 1, 1, 1, 1]) rfl rfl rfl ?_
    refine wregionT xdh_Mul.o22 (.tp 0 (.ef 1 (.done))) [1] rfl rfl (by kernel_rfl) (by kernel_rfl) ?_
    refine k_move (v := .int .u64 m55) rfl s11_e135 ?_
    obtain ⟨r60, qr60, h⟩ := bd_e h
    have hp := hp.swap 4
    have hp := hp.swap 3
    have hp := hp.swap 2
    have hp := hp.swap 1
    have hp := hp.swap 0
    have hp := hp.swap 6
    have hp := hp.swap 5
    have hp := hp.swap 4
    have hp := hp.swap 3
    have hp := hp.swap 2
    have hp := hp.swap 1
    refine k_call [.int .u64 m55, .pointer (some ⟨g11, 0, none⟩), .pointer (some ⟨g13, 0, none⟩)] rfl (by kernel_rfl) (args3 rfl s7_e135 s9_e135) (xdh_swap_ok k m55 m56 m58 g11 (0)  g13 (0) lm56 lm58 _ (Hp.toW (L1 := [⟨g11, 0, ints .u64 m56⟩, ⟨g13, 0, ints .u64 m58⟩]) (L2 := [⟨g1, 0, ints .u8 x4⟩, ⟨g2, 0, ints .u8 (a1.set 31 (bits .and .u8 (a1.getD 31 0) 127))⟩, ⟨g3, 0, ints .u8 (List.replicate 32 (0 : Int))⟩, ⟨g7, 0, ints .u64 r5⟩, ⟨g8, 0, ints .u64 r6⟩, ⟨g12, 0, ints .u64 m57⟩, ⟨g14, 0, ints .u64 m59⟩]) hp (fun _ h => by cases h)) qr60) ?_
    rintro _ w' ⟨_, rfl, rfl, lr600, lr601, hpc⟩
    refine ⟨_, rfl, .inl (by decide), ?_⟩; have hp := Hp.callW (L1 := [⟨g11, 0, ints .u64 m56⟩, ⟨g13, 0, ints .u64 m58⟩]) (L2 := [⟨g1, 0, ints .u8 x4⟩, ⟨g2, 0, ints .u8 (a1.set 31 (bits .and .u8 (a1.getD 31 0) 127))⟩, ⟨g3, 0, ints .u8 (List.replicate 32 (0 : Int))⟩, ⟨g7, 0, ints .u64 r5⟩, ⟨g8, 0, ints .u64 r6⟩, ⟨g12, 0, ints .u64 m57⟩, ⟨g14, 0, ints .u64 m59⟩]) (L1' := [⟨g11, 0, ints .u64 r60.1⟩, ⟨g13, 0, ints .u64 r60.2⟩]) (Ln := []) hp hpc (by simp only [wrs, List.map_cons, List.map_nil, ints_length, lm56, lm58, lr600, lr601]) (fun _ h => by cases h); clear hpc
    have hp : Hp w0 [] w' [⟨g11, 0, ints .u64 r60.1⟩, ⟨g13, 0, ints .u64 r60.2⟩, ⟨g1, 0, ints .u8 x4⟩, ⟨g2, 0, ints .u8 (a1.set 31 (bits .and .u8 (a1.getD 31 0) 127))⟩, ⟨g3, 0, ints .u8 (List.replicate 32 (0 : Int))⟩, ⟨g7, 0, ints .u64 r5⟩, ⟨g8, 0, ints .u64 r6⟩, ⟨g12, 0, ints .u64 m57⟩, ⟨g14, 0, ints .u64 m59⟩] [] := hp
    refine k_end ?_; intro e136 qe136
    have s4_e136 : e136 4 = .pointer (some ⟨g3, 0, none⟩) := (congrFun qe136 4).trans s4_e135
    have s7_e136 : e136 7 = .pointer (some ⟨g11, 0, none⟩) := (congrFun qe136 7).trans s7_e135
    have s8_e136 : e136 8 = .pointer (some ⟨g12, 0, none⟩) := (congrFun qe136 8).trans s8_e135
    have s10_e136 : e136 10 = .pointer (some ⟨g14, 0, none⟩) := (congrFun qe136 10).trans s10_e135
    have s11_e136 : e136 11 = .int .u64 m55 := (congrFun qe136 11).trans s11_e135
    clear qe136
    refine wseqP (p0 := [1, 1, 1, 1, 1, 1, 1, 1, 1, 0]) (p1 := [1, 1, 1, 1, 1, 1, 1, 1, 1, 1]) rfl rfl rfl ?_
    refine wregionT xdh_Mul.o23 (.tp 0 (.ef 1 (.done))) [1] rfl rfl (by kernel_rfl) (by kernel_rfl) ?_
    refine k_move (v := .int .u64 m55) rfl s11_e136 ?_
    obtain ⟨r61, qr61, h⟩ := bd_e h
    have hp := hp.swap 6
    have hp := hp.swap 5
    have hp := hp.swap 4
    have hp := hp.swap 3
    have hp := hp.swap 2
    have hp := hp.swap 1
    have hp := hp.swap 0
    have hp := hp.swap 7
    have hp := hp.swap 6
    have hp := hp.swap 5
    have hp := hp.swap 4
    have hp := hp.swap 3
    have hp := hp.swap 2
    have hp := hp.swap 1
    refine k_call [.int .u64 m55, .pointer (some ⟨g12, 0, none⟩), .pointer (some ⟨g14, 0, none⟩)] rfl (by kernel_rfl) (args3 rfl s8_e136 s10_e136) (xdh_swap_ok k m55 m57 m59 g12 (0)  g14 (0) lm57 lm59 _ (Hp.toW (L1 := [⟨g12, 0, ints .u64 m57⟩, ⟨g14, 0, ints .u64 m59⟩]) (L2 := [⟨g11, 0, ints .u64 r60.1⟩, ⟨g13, 0, ints .u64 r60.2⟩, ⟨g1, 0, ints .u8 x4⟩, ⟨g2, 0, ints .u8 (a1.set 31 (bits .and .u8 (a1.getD 31 0) 127))⟩, ⟨g3, 0, ints .u8 (List.replicate 32 (0 : Int))⟩, ⟨g7, 0, ints .u64 r5⟩, ⟨g8, 0, ints .u64 r6⟩]) hp (fun _ h => by cases h)) qr61) ?_
    rintro _ w' ⟨_, rfl, rfl, lr610, lr611, hpc⟩
    refine ⟨_, rfl, .inl (by decide), ?_⟩; have hp := Hp.callW (L1 := [⟨g12, 0, ints .u64 m57⟩, ⟨g14, 0, ints .u64 m59⟩]) (L2 := [⟨g11, 0, ints .u64 r60.1⟩, ⟨g13, 0, ints .u64 r60.2⟩, ⟨g1, 0, ints .u8 x4⟩, ⟨g2, 0, ints .u8 (a1.set 31 (bits .and .u8 (a1.getD 31 0) 127))⟩, ⟨g3, 0, ints .u8 (List.replicate 32 (0 : Int))⟩, ⟨g7, 0, ints .u64 r5⟩, ⟨g8, 0, ints .u64 r6⟩]) (L1' := [⟨g12, 0, ints .u64 r61.1⟩, ⟨g14, 0, ints .u64 r61.2⟩]) (Ln := []) hp hpc (by simp only [wrs, List.map_cons, List.map_nil, ints_length, lm57, lm59, lr610, lr611]) (fun _ h => by cases h); clear hpc
    have hp : Hp w0 [] w' [⟨g12, 0, ints .u64 r61.1⟩, ⟨g14, 0, ints .u64 r61.2⟩, ⟨g11, 0, ints .u64 r60.1⟩, ⟨g13, 0, ints .u64 r60.2⟩, ⟨g1, 0, ints .u8 x4⟩, ⟨g2, 0, ints .u8 (a1.set 31 (bits .and .u8 (a1.getD 31 0) 127))⟩, ⟨g3, 0, ints .u8 (List.replicate 32 (0 : Int))⟩, ⟨g7, 0, ints .u64 r5⟩, ⟨g8, 0, ints .u64 r6⟩] [] := hp
    refine k_end ?_; intro e137 qe137
    have s4_e137 : e137 4 = .pointer (some ⟨g3, 0, none⟩) := (congrFun qe137 4).trans s4_e136
    have s7_e137 : e137 7 = .pointer (some ⟨g11, 0, none⟩) := (congrFun qe137 7).trans s7_e136
    have s8_e137 : e137 8 = .pointer (some ⟨g12, 0, none⟩) := (congrFun qe137 8).trans s8_e136
    clear qe137
    refine wseqP (p0 := [1, 1, 1, 1, 1, 1, 1, 1, 1, 1, 0]) (p1 := [1, 1, 1, 1, 1, 1, 1, 1, 1, 1, 1]) rfl rfl rfl ?_
    refine wregionM xdh_Mul.o24 (.tk 0 (.tk 1 (.ef 2 (.ef 3 (.ef 4 (.ef 5 (.done))))))) [5] [(0, 0, 0), (0, 0, 0), (2, 63, 63), (5, 63, 63), (8, 63, 63), (31, 63, 63)] rfl rfl (by kernel_rfl) (by kernel_rfl) (Nat.le_of_ble_eq_true (by kernel_rfl)) (by kernel_rfl) (by kernel_rfl) (by kernel_rfl) ?_
    have hp := hp.drew
    refine k_loadA (n := 5) (xs := ints .u64 r60.1) 0 rfl (by kernel_rfl) (by kernel_rfl) s7_e137 (hp.get (j := 2) rfl) rfl rfl ((ints_length _ _).trans lr600) (fun m v hm => by rw [Nat.zero_add]; exact hm) ?_
    refine k_loadA (n := 5) (xs := ints .u64 r61.1) 0 rfl (by kernel_rfl) (by kernel_rfl) s8_e137 (hp.get (j := 0) rfl) rfl rfl ((ints_length _ _).trans lr610) (fun m v hm => by rw [Nat.zero_add]; exact hm) ?_
    obtain ⟨r62, qr62, h⟩ := bd_e h
    refine k_call [.agg (ints .u64 r61.1).toArray] rfl (by kernel_rfl) (args1 rfl) (field_Element_Inverse_ok k r61.1 lr610 _ (hp.toR (fun _ h => by cases h)) qr62) ?_
    rintro _ w' ⟨_, rfl, rfl, lr620, hpc⟩
    refine ⟨_, rfl, .inr (.of_below hpc.chg.to_below), ?_⟩; have hp := hp.below hpc.chg.to_below; clear hpc
    obtain ⟨r63, qr63, h⟩ := bd_e h
    refine k_call [.agg (ints .u64 r60.1).toArray, .agg (ints .u64 r62).toArray] rfl (by kernel_rfl) (args2 rfl rfl) (field_Element_Times_ok r60.1 r62 lr600 lr620 _ (hp.toR (fun _ h => by cases h)) qr63) ?_
    rintro _ w' ⟨_, rfl, rfl, lr630, hpc⟩
    refine ⟨_, rfl, .inr (.of_below hpc.chg.to_below), ?_⟩; have hp := hp.below hpc.chg.to_below; clear hpc
    obtain ⟨r64, qr64, h⟩ := bd_e h
    refine k_call [.agg (ints .u64 r63).toArray] rfl (by kernel_rfl) (args1 rfl) (field_Element_Bytes_ok k r63 lr630 _ (hp.toR (fun _ h => by cases h)) qr64) ?_
    rintro _ w' ⟨_, rfl, rfl, lr640, hpc⟩
    refine ⟨_, rfl, .inr (.of_below hpc.chg.to_below), ?_⟩; have hp := hp.below hpc.chg.to_below; clear hpc
    refine k_storeA (v := .agg (ints .u8 r64).toArray) 6 0 (r := ⟨g3, 0, ints .u8 (List.replicate 32 (0 : Int))⟩) (ints .u8 r64) (ints .u8 r64) rfl (n := 32) (by kernel_rfl) s4_e137 rfl rfl ((ints_length _ _).trans lr640) (ints_one _ _) hp rfl rfl rfl (Nat.le_of_eq ((Nat.zero_add _).trans ((ints_length _ _).trans List.length_replicate).symm)) (setMany_all _ _ (((ints_length _ _).trans lr640).trans ((ints_length _ _).trans List.length_replicate).symm)) (by decide) ?_; intro w hp
    refine k_end ?_; intro e138 qe138
    have s4_e138 : e138 4 = .pointer (some ⟨g3, 0, none⟩) := (congrFun qe138 4).trans s4_e137
    clear qe138
    refine wret rfl ?_
    have hr : r = r64 := (Option.some.inj h).symm
    show RetP _ _ _ _ _
    rw [hr]
    exact ret_i [.agg (ints .u8 r64).toArray] (res_cell s4_e138 (loadVar_agg (by kernel_rfl) (by kernel_rfl) ((ints_length _ _).trans lr640) (hp.get (j := 6) rfl) rfl rfl rfl) res_nil) ⟨rfl, lr640, hp.none⟩
/-! 13 postilion/xdh.Public -/
noncomputable def xdh_Public.o1 : Array Oper := opsC (at_ (fbody Try.f13) [0])
noncomputable def xdh_Public.o2 : Array Oper := opsC (at_ (fbody Try.f13) [1, 0])
theorem xdh_Public_ok (k : Nat) (a0 : List Int) (la0 : a0.length = 32) (w0 : World) (hp : Hp w0 [] w0 [] []) {r : List Int} (h : xdh_Public.f k a0 = some r) :
    Calls Try.prog 13 [.agg (ints .u8 a0).toArray].toArray w0 fun x w' => ∃ v, x = .returned v ∧ v = .agg (ints .u8 r).toArray ∧ r.length = 32 ∧ Hp w0 [] w' [] [] := by
  refine calls_inP Try.func13 rfl (Nat.le_of_ble_eq_true (by kernel_rfl)) (by kernel_rfl) ?_
  intro e0 qe0
  have s0_e0 : e0 0 = .agg (ints .u8 a0).toArray := congrFun qe0 0
  clear qe0
  unfold xdh_Public.f at h
  refine wseqP (p0 := [0]) (p1 := [1]) rfl rfl rfl ?_
  refine wregionT xdh_Public.o1 (.ef 0 (.ef 1 (.done))) [] rfl rfl (by kernel_rfl) (by kernel_rfl) ?_
  refine k_box (v := .agg (ints .u8 a0).toArray) (ints .u8 a0) rfl s0_e0 rfl hp ?_
  intro g1 w hbg1 hp
  refine k_alloc (ints .u8 (List.replicate 32 (0 : Int))) rfl (by kernel_rfl) hp ?_
  intro g2 w hbg2 hp
  refine k_end ?_; intro e139 qe139
  have s1_e139 : e139 1 = .pointer (some ⟨g1, 0, none⟩) := congrFun qe139 1
  have s2_e139 : e139 2 = .pointer (some ⟨g2, 0, none⟩) := congrFun qe139 2
  clear qe139
  refine wseqP (p0 := [1, 0]) (p1 := [1, 1]) rfl rfl rfl ?_
  refine wregionT xdh_Public.o2 (.tk 0 (.tp 1 (.ef 2 (.ef 3 (.done))))) [3] rfl rfl (by kernel_rfl) (by kernel_rfl) ?_
  refine k_loadA (n := 32) (xs := ints .u8 a0) 0 rfl (by kernel_rfl) (by kernel_rfl) s1_e139 (hp.get (j := 0) rfl) rfl rfl ((ints_length _ _).trans la0) (fun m v hm => by rw [Nat.zero_add]; exact hm) ?_
  refine k_build (v := .agg (ints .u8 ((List.replicate 32 (0 : Int)).set 0 9)).toArray) rfl (fun _ => by kernel_rfl) ?_
  obtain ⟨r3, qr3, h⟩ := bd_e h
  refine k_call [.agg (ints .u8 a0).toArray, .agg (ints .u8 ((List.replicate 32 (0 : Int)).set 0 9)).toArray] rfl (by kernel_rfl) (args2 rfl rfl) (xdh_Mul_ok k a0 ((List.replicate 32 (0 : Int)).set 0 9) la0 (List.length_set.trans List.length_replicate) _ (hp.toR (fun _ h => by cases h)) qr3) ?_
  rintro _ w' ⟨_, rfl, rfl, lr30, hpc⟩
  refine ⟨_, rfl, .inr (.of_below hpc.chg.to_below), ?_⟩; have hp := hp.below hpc.chg.to_below; clear hpc
  refine k_storeA (v := .agg (ints .u8 r3).toArray) 1 0 (r := ⟨g2, 0, ints .u8 (List.replicate 32 (0 : Int))⟩) (ints .u8 r3) (ints .u8 r3) rfl (n := 32) (by kernel_rfl) s2_e139 rfl rfl ((ints_length _ _).trans lr30) (ints_one _ _) hp rfl rfl rfl (Nat.le_of_eq ((Nat.zero_add _).trans ((ints_length _ _).trans List.length_replicate).symm)) (setMany_all _ _ (((ints_length _ _).trans lr30).trans ((ints_length _ _).trans List.length_replicate).symm)) (by decide) ?_; intro w hp
  refine k_end ?_; intro e140 qe140
  have s2_e140 : e140 2 = .pointer (some ⟨g2, 0, none⟩) := (congrFun qe140 2).trans s2_e139
  clear qe140
  refine wret rfl ?_
  have hr : r = r3 := (Option.some.inj h).symm
  show RetP _ _ _ _ _
  rw [hr]
  exact ret_i [.agg (ints .u8 r3).toArray] (res_cell s2_e140 (loadVar_agg (by kernel_rfl) (by kernel_rfl) ((ints_length _ _).trans lr30) (hp.get (j := 1) rfl) rfl rfl rfl) res_nil) ⟨rfl, lr30, hp.none⟩
/-! 8 postilion/postilionlaw08.awake -/
noncomputable def postilionlaw08_awake.o1 : Array Oper := opsC (at_ (fbody Try.f8) [0])
noncomputable def postilionlaw08_awake.o2 : Array Oper := opsC (at_ (fbody Try.f8) [1, 0])
noncomputable def postilionlaw08_awake.o3 : Array Oper := opsC (at_ (fbody Try.f8) [1, 1, 0])
theorem postilionlaw08_awake_ok (k : Nat)  (w0 : World) (hp : Hp w0 [] w0 [] []) {r : Bool} (h : postilionlaw08_awake.f k  = some r) :
    Calls Try.prog 8 [].toArray w0 fun x w' => ∃ v, x = .returned v ∧ v = .bool r ∧ Hp w0 [] w' [] [] := by
  refine calls_inP Try.func8 rfl (Nat.le_of_ble_eq_true (by kernel_rfl)) (by kernel_rfl) ?_
  intro e0 qe0
  clear qe0
  unfold postilionlaw08_awake.f at h
  refine wseqP (p0 := [0]) (p1 := [1]) rfl rfl rfl ?_
  refine wregionT postilionlaw08_awake.o1 (.tp 0 (.done)) [] rfl rfl (by kernel_rfl) (by kernel_rfl) ?_
  refine k_assign (v := .bool false) rfl rfl ?_
  refine k_end ?_; intro e141 qe141
  clear qe141
  refine wseqP (p0 := [1, 0]) (p1 := [1, 1]) rfl rfl rfl ?_
  refine wregionT postilionlaw08_awake.o2 (.tp 0 (.ef 1 (.ef 2 (.ef 3 (.done))))) [3] rfl rfl (by kernel_rfl) (by kernel_rfl) ?_
  refine k_build (v := .agg (ints .u8 ((List.replicate 32 (0 : Int)).set 0 1)).toArray) rfl (fun _ => by kernel_rfl) ?_
  obtain ⟨r1, qr1, h⟩ := bd_e h
  refine k_call [.agg (ints .u8 ((List.replicate 32 (0 : Int)).set 0 1)).toArray] rfl (by kernel_rfl) (args1 rfl) (xdh_Public_ok k ((List.replicate 32 (0 : Int)).set 0 1) (List.length_set.trans List.length_replicate) _ (hp.toR (fun _ h => by cases h)) qr1) ?_
  rintro _ w' ⟨_, rfl, rfl, lr10, hpc⟩
  refine ⟨_, rfl, .inr (.of_below hpc.chg.to_below), ?_⟩; have hp := hp.below hpc.chg.to_below; clear hpc
  refine k_alloc (ints .u8 (List.replicate 32 (0 : Int))) rfl (by kernel_rfl) hp ?_
  intro g2 w hbg2 hp
  refine k_storeA (v := .agg (ints .u8 r1).toArray) 0 0 (r := ⟨g2, 0, ints .u8 (List.replicate 32 (0 : Int))⟩) (ints .u8 r1) (ints .u8 r1) rfl (n := 32) (by kernel_rfl) rfl rfl rfl ((ints_length _ _).trans lr10) (ints_one _ _) hp rfl rfl rfl (Nat.le_of_eq ((Nat.zero_add _).trans ((ints_length _ _).trans List.length_replicate).symm)) (setMany_all _ _ (((ints_length _ _).trans lr10).trans ((ints_length _ _).trans List.length_replicate).symm)) (by decide) ?_; intro w hp
  refine k_end ?_; intro e142 qe142
  have s1_e142 : e142 1 = .pointer (some ⟨g2, 0, none⟩) := congrFun qe142 1
  clear qe142
  refine wseqP (p0 := [1, 1, 0]) (p1 := [1, 1, 1]) rfl rfl rfl ?_
  refine wregionT postilionlaw08_awake.o3 (.tk 0 (.tp 1 (.tp 2 (.tp 3 (.done))))) [] rfl rfl (by kernel_rfl) (by kernel_rfl) ?_
  refine k_loadA (n := 32) (xs := ints .u8 r1) 0 rfl (by kernel_rfl) (by kernel_rfl) s1_e142 (hp.get (j := 0) rfl) rfl rfl ((ints_length _ _).trans lr10) (fun m v hm => by rw [Nat.zero_add]; exact hm) ?_
  refine k_build (v := .agg (ints .u8 (List.replicate 32 (0 : Int))).toArray) rfl (fun _ => by kernel_rfl) ?_
  refine k_neI (k := .u8) (l := r1) (l' := (List.replicate 32 (0 : Int))) rfl Try.underlying22 Try.underlying5 (by kernel_rfl) (by kernel_rfl) rfl rfl lr10 List.length_replicate ?_
  refine k_assign (v := .bool (!(r1 == (List.replicate 32 (0 : Int))))) rfl rfl ?_
  refine k_end ?_; intro e143 qe143
  have s0_e143 : e143 0 = .bool (!(r1 == (List.replicate 32 (0 : Int)))) := congrFun qe143 0
  clear qe143
  refine wret rfl ?_
  have hr : r = (!(r1 == (List.replicate 32 (0 : Int)))) := (Option.some.inj h).symm
  show RetP _ _ _ _ _
  rw [hr]
  exact ret_i [.bool (!(r1 == (List.replicate 32 (0 : Int))))] (res_tmp s0_e143 res_nil) ⟨rfl, hp.none⟩
/-! 3 postilion/postilionlaw08.XdhThree -/
noncomputable def postilionlaw08_XdhThree.o1 : Array Oper := opsC (at_ (fbody Try.f3) [0])
noncomputable def postilionlaw08_XdhThree.o2 : Array Oper := opsC (at_ (fbody Try.f3) [1, 0, 0])
noncomputable def postilionlaw08_XdhThree.o3 : Array Oper := opsC (at_ (fbody Try.f3) [1, 0, 1, 0, 0])
noncomputable def postilionlaw08_XdhThree.o4 : Array Oper := opsC (at_ (fbody Try.f3) [1, 1, 0])
theorem postilionlaw08_XdhThree_ok (k : Nat) (a0 : List Int) (a1 : List Int) (a2 : List Int) (la0 : a0.length = 32) (la1 : a1.length = 32) (la2 : a2.length = 32) (w0 : World) (hp : Hp w0 [] w0 [] []) {r : Bool} (h : postilionlaw08_XdhThree.f k a0 a1 a2 = some r) :
    Calls Try.prog 3 [.agg (ints .u8 a0).toArray, .agg (ints .u8 a1).toArray, .agg (ints .u8 a2).toArray].toArray w0 fun x w' => ∃ v, x = .returned v ∧ v = .bool r ∧ Hp w0 [] w' [] [] := by
  refine calls_inP Try.func3 rfl (Nat.le_of_ble_eq_true (by kernel_rfl)) (by kernel_rfl) ?_
  intro e0 qe0
  have s0_e0 : e0 0 = .agg (ints .u8 a0).toArray := congrFun qe0 0
  have s1_e0 : e0 1 = .agg (ints .u8 a1).toArray := congrFun qe0 1
  have s2_e0 : e0 2 = .agg (ints .u8 a2).toArray := congrFun qe0 2
  clear qe0
  unfold postilionlaw08_XdhThree.f at h
  refine wseqP (p0 := [0]) (p1 := [1]) rfl rfl rfl ?_
  refine wregionT postilionlaw08_XdhThree.o1 (.ef 0 (.ef 1 (.ef 2 (.tp 3 (.done))))) [] rfl rfl (by kernel_rfl) (by kernel_rfl) ?_
  refine k_box (v := .agg (ints .u8 a0).toArray) (ints .u8 a0) rfl s0_e0 rfl hp ?_
  intro g1 w hbg1 hp
  refine k_box (v := .agg (ints .u8 a1).toArray) (ints .u8 a1) rfl s1_e0 rfl hp ?_
  intro g2 w hbg2 hp
  refine k_box (v := .agg (ints .u8 a2).toArray) (ints .u8 a2) rfl s2_e0 rfl hp ?_
  intro g3 w hbg3 hp
  refine k_assign (v := .bool false) rfl rfl ?_
  refine k_end ?_; intro e144 qe144
  have s3_e144 : e144 3 = .pointer (some ⟨g1, 0, none⟩) := congrFun qe144 3
  have s4_e144 : e144 4 = .pointer (some ⟨g2, 0, none⟩) := congrFun qe144 4
  have s5_e144 : e144 5 = .pointer (some ⟨g3, 0, none⟩) := congrFun qe144 5
  clear qe144
  refine wseqP (p0 := [1, 0]) (p1 := [1, 1]) rfl rfl rfl ?_
  refine wseqP (p0 := [1, 0, 0]) (p1 := [1, 0, 1]) rfl rfl rfl ?_
  refine wregionT postilionlaw08_XdhThree.o2 (.ef 0 (.tp 1 (.done))) [] rfl rfl (by kernel_rfl) (by kernel_rfl) ?_
  obtain ⟨r4, qr4, h⟩ := bd_e h
  refine k_call [] rfl (by kernel_rfl) (args0 ) (postilionlaw08_awake_ok k   _ (hp.toR (fun _ h => by cases h)) qr4) ?_
  rintro _ w' ⟨_, rfl, rfl, hpc⟩
  refine ⟨_, rfl, .inr (.of_below hpc.chg.to_below), ?_⟩; have hp := hp.below hpc.chg.to_below; clear hpc
  refine k_not (b := r4) rfl rfl ?_
  refine k_end ?_; intro e145 qe145
  have s3_e145 : e145 3 = .pointer (some ⟨g1, 0, none⟩) := (congrFun qe145 3).trans s3_e144
  have s4_e145 : e145 4 = .pointer (some ⟨g2, 0, none⟩) := (congrFun qe145 4).trans s4_e144
  have s5_e145 : e145 5 = .pointer (some ⟨g3, 0, none⟩) := (congrFun qe145 5).trans s5_e144
  have s8_e145 : e145 8 = .bool (!r4) := congrFun qe145 8
  clear qe145
  refine wcondP (p0 := [1, 0, 1, 0]) (p1 := [1, 0, 1, 1]) (t := (!r4)) rfl rfl rfl (by decide) s8_e145 (fun hb => ?_) (fun hb => ?_)
  · replace h := br_t hb h
    refine wseqP (p0 := [1, 0, 1, 0, 0]) (p1 := [1, 0, 1, 0, 1]) rfl rfl rfl ?_
    refine wregionT postilionlaw08_XdhThree.o3 (.tp 0 (.done)) [] rfl rfl (by kernel_rfl) (by kernel_rfl) ?_
    refine k_assign (v := .bool false) rfl rfl ?_
    refine k_end ?_; intro e146 qe146
    have s6_e146 : e146 6 = .bool false := congrFun qe146 6
    clear qe146
    refine wret rfl ?_
    have hr : r = false := (Option.some.inj h).symm
    show RetP _ _ _ _ _
    rw [hr]
    exact ret_i [.bool false] (res_tmp s6_e146 res_nil) ⟨rfl, hp.none⟩
  · replace h := br_f hb h
    refine wskip rfl ?_
    refine wseqP (p0 := [1, 1, 0]) (p1 := [1, 1, 1]) rfl rfl rfl ?_
    refine wregionM postilionlaw08_XdhThree.o4 (.tk 0 (.tk 1 (.tk 2 (.tk 5 (.tk 6 (.tk 7 (.ef 3 (.ef 4 (.ef 8 (.ef 9 (.tp 10 (.tp 11 (.done))))))))))))) [] [(0, 0, 0), (0, 0, 0), (0, 0, 0), (6, 4095, 4095), (9, 4095, 4095), (0, 0, 0), (0, 0, 0), (0, 0, 0), (208, 4095, 4095), (288, 4095, 4095), (528, 528, 4095), (2047, 1024, 4095)] rfl rfl (by kernel_rfl) (by kernel_rfl) (Nat.le_of_ble_eq_true (by kernel_rfl)) (by kernel_rfl) (by kernel_rfl) (by kernel_rfl) ?_
    have hp := hp.drew
    refine k_loadA (n := 32) (xs := ints .u8 a0) 0 rfl (by kernel_rfl) (by kernel_rfl) s3_e145 (hp.get (j := 0) rfl) rfl rfl ((ints_length _ _).trans la0) (fun m v hm => by rw [Nat.zero_add]; exact hm) ?_
    refine k_loadA (n := 32) (xs := ints .u8 a1) 0 rfl (by kernel_rfl) (by kernel_rfl) s4_e145 (hp.get (j := 1) rfl) rfl rfl ((ints_length _ _).trans la1) (fun m v hm => by rw [Nat.zero_add]; exact hm) ?_
    refine k_loadA (n := 32) (xs := ints .u8 a2) 0 rfl (by kernel_rfl) (by kernel_rfl) s5_e145 (hp.get (j := 2) rfl) rfl rfl ((ints_length _ _).trans la2) (fun m v hm => by rw [Nat.zero_add]; exact hm) ?_
    refine k_loadA (n := 32) (xs := ints .u8 a1) 0 rfl (by kernel_rfl) (by kernel_rfl) s4_e145 (hp.get (j := 1) rfl) rfl rfl ((ints_length _ _).trans la1) (fun m v hm => by rw [Nat.zero_add]; exact hm) ?_
    refine k_loadA (n := 32) (xs := ints .u8 a0) 0 rfl (by kernel_rfl) (by kernel_rfl) s3_e145 (hp.get (j := 0) rfl) rfl rfl ((ints_length _ _).trans la0) (fun m v hm => by rw [Nat.zero_add]; exact hm) ?_
    refine k_loadA (n := 32) (xs := ints .u8 a2) 0 rfl (by kernel_rfl) (by kernel_rfl) s5_e145 (hp.get (j := 2) rfl) rfl rfl ((ints_length _ _).trans la2) (fun m v hm => by rw [Nat.zero_add]; exact hm) ?_
    obtain ⟨r5, qr5, h⟩ := bd_e h
    refine k_call [.agg (ints .u8 a1).toArray, .agg (ints .u8 a2).toArray] rfl (by kernel_rfl) (args2 rfl rfl) (xdh_Mul_ok k a1 a2 la1 la2 _ (hp.toR (fun _ h => by cases h)) qr5) ?_
    rintro _ w' ⟨_, rfl, rfl, lr50, hpc⟩
    refine ⟨_, rfl, .inr (.of_below hpc.chg.to_below), ?_⟩; have hp := hp.below hpc.chg.to_below; clear hpc
    obtain ⟨r6, qr6, h⟩ := bd_e h
    refine k_call [.agg (ints .u8 a0).toArray, .agg (ints .u8 r5).toArray] rfl (by kernel_rfl) (args2 rfl rfl) (xdh_Mul_ok k a0 r5 la0 lr50 _ (hp.toR (fun _ h => by cases h)) qr6) ?_
    rintro _ w' ⟨_, rfl, rfl, lr60, hpc⟩
    refine ⟨_, rfl, .inr (.of_below hpc.chg.to_below), ?_⟩; have hp := hp.below hpc.chg.to_below; clear hpc
    obtain ⟨r7, qr7, h⟩ := bd_e h
    refine k_call [.agg (ints .u8 a0).toArray, .agg (ints .u8 a2).toArray] rfl (by kernel_rfl) (args2 rfl rfl) (xdh_Mul_ok k a0 a2 la0 la2 _ (hp.toR (fun _ h => by cases h)) qr7) ?_
    rintro _ w' ⟨_, rfl, rfl, lr70, hpc⟩
    refine ⟨_, rfl, .inr (.of_below hpc.chg.to_below), ?_⟩; have hp := hp.below hpc.chg.to_below; clear hpc
    obtain ⟨r8, qr8, h⟩ := bd_e h
    refine k_call [.agg (ints .u8 a1).toArray, .agg (ints .u8 r7).toArray] rfl (by kernel_rfl) (args2 rfl rfl) (xdh_Mul_ok k a1 r7 la1 lr70 _ (hp.toR (fun _ h => by cases h)) qr8) ?_
    rintro _ w' ⟨_, rfl, rfl, lr80, hpc⟩
    refine ⟨_, rfl, .inr (.of_below hpc.chg.to_below), ?_⟩; have hp := hp.below hpc.chg.to_below; clear hpc
    refine k_eqI (k := .u8) (l := r6) (l' := r8) rfl Try.underlying22 Try.underlying5 (by kernel_rfl) (by kernel_rfl) rfl rfl lr60 lr80 ?_
    refine k_assign (v := .bool (r6 == r8)) rfl rfl ?_
    refine k_end ?_; intro e147 qe147
    have s6_e147 : e147 6 = .bool (r6 == r8) := congrFun qe147 6
    clear qe147
    refine wret rfl ?_
    have hr : r = (r6 == r8) := (Option.some.inj h).symm
    show RetP _ _ _ _ _
    rw [hr]
    exact ret_i [.bool (r6 == r8)] (res_tmp s6_e147 res_nil) ⟨rfl, hp.none⟩
/-! 29 postilion/postilionref04.From -/
noncomputable def postilionref04_From.o1 : Array Oper := opsC (at_ (fbody Try.f29) [0])
noncomputable def postilionref04_From.o2 : Array Oper := opsC (at_ (fbody Try.f29) [1, 0])
noncomputable def postilionref04_From.o3 : Array Oper := opsC (at_ (fbody Try.f29) [1, 1, 0, 0])
noncomputable def postilionref04_From.o4 : Array Oper := opsC (at_ (fbody Try.f29) [1, 1, 0, 1, 0, 0, 0])
noncomputable def postilionref04_From.o5 : Array Oper := opsC (at_ (fbody Try.f29) [1, 1, 0, 1, 0, 0, 1, 1, 0, 0, 0])
noncomputable def postilionref04_From.o6 : Array Oper := opsC (at_ (fbody Try.f29) [1, 1, 0, 1, 0, 0, 1, 1, 0, 0, 1])
noncomputable def postilionref04_From.o7 : Array Oper := opsC (at_ (fbody Try.f29) [1, 1, 0, 1, 0, 0, 1, 1, 1])
noncomputable def postilionref04_From.o8 : Array Oper := opsC (at_ (fbody Try.f29) [1, 1, 1, 0])
theorem postilionref04_From.p1_ok {w0 : World} {Ws : List Wr} {Q : Exit → Env → World → Prop} (g1 g2 g3 : Nat) (a0 : List Int) (la0 : a0.length = 32) {r : List Int} (hQ0 : ∀ (e' : Env) (w' : World) (z0 : List Int), z0.length = 4 → e' 2 = .pointer (some ⟨g2, 0, none⟩) → e' 3 = .pointer (some ⟨g3, 0, none⟩) → Hp w0 Ws w' [⟨g1, 0, ints .u8 a0⟩, ⟨g2, 0, ints .u64 (List.replicate 4 (0 : Int))⟩, ⟨g3, 0, ints .u64 z0⟩] [] → r = (z0) → Q (.exit 0) e' w') : ∀ (k : Nat), ∀ (y4 : List Int) (y5 : Int) (e : Env) (w : World) (ly4 : y4.length = 4) (s1_e : e 1 = .pointer (some ⟨g1, 0, none⟩)) (s2_e : e 2 = .pointer (some ⟨g2, 0, none⟩)) (s3_e : e 3 = .pointer (some ⟨g3, 0, none⟩)) (s5_e : e 5 = .int .i64 y5) (hp : Hp w0 Ws w [⟨g1, 0, ints .u8 a0⟩, ⟨g2, 0, ints .u64 (List.replicate 4 (0 : Int))⟩, ⟨g3, 0, ints .u64 y4⟩] []) (h : postilionref04_From.p1 k a0 y4 y5 = some r), Lp Try.prog Try.f29.ntmps (at_ (fbody Try.f29) [1, 1, 0, 1, 0, 0]) Q k e w := by
  intro k
  induction k with
  | zero => intro y4 y5 e w ly4 s1_e s2_e s3_e s5_e hp h; cases h
  | succ k ih =>
    intro y4 y5 e w ly4 s1_e s2_e s3_e s5_e hp h
    unfold postilionref04_From.p1 at h
    show Wp _ _ _ _ _ _
    refine wseqP (p0 := [1, 1, 0, 1, 0, 0, 0]) (p1 := [1, 1, 0, 1, 0, 0, 1]) rfl rfl rfl ?_
    refine wregionT postilionref04_From.o4 (.tp 0 (.done)) [] rfl rfl (by kernel_rfl) (by kernel_rfl) ?_
    refine k_bin (X := .int .i64 y5) (Y := .int .i64 32) rfl s5_e rfl rfl ?_
    refine k_end ?_; intro e151 qe151
    have s1_e151 : e151 1 = .pointer (some ⟨g1, 0, none⟩) := (congrFun qe151 1).trans s1_e
    have s2_e151 : e151 2 = .pointer (some ⟨g2, 0, none⟩) := (congrFun qe151 2).trans s2_e
    have s3_e151 : e151 3 = .pointer (some ⟨g3, 0, none⟩) := (congrFun qe151 3).trans s3_e
    have s5_e151 : e151 5 = .int .i64 y5 := (congrFun qe151 5).trans s5_e
    have s6_e151 : e151 6 = .bool (decide (y5 < 32)) := congrFun qe151 6
    clear qe151
    refine wseqP (p0 := [1, 1, 0, 1, 0, 0, 1, 0]) (p1 := [1, 1, 0, 1, 0, 0, 1, 1]) rfl rfl rfl ?_
    refine wcondP (p0 := [1, 1, 0, 1, 0, 0, 1, 0, 0]) (p1 := [1, 1, 0, 1, 0, 0, 1, 0, 1]) (t := (decide (y5 < 32))) rfl rfl rfl (by decide) s6_e151 (fun hb => ?_) (fun hb => ?_)
    · replace h := br_t hb h
      refine wskip rfl ?_
      refine wseqP (p0 := [1, 1, 0, 1, 0, 0, 1, 1, 0]) (p1 := [1, 1, 0, 1, 0, 0, 1, 1, 1]) rfl rfl rfl ?_
      refine wblockP (p0 := [1, 1, 0, 1, 0, 0, 1, 1, 0, 0]) 1 rfl rfl ?_
      refine wseqP (p0 := [1, 1, 0, 1, 0, 0, 1, 1, 0, 0, 0]) (p1 := [1, 1, 0, 1, 0, 0, 1, 1, 0, 0, 1]) rfl rfl rfl ?_
      refine wregionT postilionref04_From.o5 (.tp 0 (.tp 1 (.done))) [] rfl rfl (by kernel_rfl) (by kernel_rfl) ?_
      refine k_move (v := .int .i64 y5) rfl s5_e151 ?_
      refine k_assign (v := .int .i64 y5) rfl rfl ?_
      refine k_end ?_; intro e152 qe152
      have s1_e152 : e152 1 = .pointer (some ⟨g1, 0, none⟩) := (congrFun qe152 1).trans s1_e151
      have s2_e152 : e152 2 = .pointer (some ⟨g2, 0, none⟩) := (congrFun qe152 2).trans s2_e151
      have s3_e152 : e152 3 = .pointer (some ⟨g3, 0, none⟩) := (congrFun qe152 3).trans s3_e151
      have s4_e152 : e152 4 = .int .i64 y5 := congrFun qe152 4
      have s5_e152 : e152 5 = .int .i64 y5 := (congrFun qe152 5).trans s5_e151
      clear qe152
      refine wregionM postilionref04_From.o6 (.tp 0 (.tp 1 (.tp 2 (.tp 3 (.tp 4 (.tk 5 (.tp 6 (.tp 7 (.tk 8 (.tp 9 (.tp 10 (.tp 11 (.tp 12 (.tp 13 (.tp 14 (.tp 15 (.tp 16 (.ef 17 (.done))))))))))))))))))) [17] [(0, 0, 262143), (1, 1, 262143), (0, 0, 262143), (4, 4, 262143), (8, 8, 262143), (16, 16, 0), (0, 0, 262143), (64, 64, 262143), (128, 128, 0), (256, 256, 262143), (0, 0, 262143), (1024, 1024, 262143), (2048, 2048, 262143), (4096, 4096, 262143), (8704, 8704, 262143), (16416, 16416, 262143), (65535, 2, 262143), (131071, 262143, 262143)] rfl rfl (by kernel_rfl) (by kernel_rfl) (Nat.le_of_ble_eq_true (by kernel_rfl)) (by kernel_rfl) (by kernel_rfl) (by kernel_rfl) ?_
      have hp := hp.drew
      refine k_move (v := .int .i64 y5) rfl s4_e152 ?_
      refine k_quo (a := y5) (b := 8) rfl rfl rfl (by decide) ?_
      refine k_move (v := .int .i64 y5) rfl s4_e152 ?_
      refine k_quo (a := y5) (b := 8) rfl rfl rfl (by decide) ?_
      obtain ⟨c6, h⟩ := chk_e h
      refine k_indexA (n := 4) (s := 1) (j := (IntKind.i64.wrap (Int.tdiv y5 8))) rfl Try.underlying48 (by kernel_rfl) s3_e152 rfl c6 ?_
      refine k_load (j := ((IntKind.i64.wrap (Int.tdiv y5 8)) : Int).toNat) (v := .int .u64 (y4.getD ((IntKind.i64.wrap (Int.tdiv y5 8)) : Int).toNat 0)) rfl (by kernel_rfl) rfl (hp.get (j := 2) rfl) rfl (show 0 + ((IntKind.i64.wrap (Int.tdiv y5 8)) : Int).toNat * 1 = 0 + ((IntKind.i64.wrap (Int.tdiv y5 8)) : Int).toNat by omega) (ints_get (idx_lt c6 ly4)) ?_
      refine k_move (v := .int .i64 y5) rfl s4_e152 ?_
      obtain ⟨c7, h⟩ := chk_e h
      refine k_indexA (n := 32) (s := 1) (j := y5) rfl Try.underlying22 (by kernel_rfl) s1_e152 rfl c7 ?_
      refine k_load (j := (y5 : Int).toNat) (v := .int .u8 (a0.getD (y5 : Int).toNat 0)) rfl (by kernel_rfl) rfl (hp.get (j := 0) rfl) rfl (show 0 + (y5 : Int).toNat * 1 = 0 + (y5 : Int).toNat by omega) (ints_get (idx_lt c7 la0)) ?_
      refine k_conv (k := .u64) (k' := .u8) (n := (a0.getD (y5 : Int).toNat 0)) rfl Try.underlying5 Try.underlying34 rfl ?_
      refine k_move (v := .int .i64 y5) rfl s4_e152 ?_
      refine k_rem (a := y5) (b := 8) rfl rfl rfl (by decide) ?_
      refine k_bin (X := .int .i64 8) (Y := .int .i64 (Int.tmod y5 8)) rfl rfl rfl rfl ?_
      refine k_conv (k := .u64) (k' := .i64) (n := (IntKind.i64.wrap (8 * (Int.tmod y5 8)))) rfl Try.underlying3 Try.underlying41 rfl ?_
      obtain ⟨c8, h⟩ := chk_e h
      refine k_shl (a := (IntKind.u64.wrap (a0.getD (y5 : Int).toNat 0))) (b := (IntKind.u64.wrap (IntKind.i64.wrap (8 * (Int.tmod y5 8))))) rfl rfl rfl c8 ?_
      refine k_bin (X := .int .u64 (y4.getD ((IntKind.i64.wrap (Int.tdiv y5 8)) : Int).toNat 0)) (Y := .int .u64 (IntKind.u64.wrap ((IntKind.u64.wrap (a0.getD (y5 : Int).toNat 0)) * 2 ^ (min ((IntKind.u64.wrap (IntKind.i64.wrap (8 * (Int.tmod y5 8)))) : Int).toNat (IntKind.u64).bits)))) rfl rfl rfl rfl ?_
      refine k_indexA (n := 4) (s := 1) (j := (IntKind.i64.wrap (Int.tdiv y5 8))) rfl Try.underlying48 (by kernel_rfl) s3_e152 rfl c6 ?_
      refine k_store (v := .int .u64 (bits .or .u64 (y4.getD ((IntKind.i64.wrap (Int.tdiv y5 8)) : Int).toNat 0) (IntKind.u64.wrap ((IntKind.u64.wrap (a0.getD (y5 : Int).toNat 0)) * 2 ^ (min ((IntKind.u64.wrap (IntKind.i64.wrap (8 * (Int.tmod y5 8)))) : Int).toNat (IntKind.u64).bits))))) 2 ((IntKind.i64.wrap (Int.tdiv y5 8)) : Int).toNat (r := ⟨g3, 0, ints .u64 y4⟩) rfl (by kernel_rfl) rfl rfl rfl hp rfl rfl (show 0 + ((IntKind.i64.wrap (Int.tdiv y5 8)) : Int).toNat * 1 = 0 + ((IntKind.i64.wrap (Int.tdiv y5 8)) : Int).toNat by omega) (Nat.lt_of_lt_of_eq (idx_lt c6 ly4) (ints_length _ _).symm) (by decide) ?_; intro w hp; rw [ints_set] at hp
      refine k_end ?_; intro e153 qe153
      have s1_e153 : e153 1 = .pointer (some ⟨g1, 0, none⟩) := (congrFun qe153 1).trans s1_e152
      have s2_e153 : e153 2 = .pointer (some ⟨g2, 0, none⟩) := (congrFun qe153 2).trans s2_e152
      have s3_e153 : e153 3 = .pointer (some ⟨g3, 0, none⟩) := (congrFun qe153 3).trans s3_e152
      have s5_e153 : e153 5 = .int .i64 y5 := (congrFun qe153 5).trans s5_e152
      clear qe153
      obtain ⟨x9, qx9, h⟩ := lt_e h
      have lx9 : x9.length = 4 := (congrArg List.length qx9).trans (List.length_set.trans ly4)
      have hp : Hp w0 Ws w [⟨g1, 0, ints .u8 a0⟩, ⟨g2, 0, ints .u64 (List.replicate 4 (0 : Int))⟩, ⟨g3, 0, ints .u64 x9⟩] [] := by rw [qx9]; exact hp
      refine wregionT postilionref04_From.o7 (.tp 0 (.tp 1 (.done))) [] rfl rfl (by kernel_rfl) (by kernel_rfl) ?_
      refine k_bin (X := .int .i64 y5) (Y := .int .i64 1) rfl s5_e153 rfl rfl ?_
      refine k_move (v := .int .i64 (IntKind.i64.wrap (y5 + 1))) rfl rfl ?_
      refine k_end ?_; intro e154 qe154
      have s1_e154 : e154 1 = .pointer (some ⟨g1, 0, none⟩) := (congrFun qe154 1).trans s1_e153
      have s2_e154 : e154 2 = .pointer (some ⟨g2, 0, none⟩) := (congrFun qe154 2).trans s2_e153
      have s3_e154 : e154 3 = .pointer (some ⟨g3, 0, none⟩) := (congrFun qe154 3).trans s3_e153
      obtain ⟨x10, qx10, h⟩ := lt_e h
      have s5_e154 : e154 5 = .int .i64 x10 := (congrFun qe154 5).trans (congrArg (Value.int .i64) qx10.symm)
      clear qe154
      exact ih x9 x10 _ _ lx9 s1_e154 s2_e154 s3_e154 s5_e154 (hp.drop (L' := [⟨g1, 0, ints .u8 a0⟩, ⟨g2, 0, ints .u64 (List.replicate 4 (0 : Int))⟩, ⟨g3, 0, ints .u64 x9⟩]) (List.Sublist.refl _)) h
    · replace h := br_f hb h
      refine wexit rfl ?_
      exact hQ0 _ _ y4 ly4 s2_e151 s3_e151 (hp.drop (L' := [⟨g1, 0, ints .u8 a0⟩, ⟨g2, 0, ints .u64 (List.replicate 4 (0 : Int))⟩, ⟨g3, 0, ints .u64 y4⟩]) (List.Sublist.refl _)) (Option.some.inj h).symm
theorem postilionref04_From_ok (k : Nat) (a0 : List Int) (la0 : a0.length = 32) (w0 : World) (hp : Hp w0 [] w0 [] []) {r : List Int} (h : postilionref04_From.f k a0 = some r) :
    Calls Try.prog 29 [.agg (ints .u8 a0).toArray].toArray w0 fun x w' => ∃ v, x = .returned v ∧ v = .agg (ints .u64 r).toArray ∧ r.length = 4 ∧ Hp w0 [] w' [] [] := by
  refine calls_inP Try.func29 rfl (Nat.le_of_ble_eq_true (by kernel_rfl)) (by kernel_rfl) ?_
  intro e0 qe0
  have s0_e0 : e0 0 = .agg (ints .u8 a0).toArray := congrFun qe0 0
  clear qe0
  unfold postilionref04_From.f at h
  refine wseqP (p0 := [0]) (p1 := [1]) rfl rfl rfl ?_
  refine wregionT postilionref04_From.o1 (.ef 0 (.ef 1 (.done))) [] rfl rfl (by kernel_rfl) (by kernel_rfl) ?_
  refine k_box (v := .agg (ints .u8 a0).toArray) (ints .u8 a0) rfl s0_e0 rfl hp ?_
  intro g1 w hbg1 hp
  refine k_alloc (ints .u64 (List.replicate 4 (0 : Int))) rfl (by kernel_rfl) hp ?_
  intro g2 w hbg2 hp
  refine k_end ?_; intro e148 qe148
  have s1_e148 : e148 1 = .pointer (some ⟨g1, 0, none⟩) := congrFun qe148 1
  have s2_e148 : e148 2 = .pointer (some ⟨g2, 0, none⟩) := congrFun qe148 2
  clear qe148
  refine wseqP (p0 := [1, 0]) (p1 := [1, 1]) rfl rfl rfl ?_
  refine wregionT postilionref04_From.o2 (.ef 0 (.done)) [] rfl rfl (by kernel_rfl) (by kernel_rfl) ?_
  refine k_alloc (ints .u64 (List.replicate 4 (0 : Int))) rfl (by kernel_rfl) hp ?_
  intro g3 w hbg3 hp
  refine k_end ?_; intro e149 qe149
  have s1_e149 : e149 1 = .pointer (some ⟨g1, 0, none⟩) := (congrFun qe149 1).trans s1_e148
  have s2_e149 : e149 2 = .pointer (some ⟨g2, 0, none⟩) := (congrFun qe149 2).trans s2_e148
  have s3_e149 : e149 3 = .pointer (some ⟨g3, 0, none⟩) := congrFun qe149 3
  clear qe149
  refine wseqP (p0 := [1, 1, 0]) (p1 := [1, 1, 1]) rfl rfl rfl ?_
  refine wseqP (p0 := [1, 1, 0, 0]) (p1 := [1, 1, 0, 1]) rfl rfl rfl ?_
  refine wregionT postilionref04_From.o3 (.tp 0 (.done)) [] rfl rfl (by kernel_rfl) (by kernel_rfl) ?_
  refine k_move (v := .int .i64 0) rfl rfl ?_
  refine k_end ?_; intro e150 qe150
  have s1_e150 : e150 1 = .pointer (some ⟨g1, 0, none⟩) := (congrFun qe150 1).trans s1_e149
  have s2_e150 : e150 2 = .pointer (some ⟨g2, 0, none⟩) := (congrFun qe150 2).trans s2_e149
  have s3_e150 : e150 3 = .pointer (some ⟨g3, 0, none⟩) := (congrFun qe150 3).trans s3_e149
  have s5_e150 : e150 5 = .int .i64 0 := congrFun qe150 5
  clear qe150
  refine wblockP (p0 := [1, 1, 0, 1, 0]) 0 rfl rfl ?_
  obtain ⟨r11, qr11, h⟩ := bd_e h
  refine wloopP (p0 := [1, 1, 0, 1, 0, 0]) k rfl rfl (postilionref04_From.p1_ok g1 g2 g3 a0 la0 ?hq0 k (List.replicate 4 (0 : Int)) 0 e150 _ List.length_replicate s1_e150 s2_e150 s3_e150 s5_e150 hp qr11)
  case hq0 =>
    intro e155 w m12 lm12 s2_e155 s3_e155 hp qq
    rw [qq] at h; clear qq
    refine wseqP (p0 := [1, 1, 1, 0]) (p1 := [1, 1, 1, 1]) rfl rfl rfl ?_
    refine wregionT postilionref04_From.o8 (.tk 0 (.ef 1 (.done))) [1] rfl rfl (by kernel_rfl) (by kernel_rfl) ?_
    refine k_loadA (n := 4) (xs := ints .u64 m12) 0 rfl (by kernel_rfl) (by kernel_rfl) s3_e155 (hp.get (j := 2) rfl) rfl rfl ((ints_length _ _).trans lm12) (fun m v hm => by rw [Nat.zero_add]; exact hm) ?_
    refine k_storeA (v := .agg (ints .u64 m12).toArray) 1 0 (r := ⟨g2, 0, ints .u64 (List.replicate 4 (0 : Int))⟩) (ints .u64 m12) (ints .u64 m12) rfl (n := 4) (by kernel_rfl) s2_e155 rfl rfl ((ints_length _ _).trans lm12) (ints_one _ _) hp rfl rfl rfl (Nat.le_of_eq ((Nat.zero_add _).trans ((ints_length _ _).trans List.length_replicate).symm)) (setMany_all _ _ (((ints_length _ _).trans lm12).trans ((ints_length _ _).trans List.length_replicate).symm)) (by decide) ?_; intro w hp
    refine k_end ?_; intro e156 qe156
    have s2_e156 : e156 2 = .pointer (some ⟨g2, 0, none⟩) := (congrFun qe156 2).trans s2_e155
    clear qe156
    refine wret rfl ?_
    have hr : r = m12 := (Option.some.inj h).symm
    show RetP _ _ _ _ _
    rw [hr]
    exact ret_i [.agg (ints .u64 m12).toArray] (res_cell s2_e156 (loadVar_agg (by kernel_rfl) (by kernel_rfl) ((ints_length _ _).trans lm12) (hp.get (j := 1) rfl) rfl rfl rfl) res_nil) ⟨rfl, lm12, hp.none⟩
/-! 44 postilion/postilionref04.fold -/
noncomputable def postilionref04_fold.o1 : Array Oper := opsC (at_ (fbody Try.f44) [0])
noncomputable def postilionref04_fold.o2 : Array Oper := opsC (at_ (fbody Try.f44) [1, 0, 0, 0, 0, 0])
noncomputable def postilionref04_fold.o3 : Array Oper := opsC (at_ (fbody Try.f44) [1, 0, 0, 0, 1, 0, 0])
noncomputable def postilionref04_fold.o4 : Array Oper := opsC (at_ (fbody Try.f44) [1, 0, 0, 0, 1, 0, 1, 0])
noncomputable def postilionref04_fold.o5 : Array Oper := opsC (at_ (fbody Try.f44) [1, 0, 0, 0, 1, 0, 1, 1, 0])
noncomputable def postilionref04_fold.o6 : Array Oper := opsC (at_ (fbody Try.f44) [1, 0, 0, 0, 1, 0, 1, 1, 1, 0])
noncomputable def postilionref04_fold.o7 : Array Oper := opsC (at_ (fbody Try.f44) [1, 0, 0, 0, 1, 0, 1, 1, 1, 1, 0])
noncomputable def postilionref04_fold.o8 : Array Oper := opsC (at_ (fbody Try.f44) [1, 0, 0, 0, 1, 0, 1, 1, 1, 1, 1])
noncomputable def postilionref04_fold.o9 : Array Oper := opsC (at_ (fbody Try.f44) [1, 1, 0])
set_option maxHeartbeats 4000000 in
theorem postilionref04_fold.p1_ok {w0 : World} {Ws : List Wr} {Q : Exit → Env → World → Prop} (g1 g2 : Nat)   {r : List Int} (hQ0 : ∀ (e' : Env) (w' : World) (z0 : List Int), z0.length = 4 → e' 2 = .pointer (some ⟨g1, 0, none⟩) → e' 4 = .pointer (some ⟨g2, 0, none⟩) → Hp w0 Ws w' [⟨g1, 0, ints .u64 z0⟩, ⟨g2, 0, ints .u64 (List.replicate 4 (0 : Int))⟩] [] → r = (z0) → Q (.exit 0) e' w') : ∀ (k : Nat), ∀ (y3 : List Int) (y4 : Int) (e : Env) (w : World) (ly3 : y3.length = 4) (s1_e : e 1 = .int .u64 y4) (s2_e : e 2 = .pointer (some ⟨g1, 0, none⟩)) (s4_e : e 4 = .pointer (some ⟨g2, 0, none⟩)) (hp : Hp w0 Ws w [⟨g1, 0, ints .u64 y3⟩, ⟨g2, 0, ints .u64 (List.replicate 4 (0 : Int))⟩] []) (h : postilionref04_fold.p1 k y3 y4 = some r), Lp Try.prog Try.f44.ntmps (at_ (fbody Try.f44) [1, 0, 0, 0]) Q k e w := by
  intro k
  induction k with
  | zero => intro y3 y4 e w ly3 s1_e s2_e s4_e hp h; cases h
  | succ k ih =>
    intro y3 y4 e w ly3 s1_e s2_e s4_e hp h
    unfold postilionref04_fold.p1 at h
    show Wp _ _ _ _ _ _
    refine wseqP (p0 := [1, 0, 0, 0, 0]) (p1 := [1, 0, 0, 0, 1]) rfl rfl rfl ?_
    refine wseqP (p0 := [1, 0, 0, 0, 0, 0]) (p1 := [1, 0, 0, 0, 0, 1]) rfl rfl rfl ?_
    refine wregionT postilionref04_fold.o2 (.tp 0 (.tp 1 (.done))) [] rfl rfl (by kernel_rfl) (by kernel_rfl) ?_
    refine k_move (v := .int .u64 y4) rfl s1_e ?_
    refine k_bin (X := .int .u64 y4) (Y := .int .u64 0) rfl rfl rfl rfl ?_
    refine k_end ?_; intro e158 qe158
    have s1_e158 : e158 1 = .int .u64 y4 := (congrFun qe158 1).trans s1_e
    have s2_e158 : e158 2 = .pointer (some ⟨g1, 0, none⟩) := (congrFun qe158 2).trans s2_e
    have s4_e158 : e158 4 = .pointer (some ⟨g2, 0, none⟩) := (congrFun qe158 4).trans s4_e
    have s9_e158 : e158 9 = .bool (y4 != 0) := congrFun qe158 9
    clear qe158
    refine wcondP (p0 := [1, 0, 0, 0, 0, 1, 0]) (p1 := [1, 0, 0, 0, 0, 1, 1]) (t := (y4 != 0)) rfl rfl rfl (by decide) s9_e158 (fun hb => ?_) (fun hb => ?_)
    · replace h := br_t hb h
      refine wskip rfl ?_
      refine wblockP (p0 := [1, 0, 0, 0, 1, 0]) 1 rfl rfl ?_
      refine wseqP (p0 := [1, 0, 0, 0, 1, 0, 0]) (p1 := [1, 0, 0, 0, 1, 0, 1]) rfl rfl rfl ?_
      refine wregionT postilionref04_fold.o3 (.tp 0 (.ef 1 (.tp 2 (.tp 3 (.tp 4 (.tp 5 (.tp 6 (.done)))))))) [] rfl rfl (by kernel_rfl) (by kernel_rfl) ?_
      refine k_move (v := .int .u64 y4) rfl s1_e158 ?_
      obtain ⟨r5, qr5, h⟩ := bd_e h
      refine k_call [.int .u64 y4, .int .u64 38] rfl (by kernel_rfl) (args2 rfl rfl) (math_bits_Mul64_ok y4 38  _ (hp.toR (fun _ h => by cases h)) qr5) ?_
      rintro _ w' ⟨_, rfl, rfl, hpc⟩
      refine ⟨_, rfl, .inr (.of_below hpc.chg.to_below), ?_⟩; have hp := hp.below hpc.chg.to_below; clear hpc
      refine k_move (v := .tuple #[.int .u64 r5.1, .int .u64 r5.2]) rfl rfl ?_
      refine k_extract (v := .int .u64 r5.1) rfl rfl rfl ?_
      refine k_extract (v := .int .u64 r5.2) rfl rfl rfl ?_
      refine k_assign (v := .int .u64 r5.1) rfl rfl ?_
      refine k_assign (v := .int .u64 r5.2) rfl rfl ?_
      refine k_end ?_; intro e159 qe159
      have s2_e159 : e159 2 = .pointer (some ⟨g1, 0, none⟩) := (congrFun qe159 2).trans s2_e158
      have s4_e159 : e159 4 = .pointer (some ⟨g2, 0, none⟩) := (congrFun qe159 4).trans s4_e158
      obtain ⟨x6, qx6, h⟩ := lt_e h
      have s5_e159 : e159 5 = .int .u64 x6 := (congrFun qe159 5).trans (congrArg (Value.int .u64) qx6.symm)
      obtain ⟨x7, qx7, h⟩ := lt_e h
      have s6_e159 : e159 6 = .int .u64 x7 := (congrFun qe159 6).trans (congrArg (Value.int .u64) qx7.symm)
      clear qe159
      refine wseqP (p0 := [1, 0, 0, 0, 1, 0, 1, 0]) (p1 := [1, 0, 0, 0, 1, 0, 1, 1]) rfl rfl rfl ?_
      refine wregionT postilionref04_fold.o4 (.tp 0 (.done)) [] rfl rfl (by kernel_rfl) (by kernel_rfl) ?_
      refine k_assign (v := .int .u64 0) rfl rfl ?_
      refine k_end ?_; intro e160 qe160
      have s2_e160 : e160 2 = .pointer (some ⟨g1, 0, none⟩) := (congrFun qe160 2).trans s2_e159
      have s4_e160 : e160 4 = .pointer (some ⟨g2, 0, none⟩) := (congrFun qe160 4).trans s4_e159
      have s5_e160 : e160 5 = .int .u64 x6 := (congrFun qe160 5).trans s5_e159
      have s6_e160 : e160 6 = .int .u64 x7 := (congrFun qe160 6).trans s6_e159
      clear qe160
      refine wseqP (p0 := [1, 0, 0, 0, 1, 0, 1, 1, 0]) (p1 := [1, 0, 0, 0, 1, 0, 1, 1, 1]) rfl rfl rfl ?_
      refine wregionT postilionref04_fold.o5 (.tp 0 (.tk 1 (.tp 2 (.tp 3 (.tp 4 (.tp 5 (.tp 6 (.tp 7 (.ef 8 (.tp 9 (.done))))))))))) [8] rfl rfl (by kernel_rfl) (by kernel_rfl) ?_
      refine k_indexA (n := 4) (s := 1) (j := 0) rfl Try.underlying48 (by kernel_rfl) s2_e160 rfl (by decide) ?_
      refine k_load (j := 0) (v := .int .u64 (y3.getD 0 0)) rfl (by kernel_rfl) rfl (hp.get (j := 0) rfl) rfl rfl (ints_get (Nat.lt_of_lt_of_eq (m := 4) (by decide) (ly3).symm)) ?_
      refine k_move (v := .int .u64 x7) rfl s6_e160 ?_
      obtain ⟨c8, h⟩ := chk_e h
      refine k_ext [.int .u64 (y3.getD 0 0), .int .u64 x7, .int .u64 0] rfl ext43 (args3 rfl rfl rfl) (fun w' => run_add64 (y3.getD 0 0) x7 0 c8.1 c8.2.1 c8.2.2.1 c8.2.2.2 w') ?_
      refine k_move (v := .tuple #[.int .u64 (((y3.getD 0 0) + x7 + 0) % 18446744073709551616), .int .u64 (((y3.getD 0 0) + x7 + 0) / 18446744073709551616)]) rfl rfl ?_
      refine k_extract (v := .int .u64 (((y3.getD 0 0) + x7 + 0) % 18446744073709551616)) rfl rfl rfl ?_
      refine k_extract (v := .int .u64 (((y3.getD 0 0) + x7 + 0) / 18446744073709551616)) rfl rfl rfl ?_
      refine k_indexA (n := 4) (s := 1) (j := 0) rfl Try.underlying48 (by kernel_rfl) s2_e160 rfl (by decide) ?_
      refine k_store (v := .int .u64 (((y3.getD 0 0) + x7 + 0) % 18446744073709551616)) 0 0 (r := ⟨g1, 0, ints .u64 y3⟩) rfl (by kernel_rfl) rfl rfl rfl hp rfl rfl rfl (Nat.lt_of_lt_of_eq (Nat.lt_of_lt_of_eq (m := 4) (by decide) (ly3).symm) (ints_length _ _).symm) (by decide) ?_; intro w hp; rw [ints_set] at hp
      refine k_assign (v := .int .u64 (((y3.getD 0 0) + x7 + 0) / 18446744073709551616)) rfl rfl ?_
      refine k_end ?_; intro e161 qe161
      have s2_e161 : e161 2 = .pointer (some ⟨g1, 0, none⟩) := (congrFun qe161 2).trans s2_e160
      have s4_e161 : e161 4 = .pointer (some ⟨g2, 0, none⟩) := (congrFun qe161 4).trans s4_e160
      have s5_e161 : e161 5 = .int .u64 x6 := (congrFun qe161 5).trans s5_e160
      obtain ⟨x9, qx9, h⟩ := lt_e h
      have s7_e161 : e161 7 = .int .u64 x9 := (congrFun qe161 7).trans (congrArg (Value.int .u64) qx9.symm)
      clear qe161
      refine wseqP (p0 := [1, 0, 0, 0, 1, 0, 1, 1, 1, 0]) (p1 := [1, 0, 0, 0, 1, 0, 1, 1, 1, 1]) rfl rfl rfl ?_
      refine wregionT postilionref04_fold.o6 (.tp 0 (.tk 1 (.tp 2 (.tp 3 (.tp 4 (.tp 5 (.tp 6 (.tp 7 (.tp 8 (.ef 9 (.tp 10 (.done)))))))))))) [9] rfl rfl (by kernel_rfl) (by kernel_rfl) ?_
      refine k_indexA (n := 4) (s := 1) (j := 1) rfl Try.underlying48 (by kernel_rfl) s2_e161 rfl (by decide) ?_
      refine k_load (j := 1) (v := .int .u64 ((y3.set 0 (((y3.getD 0 0) + x7 + 0) % 18446744073709551616)).getD 1 0)) rfl (by kernel_rfl) rfl (hp.get (j := 0) rfl) rfl rfl (ints_get (Nat.lt_of_lt_of_eq (m := 4) (by decide) (List.length_set.trans ly3).symm)) ?_
      refine k_move (v := .int .u64 x6) rfl s5_e161 ?_
      refine k_move (v := .int .u64 x9) rfl s7_e161 ?_
      obtain ⟨c10, h⟩ := chk_e h
      refine k_ext [.int .u64 ((y3.set 0 (((y3.getD 0 0) + x7 + 0) % 18446744073709551616)).getD 1 0), .int .u64 x6, .int .u64 x9] rfl ext43 (args3 rfl rfl rfl) (fun w' => run_add64 ((y3.set 0 (((y3.getD 0 0) + x7 + 0) % 18446744073709551616)).getD 1 0) x6 x9 c10.1 c10.2.1 c10.2.2.1 c10.2.2.2 w') ?_
      refine k_move (v := .tuple #[.int .u64 ((((y3.set 0 (((y3.getD 0 0) + x7 + 0) % 18446744073709551616)).getD 1 0) + x6 + x9) % 18446744073709551616), .int .u64 ((((y3.set 0 (((y3.getD 0 0) + x7 + 0) % 18446744073709551616)).getD 1 0) + x6 + x9) / 18446744073709551616)]) rfl rfl ?_
      refine k_extract (v := .int .u64 ((((y3.set 0 (((y3.getD 0 0) + x7 + 0) % 18446744073709551616)).getD 1 0) + x6 + x9) % 18446744073709551616)) rfl rfl rfl ?_
      refine k_extract (v := .int .u64 ((((y3.set 0 (((y3.getD 0 0) + x7 + 0) % 18446744073709551616)).getD 1 0) + x6 + x9) / 18446744073709551616)) rfl rfl rfl ?_
      refine k_indexA (n := 4) (s := 1) (j := 1) rfl Try.underlying48 (by kernel_rfl) s2_e161 rfl (by decide) ?_
      refine k_store (v := .int .u64 ((((y3.set 0 (((y3.getD 0 0) + x7 + 0) % 18446744073709551616)).getD 1 0) + x6 + x9) % 18446744073709551616)) 0 1 (r := ⟨g1, 0, ints .u64 (y3.set 0 (((y3.getD 0 0) + x7 + 0) % 18446744073709551616))⟩) rfl (by kernel_rfl) rfl rfl rfl hp rfl rfl rfl (Nat.lt_of_lt_of_eq (Nat.lt_of_lt_of_eq (m := 4) (by decide) (List.length_set.trans ly3).symm) (ints_length _ _).symm) (by decide) ?_; intro w hp; rw [ints_set] at hp
      refine k_assign (v := .int .u64 ((((y3.set 0 (((y3.getD 0 0) + x7 + 0) % 18446744073709551616)).getD 1 0) + x6 + x9) / 18446744073709551616)) rfl rfl ?_
      refine k_end ?_; intro e162 qe162
      have s2_e162 : e162 2 = .pointer (some ⟨g1, 0, none⟩) := (congrFun qe162 2).trans s2_e161
      have s4_e162 : e162 4 = .pointer (some ⟨g2, 0, none⟩) := (congrFun qe162 4).trans s4_e161
      obtain ⟨x11, qx11, h⟩ := lt_e h
      have s7_e162 : e162 7 = .int .u64 x11 := (congrFun qe162 7).trans (congrArg (Value.int .u64) qx11.symm)
      clear qe162
      obtain ⟨x12, qx12, h⟩ := lt_e h
      have lx12 : x12.length = 4 := (congrArg List.length qx12).trans (List.length_set.trans (List.length_set.trans ly3))
      have hp : Hp w0 Ws w [⟨g1, 0, ints .u64 x12⟩, ⟨g2, 0, ints .u64 (List.replicate 4 (0 : Int))⟩] [] := by rw [qx12]; exact hp
      refine wseqP (p0 := [1, 0, 0, 0, 1, 0, 1, 1, 1, 1, 0]) (p1 := [1, 0, 0, 0, 1, 0, 1, 1, 1, 1, 1]) rfl rfl rfl ?_
      refine wregionT postilionref04_fold.o7 (.tp 0 (.tk 1 (.tp 2 (.tp 3 (.tp 4 (.tp 5 (.tp 6 (.tp 7 (.ef 8 (.tp 9 (.done))))))))))) [8] rfl rfl (by kernel_rfl) (by kernel_rfl) ?_
      refine k_indexA (n := 4) (s := 1) (j := 2) rfl Try.underlying48 (by kernel_rfl) s2_e162 rfl (by decide) ?_
      refine k_load (j := 2) (v := .int .u64 (x12.getD 2 0)) rfl (by kernel_rfl) rfl (hp.get (j := 0) rfl) rfl rfl (ints_get (Nat.lt_of_lt_of_eq (m := 4) (by decide) (lx12).symm)) ?_
      refine k_move (v := .int .u64 x11) rfl s7_e162 ?_
      obtain ⟨c13, h⟩ := chk_e h
      refine k_ext [.int .u64 (x12.getD 2 0), .int .u64 0, .int .u64 x11] rfl ext43 (args3 rfl rfl rfl) (fun w' => run_add64 (x12.getD 2 0) 0 x11 c13.1 c13.2.1 c13.2.2.1 c13.2.2.2 w') ?_
      refine k_move (v := .tuple #[.int .u64 (((x12.getD 2 0) + 0 + x11) % 18446744073709551616), .int .u64 (((x12.getD 2 0) + 0 + x11) / 18446744073709551616)]) rfl rfl ?_
      refine k_extract (v := .int .u64 (((x12.getD 2 0) + 0 + x11) % 18446744073709551616)) rfl rfl rfl ?_
      refine k_extract (v := .int .u64 (((x12.getD 2 0) + 0 + x11) / 18446744073709551616)) rfl rfl rfl ?_
      refine k_indexA (n := 4) (s := 1) (j := 2) rfl Try.underlying48 (by kernel_rfl) s2_e162 rfl (by decide) ?_
      refine k_store (v := .int .u64 (((x12.getD 2 0) + 0 + x11) % 18446744073709551616)) 0 2 (r := ⟨g1, 0, ints .u64 x12⟩) rfl (by kernel_rfl) rfl rfl rfl hp rfl rfl rfl (Nat.lt_of_lt_of_eq (Nat.lt_of_lt_of_eq (m := 4) (by decide) (lx12).symm) (ints_length _ _).symm) (by decide) ?_; intro w hp; rw [ints_set] at hp
      refine k_assign (v := .int .u64 (((x12.getD 2 0) + 0 + x11) / 18446744073709551616)) rfl rfl ?_
      refine k_end ?_; intro e163 qe163
      have s2_e163 : e163 2 = .pointer (some ⟨g1, 0, none⟩) := (congrFun qe163 2).trans s2_e162
      have s4_e163 : e163 4 = .pointer (some ⟨g2, 0, none⟩) := (congrFun qe163 4).trans s4_e162
      obtain ⟨x14, qx14, h⟩ := lt_e h
      have s7_e163 : e163 7 = .int .u64 x14 := (congrFun qe163 7).trans (congrArg (Value.int .u64) qx14.symm)
      clear qe163
      obtain ⟨x15, qx15, h⟩ := lt_e h
      have lx15 : x15.length = 4 := (congrArg List.length qx15).trans (List.length_set.trans lx12)
      have hp : Hp w0 Ws w [⟨g1, 0, ints .u64 x15⟩, ⟨g2, 0, ints .u64 (List.replicate 4 (0 : Int))⟩] [] := by rw [qx15]; exact hp
      refine wregionT postilionref04_fold.o8 (.tp 0 (.tk 1 (.tp 2 (.tp 3 (.tp 4 (.tp 5 (.tp 6 (.tp 7 (.ef 8 (.tp 9 (.done))))))))))) [8] rfl rfl (by kernel_rfl) (by kernel_rfl) ?_
      refine k_indexA (n := 4) (s := 1) (j := 3) rfl Try.underlying48 (by kernel_rfl) s2_e163 rfl (by decide) ?_
      refine k_load (j := 3) (v := .int .u64 (x15.getD 3 0)) rfl (by kernel_rfl) rfl (hp.get (j := 0) rfl) rfl rfl (ints_get (Nat.lt_of_lt_of_eq (m := 4) (by decide) (lx15).symm)) ?_
      refine k_move (v := .int .u64 x14) rfl s7_e163 ?_
      obtain ⟨c16, h⟩ := chk_e h
      refine k_ext [.int .u64 (x15.getD 3 0), .int .u64 0, .int .u64 x14] rfl ext43 (args3 rfl rfl rfl) (fun w' => run_add64 (x15.getD 3 0) 0 x14 c16.1 c16.2.1 c16.2.2.1 c16.2.2.2 w') ?_
      refine k_move (v := .tuple #[.int .u64 (((x15.getD 3 0) + 0 + x14) % 18446744073709551616), .int .u64 (((x15.getD 3 0) + 0 + x14) / 18446744073709551616)]) rfl rfl ?_
      refine k_extract (v := .int .u64 (((x15.getD 3 0) + 0 + x14) % 18446744073709551616)) rfl rfl rfl ?_
      refine k_extract (v := .int .u64 (((x15.getD 3 0) + 0 + x14) / 18446744073709551616)) rfl rfl rfl ?_
      refine k_indexA (n := 4) (s := 1) (j := 3) rfl Try.underlying48 (by kernel_rfl) s2_e163 rfl (by decide) ?_
      refine k_store (v := .int .u64 (((x15.getD 3 0) + 0 + x14) % 18446744073709551616)) 0 3 (r := ⟨g1, 0, ints .u64 x15⟩) rfl (by kernel_rfl) rfl rfl rfl hp rfl rfl rfl (Nat.lt_of_lt_of_eq (Nat.lt_of_lt_of_eq (m := 4) (by decide) (lx15).symm) (ints_length _ _).symm) (by decide) ?_; intro w hp; rw [ints_set] at hp
      refine k_assign (v := .int .u64 (((x15.getD 3 0) + 0 + x14) / 18446744073709551616)) rfl rfl ?_
      refine k_end ?_; intro e164 qe164
      obtain ⟨x17, qx17, h⟩ := lt_e h
      have s1_e164 : e164 1 = .int .u64 x17 := (congrFun qe164 1).trans (congrArg (Value.int .u64) qx17.symm)
      have s2_e164 : e164 2 = .pointer (some ⟨g1, 0, none⟩) := (congrFun qe164 2).trans s2_e163
      have s4_e164 : e164 4 = .pointer (some ⟨g2, 0, none⟩) := (congrFun qe164 4).trans s4_e163
      clear qe164
      obtain ⟨x18, qx18, h⟩ := lt_e h
      have lx18 : x18.length = 4 := (congrArg List.length qx18).trans (List.length_set.trans lx15)
      have hp : Hp w0 Ws w [⟨g1, 0, ints .u64 x18⟩, ⟨g2, 0, ints .u64 (List.replicate 4 (0 : Int))⟩] [] := by rw [qx18]; exact hp
      exact ih x18 x17 _ _ lx18 s1_e164 s2_e164 s4_e164 (hp.drop (L' := [⟨g1, 0, ints .u64 x18⟩, ⟨g2, 0, ints .u64 (List.replicate 4 (0 : Int))⟩]) (List.Sublist.refl _)) h
    · replace h := br_f hb h
      refine wexit rfl ?_
      exact hQ0 _ _ y3 ly3 s2_e158 s4_e158 (hp.drop (L' := [⟨g1, 0, ints .u64 y3⟩, ⟨g2, 0, ints .u64 (List.replicate 4 (0 : Int))⟩]) (List.Sublist.refl _)) (Option.some.inj h).symm
theorem postilionref04_fold_ok (k : Nat) (a0 : List Int) (a1 : Int) (la0 : a0.length = 4) (w0 : World) (hp : Hp w0 [] w0 [] []) {r : List Int} (h : postilionref04_fold.f k a0 a1 = some r) :
    Calls Try.prog 44 [.agg (ints .u64 a0).toArray, .int .u64 a1].toArray w0 fun x w' => ∃ v, x = .returned v ∧ v = .agg (ints .u64 r).toArray ∧ r.length = 4 ∧ Hp w0 [] w' [] [] := by
  refine calls_inP Try.func44 rfl (Nat.le_of_ble_eq_true (by kernel_rfl)) (by kernel_rfl) ?_
  intro e0 qe0
  have s0_e0 : e0 0 = .agg (ints .u64 a0).toArray := congrFun qe0 0
  have s1_e0 : e0 1 = .int .u64 a1 := congrFun qe0 1
  clear qe0
  unfold postilionref04_fold.f at h
  refine wseqP (p0 := [0]) (p1 := [1]) rfl rfl rfl ?_
  refine wregionT postilionref04_fold.o1 (.ef 0 (.ef 1 (.done))) [] rfl rfl (by kernel_rfl) (by kernel_rfl) ?_
  refine k_box (v := .agg (ints .u64 a0).toArray) (ints .u64 a0) rfl s0_e0 rfl hp ?_
  intro g1 w hbg1 hp
  refine k_alloc (ints .u64 (List.replicate 4 (0 : Int))) rfl (by kernel_rfl) hp ?_
  intro g2 w hbg2 hp
  refine k_end ?_; intro e157 qe157
  have s1_e157 : e157 1 = .int .u64 a1 := (congrFun qe157 1).trans s1_e0
  have s2_e157 : e157 2 = .pointer (some ⟨g1, 0, none⟩) := congrFun qe157 2
  have s4_e157 : e157 4 = .pointer (some ⟨g2, 0, none⟩) := congrFun qe157 4
  clear qe157
  refine wseqP (p0 := [1, 0]) (p1 := [1, 1]) rfl rfl rfl ?_
  refine wblockP (p0 := [1, 0, 0]) 0 rfl rfl ?_
  obtain ⟨r19, qr19, h⟩ := bd_e h
  refine wloopP (p0 := [1, 0, 0, 0]) k rfl rfl (postilionref04_fold.p1_ok g1 g2   ?hq0 k a0 a1 e157 _ la0 s1_e157 s2_e157 s4_e157 hp qr19)
  case hq0 =>
    intro e165 w m20 lm20 s2_e165 s4_e165 hp qq
    rw [qq] at h; clear qq
    refine wseqP (p0 := [1, 1, 0]) (p1 := [1, 1, 1]) rfl rfl rfl ?_
    refine wregionT postilionref04_fold.o9 (.tk 0 (.ef 1 (.done))) [1] rfl rfl (by kernel_rfl) (by kernel_rfl) ?_
    refine k_loadA (n := 4) (xs := ints .u64 m20) 0 rfl (by kernel_rfl) (by kernel_rfl) s2_e165 (hp.get (j := 0) rfl) rfl rfl ((ints_length _ _).trans lm20) (fun m v hm => by rw [Nat.zero_add]; exact hm) ?_
    refine k_storeA (v := .agg (ints .u64 m20).toArray) 1 0 (r := ⟨g2, 0, ints .u64 (List.replicate 4 (0 : Int))⟩) (ints .u64 m20) (ints .u64 m20) rfl (n := 4) (by kernel_rfl) s4_e165 rfl rfl ((ints_length _ _).trans lm20) (ints_one _ _) hp rfl rfl rfl (Nat.le_of_eq ((Nat.zero_add _).trans ((ints_length _ _).trans List.length_replicate).symm)) (setMany_all _ _ (((ints_length _ _).trans lm20).trans ((ints_length _ _).trans List.length_replicate).symm)) (by decide) ?_; intro w hp
    refine k_end ?_; intro e166 qe166
    have s4_e166 : e166 4 = .pointer (some ⟨g2, 0, none⟩) := (congrFun qe166 4).trans s4_e165
    clear qe166
    refine wret rfl ?_
    have hr : r = m20 := (Option.some.inj h).symm
    show RetP _ _ _ _ _
    rw [hr]
    exact ret_i [.agg (ints .u64 m20).toArray] (res_cell s4_e166 (loadVar_agg (by kernel_rfl) (by kernel_rfl) ((ints_length _ _).trans lm20) (hp.get (j := 1) rfl) rfl rfl rfl) res_nil) ⟨rfl, lm20, hp.none⟩
/-! 28 postilion/postilionref04.Plus -/
noncomputable def postilionref04_Plus.o1 : Array Oper := opsC (at_ (fbody Try.f28) [0])
noncomputable def postilionref04_Plus.o2 : Array Oper := opsC (at_ (fbody Try.f28) [1, 0])
noncomputable def postilionref04_Plus.o3 : Array Oper := opsC (at_ (fbody Try.f28) [1, 1, 0])
noncomputable def postilionref04_Plus.o4 : Array Oper := opsC (at_ (fbody Try.f28) [1, 1, 1, 0, 0])
noncomputable def postilionref04_Plus.o5 : Array Oper := opsC (at_ (fbody Try.f28) [1, 1, 1, 0, 1, 0, 0, 0])
noncomputable def postilionref04_Plus.o6 : Array Oper := opsC (at_ (fbody Try.f28) [1, 1, 1, 0, 1, 0, 0, 1, 1, 0, 0, 0])
noncomputable def postilionref04_Plus.o7 : Array Oper := opsC (at_ (fbody Try.f28) [1, 1, 1, 0, 1, 0, 0, 1, 1, 0, 0, 1])
noncomputable def postilionref04_Plus.o8 : Array Oper := opsC (at_ (fbody Try.f28) [1, 1, 1, 0, 1, 0, 0, 1, 1, 1])
noncomputable def postilionref04_Plus.o9 : Array Oper := opsC (at_ (fbody Try.f28) [1, 1, 1, 1, 0])
theorem postilionref04_Plus.p1_ok {w0 : World} {Ws : List Wr} {Q : Exit → Env → World → Prop} (g1 g2 g3 g4 : Nat) (a0 : List Int) (a1 : List Int) (la0 : a0.length = 4) (la1 : a1.length = 4) {r : Int × List Int} (hQ0 : ∀ (e' : Env) (w' : World) (z0 : Int) (z1 : List Int), z1.length = 4 → e' 4 = .pointer (some ⟨g3, 0, none⟩) → e' 5 = .pointer (some ⟨g4, 0, none⟩) → e' 6 = .int .u64 z0 → Hp w0 Ws w' [⟨g1, 0, ints .u64 a0⟩, ⟨g2, 0, ints .u64 a1⟩, ⟨g3, 0, ints .u64 (List.replicate 4 (0 : Int))⟩, ⟨g4, 0, ints .u64 z1⟩] [] → r = (z0, z1) → Q (.exit 0) e' w') : ∀ (k : Nat), ∀ (y5 : List Int) (y6 : Int) (y7 : Int) (e : Env) (w : World) (ly5 : y5.length = 4) (s2_e : e 2 = .pointer (some ⟨g1, 0, none⟩)) (s3_e : e 3 = .pointer (some ⟨g2, 0, none⟩)) (s4_e : e 4 = .pointer (some ⟨g3, 0, none⟩)) (s5_e : e 5 = .pointer (some ⟨g4, 0, none⟩)) (s6_e : e 6 = .int .u64 y6) (s8_e : e 8 = .int .i64 y7) (hp : Hp w0 Ws w [⟨g1, 0, ints .u64 a0⟩, ⟨g2, 0, ints .u64 a1⟩, ⟨g3, 0, ints .u64 (List.replicate 4 (0 : Int))⟩, ⟨g4, 0, ints .u64 y5⟩] []) (h : postilionref04_Plus.p1 k a0 a1 y5 y6 y7 = some r), Lp Try.prog Try.f28.ntmps (at_ (fbody Try.f28) [1, 1, 1, 0, 1, 0, 0]) Q k e w := by
  intro k
  induction k with
  | zero => intro y5 y6 y7 e w ly5 s2_e s3_e s4_e s5_e s6_e s8_e hp h; cases h
  | succ k ih =>
    intro y5 y6 y7 e w ly5 s2_e s3_e s4_e s5_e s6_e s8_e hp h
    unfold postilionref04_Plus.p1 at h
    show Wp _ _ _ _ _ _
    refine wseqP (p0 := [1, 1, 1, 0, 1, 0, 0, 0]) (p1 := [1, 1, 1, 0, 1, 0, 0, 1]) rfl rfl rfl ?_
    refine wregionT postilionref04_Plus.o5 (.tp 0 (.done)) [] rfl rfl (by kernel_rfl) (by kernel_rfl) ?_
    refine k_bin (X := .int .i64 y7) (Y := .int .i64 4) rfl s8_e rfl rfl ?_
    refine k_end ?_; intro e171 qe171
    have s2_e171 : e171 2 = .pointer (some ⟨g1, 0, none⟩) := (congrFun qe171 2).trans s2_e
    have s3_e171 : e171 3 = .pointer (some ⟨g2, 0, none⟩) := (congrFun qe171 3).trans s3_e
    have s4_e171 : e171 4 = .pointer (some ⟨g3, 0, none⟩) := (congrFun qe171 4).trans s4_e
    have s5_e171 : e171 5 = .pointer (some ⟨g4, 0, none⟩) := (congrFun qe171 5).trans s5_e
    have s6_e171 : e171 6 = .int .u64 y6 := (congrFun qe171 6).trans s6_e
    have s8_e171 : e171 8 = .int .i64 y7 := (congrFun qe171 8).trans s8_e
    have s9_e171 : e171 9 = .bool (decide (y7 < 4)) := congrFun qe171 9
    clear qe171
    refine wseqP (p0 := [1, 1, 1, 0, 1, 0, 0, 1, 0]) (p1 := [1, 1, 1, 0, 1, 0, 0, 1, 1]) rfl rfl rfl ?_
    refine wcondP (p0 := [1, 1, 1, 0, 1, 0, 0, 1, 0, 0]) (p1 := [1, 1, 1, 0, 1, 0, 0, 1, 0, 1]) (t := (decide (y7 < 4))) rfl rfl rfl (by decide) s9_e171 (fun hb => ?_) (fun hb => ?_)
    · replace h := br_t hb h
      refine wskip rfl ?_
      refine wseqP (p0 := [1, 1, 1, 0, 1, 0, 0, 1, 1, 0]) (p1 := [1, 1, 1, 0, 1, 0, 0, 1, 1, 1]) rfl rfl rfl ?_
      refine wblockP (p0 := [1, 1, 1, 0, 1, 0, 0, 1, 1, 0, 0]) 1 rfl rfl ?_
      refine wseqP (p0 := [1, 1, 1, 0, 1, 0, 0, 1, 1, 0, 0, 0]) (p1 := [1, 1, 1, 0, 1, 0, 0, 1, 1, 0, 0, 1]) rfl rfl rfl ?_
      refine wregionT postilionref04_Plus.o6 (.tp 0 (.tp 1 (.done))) [] rfl rfl (by kernel_rfl) (by kernel_rfl) ?_
      refine k_move (v := .int .i64 y7) rfl s8_e171 ?_
      refine k_assign (v := .int .i64 y7) rfl rfl ?_
      refine k_end ?_; intro e172 qe172
      have s2_e172 : e172 2 = .pointer (some ⟨g1, 0, none⟩) := (congrFun qe172 2).trans s2_e171
      have s3_e172 : e172 3 = .pointer (some ⟨g2, 0, none⟩) := (congrFun qe172 3).trans s3_e171
      have s4_e172 : e172 4 = .pointer (some ⟨g3, 0, none⟩) := (congrFun qe172 4).trans s4_e171
      have s5_e172 : e172 5 = .pointer (some ⟨g4, 0, none⟩) := (congrFun qe172 5).trans s5_e171
      have s6_e172 : e172 6 = .int .u64 y6 := (congrFun qe172 6).trans s6_e171
      have s7_e172 : e172 7 = .int .i64 y7 := congrFun qe172 7
      have s8_e172 : e172 8 = .int .i64 y7 := (congrFun qe172 8).trans s8_e171
      clear qe172
      refine wregionM postilionref04_Plus.o7 (.tp 0 (.tp 1 (.tp 2 (.tk 3 (.tp 4 (.tp 5 (.tk 6 (.tp 7 (.tp 8 (.tp 9 (.tp 10 (.tp 11 (.tp 12 (.ef 13 (.tp 14 (.done)))))))))))))))) [13] [(0, 0, 32767), (0, 0, 32767), (2, 2, 32767), (4, 4, 0), (0, 0, 32767), (16, 16, 32767), (32, 32, 0), (0, 0, 32767), (200, 200, 32767), (256, 256, 32767), (512, 512, 32767), (512, 512, 32767), (2047, 1, 32767), (6143, 32767, 32767), (16383, 2176, 32767)] rfl rfl (by kernel_rfl) (by kernel_rfl) (Nat.le_of_ble_eq_true (by kernel_rfl)) (by kernel_rfl) (by kernel_rfl) (by kernel_rfl) ?_
      have hp := hp.drew
      refine k_move (v := .int .i64 y7) rfl s7_e172 ?_
      refine k_move (v := .int .i64 y7) rfl s7_e172 ?_
      obtain ⟨c8, h⟩ := chk_e h
      refine k_indexA (n := 4) (s := 1) (j := y7) rfl Try.underlying48 (by kernel_rfl) s2_e172 rfl c8 ?_
      refine k_load (j := (y7 : Int).toNat) (v := .int .u64 (a0.getD (y7 : Int).toNat 0)) rfl (by kernel_rfl) rfl (hp.get (j := 0) rfl) rfl (show 0 + (y7 : Int).toNat * 1 = 0 + (y7 : Int).toNat by omega) (ints_get (idx_lt c8 la0)) ?_
      refine k_move (v := .int .i64 y7) rfl s7_e172 ?_
      refine k_indexA (n := 4) (s := 1) (j := y7) rfl Try.underlying48 (by kernel_rfl) s3_e172 rfl c8 ?_
      refine k_load (j := (y7 : Int).toNat) (v := .int .u64 (a1.getD (y7 : Int).toNat 0)) rfl (by kernel_rfl) rfl (hp.get (j := 1) rfl) rfl (show 0 + (y7 : Int).toNat * 1 = 0 + (y7 : Int).toNat by omega) (ints_get (idx_lt c8 la1)) ?_
      refine k_move (v := .int .u64 y6) rfl s6_e172 ?_
      obtain ⟨c9, h⟩ := chk_e h
      refine k_ext [.int .u64 (a0.getD (y7 : Int).toNat 0), .int .u64 (a1.getD (y7 : Int).toNat 0), .int .u64 y6] rfl ext43 (args3 rfl rfl rfl) (fun w' => run_add64 (a0.getD (y7 : Int).toNat 0) (a1.getD (y7 : Int).toNat 0) y6 c9.1 c9.2.1 c9.2.2.1 c9.2.2.2 w') ?_
      refine k_move (v := .tuple #[.int .u64 (((a0.getD (y7 : Int).toNat 0) + (a1.getD (y7 : Int).toNat 0) + y6) % 18446744073709551616), .int .u64 (((a0.getD (y7 : Int).toNat 0) + (a1.getD (y7 : Int).toNat 0) + y6) / 18446744073709551616)]) rfl rfl ?_
      refine k_extract (v := .int .u64 (((a0.getD (y7 : Int).toNat 0) + (a1.getD (y7 : Int).toNat 0) + y6) % 18446744073709551616)) rfl rfl rfl ?_
      refine k_extract (v := .int .u64 (((a0.getD (y7 : Int).toNat 0) + (a1.getD (y7 : Int).toNat 0) + y6) / 18446744073709551616)) rfl rfl rfl ?_
      refine k_indexA (n := 4) (s := 1) (j := y7) rfl Try.underlying48 (by kernel_rfl) s5_e172 rfl c8 ?_
      refine k_store (v := .int .u64 (((a0.getD (y7 : Int).toNat 0) + (a1.getD (y7 : Int).toNat 0) + y6) % 18446744073709551616)) 3 (y7 : Int).toNat (r := ⟨g4, 0, ints .u64 y5⟩) rfl (by kernel_rfl) rfl rfl rfl hp rfl rfl (show 0 + (y7 : Int).toNat * 1 = 0 + (y7 : Int).toNat by omega) (Nat.lt_of_lt_of_eq (idx_lt c8 ly5) (ints_length _ _).symm) (by decide) ?_; intro w hp; rw [ints_set] at hp
      refine k_assign (v := .int .u64 (((a0.getD (y7 : Int).toNat 0) + (a1.getD (y7 : Int).toNat 0) + y6) / 18446744073709551616)) rfl rfl ?_
      refine k_end ?_; intro e173 qe173
      have s2_e173 : e173 2 = .pointer (some ⟨g1, 0, none⟩) := (congrFun qe173 2).trans s2_e172
      have s3_e173 : e173 3 = .pointer (some ⟨g2, 0, none⟩) := (congrFun qe173 3).trans s3_e172
      have s4_e173 : e173 4 = .pointer (some ⟨g3, 0, none⟩) := (congrFun qe173 4).trans s4_e172
      have s5_e173 : e173 5 = .pointer (some ⟨g4, 0, none⟩) := (congrFun qe173 5).trans s5_e172
      obtain ⟨x10, qx10, h⟩ := lt_e h
      have s6_e173 : e173 6 = .int .u64 x10 := (congrFun qe173 6).trans (congrArg (Value.int .u64) qx10.symm)
      have s8_e173 : e173 8 = .int .i64 y7 := (congrFun qe173 8).trans s8_e172
      clear qe173
      obtain ⟨x11, qx11, h⟩ := lt_e h
      have lx11 : x11.length = 4 := (congrArg List.length qx11).trans (List.length_set.trans ly5)
      have hp : Hp w0 Ws w [⟨g1, 0, ints .u64 a0⟩, ⟨g2, 0, ints .u64 a1⟩, ⟨g3, 0, ints .u64 (List.replicate 4 (0 : Int))⟩, ⟨g4, 0, ints .u64 x11⟩] [] := by rw [qx11]; exact hp
      refine wregionT postilionref04_Plus.o8 (.tp 0 (.tp 1 (.done))) [] rfl rfl (by kernel_rfl) (by kernel_rfl) ?_
      refine k_bin (X := .int .i64 y7) (Y := .int .i64 1) rfl s8_e173 rfl rfl ?_
      refine k_move (v := .int .i64 (IntKind.i64.wrap (y7 + 1))) rfl rfl ?_
      refine k_end ?_; intro e174 qe174
      have s2_e174 : e174 2 = .pointer (some ⟨g1, 0, none⟩) := (congrFun qe174 2).trans s2_e173
      have s3_e174 : e174 3 = .pointer (some ⟨g2, 0, none⟩) := (congrFun qe174 3).trans s3_e173
      have s4_e174 : e174 4 = .pointer (some ⟨g3, 0, none⟩) := (congrFun qe174 4).trans s4_e173
      have s5_e174 : e174 5 = .pointer (some ⟨g4, 0, none⟩) := (congrFun qe174 5).trans s5_e173
      have s6_e174 : e174 6 = .int .u64 x10 := (congrFun qe174 6).trans s6_e173
      obtain ⟨x12, qx12, h⟩ := lt_e h
      have s8_e174 : e174 8 = .int .i64 x12 := (congrFun qe174 8).trans (congrArg (Value.int .i64) qx12.symm)
      clear qe174
      exact ih x11 x10 x12 _ _ lx11 s2_e174 s3_e174 s4_e174 s5_e174 s6_e174 s8_e174 (hp.drop (L' := [⟨g1, 0, ints .u64 a0⟩, ⟨g2, 0, ints .u64 a1⟩, ⟨g3, 0, ints .u64 (List.replicate 4 (0 : Int))⟩, ⟨g4, 0, ints .u64 x11⟩]) (List.Sublist.refl _)) h
    · replace h := br_f hb h
      refine wexit rfl ?_
      exact hQ0 _ _ y6 y5 ly5 s4_e171 s5_e171 s6_e171 (hp.drop (L' := [⟨g1, 0, ints .u64 a0⟩, ⟨g2, 0, ints .u64 a1⟩, ⟨g3, 0, ints .u64 (List.replicate 4 (0 : Int))⟩, ⟨g4, 0, ints .u64 y5⟩]) (List.Sublist.refl _)) (Option.some.inj h).symm
theorem postilionref04_Plus_ok (k : Nat) (a0 : List Int) (a1 : List Int) (la0 : a0.length = 4) (la1 : a1.length = 4) (w0 : World) (hp : Hp w0 [] w0 [] []) {r : List Int} (h : postilionref04_Plus.f k a0 a1 = some r) :
    Calls Try.prog 28 [.agg (ints .u64 a0).toArray, .agg (ints .u64 a1).toArray].toArray w0 fun x w' => ∃ v, x = .returned v ∧ v = .agg (ints .u64 r).toArray ∧ r.length = 4 ∧ Hp w0 [] w' [] [] := by
  refine calls_inP Try.func28 rfl (Nat.le_of_ble_eq_true (by kernel_rfl)) (by kernel_rfl) ?_
  intro e0 qe0
  have s0_e0 : e0 0 = .agg (ints .u64 a0).toArray := congrFun qe0 0
  have s1_e0 : e0 1 = .agg (ints .u64 a1).toArray := congrFun qe0 1
  clear qe0
  unfold postilionref04_Plus.f at h
  refine wseqP (p0 := [0]) (p1 := [1]) rfl rfl rfl ?_
  refine wregionT postilionref04_Plus.o1 (.ef 0 (.ef 1 (.ef 2 (.done)))) [] rfl rfl (by kernel_rfl) (by kernel_rfl) ?_
  refine k_box (v := .agg (ints .u64 a0).toArray) (ints .u64 a0) rfl s0_e0 rfl hp ?_
  intro g1 w hbg1 hp
  refine k_box (v := .agg (ints .u64 a1).toArray) (ints .u64 a1) rfl s1_e0 rfl hp ?_
  intro g2 w hbg2 hp
  refine k_alloc (ints .u64 (List.replicate 4 (0 : Int))) rfl (by kernel_rfl) hp ?_
  intro g3 w hbg3 hp
  refine k_end ?_; intro e167 qe167
  have s2_e167 : e167 2 = .pointer (some ⟨g1, 0, none⟩) := congrFun qe167 2
  have s3_e167 : e167 3 = .pointer (some ⟨g2, 0, none⟩) := congrFun qe167 3
  have s4_e167 : e167 4 = .pointer (some ⟨g3, 0, none⟩) := congrFun qe167 4
  clear qe167
  refine wseqP (p0 := [1, 0]) (p1 := [1, 1]) rfl rfl rfl ?_
  refine wregionT postilionref04_Plus.o2 (.ef 0 (.done)) [] rfl rfl (by kernel_rfl) (by kernel_rfl) ?_
  refine k_alloc (ints .u64 (List.replicate 4 (0 : Int))) rfl (by kernel_rfl) hp ?_
  intro g4 w hbg4 hp
  refine k_end ?_; intro e168 qe168
  have s2_e168 : e168 2 = .pointer (some ⟨g1, 0, none⟩) := (congrFun qe168 2).trans s2_e167
  have s3_e168 : e168 3 = .pointer (some ⟨g2, 0, none⟩) := (congrFun qe168 3).trans s3_e167
  have s4_e168 : e168 4 = .pointer (some ⟨g3, 0, none⟩) := (congrFun qe168 4).trans s4_e167
  have s5_e168 : e168 5 = .pointer (some ⟨g4, 0, none⟩) := congrFun qe168 5
  clear qe168
  refine wseqP (p0 := [1, 1, 0]) (p1 := [1, 1, 1]) rfl rfl rfl ?_
  refine wregionT postilionref04_Plus.o3 (.tp 0 (.done)) [] rfl rfl (by kernel_rfl) (by kernel_rfl) ?_
  refine k_assign (v := .int .u64 0) rfl rfl ?_
  refine k_end ?_; intro e169 qe169
  have s2_e169 : e169 2 = .pointer (some ⟨g1, 0, none⟩) := (congrFun qe169 2).trans s2_e168
  have s3_e169 : e169 3 = .pointer (some ⟨g2, 0, none⟩) := (congrFun qe169 3).trans s3_e168
  have s4_e169 : e169 4 = .pointer (some ⟨g3, 0, none⟩) := (congrFun qe169 4).trans s4_e168
  have s5_e169 : e169 5 = .pointer (some ⟨g4, 0, none⟩) := (congrFun qe169 5).trans s5_e168
  have s6_e169 : e169 6 = .int .u64 0 := congrFun qe169 6
  clear qe169
  refine wseqP (p0 := [1, 1, 1, 0]) (p1 := [1, 1, 1, 1]) rfl rfl rfl ?_
  refine wseqP (p0 := [1, 1, 1, 0, 0]) (p1 := [1, 1, 1, 0, 1]) rfl rfl rfl ?_
  refine wregionT postilionref04_Plus.o4 (.tp 0 (.done)) [] rfl rfl (by kernel_rfl) (by kernel_rfl) ?_
  refine k_move (v := .int .i64 0) rfl rfl ?_
  refine k_end ?_; intro e170 qe170
  have s2_e170 : e170 2 = .pointer (some ⟨g1, 0, none⟩) := (congrFun qe170 2).trans s2_e169
  have s3_e170 : e170 3 = .pointer (some ⟨g2, 0, none⟩) := (congrFun qe170 3).trans s3_e169
  have s4_e170 : e170 4 = .pointer (some ⟨g3, 0, none⟩) := (congrFun qe170 4).trans s4_e169
  have s5_e170 : e170 5 = .pointer (some ⟨g4, 0, none⟩) := (congrFun qe170 5).trans s5_e169
  have s6_e170 : e170 6 = .int .u64 0 := (congrFun qe170 6).trans s6_e169
  have s8_e170 : e170 8 = .int .i64 0 := congrFun qe170 8
  clear qe170
  refine wblockP (p0 := [1, 1, 1, 0, 1, 0]) 0 rfl rfl ?_
  obtain ⟨r13, qr13, h⟩ := bd_e h
  refine wloopP (p0 := [1, 1, 1, 0, 1, 0, 0]) k rfl rfl (postilionref04_Plus.p1_ok g1 g2 g3 g4 a0 a1 la0 la1 ?hq0 k (List.replicate 4 (0 : Int)) 0 0 e170 _ List.length_replicate s2_e170 s3_e170 s4_e170 s5_e170 s6_e170 s8_e170 hp qr13)
  case hq0 =>
    intro e175 w m14 m15 lm15 s4_e175 s5_e175 s6_e175 hp qq
    rw [qq] at h; clear qq
    refine wseqP (p0 := [1, 1, 1, 1, 0]) (p1 := [1, 1, 1, 1, 1]) rfl rfl rfl ?_
    refine wregionT postilionref04_Plus.o9 (.tk 0 (.tp 1 (.ef 2 (.ef 3 (.done))))) [3] rfl rfl (by kernel_rfl) (by kernel_rfl) ?_
    refine k_loadA (n := 4) (xs := ints .u64 m15) 0 rfl (by kernel_rfl) (by kernel_rfl) s5_e175 (hp.get (j := 3) rfl) rfl rfl ((ints_length _ _).trans lm15) (fun m v hm => by rw [Nat.zero_add]; exact hm) ?_
    refine k_move (v := .int .u64 m14) rfl s6_e175 ?_
    obtain ⟨r16, qr16, h⟩ := bd_e h
    refine k_call [.agg (ints .u64 m15).toArray, .int .u64 m14] rfl (by kernel_rfl) (args2 rfl rfl) (postilionref04_fold_ok k m15 m14 lm15 _ (hp.toR (fun _ h => by cases h)) qr16) ?_
    rintro _ w' ⟨_, rfl, rfl, lr160, hpc⟩
    refine ⟨_, rfl, .inr (.of_below hpc.chg.to_below), ?_⟩; have hp := hp.below hpc.chg.to_below; clear hpc
    refine k_storeA (v := .agg (ints .u64 r16).toArray) 2 0 (r := ⟨g3, 0, ints .u64 (List.replicate 4 (0 : Int))⟩) (ints .u64 r16) (ints .u64 r16) rfl (n := 4) (by kernel_rfl) s4_e175 rfl rfl ((ints_length _ _).trans lr160) (ints_one _ _) hp rfl rfl rfl (Nat.le_of_eq ((Nat.zero_add _).trans ((ints_length _ _).trans List.length_replicate).symm)) (setMany_all _ _ (((ints_length _ _).trans lr160).trans ((ints_length _ _).trans List.length_replicate).symm)) (by decide) ?_; intro w hp
    refine k_end ?_; intro e176 qe176
    have s4_e176 : e176 4 = .pointer (some ⟨g3, 0, none⟩) := (congrFun qe176 4).trans s4_e175
    clear qe176
    refine wret rfl ?_
    have hr : r = r16 := (Option.some.inj h).symm
    show RetP _ _ _ _ _
    rw [hr]
    exact ret_i [.agg (ints .u64 r16).toArray] (res_cell s4_e176 (loadVar_agg (by kernel_rfl) (by kernel_rfl) ((ints_length _ _).trans lr160) (hp.get (j := 2) rfl) rfl rfl rfl) res_nil) ⟨rfl, lr160, hp.none⟩
/-! 31 postilion/postilionref04.p -/
noncomputable def postilionref04_p.o1 : Array Oper := opsC (at_ (fbody Try.f31) [0])
noncomputable def postilionref04_p.o2 : Array Oper := opsC (at_ (fbody Try.f31) [1, 0])
theorem postilionref04_p_ok  (w0 : World) (hp : Hp w0 [] w0 [] []) {r : List Int} (h : postilionref04_p.f  = some r) :
    Calls Try.prog 31 [].toArray w0 fun x w' => ∃ v, x = .returned v ∧ v = .agg (ints .u64 r).toArray ∧ r.length = 4 ∧ Hp w0 [] w' [] [] := by
  refine calls_inP Try.func31 rfl (Nat.le_of_ble_eq_true (by kernel_rfl)) (by kernel_rfl) ?_
  intro e0 qe0
  clear qe0
  unfold postilionref04_p.f at h
  refine wseqP (p0 := [0]) (p1 := [1]) rfl rfl rfl ?_
  refine wregionT postilionref04_p.o1 (.ef 0 (.done)) [] rfl rfl (by kernel_rfl) (by kernel_rfl) ?_
  refine k_alloc (ints .u64 (List.replicate 4 (0 : Int))) rfl (by kernel_rfl) hp ?_
  intro g1 w hbg1 hp
  refine k_end ?_; intro e177 qe177
  have s0_e177 : e177 0 = .pointer (some ⟨g1, 0, none⟩) := congrFun qe177 0
  clear qe177
  refine wseqP (p0 := [1, 0]) (p1 := [1, 1]) rfl rfl rfl ?_
  refine wregionT postilionref04_p.o2 (.tp 0 (.ef 1 (.done))) [1] rfl rfl (by kernel_rfl) (by kernel_rfl) ?_
  refine k_build (v := .agg (ints .u64 [18446744073709551597, 18446744073709551615, 18446744073709551615, 9223372036854775807]).toArray) rfl (fun _ => by kernel_rfl) ?_
  refine k_storeA (v := .agg (ints .u64 [18446744073709551597, 18446744073709551615, 18446744073709551615, 9223372036854775807]).toArray) 0 0 (r := ⟨g1, 0, ints .u64 (List.replicate 4 (0 : Int))⟩) (ints .u64 [18446744073709551597, 18446744073709551615, 18446744073709551615, 9223372036854775807]) (ints .u64 [18446744073709551597, 18446744073709551615, 18446744073709551615, 9223372036854775807]) rfl (n := 4) (by kernel_rfl) s0_e177 rfl rfl ((ints_length _ _).trans (rfl : List.length ([18446744073709551597, 18446744073709551615, 18446744073709551615, 9223372036854775807] : List Int) = 4)) (ints_one _ _) hp rfl rfl rfl (Nat.le_of_eq ((Nat.zero_add _).trans ((ints_length _ _).trans List.length_replicate).symm)) (setMany_all _ _ (((ints_length _ _).trans (rfl : List.length ([18446744073709551597, 18446744073709551615, 18446744073709551615, 9223372036854775807] : List Int) = 4)).trans ((ints_length _ _).trans List.length_replicate).symm)) (by decide) ?_; intro w hp
  refine k_end ?_; intro e178 qe178
  have s0_e178 : e178 0 = .pointer (some ⟨g1, 0, none⟩) := (congrFun qe178 0).trans s0_e177
  clear qe178
  obtain ⟨x2, qx2, h⟩ := lt_e h
  have lx2 : x2.length = 4 := (congrArg List.length qx2).trans (rfl : List.length ([18446744073709551597, 18446744073709551615, 18446744073709551615, 9223372036854775807] : List Int) = 4)
  have hp : Hp w0 [] w [⟨g1, 0, ints .u64 x2⟩] [] := by rw [qx2]; exact hp
  refine wret rfl ?_
  have hr : r = x2 := (Option.some.inj h).symm
  show RetP _ _ _ _ _
  rw [hr]
  exact ret_i [.agg (ints .u64 x2).toArray] (res_cell s0_e178 (loadVar_agg (by kernel_rfl) (by kernel_rfl) ((ints_length _ _).trans lx2) (hp.get (j := 0) rfl) rfl rfl rfl) res_nil) ⟨rfl, lx2, hp.none⟩
/-! 30 postilion/postilionref04.below -/
noncomputable def postilionref04_below.o1 : Array Oper := opsC (at_ (fbody Try.f30) [0])
noncomputable def postilionref04_below.o2 : Array Oper := opsC (at_ (fbody Try.f30) [1, 0, 0])
noncomputable def postilionref04_below.o3 : Array Oper := opsC (at_ (fbody Try.f30) [1, 0, 1, 0, 0, 0, 0])
noncomputable def postilionref04_below.o4 : Array Oper := opsC (at_ (fbody Try.f30) [1, 0, 1, 0, 0, 1, 0, 0, 0])
noncomputable def postilionref04_below.o5 : Array Oper := opsC (at_ (fbody Try.f30) [1, 0, 1, 0, 0, 1, 0, 0, 1, 0, 0])
noncomputable def postilionref04_below.o6 : Array Oper := opsC (at_ (fbody Try.f30) [1, 0, 1, 0, 0, 1, 1])
noncomputable def postilionref04_below.o7 : Array Oper := opsC (at_ (fbody Try.f30) [1, 1, 0])
theorem postilionref04_below.p1_ok {w0 : World} {Ws : List Wr} {Q : Exit → Env → World → Prop} (g1 g2 : Nat) (a0 : List Int) (a1 : List Int) (la0 : a0.length = 4) (la1 : a1.length = 4) {r : (Unit) ⊕ (Bool)} (hQ0 : ∀ (e' : Env) (w' : World) , Hp w0 Ws w' [⟨g1, 0, ints .u64 a0⟩, ⟨g2, 0, ints .u64 a1⟩] [] → r = (.inl ()) → Q (.exit 0) e' w') (hQ1 : ∀ (e' : Env) (w' : World) (z0 : Bool), e' 4 = .bool z0 → Hp w0 Ws w' [⟨g1, 0, ints .u64 a0⟩, ⟨g2, 0, ints .u64 a1⟩] [] → r = (.inr (z0)) → Q .ret e' w') : ∀ (k : Nat), ∀ (y3 : Int) (e : Env) (w : World)  (s2_e : e 2 = .pointer (some ⟨g1, 0, none⟩)) (s3_e : e 3 = .pointer (some ⟨g2, 0, none⟩)) (s5_e : e 5 = .int .i64 y3) (hp : Hp w0 Ws w [⟨g1, 0, ints .u64 a0⟩, ⟨g2, 0, ints .u64 a1⟩] []) (h : postilionref04_below.p1 k a0 a1 y3 = some r), Lp Try.prog Try.f30.ntmps (at_ (fbody Try.f30) [1, 0, 1, 0, 0]) Q k e w := by
  intro k
  induction k with
  | zero => intro y3 e w  s2_e s3_e s5_e hp h; cases h
  | succ k ih =>
    intro y3 e w  s2_e s3_e s5_e hp h
    unfold postilionref04_below.p1 at h
    show Wp _ _ _ _ _ _
    refine wseqP (p0 := [1, 0, 1, 0, 0, 0]) (p1 := [1, 0, 1, 0, 0, 1]) rfl rfl rfl ?_
    refine wseqP (p0 := [1, 0, 1, 0, 0, 0, 0]) (p1 := [1, 0, 1, 0, 0, 0, 1]) rfl rfl rfl ?_
    refine wregionT postilionref04_below.o3 (.tp 0 (.tp 1 (.done))) [] rfl rfl (by kernel_rfl) (by kernel_rfl) ?_
    refine k_move (v := .int .i64 y3) rfl s5_e ?_
    refine k_bin (X := .int .i64 y3) (Y := .int .i64 0) rfl rfl rfl rfl ?_
    refine k_end ?_; intro e181 qe181
    have s2_e181 : e181 2 = .pointer (some ⟨g1, 0, none⟩) := (congrFun qe181 2).trans s2_e
    have s3_e181 : e181 3 = .pointer (some ⟨g2, 0, none⟩) := (congrFun qe181 3).trans s3_e
    have s5_e181 : e181 5 = .int .i64 y3 := (congrFun qe181 5).trans s5_e
    have s7_e181 : e181 7 = .bool (decide (y3 ≥ 0)) := congrFun qe181 7
    clear qe181
    refine wcondP (p0 := [1, 0, 1, 0, 0, 0, 1, 0]) (p1 := [1, 0, 1, 0, 0, 0, 1, 1]) (t := (decide (y3 ≥ 0))) rfl rfl rfl (by decide) s7_e181 (fun hb => ?_) (fun hb => ?_)
    · replace h := br_t hb h
      refine wskip rfl ?_
      refine wseqP (p0 := [1, 0, 1, 0, 0, 1, 0]) (p1 := [1, 0, 1, 0, 0, 1, 1]) rfl rfl rfl ?_
      refine wblockP (p0 := [1, 0, 1, 0, 0, 1, 0, 0]) 1 rfl rfl ?_
      refine wseqP (p0 := [1, 0, 1, 0, 0, 1, 0, 0, 0]) (p1 := [1, 0, 1, 0, 0, 1, 0, 0, 1]) rfl rfl rfl ?_
      refine wregionM postilionref04_below.o4 (.tp 0 (.tp 1 (.tk 2 (.tp 3 (.tp 4 (.tk 5 (.tp 6 (.done)))))))) [] [(0, 0, 127), (1, 1, 127), (2, 2, 0), (0, 0, 127), (8, 8, 127), (16, 16, 0), (36, 36, 127)] rfl rfl (by kernel_rfl) (by kernel_rfl) (Nat.le_of_ble_eq_true (by kernel_rfl)) (by kernel_rfl) (by kernel_rfl) (by kernel_rfl) ?_
      have hp := hp.drew
      refine k_move (v := .int .i64 y3) rfl s5_e181 ?_
      obtain ⟨c4, h⟩ := chk_e h
      refine k_indexA (n := 4) (s := 1) (j := y3) rfl Try.underlying48 (by kernel_rfl) s2_e181 rfl c4 ?_
      refine k_load (j := (y3 : Int).toNat) (v := .int .u64 (a0.getD (y3 : Int).toNat 0)) rfl (by kernel_rfl) rfl (hp.get (j := 0) rfl) rfl (show 0 + (y3 : Int).toNat * 1 = 0 + (y3 : Int).toNat by omega) (ints_get (idx_lt c4 la0)) ?_
      refine k_move (v := .int .i64 y3) rfl s5_e181 ?_
      refine k_indexA (n := 4) (s := 1) (j := y3) rfl Try.underlying48 (by kernel_rfl) s3_e181 rfl c4 ?_
      refine k_load (j := (y3 : Int).toNat) (v := .int .u64 (a1.getD (y3 : Int).toNat 0)) rfl (by kernel_rfl) rfl (hp.get (j := 1) rfl) rfl (show 0 + (y3 : Int).toNat * 1 = 0 + (y3 : Int).toNat by omega) (ints_get (idx_lt c4 la1)) ?_
      refine k_bin (X := .int .u64 (a0.getD (y3 : Int).toNat 0)) (Y := .int .u64 (a1.getD (y3 : Int).toNat 0)) rfl rfl rfl rfl ?_
      refine k_end ?_; intro e182 qe182
      have s2_e182 : e182 2 = .pointer (some ⟨g1, 0, none⟩) := (congrFun qe182 2).trans s2_e181
      have s3_e182 : e182 3 = .pointer (some ⟨g2, 0, none⟩) := (congrFun qe182 3).trans s3_e181
      have s5_e182 : e182 5 = .int .i64 y3 := (congrFun qe182 5).trans s5_e181
      obtain ⟨t5, qt5, h⟩ := lt_e h
      have s16_e182 : e182 16 = .bool t5 := (congrFun qe182 16).trans (congrArg Value.bool qt5.symm)
      clear qe182
      refine wcondP (p0 := [1, 0, 1, 0, 0, 1, 0, 0, 1, 0]) (p1 := [1, 0, 1, 0, 0, 1, 0, 0, 1, 1]) (t := t5) rfl rfl rfl (by decide) s16_e182 (fun hb => ?_) (fun hb => ?_)
      · replace h := br_t hb h
        refine wseqP (p0 := [1, 0, 1, 0, 0, 1, 0, 0, 1, 0, 0]) (p1 := [1, 0, 1, 0, 0, 1, 0, 0, 1, 0, 1]) rfl rfl rfl ?_
        refine wregionM postilionref04_below.o5 (.tp 0 (.tp 1 (.tk 2 (.tp 3 (.tp 4 (.tk 5 (.tp 6 (.tp 7 (.done))))))))) [] [(0, 0, 255), (1, 1, 255), (2, 2, 0), (0, 0, 255), (8, 8, 255), (16, 16, 0), (36, 36, 255), (127, 64, 255)] rfl rfl (by kernel_rfl) (by kernel_rfl) (Nat.le_of_ble_eq_true (by kernel_rfl)) (by kernel_rfl) (by kernel_rfl) (by kernel_rfl) ?_
        have hp := hp.drew
        refine k_move (v := .int .i64 y3) rfl s5_e182 ?_
        refine k_indexA (n := 4) (s := 1) (j := y3) rfl Try.underlying48 (by kernel_rfl) s2_e182 rfl c4 ?_
        refine k_load (j := (y3 : Int).toNat) (v := .int .u64 (a0.getD (y3 : Int).toNat 0)) rfl (by kernel_rfl) rfl (hp.get (j := 0) rfl) rfl (show 0 + (y3 : Int).toNat * 1 = 0 + (y3 : Int).toNat by omega) (ints_get (idx_lt c4 la0)) ?_
        refine k_move (v := .int .i64 y3) rfl s5_e182 ?_
        refine k_indexA (n := 4) (s := 1) (j := y3) rfl Try.underlying48 (by kernel_rfl) s3_e182 rfl c4 ?_
        refine k_load (j := (y3 : Int).toNat) (v := .int .u64 (a1.getD (y3 : Int).toNat 0)) rfl (by kernel_rfl) rfl (hp.get (j := 1) rfl) rfl (show 0 + (y3 : Int).toNat * 1 = 0 + (y3 : Int).toNat by omega) (ints_get (idx_lt c4 la1)) ?_
        refine k_bin (X := .int .u64 (a0.getD (y3 : Int).toNat 0)) (Y := .int .u64 (a1.getD (y3 : Int).toNat 0)) rfl rfl rfl rfl ?_
        refine k_assign (v := .bool (decide ((a0.getD (y3 : Int).toNat 0) < (a1.getD (y3 : Int).toNat 0)))) rfl rfl ?_
        refine k_end ?_; intro e183 qe183
        obtain ⟨t6, qt6, h⟩ := lt_e h
        have s4_e183 : e183 4 = .bool t6 := (congrFun qe183 4).trans (congrArg Value.bool qt6.symm)
        clear qe183
        refine wret rfl ?_
        exact hQ1 _ _ t6  s4_e183 (hp.drop (L' := [⟨g1, 0, ints .u64 a0⟩, ⟨g2, 0, ints .u64 a1⟩]) (List.Sublist.refl _)) (Option.some.inj h).symm
      · replace h := br_f hb h
        refine wskip rfl ?_
        refine wregionT postilionref04_below.o6 (.tp 0 (.tp 1 (.tp 2 (.done)))) [] rfl rfl (by kernel_rfl) (by kernel_rfl) ?_
        refine k_move (v := .int .i64 y3) rfl s5_e182 ?_
        refine k_bin (X := .int .i64 y3) (Y := .int .i64 1) rfl rfl rfl rfl ?_
        refine k_assign (v := .int .i64 (IntKind.i64.wrap (y3 - 1))) rfl rfl ?_
        refine k_end ?_; intro e184 qe184
        have s2_e184 : e184 2 = .pointer (some ⟨g1, 0, none⟩) := (congrFun qe184 2).trans s2_e182
        have s3_e184 : e184 3 = .pointer (some ⟨g2, 0, none⟩) := (congrFun qe184 3).trans s3_e182
        obtain ⟨x7, qx7, h⟩ := lt_e h
        have s5_e184 : e184 5 = .int .i64 x7 := (congrFun qe184 5).trans (congrArg (Value.int .i64) qx7.symm)
        clear qe184
        exact ih x7 _ _  s2_e184 s3_e184 s5_e184 (hp.drop (L' := [⟨g1, 0, ints .u64 a0⟩, ⟨g2, 0, ints .u64 a1⟩]) (List.Sublist.refl _)) h
    · replace h := br_f hb h
      refine wexit rfl ?_
      exact hQ0 _ _    (hp.drop (L' := [⟨g1, 0, ints .u64 a0⟩, ⟨g2, 0, ints .u64 a1⟩]) (List.Sublist.refl _)) (Option.some.inj h).symm
theorem postilionref04_below_ok (k : Nat) (a0 : List Int) (a1 : List Int) (la0 : a0.length = 4) (la1 : a1.length = 4) (w0 : World) (hp : Hp w0 [] w0 [] []) {r : Bool} (h : postilionref04_below.f k a0 a1 = some r) :
    Calls Try.prog 30 [.agg (ints .u64 a0).toArray, .agg (ints .u64 a1).toArray].toArray w0 fun x w' => ∃ v, x = .returned v ∧ v = .bool r ∧ Hp w0 [] w' [] [] := by
  refine calls_inP Try.func30 rfl (Nat.le_of_ble_eq_true (by kernel_rfl)) (by kernel_rfl) ?_
  intro e0 qe0
  have s0_e0 : e0 0 = .agg (ints .u64 a0).toArray := congrFun qe0 0
  have s1_e0 : e0 1 = .agg (ints .u64 a1).toArray := congrFun qe0 1
  clear qe0
  unfold postilionref04_below.f at h
  refine wseqP (p0 := [0]) (p1 := [1]) rfl rfl rfl ?_
  refine wregionT postilionref04_below.o1 (.ef 0 (.ef 1 (.tp 2 (.done)))) [] rfl rfl (by kernel_rfl) (by kernel_rfl) ?_
  refine k_box (v := .agg (ints .u64 a0).toArray) (ints .u64 a0) rfl s0_e0 rfl hp ?_
  intro g1 w hbg1 hp
  refine k_box (v := .agg (ints .u64 a1).toArray) (ints .u64 a1) rfl s1_e0 rfl hp ?_
  intro g2 w hbg2 hp
  refine k_assign (v := .bool false) rfl rfl ?_
  refine k_end ?_; intro e179 qe179
  have s2_e179 : e179 2 = .pointer (some ⟨g1, 0, none⟩) := congrFun qe179 2
  have s3_e179 : e179 3 = .pointer (some ⟨g2, 0, none⟩) := congrFun qe179 3
  clear qe179
  refine wseqP (p0 := [1, 0]) (p1 := [1, 1]) rfl rfl rfl ?_
  refine wseqP (p0 := [1, 0, 0]) (p1 := [1, 0, 1]) rfl rfl rfl ?_
  refine wregionT postilionref04_below.o2 (.tp 0 (.done)) [] rfl rfl (by kernel_rfl) (by kernel_rfl) ?_
  refine k_assign (v := .int .i64 3) rfl rfl ?_
  refine k_end ?_; intro e180 qe180
  have s2_e180 : e180 2 = .pointer (some ⟨g1, 0, none⟩) := (congrFun qe180 2).trans s2_e179
  have s3_e180 : e180 3 = .pointer (some ⟨g2, 0, none⟩) := (congrFun qe180 3).trans s3_e179
  have s5_e180 : e180 5 = .int .i64 3 := congrFun qe180 5
  clear qe180
  refine wblockP (p0 := [1, 0, 1, 0]) 0 rfl rfl ?_
  obtain ⟨r8, qr8, h⟩ := bd_e h
  refine wloopP (p0 := [1, 0, 1, 0, 0]) k rfl rfl (postilionref04_below.p1_ok g1 g2 a0 a1 la0 la1 ?hq0 ?hq1 k 3 e180 _  s2_e180 s3_e180 s5_e180 hp qr8)
  case hq0 =>
    intro e185 w    hp qq
    rw [qq] at h; clear qq
    refine wseqP (p0 := [1, 1, 0]) (p1 := [1, 1, 1]) rfl rfl rfl ?_
    refine wregionT postilionref04_below.o7 (.tp 0 (.done)) [] rfl rfl (by kernel_rfl) (by kernel_rfl) ?_
    refine k_assign (v := .bool false) rfl rfl ?_
    refine k_end ?_; intro e186 qe186
    have s4_e186 : e186 4 = .bool false := congrFun qe186 4
    clear qe186
    refine wret rfl ?_
    have hr : r = false := (Option.some.inj h).symm
    show RetP _ _ _ _ _
    rw [hr]
    exact ret_i [.bool false] (res_tmp s4_e186 res_nil) ⟨rfl, hp.none⟩
  case hq1 =>
    intro e187 w m9  s4_e187 hp qq
    rw [qq] at h; clear qq
    have hr : r = m9 := (Option.some.inj h).symm
    show RetP _ _ _ _ _
    rw [hr]
    exact ret_i [.bool m9] (res_tmp s4_e187 res_nil) ⟨rfl, hp.none⟩
end Go.Proofs.Ytigbkodgnikigaa
