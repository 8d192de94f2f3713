/-
  The walks: each function of the program form returns what its plain definition computes. Printed by my own program.
  Conditions: none; every function is taken as the given program's form has it.
-/
import Derived.Test.YtmjjkhnofolacaaProg
import Derived.Test.YtmjjkhnofolacaaX1
namespace Go.Proofs.Ytmjjkhnofolacaa
open Go Go.Gx Go.RowKit
set_option linter.unusedVariables false
set_option maxRecDepth 100000
/-! 23 (postilion/field.Element).Bytes -/
theorem field_Element_Bytes.p1_ok {w0 : World} {Ws : List Wr} {Q : Exit → Env → World → Prop} (g1 g2 : Nat) (x6 : Int) (r4 : List Int) (l_r4 : r4.length = 5) {r : Int} (hQ0 : ∀ (e' : Env) (w' : World) (z0 : Int), e' 1 = .pointer (some ⟨g1, 0, none⟩) → e' 2 = .pointer (some ⟨g2, 0, none⟩) → e' 3 = .int .u64 z0 → Hp w0 Ws w' [⟨g1, 0, ints .u64 r4⟩, ⟨g2, 0, ints .u8 (List.replicate 32 (0 : Int))⟩] [] → r = (z0) → Q (.exit 0) e' w') : ∀ (k : Nat), ∀ (y7 : Int) (y8 : Int) (e : Env) (w : World)  (s1_e : e 1 = .pointer (some ⟨g1, 0, none⟩)) (s2_e : e 2 = .pointer (some ⟨g2, 0, none⟩)) (s3_e : e 3 = .int .u64 y7) (s18_e : e 18 = .slice (some ⟨g1, 0 + 1 * 1, none⟩) (5 - 1) (5 - 1)) (s19_e : e 19 = .int .i64 x6) (s20_e : e 20 = .int .i64 y8) (hp : Hp w0 Ws w [⟨g1, 0, ints .u64 r4⟩, ⟨g2, 0, ints .u8 (List.replicate 32 (0 : Int))⟩] []) (h : field_Element_Bytes.p1 k x6 r4 y7 y8 = some r), Lp Try.prog Try.f23.ntmps (at_ (fbody Try.f23) [1, 1, 1, 0, 1, 0, 0]) Q k e w := by
  intro k
  induction k with
  | zero => intro y7 y8 e w  s1_e s2_e s3_e s18_e s19_e s20_e hp h; cases h
  | succ k ih =>
    intro y7 y8 e w  s1_e s2_e s3_e s18_e s19_e s20_e hp h
    unfold field_Element_Bytes.p1 at h
    show Wp _ _ _ _ _ _
    refine wseq rfl ?_
    refine wregion (.tp 0 (.done)) [] rfl (by kernel_rfl) (by kernel_rfl) ?_
    refine k_bin (X := .int .i64 y8) (Y := .int .i64 x6) rfl s20_e s19_e rfl ?_
    refine k_end ?_; intro e68 qe68
    have s1_e68 : e68 1 = .pointer (some ⟨g1, 0, none⟩) := (congrFun qe68 1).trans s1_e
    have s2_e68 : e68 2 = .pointer (some ⟨g2, 0, none⟩) := (congrFun qe68 2).trans s2_e
    have s3_e68 : e68 3 = .int .u64 y7 := (congrFun qe68 3).trans s3_e
    have s18_e68 : e68 18 = .slice (some ⟨g1, 0 + 1 * 1, none⟩) (5 - 1) (5 - 1) := (congrFun qe68 18).trans s18_e
    have s19_e68 : e68 19 = .int .i64 x6 := (congrFun qe68 19).trans s19_e
    have s20_e68 : e68 20 = .int .i64 y8 := (congrFun qe68 20).trans s20_e
    have s21_e68 : e68 21 = .bool (decide (y8 < x6)) := congrFun qe68 21
    clear qe68
    refine wseq rfl ?_
    refine wcond (t := (decide (y8 < x6))) rfl (by decide) s21_e68 (fun hb => ?_) (fun hb => ?_)
    · replace h := br_t hb h
      refine wskip rfl ?_
      refine wseq rfl ?_
      refine wblock rfl ?_
      refine wseq rfl ?_
      refine wregion (.tp 0 (.tk 1 (.tp 2 (.done)))) [] rfl (by kernel_rfl) (by kernel_rfl) ?_
      obtain ⟨c9, h⟩ := chk_e h
      refine k_indexS (s := 1) (j := y8) rfl Try.underlying54 (by kernel_rfl) s18_e68 s20_e68 c9 ?_
      refine k_load (j := (1 + (y8 : Int).toNat * 1)) (v := .int .u64 (r4.getD (1 + (y8 : Int).toNat * 1) 0)) rfl (by kernel_rfl) rfl (hp.get (j := 0) rfl) rfl (show 0 + 1 * 1 + (y8 : Int).toNat * 1 = 0 + (1 + (y8 : Int).toNat * 1) by omega) (ints_get (by have := l_r4; omega)) ?_
      refine k_assign (v := .int .u64 (r4.getD (1 + (y8 : Int).toNat * 1) 0)) rfl rfl ?_
      refine k_end ?_; intro e69 qe69
      have s1_e69 : e69 1 = .pointer (some ⟨g1, 0, none⟩) := (congrFun qe69 1).trans s1_e68
      have s2_e69 : e69 2 = .pointer (some ⟨g2, 0, none⟩) := (congrFun qe69 2).trans s2_e68
      have s3_e69 : e69 3 = .int .u64 y7 := (congrFun qe69 3).trans s3_e68
      obtain ⟨x10, qx10, h⟩ := lt_e h
      have s5_e69 : e69 5 = .int .u64 x10 := (congrFun qe69 5).trans (congrArg (Value.int .u64) qx10.symm)
      have s18_e69 : e69 18 = .slice (some ⟨g1, 0 + 1 * 1, none⟩) (5 - 1) (5 - 1) := (congrFun qe69 18).trans s18_e68
      have s19_e69 : e69 19 = .int .i64 x6 := (congrFun qe69 19).trans s19_e68
      have s20_e69 : e69 20 = .int .i64 y8 := (congrFun qe69 20).trans s20_e68
      clear qe69
      refine wregion (.tp 0 (.tp 1 (.tp 2 (.tp 3 (.tp 4 (.done)))))) [] rfl (by kernel_rfl) (by kernel_rfl) ?_
      refine k_move (v := .int .u64 x10) rfl s5_e69 ?_
      refine k_move (v := .int .u64 y7) rfl s3_e69 ?_
      refine k_bin (X := .int .u64 x10) (Y := .int .u64 y7) rfl rfl rfl rfl ?_
      refine k_shr (a := (IntKind.u64.wrap (x10 + y7))) (b := 51) rfl rfl rfl (by decide) ?_
      refine k_assign (v := .int .u64 (Int.fdiv (IntKind.u64.wrap (x10 + y7)) (2 ^ 51))) rfl rfl ?_
      refine k_end ?_; intro e70 qe70
      have s1_e70 : e70 1 = .pointer (some ⟨g1, 0, none⟩) := (congrFun qe70 1).trans s1_e69
      have s2_e70 : e70 2 = .pointer (some ⟨g2, 0, none⟩) := (congrFun qe70 2).trans s2_e69
      obtain ⟨x11, qx11, h⟩ := lt_e h
      have s3_e70 : e70 3 = .int .u64 x11 := (congrFun qe70 3).trans (congrArg (Value.int .u64) qx11.symm)
      have s18_e70 : e70 18 = .slice (some ⟨g1, 0 + 1 * 1, none⟩) (5 - 1) (5 - 1) := (congrFun qe70 18).trans s18_e69
      have s19_e70 : e70 19 = .int .i64 x6 := (congrFun qe70 19).trans s19_e69
      have s20_e70 : e70 20 = .int .i64 y8 := (congrFun qe70 20).trans s20_e69
      clear qe70
      refine wregion (.tp 0 (.tp 1 (.done))) [] rfl (by kernel_rfl) (by kernel_rfl) ?_
      refine k_bin (X := .int .i64 y8) (Y := .int .i64 1) rfl s20_e70 rfl rfl ?_
      refine k_move (v := .int .i64 (IntKind.i64.wrap (y8 + 1))) rfl rfl ?_
      refine k_end ?_; intro e71 qe71
      have s1_e71 : e71 1 = .pointer (some ⟨g1, 0, none⟩) := (congrFun qe71 1).trans s1_e70
      have s2_e71 : e71 2 = .pointer (some ⟨g2, 0, none⟩) := (congrFun qe71 2).trans s2_e70
      have s3_e71 : e71 3 = .int .u64 x11 := (congrFun qe71 3).trans s3_e70
      have s18_e71 : e71 18 = .slice (some ⟨g1, 0 + 1 * 1, none⟩) (5 - 1) (5 - 1) := (congrFun qe71 18).trans s18_e70
      have s19_e71 : e71 19 = .int .i64 x6 := (congrFun qe71 19).trans s19_e70
      obtain ⟨x12, qx12, h⟩ := lt_e h
      have s20_e71 : e71 20 = .int .i64 x12 := (congrFun qe71 20).trans (congrArg (Value.int .i64) qx12.symm)
      clear qe71
      exact ih x11 x12 _ _  s1_e71 s2_e71 s3_e71 s18_e71 s19_e71 s20_e71 (hp.drop (L' := [⟨g1, 0, ints .u64 r4⟩, ⟨g2, 0, ints .u8 (List.replicate 32 (0 : Int))⟩]) (List.Sublist.refl _)) h
    · replace h := br_f hb h
      refine wexit rfl ?_
      exact hQ0 _ _ y7  s1_e68 s2_e68 s3_e68 (hp.drop (L' := [⟨g1, 0, ints .u64 r4⟩, ⟨g2, 0, ints .u8 (List.replicate 32 (0 : Int))⟩]) (List.Sublist.refl _)) (Option.some.inj h).symm
theorem field_Element_Bytes.p2_ok {w0 : World} {Ws : List Wr} {Q : Exit → Env → World → Prop} (g1 g2 : Nat)   {r : List Int} (hQ0 : ∀ (e' : Env) (w' : World) (z0 : List Int), z0.length = 5 → e' 1 = .pointer (some ⟨g1, 0, none⟩) → e' 2 = .pointer (some ⟨g2, 0, none⟩) → Hp w0 Ws w' [⟨g1, 0, ints .u64 z0⟩, ⟨g2, 0, ints .u8 (List.replicate 32 (0 : Int))⟩] [] → r = (z0) → Q (.exit 2) e' w') : ∀ (k : Nat), ∀ (y15 : List Int) (y16 : Int) (e : Env) (w : World) (ly15 : y15.length = 5) (s1_e : e 1 = .pointer (some ⟨g1, 0, none⟩)) (s2_e : e 2 = .pointer (some ⟨g2, 0, none⟩)) (s35_e : e 35 = .int .i64 y16) (hp : Hp w0 Ws w [⟨g1, 0, ints .u64 y15⟩, ⟨g2, 0, ints .u8 (List.replicate 32 (0 : Int))⟩] []) (h : field_Element_Bytes.p2 k y15 y16 = some r), Lp Try.prog Try.f23.ntmps (at_ (fbody Try.f23) [1, 1, 1, 1, 1, 0, 1, 0, 0]) Q k e w := by
  intro k
  induction k with
  | zero => intro y15 y16 e w ly15 s1_e s2_e s35_e hp h; cases h
  | succ k ih =>
    intro y15 y16 e w ly15 s1_e s2_e s35_e hp h
    unfold field_Element_Bytes.p2 at h
    show Wp _ _ _ _ _ _
    refine wseq rfl ?_
    refine wregion (.tp 0 (.done)) [] rfl (by kernel_rfl) (by kernel_rfl) ?_
    refine k_bin (X := .int .i64 y16) (Y := .int .i64 4) rfl s35_e rfl rfl ?_
    refine k_end ?_; intro e75 qe75
    have s1_e75 : e75 1 = .pointer (some ⟨g1, 0, none⟩) := (congrFun qe75 1).trans s1_e
    have s2_e75 : e75 2 = .pointer (some ⟨g2, 0, none⟩) := (congrFun qe75 2).trans s2_e
    have s35_e75 : e75 35 = .int .i64 y16 := (congrFun qe75 35).trans s35_e
    have s36_e75 : e75 36 = .bool (decide (y16 < 4)) := congrFun qe75 36
    clear qe75
    refine wseq rfl ?_
    refine wcond (t := (decide (y16 < 4))) rfl (by decide) s36_e75 (fun hb => ?_) (fun hb => ?_)
    · replace h := br_t hb h
      refine wskip rfl ?_
      refine wseq rfl ?_
      refine wblock rfl ?_
      refine wseq rfl ?_
      refine wregion (.tp 0 (.tp 1 (.done))) [] rfl (by kernel_rfl) (by kernel_rfl) ?_
      refine k_move (v := .int .i64 y16) rfl s35_e75 ?_
      refine k_assign (v := .int .i64 y16) rfl rfl ?_
      refine k_end ?_; intro e76 qe76
      have s1_e76 : e76 1 = .pointer (some ⟨g1, 0, none⟩) := (congrFun qe76 1).trans s1_e75
      have s2_e76 : e76 2 = .pointer (some ⟨g2, 0, none⟩) := (congrFun qe76 2).trans s2_e75
      have s6_e76 : e76 6 = .int .i64 y16 := congrFun qe76 6
      have s35_e76 : e76 35 = .int .i64 y16 := (congrFun qe76 35).trans s35_e75
      clear qe76
      refine wseq rfl ?_
      refine wregion_m (.tp 0 (.tp 1 (.tp 2 (.tk 3 (.tp 4 (.tp 5 (.tk 6 (.tp 7 (.tp 8 (.tp 9 (.ef 10 (.done)))))))))))) [10] [(0, 0, 2047), (1, 1, 2047), (2, 2, 2047), (4, 4, 0), (0, 0, 2047), (16, 16, 2047), (32, 32, 0), (64, 64, 2047), (136, 136, 2047), (511, 2, 2047), (1023, 2047, 2047)] rfl (by kernel_rfl) (by kernel_rfl) (Nat.le_of_ble_eq_true (by kernel_rfl)) (by kernel_rfl) (by kernel_rfl) ?_
      have hp := hp.drew
      refine k_move (v := .int .i64 y16) rfl s6_e76 ?_
      refine k_bin (X := .int .i64 y16) (Y := .int .i64 1) rfl rfl rfl rfl ?_
      obtain ⟨c17, h⟩ := chk_e h
      refine k_indexA (n := 5) (s := 1) (j := (IntKind.i64.wrap (y16 + 1))) rfl Try.underlying34 (by kernel_rfl) s1_e76 rfl c17 ?_
      refine k_load (j := ((IntKind.i64.wrap (y16 + 1)) : Int).toNat) (v := .int .u64 (y15.getD ((IntKind.i64.wrap (y16 + 1)) : Int).toNat 0)) rfl (by kernel_rfl) rfl (hp.get (j := 0) rfl) rfl (show 0 + ((IntKind.i64.wrap (y16 + 1)) : Int).toNat * 1 = 0 + ((IntKind.i64.wrap (y16 + 1)) : Int).toNat by omega) (ints_get (idx_lt c17 ly15)) ?_
      refine k_move (v := .int .i64 y16) rfl s6_e76 ?_
      obtain ⟨c18, h⟩ := chk_e h
      refine k_indexA (n := 5) (s := 1) (j := y16) rfl Try.underlying34 (by kernel_rfl) s1_e76 rfl c18 ?_
      refine k_load (j := (y16 : Int).toNat) (v := .int .u64 (y15.getD (y16 : Int).toNat 0)) rfl (by kernel_rfl) rfl (hp.get (j := 0) rfl) rfl (show 0 + (y16 : Int).toNat * 1 = 0 + (y16 : Int).toNat by omega) (ints_get (idx_lt c18 ly15)) ?_
      refine k_shr (a := (y15.getD (y16 : Int).toNat 0)) (b := 51) rfl rfl rfl (by decide) ?_
      refine k_bin (X := .int .u64 (y15.getD ((IntKind.i64.wrap (y16 + 1)) : Int).toNat 0)) (Y := .int .u64 (Int.fdiv (y15.getD (y16 : Int).toNat 0) (2 ^ 51))) rfl rfl rfl rfl ?_
      refine k_indexA (n := 5) (s := 1) (j := (IntKind.i64.wrap (y16 + 1))) rfl Try.underlying34 (by kernel_rfl) s1_e76 rfl c17 ?_
      refine k_store (v := .int .u64 (IntKind.u64.wrap ((y15.getD ((IntKind.i64.wrap (y16 + 1)) : Int).toNat 0) + (Int.fdiv (y15.getD (y16 : Int).toNat 0) (2 ^ 51))))) 0 ((IntKind.i64.wrap (y16 + 1)) : Int).toNat (r := ⟨g1, 0, ints .u64 y15⟩) rfl (by kernel_rfl) rfl rfl rfl hp rfl rfl (show 0 + ((IntKind.i64.wrap (y16 + 1)) : Int).toNat * 1 = 0 + ((IntKind.i64.wrap (y16 + 1)) : Int).toNat by omega) (Nat.lt_of_lt_of_eq (idx_lt c17 ly15) (ints_length _ _).symm) (by decide) ?_; intro w hp; rw [ints_set] at hp
      refine k_end ?_; intro e77 qe77
      have s1_e77 : e77 1 = .pointer (some ⟨g1, 0, none⟩) := (congrFun qe77 1).trans s1_e76
      have s2_e77 : e77 2 = .pointer (some ⟨g2, 0, none⟩) := (congrFun qe77 2).trans s2_e76
      have s6_e77 : e77 6 = .int .i64 y16 := (congrFun qe77 6).trans s6_e76
      have s35_e77 : e77 35 = .int .i64 y16 := (congrFun qe77 35).trans s35_e76
      clear qe77
      refine wregion (.tp 0 (.tp 1 (.tk 2 (.tp 3 (.tp 4 (.ef 5 (.done))))))) [5] rfl (by kernel_rfl) (by kernel_rfl) ?_
      refine k_move (v := .int .i64 y16) rfl s6_e77 ?_
      refine k_indexA (n := 5) (s := 1) (j := y16) rfl Try.underlying34 (by kernel_rfl) s1_e77 rfl c18 ?_
      refine k_load (j := (y16 : Int).toNat) (v := .int .u64 ((y15.set ((IntKind.i64.wrap (y16 + 1)) : Int).toNat (IntKind.u64.wrap ((y15.getD ((IntKind.i64.wrap (y16 + 1)) : Int).toNat 0) + (Int.fdiv (y15.getD (y16 : Int).toNat 0) (2 ^ 51))))).getD (y16 : Int).toNat 0)) rfl (by kernel_rfl) rfl (hp.get (j := 0) rfl) rfl (show 0 + (y16 : Int).toNat * 1 = 0 + (y16 : Int).toNat by omega) (ints_get (idx_lt c18 (List.length_set.trans ly15))) ?_
      refine k_bin (X := .int .u64 ((y15.set ((IntKind.i64.wrap (y16 + 1)) : Int).toNat (IntKind.u64.wrap ((y15.getD ((IntKind.i64.wrap (y16 + 1)) : Int).toNat 0) + (Int.fdiv (y15.getD (y16 : Int).toNat 0) (2 ^ 51))))).getD (y16 : Int).toNat 0)) (Y := .int .u64 2251799813685247) rfl rfl rfl rfl ?_
      refine k_indexA (n := 5) (s := 1) (j := y16) rfl Try.underlying34 (by kernel_rfl) s1_e77 rfl c18 ?_
      refine k_store (v := .int .u64 (bits .and .u64 ((y15.set ((IntKind.i64.wrap (y16 + 1)) : Int).toNat (IntKind.u64.wrap ((y15.getD ((IntKind.i64.wrap (y16 + 1)) : Int).toNat 0) + (Int.fdiv (y15.getD (y16 : Int).toNat 0) (2 ^ 51))))).getD (y16 : Int).toNat 0) 2251799813685247)) 0 (y16 : Int).toNat (r := ⟨g1, 0, ints .u64 (y15.set ((IntKind.i64.wrap (y16 + 1)) : Int).toNat (IntKind.u64.wrap ((y15.getD ((IntKind.i64.wrap (y16 + 1)) : Int).toNat 0) + (Int.fdiv (y15.getD (y16 : Int).toNat 0) (2 ^ 51)))))⟩) rfl (by kernel_rfl) rfl rfl rfl hp rfl rfl (show 0 + (y16 : Int).toNat * 1 = 0 + (y16 : Int).toNat by omega) (Nat.lt_of_lt_of_eq (idx_lt c18 (List.length_set.trans ly15)) (ints_length _ _).symm) (by decide) ?_; intro w hp; rw [ints_set] at hp
      refine k_end ?_; intro e78 qe78
      have s1_e78 : e78 1 = .pointer (some ⟨g1, 0, none⟩) := (congrFun qe78 1).trans s1_e77
      have s2_e78 : e78 2 = .pointer (some ⟨g2, 0, none⟩) := (congrFun qe78 2).trans s2_e77
      have s35_e78 : e78 35 = .int .i64 y16 := (congrFun qe78 35).trans s35_e77
      clear qe78
      refine wregion (.tp 0 (.tp 1 (.done))) [] rfl (by kernel_rfl) (by kernel_rfl) ?_
      refine k_bin (X := .int .i64 y16) (Y := .int .i64 1) rfl s35_e78 rfl rfl ?_
      refine k_move (v := .int .i64 (IntKind.i64.wrap (y16 + 1))) rfl rfl ?_
      refine k_end ?_; intro e79 qe79
      have s1_e79 : e79 1 = .pointer (some ⟨g1, 0, none⟩) := (congrFun qe79 1).trans s1_e78
      have s2_e79 : e79 2 = .pointer (some ⟨g2, 0, none⟩) := (congrFun qe79 2).trans s2_e78
      obtain ⟨x19, qx19, h⟩ := lt_e h
      have s35_e79 : e79 35 = .int .i64 x19 := (congrFun qe79 35).trans (congrArg (Value.int .i64) qx19.symm)
      clear qe79
      exact ih ((y15.set ((IntKind.i64.wrap (y16 + 1)) : Int).toNat (IntKind.u64.wrap ((y15.getD ((IntKind.i64.wrap (y16 + 1)) : Int).toNat 0) + (Int.fdiv (y15.getD (y16 : Int).toNat 0) (2 ^ 51))))).set (y16 : Int).toNat (bits .and .u64 ((y15.set ((IntKind.i64.wrap (y16 + 1)) : Int).toNat (IntKind.u64.wrap ((y15.getD ((IntKind.i64.wrap (y16 + 1)) : Int).toNat 0) + (Int.fdiv (y15.getD (y16 : Int).toNat 0) (2 ^ 51))))).getD (y16 : Int).toNat 0) 2251799813685247)) x19 _ _ (List.length_set.trans (List.length_set.trans ly15)) s1_e79 s2_e79 s35_e79 (hp.drop (L' := [⟨g1, 0, ints .u64 ((y15.set ((IntKind.i64.wrap (y16 + 1)) : Int).toNat (IntKind.u64.wrap ((y15.getD ((IntKind.i64.wrap (y16 + 1)) : Int).toNat 0) + (Int.fdiv (y15.getD (y16 : Int).toNat 0) (2 ^ 51))))).set (y16 : Int).toNat (bits .and .u64 ((y15.set ((IntKind.i64.wrap (y16 + 1)) : Int).toNat (IntKind.u64.wrap ((y15.getD ((IntKind.i64.wrap (y16 + 1)) : Int).toNat 0) + (Int.fdiv (y15.getD (y16 : Int).toNat 0) (2 ^ 51))))).getD (y16 : Int).toNat 0) 2251799813685247))⟩, ⟨g2, 0, ints .u8 (List.replicate 32 (0 : Int))⟩]) (List.Sublist.refl _)) h
    · replace h := br_f hb h
      refine wexit rfl ?_
      exact hQ0 _ _ y15 ly15 s1_e75 s2_e75 (hp.drop (L' := [⟨g1, 0, ints .u64 y15⟩, ⟨g2, 0, ints .u8 (List.replicate 32 (0 : Int))⟩]) (List.Sublist.refl _)) (Option.some.inj h).symm
theorem field_Element_Bytes.p4_ok {w0 : World} {Ws : List Wr} {Q : Exit → Env → World → Prop} (g1 g2 g22 : Nat) (y24 : Int) (x26 : Int) (m21 : List Int) (l_m21 : m21.length = 5) {r : List Int} (hQ0 : ∀ (e' : Env) (w' : World) (z0 : List Int), z0.length = 32 → e' 2 = .pointer (some ⟨g2, 0, none⟩) → e' 7 = .pointer (some ⟨g22, 0, none⟩) → e' 85 = .agg (ints .u64 [(bits .or .u64 ((m21.set 4 (bits .and .u64 (m21.getD 4 0) 2251799813685247)).getD 0 0) (IntKind.u64.wrap (((m21.set 4 (bits .and .u64 (m21.getD 4 0) 2251799813685247)).getD 1 0) * 2 ^ 51))), (bits .or .u64 (Int.fdiv ((m21.set 4 (bits .and .u64 (m21.getD 4 0) 2251799813685247)).getD 1 0) (2 ^ 13)) (IntKind.u64.wrap (((m21.set 4 (bits .and .u64 (m21.getD 4 0) 2251799813685247)).getD 2 0) * 2 ^ 38))), (bits .or .u64 (Int.fdiv ((m21.set 4 (bits .and .u64 (m21.getD 4 0) 2251799813685247)).getD 2 0) (2 ^ 26)) (IntKind.u64.wrap (((m21.set 4 (bits .and .u64 (m21.getD 4 0) 2251799813685247)).getD 3 0) * 2 ^ 25))), (bits .or .u64 (Int.fdiv ((m21.set 4 (bits .and .u64 (m21.getD 4 0) 2251799813685247)).getD 3 0) (2 ^ 39)) (IntKind.u64.wrap (((m21.set 4 (bits .and .u64 (m21.getD 4 0) 2251799813685247)).getD 4 0) * 2 ^ 12)))]).toArray → e' 86 = .int .i64 y24 → Hp w0 Ws w' [⟨g1, 0, ints .u64 (m21.set 4 (bits .and .u64 (m21.getD 4 0) 2251799813685247))⟩, ⟨g2, 0, ints .u8 (List.replicate 32 (0 : Int))⟩, ⟨g22, 0, ints .u8 z0⟩] [] → r = (z0) → Q (.exit 6) e' w') : ∀ (k : Nat), ∀ (y27 : List Int) (y28 : Int) (e : Env) (w : World) (ly27 : y27.length = 32) (s2_e : e 2 = .pointer (some ⟨g2, 0, none⟩)) (s7_e : e 7 = .pointer (some ⟨g22, 0, none⟩)) (s8_e : e 8 = .int .i64 y24) (s9_e : e 9 = .int .u64 x26) (s85_e : e 85 = .agg (ints .u64 [(bits .or .u64 ((m21.set 4 (bits .and .u64 (m21.getD 4 0) 2251799813685247)).getD 0 0) (IntKind.u64.wrap (((m21.set 4 (bits .and .u64 (m21.getD 4 0) 2251799813685247)).getD 1 0) * 2 ^ 51))), (bits .or .u64 (Int.fdiv ((m21.set 4 (bits .and .u64 (m21.getD 4 0) 2251799813685247)).getD 1 0) (2 ^ 13)) (IntKind.u64.wrap (((m21.set 4 (bits .and .u64 (m21.getD 4 0) 2251799813685247)).getD 2 0) * 2 ^ 38))), (bits .or .u64 (Int.fdiv ((m21.set 4 (bits .and .u64 (m21.getD 4 0) 2251799813685247)).getD 2 0) (2 ^ 26)) (IntKind.u64.wrap (((m21.set 4 (bits .and .u64 (m21.getD 4 0) 2251799813685247)).getD 3 0) * 2 ^ 25))), (bits .or .u64 (Int.fdiv ((m21.set 4 (bits .and .u64 (m21.getD 4 0) 2251799813685247)).getD 3 0) (2 ^ 39)) (IntKind.u64.wrap (((m21.set 4 (bits .and .u64 (m21.getD 4 0) 2251799813685247)).getD 4 0) * 2 ^ 12)))]).toArray) (s86_e : e 86 = .int .i64 y24) (s90_e : e 90 = .int .i64 y28) (hp : Hp w0 Ws w [⟨g1, 0, ints .u64 (m21.set 4 (bits .and .u64 (m21.getD 4 0) 2251799813685247))⟩, ⟨g2, 0, ints .u8 (List.replicate 32 (0 : Int))⟩, ⟨g22, 0, ints .u8 y27⟩] []) (h : field_Element_Bytes.p4 k y24 x26 y27 y28 = some r), Lp Try.prog Try.f23.ntmps (at_ (fbody Try.f23) [1, 1, 1, 1, 1, 1, 1, 1, 0, 1, 0, 0, 1, 1, 0, 0, 1, 1, 0, 0]) Q k e w := by
  intro k
  induction k with
  | zero => intro y27 y28 e w ly27 s2_e s7_e s8_e s9_e s85_e s86_e s90_e hp h; cases h
  | succ k ih =>
    intro y27 y28 e w ly27 s2_e s7_e s8_e s9_e s85_e s86_e s90_e hp h
    unfold field_Element_Bytes.p4 at h
    show Wp _ _ _ _ _ _
    refine wseq rfl ?_
    refine wregion (.tp 0 (.done)) [] rfl (by kernel_rfl) (by kernel_rfl) ?_
    refine k_bin (X := .int .i64 y28) (Y := .int .i64 8) rfl s90_e rfl rfl ?_
    refine k_end ?_; intro e87 qe87
    have s2_e87 : e87 2 = .pointer (some ⟨g2, 0, none⟩) := (congrFun qe87 2).trans s2_e
    have s7_e87 : e87 7 = .pointer (some ⟨g22, 0, none⟩) := (congrFun qe87 7).trans s7_e
    have s8_e87 : e87 8 = .int .i64 y24 := (congrFun qe87 8).trans s8_e
    have s9_e87 : e87 9 = .int .u64 x26 := (congrFun qe87 9).trans s9_e
    have s85_e87 : e87 85 = .agg (ints .u64 [(bits .or .u64 ((m21.set 4 (bits .and .u64 (m21.getD 4 0) 2251799813685247)).getD 0 0) (IntKind.u64.wrap (((m21.set 4 (bits .and .u64 (m21.getD 4 0) 2251799813685247)).getD 1 0) * 2 ^ 51))), (bits .or .u64 (Int.fdiv ((m21.set 4 (bits .and .u64 (m21.getD 4 0) 2251799813685247)).getD 1 0) (2 ^ 13)) (IntKind.u64.wrap (((m21.set 4 (bits .and .u64 (m21.getD 4 0) 2251799813685247)).getD 2 0) * 2 ^ 38))), (bits .or .u64 (Int.fdiv ((m21.set 4 (bits .and .u64 (m21.getD 4 0) 2251799813685247)).getD 2 0) (2 ^ 26)) (IntKind.u64.wrap (((m21.set 4 (bits .and .u64 (m21.getD 4 0) 2251799813685247)).getD 3 0) * 2 ^ 25))), (bits .or .u64 (Int.fdiv ((m21.set 4 (bits .and .u64 (m21.getD 4 0) 2251799813685247)).getD 3 0) (2 ^ 39)) (IntKind.u64.wrap (((m21.set 4 (bits .and .u64 (m21.getD 4 0) 2251799813685247)).getD 4 0) * 2 ^ 12)))]).toArray := (congrFun qe87 85).trans s85_e
    have s86_e87 : e87 86 = .int .i64 y24 := (congrFun qe87 86).trans s86_e
    have s90_e87 : e87 90 = .int .i64 y28 := (congrFun qe87 90).trans s90_e
    have s91_e87 : e87 91 = .bool (decide (y28 < 8)) := congrFun qe87 91
    clear qe87
    refine wseq rfl ?_
    refine wcond (t := (decide (y28 < 8))) rfl (by decide) s91_e87 (fun hb => ?_) (fun hb => ?_)
    · replace h := br_t hb h
      refine wskip rfl ?_
      refine wseq rfl ?_
      refine wblock rfl ?_
      refine wseq rfl ?_
      refine wregion (.tp 0 (.tp 1 (.done))) [] rfl (by kernel_rfl) (by kernel_rfl) ?_
      refine k_move (v := .int .i64 y28) rfl s90_e87 ?_
      refine k_assign (v := .int .i64 y28) rfl rfl ?_
      refine k_end ?_; intro e88 qe88
      have s2_e88 : e88 2 = .pointer (some ⟨g2, 0, none⟩) := (congrFun qe88 2).trans s2_e87
      have s7_e88 : e88 7 = .pointer (some ⟨g22, 0, none⟩) := (congrFun qe88 7).trans s7_e87
      have s8_e88 : e88 8 = .int .i64 y24 := (congrFun qe88 8).trans s8_e87
      have s9_e88 : e88 9 = .int .u64 x26 := (congrFun qe88 9).trans s9_e87
      have s10_e88 : e88 10 = .int .i64 y28 := congrFun qe88 10
      have s85_e88 : e88 85 = .agg (ints .u64 [(bits .or .u64 ((m21.set 4 (bits .and .u64 (m21.getD 4 0) 2251799813685247)).getD 0 0) (IntKind.u64.wrap (((m21.set 4 (bits .and .u64 (m21.getD 4 0) 2251799813685247)).getD 1 0) * 2 ^ 51))), (bits .or .u64 (Int.fdiv ((m21.set 4 (bits .and .u64 (m21.getD 4 0) 2251799813685247)).getD 1 0) (2 ^ 13)) (IntKind.u64.wrap (((m21.set 4 (bits .and .u64 (m21.getD 4 0) 2251799813685247)).getD 2 0) * 2 ^ 38))), (bits .or .u64 (Int.fdiv ((m21.set 4 (bits .and .u64 (m21.getD 4 0) 2251799813685247)).getD 2 0) (2 ^ 26)) (IntKind.u64.wrap (((m21.set 4 (bits .and .u64 (m21.getD 4 0) 2251799813685247)).getD 3 0) * 2 ^ 25))), (bits .or .u64 (Int.fdiv ((m21.set 4 (bits .and .u64 (m21.getD 4 0) 2251799813685247)).getD 3 0) (2 ^ 39)) (IntKind.u64.wrap (((m21.set 4 (bits .and .u64 (m21.getD 4 0) 2251799813685247)).getD 4 0) * 2 ^ 12)))]).toArray := (congrFun qe88 85).trans s85_e87
      have s86_e88 : e88 86 = .int .i64 y24 := (congrFun qe88 86).trans s86_e87
      have s90_e88 : e88 90 = .int .i64 y28 := (congrFun qe88 90).trans s90_e87
      clear qe88
      refine wregion (.tp 0 (.tp 1 (.tp 2 (.tp 3 (.tp 4 (.tp 5 (.tp 6 (.tp 7 (.tp 8 (.tp 9 (.ef 10 (.done)))))))))))) [10] rfl (by kernel_rfl) (by kernel_rfl) ?_
      refine k_move (v := .int .i64 y24) rfl s8_e88 ?_
      refine k_bin (X := .int .i64 8) (Y := .int .i64 y24) rfl rfl rfl rfl ?_
      refine k_move (v := .int .i64 y28) rfl s10_e88 ?_
      refine k_bin (X := .int .i64 (IntKind.i64.wrap (8 * y24))) (Y := .int .i64 y28) rfl rfl rfl rfl ?_
      refine k_move (v := .int .u64 x26) rfl s9_e88 ?_
      refine k_move (v := .int .i64 y28) rfl s10_e88 ?_
      refine k_bin (X := .int .i64 8) (Y := .int .i64 y28) rfl rfl rfl rfl ?_
      obtain ⟨c29, h⟩ := chk_e h
      refine k_shr (a := x26) (b := (IntKind.i64.wrap (8 * y28))) rfl rfl rfl c29 ?_
      refine k_conv (k := .u8) (k' := .u64) (n := (Int.fdiv x26 (2 ^ (min ((IntKind.i64.wrap (8 * y28)) : Int).toNat (IntKind.u64).bits)))) rfl Try.underlying32 Try.underlying5 rfl ?_
      obtain ⟨c30, h⟩ := chk_e h
      refine k_indexA (n := 32) (s := 1) (j := (IntKind.i64.wrap ((IntKind.i64.wrap (8 * y24)) + y28))) rfl Try.underlying22 (by kernel_rfl) s7_e88 rfl c30 ?_
      refine k_store (v := .int .u8 (IntKind.u8.wrap (Int.fdiv x26 (2 ^ (min ((IntKind.i64.wrap (8 * y28)) : Int).toNat (IntKind.u64).bits))))) 2 ((IntKind.i64.wrap ((IntKind.i64.wrap (8 * y24)) + y28)) : Int).toNat (r := ⟨g22, 0, ints .u8 y27⟩) rfl (by kernel_rfl) rfl rfl rfl hp rfl rfl (show 0 + ((IntKind.i64.wrap ((IntKind.i64.wrap (8 * y24)) + y28)) : Int).toNat * 1 = 0 + ((IntKind.i64.wrap ((IntKind.i64.wrap (8 * y24)) + y28)) : Int).toNat by omega) (Nat.lt_of_lt_of_eq (idx_lt c30 ly27) (ints_length _ _).symm) (by decide) ?_; intro w hp; rw [ints_set] at hp
      refine k_end ?_; intro e89 qe89
      have s2_e89 : e89 2 = .pointer (some ⟨g2, 0, none⟩) := (congrFun qe89 2).trans s2_e88
      have s7_e89 : e89 7 = .pointer (some ⟨g22, 0, none⟩) := (congrFun qe89 7).trans s7_e88
      have s8_e89 : e89 8 = .int .i64 y24 := (congrFun qe89 8).trans s8_e88
      have s9_e89 : e89 9 = .int .u64 x26 := (congrFun qe89 9).trans s9_e88
      have s85_e89 : e89 85 = .agg (ints .u64 [(bits .or .u64 ((m21.set 4 (bits .and .u64 (m21.getD 4 0) 2251799813685247)).getD 0 0) (IntKind.u64.wrap (((m21.set 4 (bits .and .u64 (m21.getD 4 0) 2251799813685247)).getD 1 0) * 2 ^ 51))), (bits .or .u64 (Int.fdiv ((m21.set 4 (bits .and .u64 (m21.getD 4 0) 2251799813685247)).getD 1 0) (2 ^ 13)) (IntKind.u64.wrap (((m21.set 4 (bits .and .u64 (m21.getD 4 0) 2251799813685247)).getD 2 0) * 2 ^ 38))), (bits .or .u64 (Int.fdiv ((m21.set 4 (bits .and .u64 (m21.getD 4 0) 2251799813685247)).getD 2 0) (2 ^ 26)) (IntKind.u64.wrap (((m21.set 4 (bits .and .u64 (m21.getD 4 0) 2251799813685247)).getD 3 0) * 2 ^ 25))), (bits .or .u64 (Int.fdiv ((m21.set 4 (bits .and .u64 (m21.getD 4 0) 2251799813685247)).getD 3 0) (2 ^ 39)) (IntKind.u64.wrap (((m21.set 4 (bits .and .u64 (m21.getD 4 0) 2251799813685247)).getD 4 0) * 2 ^ 12)))]).toArray := (congrFun qe89 85).trans s85_e88
      have s86_e89 : e89 86 = .int .i64 y24 := (congrFun qe89 86).trans s86_e88
      have s90_e89 : e89 90 = .int .i64 y28 := (congrFun qe89 90).trans s90_e88
      clear qe89
      refine wregion (.tp 0 (.tp 1 (.done))) [] rfl (by kernel_rfl) (by kernel_rfl) ?_
      refine k_bin (X := .int .i64 y28) (Y := .int .i64 1) rfl s90_e89 rfl rfl ?_
      refine k_move (v := .int .i64 (IntKind.i64.wrap (y28 + 1))) rfl rfl ?_
      refine k_end ?_; intro e90 qe90
      have s2_e90 : e90 2 = .pointer (some ⟨g2, 0, none⟩) := (congrFun qe90 2).trans s2_e89
      have s7_e90 : e90 7 = .pointer (some ⟨g22, 0, none⟩) := (congrFun qe90 7).trans s7_e89
      have s8_e90 : e90 8 = .int .i64 y24 := (congrFun qe90 8).trans s8_e89
      have s9_e90 : e90 9 = .int .u64 x26 := (congrFun qe90 9).trans s9_e89
      have s85_e90 : e90 85 = .agg (ints .u64 [(bits .or .u64 ((m21.set 4 (bits .and .u64 (m21.getD 4 0) 2251799813685247)).getD 0 0) (IntKind.u64.wrap (((m21.set 4 (bits .and .u64 (m21.getD 4 0) 2251799813685247)).getD 1 0) * 2 ^ 51))), (bits .or .u64 (Int.fdiv ((m21.set 4 (bits .and .u64 (m21.getD 4 0) 2251799813685247)).getD 1 0) (2 ^ 13)) (IntKind.u64.wrap (((m21.set 4 (bits .and .u64 (m21.getD 4 0) 2251799813685247)).getD 2 0) * 2 ^ 38))), (bits .or .u64 (Int.fdiv ((m21.set 4 (bits .and .u64 (m21.getD 4 0) 2251799813685247)).getD 2 0) (2 ^ 26)) (IntKind.u64.wrap (((m21.set 4 (bits .and .u64 (m21.getD 4 0) 2251799813685247)).getD 3 0) * 2 ^ 25))), (bits .or .u64 (Int.fdiv ((m21.set 4 (bits .and .u64 (m21.getD 4 0) 2251799813685247)).getD 3 0) (2 ^ 39)) (IntKind.u64.wrap (((m21.set 4 (bits .and .u64 (m21.getD 4 0) 2251799813685247)).getD 4 0) * 2 ^ 12)))]).toArray := (congrFun qe90 85).trans s85_e89
      have s86_e90 : e90 86 = .int .i64 y24 := (congrFun qe90 86).trans s86_e89
      obtain ⟨x31, qx31, h⟩ := lt_e h
      have s90_e90 : e90 90 = .int .i64 x31 := (congrFun qe90 90).trans (congrArg (Value.int .i64) qx31.symm)
      clear qe90
      exact ih (y27.set ((IntKind.i64.wrap ((IntKind.i64.wrap (8 * y24)) + y28)) : Int).toNat (IntKind.u8.wrap (Int.fdiv x26 (2 ^ (min ((IntKind.i64.wrap (8 * y28)) : Int).toNat (IntKind.u64).bits))))) x31 _ _ (List.length_set.trans ly27) s2_e90 s7_e90 s8_e90 s9_e90 s85_e90 s86_e90 s90_e90 (hp.drop (L' := [⟨g1, 0, ints .u64 (m21.set 4 (bits .and .u64 (m21.getD 4 0) 2251799813685247))⟩, ⟨g2, 0, ints .u8 (List.replicate 32 (0 : Int))⟩, ⟨g22, 0, ints .u8 (y27.set ((IntKind.i64.wrap ((IntKind.i64.wrap (8 * y24)) + y28)) : Int).toNat (IntKind.u8.wrap (Int.fdiv x26 (2 ^ (min ((IntKind.i64.wrap (8 * y28)) : Int).toNat (IntKind.u64).bits)))))⟩]) (List.Sublist.refl _)) h
    · replace h := br_f hb h
      refine wexit rfl ?_
      exact hQ0 _ _ y27 ly27 s2_e87 s7_e87 s85_e87 s86_e87 (hp.drop (L' := [⟨g1, 0, ints .u64 (m21.set 4 (bits .and .u64 (m21.getD 4 0) 2251799813685247))⟩, ⟨g2, 0, ints .u8 (List.replicate 32 (0 : Int))⟩, ⟨g22, 0, ints .u8 y27⟩]) (List.Sublist.refl _)) (Option.some.inj h).symm
theorem field_Element_Bytes.p3_ok {w0 : World} {Ws : List Wr} {Q : Exit → Env → World → Prop} (g1 g2 g22 : Nat) (m21 : List Int) (l_m21 : m21.length = 5) {r : List Int} (hQ0 : ∀ (e' : Env) (w' : World) (z0 : List Int), z0.length = 32 → e' 2 = .pointer (some ⟨g2, 0, none⟩) → e' 7 = .pointer (some ⟨g22, 0, none⟩) → Hp w0 Ws w' [⟨g1, 0, ints .u64 (m21.set 4 (bits .and .u64 (m21.getD 4 0) 2251799813685247))⟩, ⟨g2, 0, ints .u8 (List.replicate 32 (0 : Int))⟩, ⟨g22, 0, ints .u8 z0⟩] [] → r = (z0) → Q (.exit 4) e' w') : ∀ (k : Nat), ∀ (y23 : List Int) (y24 : Int) (e : Env) (w : World) (ly23 : y23.length = 32) (s2_e : e 2 = .pointer (some ⟨g2, 0, none⟩)) (s7_e : e 7 = .pointer (some ⟨g22, 0, none⟩)) (s85_e : e 85 = .agg (ints .u64 [(bits .or .u64 ((m21.set 4 (bits .and .u64 (m21.getD 4 0) 2251799813685247)).getD 0 0) (IntKind.u64.wrap (((m21.set 4 (bits .and .u64 (m21.getD 4 0) 2251799813685247)).getD 1 0) * 2 ^ 51))), (bits .or .u64 (Int.fdiv ((m21.set 4 (bits .and .u64 (m21.getD 4 0) 2251799813685247)).getD 1 0) (2 ^ 13)) (IntKind.u64.wrap (((m21.set 4 (bits .and .u64 (m21.getD 4 0) 2251799813685247)).getD 2 0) * 2 ^ 38))), (bits .or .u64 (Int.fdiv ((m21.set 4 (bits .and .u64 (m21.getD 4 0) 2251799813685247)).getD 2 0) (2 ^ 26)) (IntKind.u64.wrap (((m21.set 4 (bits .and .u64 (m21.getD 4 0) 2251799813685247)).getD 3 0) * 2 ^ 25))), (bits .or .u64 (Int.fdiv ((m21.set 4 (bits .and .u64 (m21.getD 4 0) 2251799813685247)).getD 3 0) (2 ^ 39)) (IntKind.u64.wrap (((m21.set 4 (bits .and .u64 (m21.getD 4 0) 2251799813685247)).getD 4 0) * 2 ^ 12)))]).toArray) (s86_e : e 86 = .int .i64 y24) (hp : Hp w0 Ws w [⟨g1, 0, ints .u64 (m21.set 4 (bits .and .u64 (m21.getD 4 0) 2251799813685247))⟩, ⟨g2, 0, ints .u8 (List.replicate 32 (0 : Int))⟩, ⟨g22, 0, ints .u8 y23⟩] []) (h : field_Element_Bytes.p3 k m21 y23 y24 = some r), Lp Try.prog Try.f23.ntmps (at_ (fbody Try.f23) [1, 1, 1, 1, 1, 1, 1, 1, 0, 1, 0, 0]) Q k e w := by
  intro k
  induction k with
  | zero => intro y23 y24 e w ly23 s2_e s7_e s85_e s86_e hp h; cases h
  | succ k ih =>
    intro y23 y24 e w ly23 s2_e s7_e s85_e s86_e hp h
    unfold field_Element_Bytes.p3 at h
    show Wp _ _ _ _ _ _
    refine wseq rfl ?_
    refine wregion (.tp 0 (.done)) [] rfl (by kernel_rfl) (by kernel_rfl) ?_
    refine k_bin (X := .int .i64 y24) (Y := .int .i64 4) rfl s86_e rfl rfl ?_
    refine k_end ?_; intro e84 qe84
    have s2_e84 : e84 2 = .pointer (some ⟨g2, 0, none⟩) := (congrFun qe84 2).trans s2_e
    have s7_e84 : e84 7 = .pointer (some ⟨g22, 0, none⟩) := (congrFun qe84 7).trans s7_e
    have s85_e84 : e84 85 = .agg (ints .u64 [(bits .or .u64 ((m21.set 4 (bits .and .u64 (m21.getD 4 0) 2251799813685247)).getD 0 0) (IntKind.u64.wrap (((m21.set 4 (bits .and .u64 (m21.getD 4 0) 2251799813685247)).getD 1 0) * 2 ^ 51))), (bits .or .u64 (Int.fdiv ((m21.set 4 (bits .and .u64 (m21.getD 4 0) 2251799813685247)).getD 1 0) (2 ^ 13)) (IntKind.u64.wrap (((m21.set 4 (bits .and .u64 (m21.getD 4 0) 2251799813685247)).getD 2 0) * 2 ^ 38))), (bits .or .u64 (Int.fdiv ((m21.set 4 (bits .and .u64 (m21.getD 4 0) 2251799813685247)).getD 2 0) (2 ^ 26)) (IntKind.u64.wrap (((m21.set 4 (bits .and .u64 (m21.getD 4 0) 2251799813685247)).getD 3 0) * 2 ^ 25))), (bits .or .u64 (Int.fdiv ((m21.set 4 (bits .and .u64 (m21.getD 4 0) 2251799813685247)).getD 3 0) (2 ^ 39)) (IntKind.u64.wrap (((m21.set 4 (bits .and .u64 (m21.getD 4 0) 2251799813685247)).getD 4 0) * 2 ^ 12)))]).toArray := (congrFun qe84 85).trans s85_e
    have s86_e84 : e84 86 = .int .i64 y24 := (congrFun qe84 86).trans s86_e
    have s87_e84 : e84 87 = .bool (decide (y24 < 4)) := congrFun qe84 87
    clear qe84
    refine wseq rfl ?_
    refine wcond (t := (decide (y24 < 4))) rfl (by decide) s87_e84 (fun hb => ?_) (fun hb => ?_)
    · replace h := br_t hb h
      refine wskip rfl ?_
      refine wseq rfl ?_
      refine wblock rfl ?_
      refine wseq rfl ?_
      refine wregion (.tp 0 (.tp 1 (.tp 2 (.tp 3 (.done))))) [] rfl (by kernel_rfl) (by kernel_rfl) ?_
      refine k_move (v := .int .i64 y24) rfl s86_e84 ?_
      obtain ⟨c25, h⟩ := chk_e h
      refine k_index (n := 4) (v := .int .u64 ([(bits .or .u64 ((m21.set 4 (bits .and .u64 (m21.getD 4 0) 2251799813685247)).getD 0 0) (IntKind.u64.wrap (((m21.set 4 (bits .and .u64 (m21.getD 4 0) 2251799813685247)).getD 1 0) * 2 ^ 51))), (bits .or .u64 (Int.fdiv ((m21.set 4 (bits .and .u64 (m21.getD 4 0) 2251799813685247)).getD 1 0) (2 ^ 13)) (IntKind.u64.wrap (((m21.set 4 (bits .and .u64 (m21.getD 4 0) 2251799813685247)).getD 2 0) * 2 ^ 38))), (bits .or .u64 (Int.fdiv ((m21.set 4 (bits .and .u64 (m21.getD 4 0) 2251799813685247)).getD 2 0) (2 ^ 26)) (IntKind.u64.wrap (((m21.set 4 (bits .and .u64 (m21.getD 4 0) 2251799813685247)).getD 3 0) * 2 ^ 25))), (bits .or .u64 (Int.fdiv ((m21.set 4 (bits .and .u64 (m21.getD 4 0) 2251799813685247)).getD 3 0) (2 ^ 39)) (IntKind.u64.wrap (((m21.set 4 (bits .and .u64 (m21.getD 4 0) 2251799813685247)).getD 4 0) * 2 ^ 12)))].getD (y24 : Int).toNat 0)) rfl Try.underlying41 (by kernel_rfl) (by kernel_rfl) s85_e84 s86_e84 c25 (ints_get (idx_lt c25 (rfl : List.length ([(bits .or .u64 ((m21.set 4 (bits .and .u64 (m21.getD 4 0) 2251799813685247)).getD 0 0) (IntKind.u64.wrap (((m21.set 4 (bits .and .u64 (m21.getD 4 0) 2251799813685247)).getD 1 0) * 2 ^ 51))), (bits .or .u64 (Int.fdiv ((m21.set 4 (bits .and .u64 (m21.getD 4 0) 2251799813685247)).getD 1 0) (2 ^ 13)) (IntKind.u64.wrap (((m21.set 4 (bits .and .u64 (m21.getD 4 0) 2251799813685247)).getD 2 0) * 2 ^ 38))), (bits .or .u64 (Int.fdiv ((m21.set 4 (bits .and .u64 (m21.getD 4 0) 2251799813685247)).getD 2 0) (2 ^ 26)) (IntKind.u64.wrap (((m21.set 4 (bits .and .u64 (m21.getD 4 0) 2251799813685247)).getD 3 0) * 2 ^ 25))), (bits .or .u64 (Int.fdiv ((m21.set 4 (bits .and .u64 (m21.getD 4 0) 2251799813685247)).getD 3 0) (2 ^ 39)) (IntKind.u64.wrap (((m21.set 4 (bits .and .u64 (m21.getD 4 0) 2251799813685247)).getD 4 0) * 2 ^ 12)))] : List Int) = 4))) ?_
      refine k_assign (v := .int .i64 y24) rfl rfl ?_
      refine k_assign (v := .int .u64 ([(bits .or .u64 ((m21.set 4 (bits .and .u64 (m21.getD 4 0) 2251799813685247)).getD 0 0) (IntKind.u64.wrap (((m21.set 4 (bits .and .u64 (m21.getD 4 0) 2251799813685247)).getD 1 0) * 2 ^ 51))), (bits .or .u64 (Int.fdiv ((m21.set 4 (bits .and .u64 (m21.getD 4 0) 2251799813685247)).getD 1 0) (2 ^ 13)) (IntKind.u64.wrap (((m21.set 4 (bits .and .u64 (m21.getD 4 0) 2251799813685247)).getD 2 0) * 2 ^ 38))), (bits .or .u64 (Int.fdiv ((m21.set 4 (bits .and .u64 (m21.getD 4 0) 2251799813685247)).getD 2 0) (2 ^ 26)) (IntKind.u64.wrap (((m21.set 4 (bits .and .u64 (m21.getD 4 0) 2251799813685247)).getD 3 0) * 2 ^ 25))), (bits .or .u64 (Int.fdiv ((m21.set 4 (bits .and .u64 (m21.getD 4 0) 2251799813685247)).getD 3 0) (2 ^ 39)) (IntKind.u64.wrap (((m21.set 4 (bits .and .u64 (m21.getD 4 0) 2251799813685247)).getD 4 0) * 2 ^ 12)))].getD (y24 : Int).toNat 0)) rfl rfl ?_
      refine k_end ?_; intro e85 qe85
      have s2_e85 : e85 2 = .pointer (some ⟨g2, 0, none⟩) := (congrFun qe85 2).trans s2_e84
      have s7_e85 : e85 7 = .pointer (some ⟨g22, 0, none⟩) := (congrFun qe85 7).trans s7_e84
      have s8_e85 : e85 8 = .int .i64 y24 := congrFun qe85 8
      obtain ⟨x26, qx26, h⟩ := lt_e h
      have s9_e85 : e85 9 = .int .u64 x26 := (congrFun qe85 9).trans (congrArg (Value.int .u64) qx26.symm)
      have s85_e85 : e85 85 = .agg (ints .u64 [(bits .or .u64 ((m21.set 4 (bits .and .u64 (m21.getD 4 0) 2251799813685247)).getD 0 0) (IntKind.u64.wrap (((m21.set 4 (bits .and .u64 (m21.getD 4 0) 2251799813685247)).getD 1 0) * 2 ^ 51))), (bits .or .u64 (Int.fdiv ((m21.set 4 (bits .and .u64 (m21.getD 4 0) 2251799813685247)).getD 1 0) (2 ^ 13)) (IntKind.u64.wrap (((m21.set 4 (bits .and .u64 (m21.getD 4 0) 2251799813685247)).getD 2 0) * 2 ^ 38))), (bits .or .u64 (Int.fdiv ((m21.set 4 (bits .and .u64 (m21.getD 4 0) 2251799813685247)).getD 2 0) (2 ^ 26)) (IntKind.u64.wrap (((m21.set 4 (bits .and .u64 (m21.getD 4 0) 2251799813685247)).getD 3 0) * 2 ^ 25))), (bits .or .u64 (Int.fdiv ((m21.set 4 (bits .and .u64 (m21.getD 4 0) 2251799813685247)).getD 3 0) (2 ^ 39)) (IntKind.u64.wrap (((m21.set 4 (bits .and .u64 (m21.getD 4 0) 2251799813685247)).getD 4 0) * 2 ^ 12)))]).toArray := (congrFun qe85 85).trans s85_e84
      have s86_e85 : e85 86 = .int .i64 y24 := (congrFun qe85 86).trans s86_e84
      clear qe85
      refine wseq rfl ?_
      refine wregion (.tp 0 (.done)) [] rfl (by kernel_rfl) (by kernel_rfl) ?_
      refine k_move (v := .int .i64 0) rfl rfl ?_
      refine k_end ?_; intro e86 qe86
      have s2_e86 : e86 2 = .pointer (some ⟨g2, 0, none⟩) := (congrFun qe86 2).trans s2_e85
      have s7_e86 : e86 7 = .pointer (some ⟨g22, 0, none⟩) := (congrFun qe86 7).trans s7_e85
      have s8_e86 : e86 8 = .int .i64 y24 := (congrFun qe86 8).trans s8_e85
      have s9_e86 : e86 9 = .int .u64 x26 := (congrFun qe86 9).trans s9_e85
      have s85_e86 : e86 85 = .agg (ints .u64 [(bits .or .u64 ((m21.set 4 (bits .and .u64 (m21.getD 4 0) 2251799813685247)).getD 0 0) (IntKind.u64.wrap (((m21.set 4 (bits .and .u64 (m21.getD 4 0) 2251799813685247)).getD 1 0) * 2 ^ 51))), (bits .or .u64 (Int.fdiv ((m21.set 4 (bits .and .u64 (m21.getD 4 0) 2251799813685247)).getD 1 0) (2 ^ 13)) (IntKind.u64.wrap (((m21.set 4 (bits .and .u64 (m21.getD 4 0) 2251799813685247)).getD 2 0) * 2 ^ 38))), (bits .or .u64 (Int.fdiv ((m21.set 4 (bits .and .u64 (m21.getD 4 0) 2251799813685247)).getD 2 0) (2 ^ 26)) (IntKind.u64.wrap (((m21.set 4 (bits .and .u64 (m21.getD 4 0) 2251799813685247)).getD 3 0) * 2 ^ 25))), (bits .or .u64 (Int.fdiv ((m21.set 4 (bits .and .u64 (m21.getD 4 0) 2251799813685247)).getD 3 0) (2 ^ 39)) (IntKind.u64.wrap (((m21.set 4 (bits .and .u64 (m21.getD 4 0) 2251799813685247)).getD 4 0) * 2 ^ 12)))]).toArray := (congrFun qe86 85).trans s85_e85
      have s86_e86 : e86 86 = .int .i64 y24 := (congrFun qe86 86).trans s86_e85
      have s90_e86 : e86 90 = .int .i64 0 := congrFun qe86 90
      clear qe86
      refine wblock rfl ?_
      obtain ⟨r32, qr32, h⟩ := bd_e h
      refine wloop k rfl (field_Element_Bytes.p4_ok g1 g2 g22 y24 x26 m21 l_m21 ?hq0 k y23 0 e86 _ ly23 s2_e86 s7_e86 s8_e86 s9_e86 s85_e86 s86_e86 s90_e86 hp qr32)
      case hq0 =>
        intro e91 w m33 lm33 s2_e91 s7_e91 s85_e91 s86_e91 hp qq
        rw [qq] at h; clear qq
        refine wregion (.tp 0 (.tp 1 (.done))) [] rfl (by kernel_rfl) (by kernel_rfl) ?_
        refine k_bin (X := .int .i64 y24) (Y := .int .i64 1) rfl s86_e91 rfl rfl ?_
        refine k_move (v := .int .i64 (IntKind.i64.wrap (y24 + 1))) rfl rfl ?_
        refine k_end ?_; intro e92 qe92
        have s2_e92 : e92 2 = .pointer (some ⟨g2, 0, none⟩) := (congrFun qe92 2).trans s2_e91
        have s7_e92 : e92 7 = .pointer (some ⟨g22, 0, none⟩) := (congrFun qe92 7).trans s7_e91
        have s85_e92 : e92 85 = .agg (ints .u64 [(bits .or .u64 ((m21.set 4 (bits .and .u64 (m21.getD 4 0) 2251799813685247)).getD 0 0) (IntKind.u64.wrap (((m21.set 4 (bits .and .u64 (m21.getD 4 0) 2251799813685247)).getD 1 0) * 2 ^ 51))), (bits .or .u64 (Int.fdiv ((m21.set 4 (bits .and .u64 (m21.getD 4 0) 2251799813685247)).getD 1 0) (2 ^ 13)) (IntKind.u64.wrap (((m21.set 4 (bits .and .u64 (m21.getD 4 0) 2251799813685247)).getD 2 0) * 2 ^ 38))), (bits .or .u64 (Int.fdiv ((m21.set 4 (bits .and .u64 (m21.getD 4 0) 2251799813685247)).getD 2 0) (2 ^ 26)) (IntKind.u64.wrap (((m21.set 4 (bits .and .u64 (m21.getD 4 0) 2251799813685247)).getD 3 0) * 2 ^ 25))), (bits .or .u64 (Int.fdiv ((m21.set 4 (bits .and .u64 (m21.getD 4 0) 2251799813685247)).getD 3 0) (2 ^ 39)) (IntKind.u64.wrap (((m21.set 4 (bits .and .u64 (m21.getD 4 0) 2251799813685247)).getD 4 0) * 2 ^ 12)))]).toArray := (congrFun qe92 85).trans s85_e91
        obtain ⟨x34, qx34, h⟩ := lt_e h
        have s86_e92 : e92 86 = .int .i64 x34 := (congrFun qe92 86).trans (congrArg (Value.int .i64) qx34.symm)
        clear qe92
        exact ih m33 x34 _ _ lm33 s2_e92 s7_e92 s85_e92 s86_e92 (hp.drop (L' := [⟨g1, 0, ints .u64 (m21.set 4 (bits .and .u64 (m21.getD 4 0) 2251799813685247))⟩, ⟨g2, 0, ints .u8 (List.replicate 32 (0 : Int))⟩, ⟨g22, 0, ints .u8 m33⟩]) (List.Sublist.refl _)) h
    · replace h := br_f hb h
      refine wexit rfl ?_
      exact hQ0 _ _ y23 ly23 s2_e84 s7_e84 (hp.drop (L' := [⟨g1, 0, ints .u64 (m21.set 4 (bits .and .u64 (m21.getD 4 0) 2251799813685247))⟩, ⟨g2, 0, ints .u8 (List.replicate 32 (0 : Int))⟩, ⟨g22, 0, ints .u8 y23⟩]) (List.Sublist.refl _)) (Option.some.inj h).symm
theorem field_Element_Bytes_ok (k : Nat) (a0 : List Int) (la0 : a0.length = 5) (w0 : World) (hp : Hp w0 [] w0 [] []) {r : List Int} (h : field_Element_Bytes.f k a0 = some r) :
    Calls Try.prog 23 [.agg (ints .u64 a0).toArray].toArray w0 fun x w' => ∃ v, x = .returned v ∧ v = .agg (ints .u8 r).toArray ∧ r.length = 32 ∧ Hp w0 [] w' [] [] := by
  refine calls_in Try.func23 rfl (Nat.le_of_ble_eq_true (by kernel_rfl)) (by kernel_rfl) ?_
  intro e0 qe0
  have s0_e0 : e0 0 = .agg (ints .u64 a0).toArray := congrFun qe0 0
  clear qe0
  unfold field_Element_Bytes.f at h
  refine wseq rfl ?_
  refine wregion (.ef 0 (.ef 1 (.done))) [] rfl (by kernel_rfl) (by kernel_rfl) ?_
  refine k_box (v := .agg (ints .u64 a0).toArray) (ints .u64 a0) rfl s0_e0 rfl hp ?_
  intro g1 w hbg1 hp
  refine k_alloc (ints .u8 (List.replicate 32 (0 : Int))) rfl (by kernel_rfl) hp ?_
  intro g2 w hbg2 hp
  refine k_end ?_; intro e64 qe64
  have s1_e64 : e64 1 = .pointer (some ⟨g1, 0, none⟩) := congrFun qe64 1
  have s2_e64 : e64 2 = .pointer (some ⟨g2, 0, none⟩) := congrFun qe64 2
  clear qe64
  refine wseq rfl ?_
  refine wregion (.tk 0 (.ef 1 (.ef 2 (.ef 3 (.done))))) [3] rfl (by kernel_rfl) (by kernel_rfl) ?_
  refine k_loadA (n := 5) (xs := ints .u64 a0) 0 rfl (by kernel_rfl) (by kernel_rfl) s1_e64 (hp.get (j := 0) rfl) rfl rfl ((ints_length _ _).trans la0) (fun m v hm => by rw [Nat.zero_add]; exact hm) ?_
  obtain ⟨r3, qr3, h⟩ := bd_e h
  refine k_call [.agg (ints .u64 a0).toArray] rfl (by kernel_rfl) (args1 rfl) (field_Element_carried_ok a0 la0 _ (hp.toR (fun _ h => by cases h)) qr3) ?_
  rintro _ w' ⟨_, rfl, rfl, lr30, hpc⟩
  refine ⟨_, rfl, .inr (.of_below hpc.chg.to_below), ?_⟩; have hp := hp.below hpc.chg.to_below; clear hpc
  obtain ⟨r4, qr4, h⟩ := bd_e h
  refine k_call [.agg (ints .u64 r3).toArray] rfl (by kernel_rfl) (args1 rfl) (field_Element_carried_ok r3 lr30 _ (hp.toR (fun _ h => by cases h)) qr4) ?_
  rintro _ w' ⟨_, rfl, rfl, lr40, hpc⟩
  refine ⟨_, rfl, .inr (.of_below hpc.chg.to_below), ?_⟩; have hp := hp.below hpc.chg.to_below; clear hpc
  refine k_storeA (v := .agg (ints .u64 r4).toArray) 0 0 (r := ⟨g1, 0, ints .u64 a0⟩) (ints .u64 r4) (ints .u64 r4) rfl (n := 5) (by kernel_rfl) s1_e64 rfl rfl ((ints_length _ _).trans lr40) (ints_one _ _) hp rfl rfl rfl (Nat.le_of_eq ((Nat.zero_add _).trans ((ints_length _ _).trans la0).symm)) (setMany_all _ _ (((ints_length _ _).trans lr40).trans ((ints_length _ _).trans la0).symm)) (by decide) ?_; intro w hp
  refine k_end ?_; intro e65 qe65
  have s1_e65 : e65 1 = .pointer (some ⟨g1, 0, none⟩) := (congrFun qe65 1).trans s1_e64
  have s2_e65 : e65 2 = .pointer (some ⟨g2, 0, none⟩) := (congrFun qe65 2).trans s2_e64
  clear qe65
  refine wseq rfl ?_
  refine wregion (.tp 0 (.tk 1 (.tp 2 (.tp 3 (.tp 4 (.done)))))) [] rfl (by kernel_rfl) (by kernel_rfl) ?_
  refine k_indexA (n := 5) (s := 1) (j := 0) rfl Try.underlying34 (by kernel_rfl) s1_e65 rfl (by decide) ?_
  refine k_load (j := 0) (v := .int .u64 (r4.getD 0 0)) rfl (by kernel_rfl) rfl (hp.get (j := 0) rfl) rfl rfl (ints_get (Nat.lt_of_lt_of_eq (m := 5) (by decide) (lr40).symm)) ?_
  refine k_bin (X := .int .u64 (r4.getD 0 0)) (Y := .int .u64 19) rfl rfl rfl rfl ?_
  refine k_shr (a := (IntKind.u64.wrap ((r4.getD 0 0) + 19))) (b := 51) rfl rfl rfl (by decide) ?_
  refine k_assign (v := .int .u64 (Int.fdiv (IntKind.u64.wrap ((r4.getD 0 0) + 19)) (2 ^ 51))) rfl rfl ?_
  refine k_end ?_; intro e66 qe66
  have s1_e66 : e66 1 = .pointer (some ⟨g1, 0, none⟩) := (congrFun qe66 1).trans s1_e65
  have s2_e66 : e66 2 = .pointer (some ⟨g2, 0, none⟩) := (congrFun qe66 2).trans s2_e65
  obtain ⟨x5, qx5, h⟩ := lt_e h
  have s3_e66 : e66 3 = .int .u64 x5 := (congrFun qe66 3).trans (congrArg (Value.int .u64) qx5.symm)
  clear qe66
  refine wseq rfl ?_
  refine wseq rfl ?_
  refine wregion (.tp 0 (.tp 1 (.tp 2 (.done)))) [] rfl (by kernel_rfl) (by kernel_rfl) ?_
  refine k_sliceA (n := 5) (s := 1) (l := 1) (h' := 5) rfl Try.underlying34 (by kernel_rfl) s1_e66 rfl ⟨_, rfl, by decide⟩ (by decide) ?_
  refine k_len rfl Try.underlying54 rfl ?_
  refine k_move (v := .int .i64 0) rfl rfl ?_
  refine k_end ?_; intro e67 qe67
  have s1_e67 : e67 1 = .pointer (some ⟨g1, 0, none⟩) := (congrFun qe67 1).trans s1_e66
  have s2_e67 : e67 2 = .pointer (some ⟨g2, 0, none⟩) := (congrFun qe67 2).trans s2_e66
  have s3_e67 : e67 3 = .int .u64 x5 := (congrFun qe67 3).trans s3_e66
  have s18_e67 : e67 18 = .slice (some ⟨g1, 0 + 1 * 1, none⟩) (5 - 1) (5 - 1) := congrFun qe67 18
  obtain ⟨x6, qx6, h⟩ := lt_e h
  have s19_e67 : e67 19 = .int .i64 x6 := (congrFun qe67 19).trans (congrArg (Value.int .i64) qx6.symm)
  have s20_e67 : e67 20 = .int .i64 0 := congrFun qe67 20
  clear qe67
  refine wblock rfl ?_
  obtain ⟨r13, qr13, h⟩ := bd_e h
  refine wloop k rfl (field_Element_Bytes.p1_ok g1 g2 x6 r4 lr40 ?hq0 k x5 0 e67 _  s1_e67 s2_e67 s3_e67 s18_e67 s19_e67 s20_e67 hp qr13)
  case hq0 =>
    intro e72 w m14  s1_e72 s2_e72 s3_e72 hp qq
    rw [qq] at h; clear qq
    refine wseq rfl ?_
    refine wregion (.tp 0 (.tk 1 (.tp 2 (.tp 3 (.tp 4 (.tp 5 (.ef 6 (.done)))))))) [6] rfl (by kernel_rfl) (by kernel_rfl) ?_
    refine k_indexA (n := 5) (s := 1) (j := 0) rfl Try.underlying34 (by kernel_rfl) s1_e72 rfl (by decide) ?_
    refine k_load (j := 0) (v := .int .u64 (r4.getD 0 0)) rfl (by kernel_rfl) rfl (hp.get (j := 0) rfl) rfl rfl (ints_get (Nat.lt_of_lt_of_eq (m := 5) (by decide) (lr40).symm)) ?_
    refine k_move (v := .int .u64 m14) rfl s3_e72 ?_
    refine k_bin (X := .int .u64 19) (Y := .int .u64 m14) rfl rfl rfl rfl ?_
    refine k_bin (X := .int .u64 (r4.getD 0 0)) (Y := .int .u64 (IntKind.u64.wrap (19 * m14))) rfl rfl rfl rfl ?_
    refine k_indexA (n := 5) (s := 1) (j := 0) rfl Try.underlying34 (by kernel_rfl) s1_e72 rfl (by decide) ?_
    refine k_store (v := .int .u64 (IntKind.u64.wrap ((r4.getD 0 0) + (IntKind.u64.wrap (19 * m14))))) 0 0 (r := ⟨g1, 0, ints .u64 r4⟩) rfl (by kernel_rfl) rfl rfl rfl hp rfl rfl rfl (Nat.lt_of_lt_of_eq (Nat.lt_of_lt_of_eq (m := 5) (by decide) (lr40).symm) (ints_length _ _).symm) (by decide) ?_; intro w hp; rw [ints_set] at hp
    refine k_end ?_; intro e73 qe73
    have s1_e73 : e73 1 = .pointer (some ⟨g1, 0, none⟩) := (congrFun qe73 1).trans s1_e72
    have s2_e73 : e73 2 = .pointer (some ⟨g2, 0, none⟩) := (congrFun qe73 2).trans s2_e72
    clear qe73
    refine wseq rfl ?_
    refine wseq rfl ?_
    refine wregion (.tp 0 (.done)) [] rfl (by kernel_rfl) (by kernel_rfl) ?_
    refine k_move (v := .int .i64 0) rfl rfl ?_
    refine k_end ?_; intro e74 qe74
    have s1_e74 : e74 1 = .pointer (some ⟨g1, 0, none⟩) := (congrFun qe74 1).trans s1_e73
    have s2_e74 : e74 2 = .pointer (some ⟨g2, 0, none⟩) := (congrFun qe74 2).trans s2_e73
    have s35_e74 : e74 35 = .int .i64 0 := congrFun qe74 35
    clear qe74
    refine wblock rfl ?_
    obtain ⟨r20, qr20, h⟩ := bd_e h
    refine wloop k rfl (field_Element_Bytes.p2_ok g1 g2   ?hq0 k (r4.set 0 (IntKind.u64.wrap ((r4.getD 0 0) + (IntKind.u64.wrap (19 * m14))))) 0 e74 _ (List.length_set.trans lr40) s1_e74 s2_e74 s35_e74 hp qr20)
    case hq0 =>
      intro e80 w m21 lm21 s1_e80 s2_e80 hp qq
      rw [qq] at h; clear qq
      refine wseq rfl ?_
      refine wregion (.tp 0 (.tk 1 (.tp 2 (.tp 3 (.ef 4 (.done)))))) [4] rfl (by kernel_rfl) (by kernel_rfl) ?_
      refine k_indexA (n := 5) (s := 1) (j := 4) rfl Try.underlying34 (by kernel_rfl) s1_e80 rfl (by decide) ?_
      refine k_load (j := 4) (v := .int .u64 (m21.getD 4 0)) rfl (by kernel_rfl) rfl (hp.get (j := 0) rfl) rfl rfl (ints_get (Nat.lt_of_lt_of_eq (m := 5) (by decide) (lm21).symm)) ?_
      refine k_bin (X := .int .u64 (m21.getD 4 0)) (Y := .int .u64 2251799813685247) rfl rfl rfl rfl ?_
      refine k_indexA (n := 5) (s := 1) (j := 4) rfl Try.underlying34 (by kernel_rfl) s1_e80 rfl (by decide) ?_
      refine k_store (v := .int .u64 (bits .and .u64 (m21.getD 4 0) 2251799813685247)) 0 4 (r := ⟨g1, 0, ints .u64 m21⟩) rfl (by kernel_rfl) rfl rfl rfl hp rfl rfl rfl (Nat.lt_of_lt_of_eq (Nat.lt_of_lt_of_eq (m := 5) (by decide) (lm21).symm) (ints_length _ _).symm) (by decide) ?_; intro w hp; rw [ints_set] at hp
      refine k_end ?_; intro e81 qe81
      have s1_e81 : e81 1 = .pointer (some ⟨g1, 0, none⟩) := (congrFun qe81 1).trans s1_e80
      have s2_e81 : e81 2 = .pointer (some ⟨g2, 0, none⟩) := (congrFun qe81 2).trans s2_e80
      clear qe81
      refine wseq rfl ?_
      refine wregion (.ef 0 (.done)) [] rfl (by kernel_rfl) (by kernel_rfl) ?_
      refine k_alloc (ints .u8 (List.replicate 32 (0 : Int))) rfl (by kernel_rfl) hp ?_
      intro g22 w hbg22 hp
      refine k_end ?_; intro e82 qe82
      have s1_e82 : e82 1 = .pointer (some ⟨g1, 0, none⟩) := (congrFun qe82 1).trans s1_e81
      have s2_e82 : e82 2 = .pointer (some ⟨g2, 0, none⟩) := (congrFun qe82 2).trans s2_e81
      have s7_e82 : e82 7 = .pointer (some ⟨g22, 0, none⟩) := congrFun qe82 7
      clear qe82
      refine wseq rfl ?_
      refine wseq rfl ?_
      refine wregion (.tp 0 (.tk 1 (.tp 2 (.tk 3 (.tp 4 (.tp 5 (.tp 6 (.tk 7 (.tp 8 (.tp 9 (.tk 10 (.tp 11 (.tp 12 (.tp 13 (.tk 14 (.tp 15 (.tp 16 (.tk 17 (.tp 18 (.tp 19 (.tp 20 (.tk 21 (.tp 22 (.tp 23 (.tk 24 (.tp 25 (.tp 26 (.tp 27 (.tp 28 (.done)))))))))))))))))))))))))))))) [] rfl (by kernel_rfl) (by kernel_rfl) ?_
      refine k_indexA (n := 5) (s := 1) (j := 0) rfl Try.underlying34 (by kernel_rfl) s1_e82 rfl (by decide) ?_
      refine k_load (j := 0) (v := .int .u64 ((m21.set 4 (bits .and .u64 (m21.getD 4 0) 2251799813685247)).getD 0 0)) rfl (by kernel_rfl) rfl (hp.get (j := 0) rfl) rfl rfl (ints_get (Nat.lt_of_lt_of_eq (m := 5) (by decide) (List.length_set.trans lm21).symm)) ?_
      refine k_indexA (n := 5) (s := 1) (j := 1) rfl Try.underlying34 (by kernel_rfl) s1_e82 rfl (by decide) ?_
      refine k_load (j := 1) (v := .int .u64 ((m21.set 4 (bits .and .u64 (m21.getD 4 0) 2251799813685247)).getD 1 0)) rfl (by kernel_rfl) rfl (hp.get (j := 0) rfl) rfl rfl (ints_get (Nat.lt_of_lt_of_eq (m := 5) (by decide) (List.length_set.trans lm21).symm)) ?_
      refine k_shl (a := ((m21.set 4 (bits .and .u64 (m21.getD 4 0) 2251799813685247)).getD 1 0)) (b := 51) rfl rfl rfl (by decide) ?_
      refine k_bin (X := .int .u64 ((m21.set 4 (bits .and .u64 (m21.getD 4 0) 2251799813685247)).getD 0 0)) (Y := .int .u64 (IntKind.u64.wrap (((m21.set 4 (bits .and .u64 (m21.getD 4 0) 2251799813685247)).getD 1 0) * 2 ^ 51))) rfl rfl rfl rfl ?_
      refine k_indexA (n := 5) (s := 1) (j := 1) rfl Try.underlying34 (by kernel_rfl) s1_e82 rfl (by decide) ?_
      refine k_load (j := 1) (v := .int .u64 ((m21.set 4 (bits .and .u64 (m21.getD 4 0) 2251799813685247)).getD 1 0)) rfl (by kernel_rfl) rfl (hp.get (j := 0) rfl) rfl rfl (ints_get (Nat.lt_of_lt_of_eq (m := 5) (by decide) (List.length_set.trans lm21).symm)) ?_
      refine k_shr (a := ((m21.set 4 (bits .and .u64 (m21.getD 4 0) 2251799813685247)).getD 1 0)) (b := 13) rfl rfl rfl (by decide) ?_
      refine k_indexA (n := 5) (s := 1) (j := 2) rfl Try.underlying34 (by kernel_rfl) s1_e82 rfl (by decide) ?_
      refine k_load (j := 2) (v := .int .u64 ((m21.set 4 (bits .and .u64 (m21.getD 4 0) 2251799813685247)).getD 2 0)) rfl (by kernel_rfl) rfl (hp.get (j := 0) rfl) rfl rfl (ints_get (Nat.lt_of_lt_of_eq (m := 5) (by decide) (List.length_set.trans lm21).symm)) ?_
      refine k_shl (a := ((m21.set 4 (bits .and .u64 (m21.getD 4 0) 2251799813685247)).getD 2 0)) (b := 38) rfl rfl rfl (by decide) ?_
      refine k_bin (X := .int .u64 (Int.fdiv ((m21.set 4 (bits .and .u64 (m21.getD 4 0) 2251799813685247)).getD 1 0) (2 ^ 13))) (Y := .int .u64 (IntKind.u64.wrap (((m21.set 4 (bits .and .u64 (m21.getD 4 0) 2251799813685247)).getD 2 0) * 2 ^ 38))) rfl rfl rfl rfl ?_
      refine k_indexA (n := 5) (s := 1) (j := 2) rfl Try.underlying34 (by kernel_rfl) s1_e82 rfl (by decide) ?_
      refine k_load (j := 2) (v := .int .u64 ((m21.set 4 (bits .and .u64 (m21.getD 4 0) 2251799813685247)).getD 2 0)) rfl (by kernel_rfl) rfl (hp.get (j := 0) rfl) rfl rfl (ints_get (Nat.lt_of_lt_of_eq (m := 5) (by decide) (List.length_set.trans lm21).symm)) ?_
      refine k_shr (a := ((m21.set 4 (bits .and .u64 (m21.getD 4 0) 2251799813685247)).getD 2 0)) (b := 26) rfl rfl rfl (by decide) ?_
      refine k_indexA (n := 5) (s := 1) (j := 3) rfl Try.underlying34 (by kernel_rfl) s1_e82 rfl (by decide) ?_
      refine k_load (j := 3) (v := .int .u64 ((m21.set 4 (bits .and .u64 (m21.getD 4 0) 2251799813685247)).getD 3 0)) rfl (by kernel_rfl) rfl (hp.get (j := 0) rfl) rfl rfl (ints_get (Nat.lt_of_lt_of_eq (m := 5) (by decide) (List.length_set.trans lm21).symm)) ?_
      refine k_shl (a := ((m21.set 4 (bits .and .u64 (m21.getD 4 0) 2251799813685247)).getD 3 0)) (b := 25) rfl rfl rfl (by decide) ?_
      refine k_bin (X := .int .u64 (Int.fdiv ((m21.set 4 (bits .and .u64 (m21.getD 4 0) 2251799813685247)).getD 2 0) (2 ^ 26))) (Y := .int .u64 (IntKind.u64.wrap (((m21.set 4 (bits .and .u64 (m21.getD 4 0) 2251799813685247)).getD 3 0) * 2 ^ 25))) rfl rfl rfl rfl ?_
      refine k_indexA (n := 5) (s := 1) (j := 3) rfl Try.underlying34 (by kernel_rfl) s1_e82 rfl (by decide) ?_
      refine k_load (j := 3) (v := .int .u64 ((m21.set 4 (bits .and .u64 (m21.getD 4 0) 2251799813685247)).getD 3 0)) rfl (by kernel_rfl) rfl (hp.get (j := 0) rfl) rfl rfl (ints_get (Nat.lt_of_lt_of_eq (m := 5) (by decide) (List.length_set.trans lm21).symm)) ?_
      refine k_shr (a := ((m21.set 4 (bits .and .u64 (m21.getD 4 0) 2251799813685247)).getD 3 0)) (b := 39) rfl rfl rfl (by decide) ?_
      refine k_indexA (n := 5) (s := 1) (j := 4) rfl Try.underlying34 (by kernel_rfl) s1_e82 rfl (by decide) ?_
      refine k_load (j := 4) (v := .int .u64 ((m21.set 4 (bits .and .u64 (m21.getD 4 0) 2251799813685247)).getD 4 0)) rfl (by kernel_rfl) rfl (hp.get (j := 0) rfl) rfl rfl (ints_get (Nat.lt_of_lt_of_eq (m := 5) (by decide) (List.length_set.trans lm21).symm)) ?_
      refine k_shl (a := ((m21.set 4 (bits .and .u64 (m21.getD 4 0) 2251799813685247)).getD 4 0)) (b := 12) rfl rfl rfl (by decide) ?_
      refine k_bin (X := .int .u64 (Int.fdiv ((m21.set 4 (bits .and .u64 (m21.getD 4 0) 2251799813685247)).getD 3 0) (2 ^ 39))) (Y := .int .u64 (IntKind.u64.wrap (((m21.set 4 (bits .and .u64 (m21.getD 4 0) 2251799813685247)).getD 4 0) * 2 ^ 12))) rfl rfl rfl rfl ?_
      refine k_build (v := .agg (ints .u64 [(bits .or .u64 ((m21.set 4 (bits .and .u64 (m21.getD 4 0) 2251799813685247)).getD 0 0) (IntKind.u64.wrap (((m21.set 4 (bits .and .u64 (m21.getD 4 0) 2251799813685247)).getD 1 0) * 2 ^ 51))), (bits .or .u64 (Int.fdiv ((m21.set 4 (bits .and .u64 (m21.getD 4 0) 2251799813685247)).getD 1 0) (2 ^ 13)) (IntKind.u64.wrap (((m21.set 4 (bits .and .u64 (m21.getD 4 0) 2251799813685247)).getD 2 0) * 2 ^ 38))), (bits .or .u64 (Int.fdiv ((m21.set 4 (bits .and .u64 (m21.getD 4 0) 2251799813685247)).getD 2 0) (2 ^ 26)) (IntKind.u64.wrap (((m21.set 4 (bits .and .u64 (m21.getD 4 0) 2251799813685247)).getD 3 0) * 2 ^ 25))), (bits .or .u64 (Int.fdiv ((m21.set 4 (bits .and .u64 (m21.getD 4 0) 2251799813685247)).getD 3 0) (2 ^ 39)) (IntKind.u64.wrap (((m21.set 4 (bits .and .u64 (m21.getD 4 0) 2251799813685247)).getD 4 0) * 2 ^ 12)))]).toArray) rfl (fun _ => by kernel_rfl) ?_
      refine k_move (v := .int .i64 0) rfl rfl ?_
      refine k_end ?_; intro e83 qe83
      have s2_e83 : e83 2 = .pointer (some ⟨g2, 0, none⟩) := (congrFun qe83 2).trans s2_e82
      have s7_e83 : e83 7 = .pointer (some ⟨g22, 0, none⟩) := (congrFun qe83 7).trans s7_e82
      have s85_e83 : e83 85 = .agg (ints .u64 [(bits .or .u64 ((m21.set 4 (bits .and .u64 (m21.getD 4 0) 2251799813685247)).getD 0 0) (IntKind.u64.wrap (((m21.set 4 (bits .and .u64 (m21.getD 4 0) 2251799813685247)).getD 1 0) * 2 ^ 51))), (bits .or .u64 (Int.fdiv ((m21.set 4 (bits .and .u64 (m21.getD 4 0) 2251799813685247)).getD 1 0) (2 ^ 13)) (IntKind.u64.wrap (((m21.set 4 (bits .and .u64 (m21.getD 4 0) 2251799813685247)).getD 2 0) * 2 ^ 38))), (bits .or .u64 (Int.fdiv ((m21.set 4 (bits .and .u64 (m21.getD 4 0) 2251799813685247)).getD 2 0) (2 ^ 26)) (IntKind.u64.wrap (((m21.set 4 (bits .and .u64 (m21.getD 4 0) 2251799813685247)).getD 3 0) * 2 ^ 25))), (bits .or .u64 (Int.fdiv ((m21.set 4 (bits .and .u64 (m21.getD 4 0) 2251799813685247)).getD 3 0) (2 ^ 39)) (IntKind.u64.wrap (((m21.set 4 (bits .and .u64 (m21.getD 4 0) 2251799813685247)).getD 4 0) * 2 ^ 12)))]).toArray := congrFun qe83 85
      have s86_e83 : e83 86 = .int .i64 0 := congrFun qe83 86
      clear qe83
      refine wblock rfl ?_
      obtain ⟨r35, qr35, h⟩ := bd_e h
      refine wloop k rfl (field_Element_Bytes.p3_ok g1 g2 g22 m21 lm21 ?hq0 k (List.replicate 32 (0 : Int)) 0 e83 _ List.length_replicate s2_e83 s7_e83 s85_e83 s86_e83 hp qr35)
      case hq0 =>
        intro e93 w m36 lm36 s2_e93 s7_e93 hp qq
        rw [qq] at h; clear qq
        refine wseq rfl ?_
        refine wregion (.tk 0 (.ef 1 (.done))) [1] rfl (by kernel_rfl) (by kernel_rfl) ?_
        refine k_loadA (n := 32) (xs := ints .u8 m36) 0 rfl (by kernel_rfl) (by kernel_rfl) s7_e93 (hp.get (j := 2) rfl) rfl rfl ((ints_length _ _).trans lm36) (fun m v hm => by rw [Nat.zero_add]; exact hm) ?_
        refine k_storeA (v := .agg (ints .u8 m36).toArray) 1 0 (r := ⟨g2, 0, ints .u8 (List.replicate 32 (0 : Int))⟩) (ints .u8 m36) (ints .u8 m36) rfl (n := 32) (by kernel_rfl) s2_e93 rfl rfl ((ints_length _ _).trans lm36) (ints_one _ _) hp rfl rfl rfl (Nat.le_of_eq ((Nat.zero_add _).trans ((ints_length _ _).trans List.length_replicate).symm)) (setMany_all _ _ (((ints_length _ _).trans lm36).trans ((ints_length _ _).trans List.length_replicate).symm)) (by decide) ?_; intro w hp
        refine k_end ?_; intro e94 qe94
        have s2_e94 : e94 2 = .pointer (some ⟨g2, 0, none⟩) := (congrFun qe94 2).trans s2_e93
        clear qe94
        refine wret rfl ?_
        have hr : r = m36 := (Option.some.inj h).symm
        show RetP _ _ _ _ _
        rw [hr]
        exact ret_i [.agg (ints .u8 m36).toArray] (res_cell s2_e94 (loadVar_agg (by kernel_rfl) (by kernel_rfl) ((ints_length _ _).trans lm36) (hp.get (j := 1) rfl) rfl rfl rfl) res_nil) ⟨rfl, lm36, hp.none⟩
/-! 10 postilion/field.Mul -/
theorem field_Mul_ok (k : Nat) (a0 : List Int) (a1 : List Int) (la0 : a0.length = 32) (la1 : a1.length = 32) (w0 : World) (hp : Hp w0 [] w0 [] []) {r : List Int} (h : field_Mul.f k a0 a1 = some r) :
    Calls Try.prog 10 [.agg (ints .u8 a0).toArray, .agg (ints .u8 a1).toArray].toArray w0 fun x w' => ∃ v, x = .returned v ∧ v = .agg (ints .u8 r).toArray ∧ r.length = 32 ∧ Hp w0 [] w' [] [] := by
  refine calls_in Try.func10 rfl (Nat.le_of_ble_eq_true (by kernel_rfl)) (by kernel_rfl) ?_
  intro e0 qe0
  have s0_e0 : e0 0 = .agg (ints .u8 a0).toArray := congrFun qe0 0
  have s1_e0 : e0 1 = .agg (ints .u8 a1).toArray := congrFun qe0 1
  clear qe0
  unfold field_Mul.f at h
  refine wseq rfl ?_
  refine wregion (.ef 0 (.ef 1 (.ef 2 (.done)))) [] rfl (by kernel_rfl) (by kernel_rfl) ?_
  refine k_box (v := .agg (ints .u8 a0).toArray) (ints .u8 a0) rfl s0_e0 rfl hp ?_
  intro g1 w hbg1 hp
  refine k_box (v := .agg (ints .u8 a1).toArray) (ints .u8 a1) rfl s1_e0 rfl hp ?_
  intro g2 w hbg2 hp
  refine k_alloc (ints .u8 (List.replicate 32 (0 : Int))) rfl (by kernel_rfl) hp ?_
  intro g3 w hbg3 hp
  refine k_end ?_; intro e95 qe95
  have s2_e95 : e95 2 = .pointer (some ⟨g1, 0, none⟩) := congrFun qe95 2
  have s3_e95 : e95 3 = .pointer (some ⟨g2, 0, none⟩) := congrFun qe95 3
  have s4_e95 : e95 4 = .pointer (some ⟨g3, 0, none⟩) := congrFun qe95 4
  clear qe95
  refine wseq rfl ?_
  refine wregion_m (.tk 0 (.tk 2 (.ef 1 (.ef 3 (.ef 4 (.ef 5 (.ef 6 (.done)))))))) [6] [(0, 0, 0), (1, 127, 127), (0, 0, 0), (6, 127, 127), (10, 127, 127), (16, 127, 127), (63, 127, 127)] rfl (by kernel_rfl) (by kernel_rfl) (Nat.le_of_ble_eq_true (by kernel_rfl)) (by kernel_rfl) (by kernel_rfl) ?_
  have hp := hp.drew
  refine k_loadA (n := 32) (xs := ints .u8 a0) 0 rfl (by kernel_rfl) (by kernel_rfl) s2_e95 (hp.get (j := 0) rfl) rfl rfl ((ints_length _ _).trans la0) (fun m v hm => by rw [Nat.zero_add]; exact hm) ?_
  refine k_loadA (n := 32) (xs := ints .u8 a1) 0 rfl (by kernel_rfl) (by kernel_rfl) s3_e95 (hp.get (j := 1) rfl) rfl rfl ((ints_length _ _).trans la1) (fun m v hm => by rw [Nat.zero_add]; exact hm) ?_
  obtain ⟨r4, qr4, h⟩ := bd_e h
  refine k_call [.agg (ints .u8 a0).toArray] rfl (by kernel_rfl) (args1 rfl) (field_Of_ok k a0 la0 _ (hp.toR (fun _ h => by cases h)) qr4) ?_
  rintro _ w' ⟨_, rfl, rfl, lr40, hpc⟩
  refine ⟨_, rfl, .inr (.of_below hpc.chg.to_below), ?_⟩; have hp := hp.below hpc.chg.to_below; clear hpc
  obtain ⟨r5, qr5, h⟩ := bd_e h
  refine k_call [.agg (ints .u8 a1).toArray] rfl (by kernel_rfl) (args1 rfl) (field_Of_ok k a1 la1 _ (hp.toR (fun _ h => by cases h)) qr5) ?_
  rintro _ w' ⟨_, rfl, rfl, lr50, hpc⟩
  refine ⟨_, rfl, .inr (.of_below hpc.chg.to_below), ?_⟩; have hp := hp.below hpc.chg.to_below; clear hpc
  obtain ⟨r6, qr6, h⟩ := bd_e h
  refine k_call [.agg (ints .u64 r4).toArray, .agg (ints .u64 r5).toArray] rfl (by kernel_rfl) (args2 rfl rfl) (field_Element_Times_ok r4 r5 lr40 lr50 _ (hp.toR (fun _ h => by cases h)) qr6) ?_
  rintro _ w' ⟨_, rfl, rfl, lr60, hpc⟩
  refine ⟨_, rfl, .inr (.of_below hpc.chg.to_below), ?_⟩; have hp := hp.below hpc.chg.to_below; clear hpc
  obtain ⟨r7, qr7, h⟩ := bd_e h
  refine k_call [.agg (ints .u64 r6).toArray] rfl (by kernel_rfl) (args1 rfl) (field_Element_Bytes_ok k r6 lr60 _ (hp.toR (fun _ h => by cases h)) qr7) ?_
  rintro _ w' ⟨_, rfl, rfl, lr70, hpc⟩
  refine ⟨_, rfl, .inr (.of_below hpc.chg.to_below), ?_⟩; have hp := hp.below hpc.chg.to_below; clear hpc
  refine k_storeA (v := .agg (ints .u8 r7).toArray) 2 0 (r := ⟨g3, 0, ints .u8 (List.replicate 32 (0 : Int))⟩) (ints .u8 r7) (ints .u8 r7) rfl (n := 32) (by kernel_rfl) s4_e95 rfl rfl ((ints_length _ _).trans lr70) (ints_one _ _) hp rfl rfl rfl (Nat.le_of_eq ((Nat.zero_add _).trans ((ints_length _ _).trans List.length_replicate).symm)) (setMany_all _ _ (((ints_length _ _).trans lr70).trans ((ints_length _ _).trans List.length_replicate).symm)) (by decide) ?_; intro w hp
  refine k_end ?_; intro e96 qe96
  have s4_e96 : e96 4 = .pointer (some ⟨g3, 0, none⟩) := (congrFun qe96 4).trans s4_e95
  clear qe96
  refine wret rfl ?_
  have hr : r = r7 := (Option.some.inj h).symm
  show RetP _ _ _ _ _
  rw [hr]
  exact ret_i [.agg (ints .u8 r7).toArray] (res_cell s4_e96 (loadVar_agg (by kernel_rfl) (by kernel_rfl) ((ints_length _ _).trans lr70) (hp.get (j := 2) rfl) rfl rfl rfl) res_nil) ⟨rfl, lr70, hp.none⟩
/-! 13 postilion/field.Canonical -/
theorem field_Canonical_ok (k : Nat) (a0 : List Int) (la0 : a0.length = 32) (w0 : World) (hp : Hp w0 [] w0 [] []) {r : Bool} (h : field_Canonical.f k a0 = some r) :
    Calls Try.prog 13 [.agg (ints .u8 a0).toArray].toArray w0 fun x w' => ∃ v, x = .returned v ∧ v = .bool r ∧ Hp w0 [] w' [] [] := by
  refine calls_in Try.func13 rfl (Nat.le_of_ble_eq_true (by kernel_rfl)) (by kernel_rfl) ?_
  intro e0 qe0
  have s0_e0 : e0 0 = .agg (ints .u8 a0).toArray := congrFun qe0 0
  clear qe0
  unfold field_Canonical.f at h
  refine wseq rfl ?_
  refine wregion (.ef 0 (.tp 1 (.done))) [] rfl (by kernel_rfl) (by kernel_rfl) ?_
  refine k_box (v := .agg (ints .u8 a0).toArray) (ints .u8 a0) rfl s0_e0 rfl hp ?_
  intro g1 w hbg1 hp
  refine k_assign (v := .bool false) rfl rfl ?_
  refine k_end ?_; intro e97 qe97
  have s1_e97 : e97 1 = .pointer (some ⟨g1, 0, none⟩) := congrFun qe97 1
  clear qe97
  refine wseq rfl ?_
  refine wregion_m (.tk 0 (.tk 3 (.ef 1 (.ef 2 (.tp 4 (.tp 5 (.done))))))) [] [(0, 0, 0), (1, 63, 63), (2, 63, 63), (0, 0, 0), (12, 12, 63), (31, 16, 63)] rfl (by kernel_rfl) (by kernel_rfl) (Nat.le_of_ble_eq_true (by kernel_rfl)) (by kernel_rfl) (by kernel_rfl) ?_
  have hp := hp.drew
  refine k_loadA (n := 32) (xs := ints .u8 a0) 0 rfl (by kernel_rfl) (by kernel_rfl) s1_e97 (hp.get (j := 0) rfl) rfl rfl ((ints_length _ _).trans la0) (fun m v hm => by rw [Nat.zero_add]; exact hm) ?_
  refine k_loadA (n := 32) (xs := ints .u8 a0) 0 rfl (by kernel_rfl) (by kernel_rfl) s1_e97 (hp.get (j := 0) rfl) rfl rfl ((ints_length _ _).trans la0) (fun m v hm => by rw [Nat.zero_add]; exact hm) ?_
  obtain ⟨r2, qr2, h⟩ := bd_e h
  refine k_call [.agg (ints .u8 a0).toArray] rfl (by kernel_rfl) (args1 rfl) (field_Of_ok k a0 la0 _ (hp.toR (fun _ h => by cases h)) qr2) ?_
  rintro _ w' ⟨_, rfl, rfl, lr20, hpc⟩
  refine ⟨_, rfl, .inr (.of_below hpc.chg.to_below), ?_⟩; have hp := hp.below hpc.chg.to_below; clear hpc
  obtain ⟨r3, qr3, h⟩ := bd_e h
  refine k_call [.agg (ints .u64 r2).toArray] rfl (by kernel_rfl) (args1 rfl) (field_Element_Bytes_ok k r2 lr20 _ (hp.toR (fun _ h => by cases h)) qr3) ?_
  rintro _ w' ⟨_, rfl, rfl, lr30, hpc⟩
  refine ⟨_, rfl, .inr (.of_below hpc.chg.to_below), ?_⟩; have hp := hp.below hpc.chg.to_below; clear hpc
  refine k_eqI (k := .u8) (l := r3) (l' := a0) rfl Try.underlying22 Try.underlying5 (by kernel_rfl) (by kernel_rfl) rfl rfl lr30 la0 ?_
  refine k_assign (v := .bool (r3 == a0)) rfl rfl ?_
  refine k_end ?_; intro e98 qe98
  have s2_e98 : e98 2 = .bool (r3 == a0) := congrFun qe98 2
  clear qe98
  refine wret rfl ?_
  have hr : r = (r3 == a0) := (Option.some.inj h).symm
  show RetP _ _ _ _ _
  rw [hr]
  exact ret_i [.bool (r3 == a0)] (res_tmp s2_e98 res_nil) ⟨rfl, hp.none⟩
/-! 8 postilion/postilionlaw04.awake -/
theorem postilionlaw04_awake.p1_ok {w0 : World} {Ws : List Wr} {Q : Exit → Env → World → Prop} (k : Nat)   {r : Bool} (hQ0 : ∀ (e' : Env) (w' : World) (z0 : Bool), e' 0 = .bool z0 → Hp w0 Ws w' [] [] → r = (z0) → Q .normal e' w') (e : Env) (w : World)  (hp : Hp w0 Ws w [] []) (h : postilionlaw04_awake.p1 k  = some r) : Wp Try.prog Try.f8.ntmps (at_ (fbody Try.f8) [1, 0]) Q e w := by
  unfold postilionlaw04_awake.p1 at h
  refine wregion (.tp 0 (.tp 1 (.ef 2 (.tp 3 (.tp 4 (.tp 5 (.tp 6 (.ef 7 (.tp 8 (.tp 9 (.done))))))))))) [] rfl (by kernel_rfl) (by kernel_rfl) ?_
  refine k_build (v := .agg (ints .u8 ((List.replicate 32 (0 : Int)).set 0 2)).toArray) rfl (fun _ => by kernel_rfl) ?_
  refine k_build (v := .agg (ints .u8 ((List.replicate 32 (0 : Int)).set 0 3)).toArray) rfl (fun _ => by kernel_rfl) ?_
  obtain ⟨r1, qr1, h⟩ := bd_e h
  refine k_call [.agg (ints .u8 ((List.replicate 32 (0 : Int)).set 0 2)).toArray, .agg (ints .u8 ((List.replicate 32 (0 : Int)).set 0 3)).toArray] rfl (by kernel_rfl) (args2 rfl rfl) (field_Mul_ok k ((List.replicate 32 (0 : Int)).set 0 2) ((List.replicate 32 (0 : Int)).set 0 3) (List.length_set.trans List.length_replicate) (List.length_set.trans List.length_replicate) _ (hp.toR (fun _ h => by cases h)) qr1) ?_
  rintro _ w' ⟨_, rfl, rfl, lr10, hpc⟩
  refine ⟨_, rfl, .inr (.of_below hpc.chg.to_below), ?_⟩; have hp := hp.below hpc.chg.to_below; clear hpc
  refine k_build (v := .agg (ints .u8 ((List.replicate 32 (0 : Int)).set 0 6)).toArray) rfl (fun _ => by kernel_rfl) ?_
  refine k_eqI (k := .u8) (l := r1) (l' := ((List.replicate 32 (0 : Int)).set 0 6)) rfl Try.underlying22 Try.underlying5 (by kernel_rfl) (by kernel_rfl) rfl rfl lr10 (List.length_set.trans List.length_replicate) ?_
  rcases Bool.eq_false_or_eq_true (r1 == ((List.replicate 32 (0 : Int)).set 0 6)) with hb | hb
  · replace h := br_t hb h
    refine k_move (v := .bool true) rfl (Eq.trans (b := .bool (r1 == ((List.replicate 32 (0 : Int)).set 0 6))) rfl (congrArg Value.bool hb)) ?_
    refine k_build (v := .agg (ints .u8 ((List.replicate 32 (0 : Int)).set 0 1)).toArray) rfl (fun _ => by kernel_rfl) ?_
    obtain ⟨r2, qr2, h⟩ := bd_e h
    refine k_call [.agg (ints .u8 ((List.replicate 32 (0 : Int)).set 0 1)).toArray] rfl (by kernel_rfl) (args1 rfl) (field_Canonical_ok k ((List.replicate 32 (0 : Int)).set 0 1) (List.length_set.trans List.length_replicate) _ (hp.toR (fun _ h => by cases h)) qr2) ?_
    rintro _ w' ⟨_, rfl, rfl, hpc⟩
    refine ⟨_, rfl, .inr (.of_below hpc.chg.to_below), ?_⟩; have hp := hp.below hpc.chg.to_below; clear hpc
    refine k_pick (b := true) (v := .bool r2) rfl rfl rfl rfl rfl ?_
    refine k_assign (v := .bool r2) rfl rfl ?_
    refine k_end ?_; intro e100 qe100
    have s0_e100 : e100 0 = .bool r2 := congrFun qe100 0
    clear qe100
    exact hQ0 _ _ r2  s0_e100 (hp.drop (L' := []) (List.Sublist.refl _)) (Option.some.inj h).symm
  · replace h := br_f hb h
    refine k_move (v := .bool false) rfl (Eq.trans (b := .bool (r1 == ((List.replicate 32 (0 : Int)).set 0 6))) rfl (congrArg Value.bool hb)) ?_
    refine k_skip rfl ?_
    refine k_skip_ef rfl ?_
    refine k_pick (b := false) (v := .bool false) rfl rfl rfl rfl rfl ?_
    refine k_assign (v := .bool false) rfl rfl ?_
    refine k_end ?_; intro e101 qe101
    have s0_e101 : e101 0 = .bool false := congrFun qe101 0
    clear qe101
    exact hQ0 _ _ false  s0_e101 (hp.drop (L' := []) (List.Sublist.refl _)) (Option.some.inj h).symm
theorem postilionlaw04_awake_ok (k : Nat)  (w0 : World) (hp : Hp w0 [] w0 [] []) {r : Bool} (h : postilionlaw04_awake.f k  = some r) :
    Calls Try.prog 8 [].toArray w0 fun x w' => ∃ v, x = .returned v ∧ v = .bool r ∧ Hp w0 [] w' [] [] := by
  refine calls_in Try.func8 rfl (Nat.le_of_ble_eq_true (by kernel_rfl)) (by kernel_rfl) ?_
  intro e0 qe0
  clear qe0
  unfold postilionlaw04_awake.f at h
  refine wseq rfl ?_
  refine wregion (.tp 0 (.done)) [] rfl (by kernel_rfl) (by kernel_rfl) ?_
  refine k_assign (v := .bool false) rfl rfl ?_
  refine k_end ?_; intro e99 qe99
  clear qe99
  refine wseq rfl ?_
  obtain ⟨r3, qr3, h⟩ := bd_e h
  refine postilionlaw04_awake.p1_ok k    ?hq0 e99 _  hp qr3
  case hq0 =>
    intro e102 w m4  s0_e102 hp qq
    rw [qq] at h; clear qq
    refine wret rfl ?_
    have hr : r = m4 := (Option.some.inj h).symm
    show RetP _ _ _ _ _
    rw [hr]
    exact ret_i [.bool m4] (res_tmp s0_e102 res_nil) ⟨rfl, hp.none⟩
/-! 22 (postilion/field.Element).Plus -/
theorem field_Element_Plus.p1_ok {w0 : World} {Ws : List Wr} {Q : Exit → Env → World → Prop} (g1 g2 g3 : Nat) (a1 : List Int) (l_a1 : a1.length = 5) {r : List Int} (hQ0 : ∀ (e' : Env) (w' : World) (z0 : List Int), z0.length = 5 → e' 2 = .pointer (some ⟨g1, 0, none⟩) → e' 4 = .pointer (some ⟨g3, 0, none⟩) → Hp w0 Ws w' [⟨g1, 0, ints .u64 z0⟩, ⟨g2, 0, ints .u64 a1⟩, ⟨g3, 0, ints .u64 (List.replicate 5 (0 : Int))⟩] [] → r = (z0) → Q (.exit 0) e' w') : ∀ (k : Nat), ∀ (y4 : List Int) (y5 : Int) (e : Env) (w : World) (ly4 : y4.length = 5) (s2_e : e 2 = .pointer (some ⟨g1, 0, none⟩)) (s3_e : e 3 = .pointer (some ⟨g2, 0, none⟩)) (s4_e : e 4 = .pointer (some ⟨g3, 0, none⟩)) (s6_e : e 6 = .int .i64 y5) (hp : Hp w0 Ws w [⟨g1, 0, ints .u64 y4⟩, ⟨g2, 0, ints .u64 a1⟩, ⟨g3, 0, ints .u64 (List.replicate 5 (0 : Int))⟩] []) (h : field_Element_Plus.p1 k a1 y4 y5 = some r), Lp Try.prog Try.f22.ntmps (at_ (fbody Try.f22) [1, 0, 1, 0, 0]) Q k e w := by
  intro k
  induction k with
  | zero => intro y4 y5 e w ly4 s2_e s3_e s4_e s6_e hp h; cases h
  | succ k ih =>
    intro y4 y5 e w ly4 s2_e s3_e s4_e s6_e hp h
    unfold field_Element_Plus.p1 at h
    show Wp _ _ _ _ _ _
    refine wseq rfl ?_
    refine wregion (.tp 0 (.done)) [] rfl (by kernel_rfl) (by kernel_rfl) ?_
    refine k_bin (X := .int .i64 y5) (Y := .int .i64 5) rfl s6_e rfl rfl ?_
    refine k_end ?_; intro e105 qe105
    have s2_e105 : e105 2 = .pointer (some ⟨g1, 0, none⟩) := (congrFun qe105 2).trans s2_e
    have s3_e105 : e105 3 = .pointer (some ⟨g2, 0, none⟩) := (congrFun qe105 3).trans s3_e
    have s4_e105 : e105 4 = .pointer (some ⟨g3, 0, none⟩) := (congrFun qe105 4).trans s4_e
    have s6_e105 : e105 6 = .int .i64 y5 := (congrFun qe105 6).trans s6_e
    have s7_e105 : e105 7 = .bool (decide (y5 < 5)) := congrFun qe105 7
    clear qe105
    refine wseq rfl ?_
    refine wcond (t := (decide (y5 < 5))) rfl (by decide) s7_e105 (fun hb => ?_) (fun hb => ?_)
    · replace h := br_t hb h
      refine wskip rfl ?_
      refine wseq rfl ?_
      refine wblock rfl ?_
      refine wseq rfl ?_
      refine wregion (.tp 0 (.tp 1 (.done))) [] rfl (by kernel_rfl) (by kernel_rfl) ?_
      refine k_move (v := .int .i64 y5) rfl s6_e105 ?_
      refine k_assign (v := .int .i64 y5) rfl rfl ?_
      refine k_end ?_; intro e106 qe106
      have s2_e106 : e106 2 = .pointer (some ⟨g1, 0, none⟩) := (congrFun qe106 2).trans s2_e105
      have s3_e106 : e106 3 = .pointer (some ⟨g2, 0, none⟩) := (congrFun qe106 3).trans s3_e105
      have s4_e106 : e106 4 = .pointer (some ⟨g3, 0, none⟩) := (congrFun qe106 4).trans s4_e105
      have s5_e106 : e106 5 = .int .i64 y5 := congrFun qe106 5
      have s6_e106 : e106 6 = .int .i64 y5 := (congrFun qe106 6).trans s6_e105
      clear qe106
      refine wregion_m (.tp 0 (.tp 1 (.tk 2 (.tp 3 (.tp 4 (.tk 5 (.tp 6 (.tp 7 (.ef 8 (.done)))))))))) [8] [(0, 0, 511), (1, 1, 511), (2, 2, 0), (0, 0, 511), (8, 8, 511), (16, 16, 0), (36, 36, 511), (127, 1, 511), (255, 511, 511)] rfl (by kernel_rfl) (by kernel_rfl) (Nat.le_of_ble_eq_true (by kernel_rfl)) (by kernel_rfl) (by kernel_rfl) ?_
      have hp := hp.drew
      refine k_move (v := .int .i64 y5) rfl s5_e106 ?_
      obtain ⟨c6, h⟩ := chk_e h
      refine k_indexA (n := 5) (s := 1) (j := y5) rfl Try.underlying34 (by kernel_rfl) s2_e106 rfl c6 ?_
      refine k_load (j := (y5 : Int).toNat) (v := .int .u64 (y4.getD (y5 : Int).toNat 0)) rfl (by kernel_rfl) rfl (hp.get (j := 0) rfl) rfl (show 0 + (y5 : Int).toNat * 1 = 0 + (y5 : Int).toNat by omega) (ints_get (idx_lt c6 ly4)) ?_
      refine k_move (v := .int .i64 y5) rfl s5_e106 ?_
      refine k_indexA (n := 5) (s := 1) (j := y5) rfl Try.underlying34 (by kernel_rfl) s3_e106 rfl c6 ?_
      refine k_load (j := (y5 : Int).toNat) (v := .int .u64 (a1.getD (y5 : Int).toNat 0)) rfl (by kernel_rfl) rfl (hp.get (j := 1) rfl) rfl (show 0 + (y5 : Int).toNat * 1 = 0 + (y5 : Int).toNat by omega) (ints_get (idx_lt c6 l_a1)) ?_
      refine k_bin (X := .int .u64 (y4.getD (y5 : Int).toNat 0)) (Y := .int .u64 (a1.getD (y5 : Int).toNat 0)) rfl rfl rfl rfl ?_
      refine k_indexA (n := 5) (s := 1) (j := y5) rfl Try.underlying34 (by kernel_rfl) s2_e106 rfl c6 ?_
      refine k_store (v := .int .u64 (IntKind.u64.wrap ((y4.getD (y5 : Int).toNat 0) + (a1.getD (y5 : Int).toNat 0)))) 0 (y5 : Int).toNat (r := ⟨g1, 0, ints .u64 y4⟩) rfl (by kernel_rfl) rfl rfl rfl hp rfl rfl (show 0 + (y5 : Int).toNat * 1 = 0 + (y5 : Int).toNat by omega) (Nat.lt_of_lt_of_eq (idx_lt c6 ly4) (ints_length _ _).symm) (by decide) ?_; intro w hp; rw [ints_set] at hp
      refine k_end ?_; intro e107 qe107
      have s2_e107 : e107 2 = .pointer (some ⟨g1, 0, none⟩) := (congrFun qe107 2).trans s2_e106
      have s3_e107 : e107 3 = .pointer (some ⟨g2, 0, none⟩) := (congrFun qe107 3).trans s3_e106
      have s4_e107 : e107 4 = .pointer (some ⟨g3, 0, none⟩) := (congrFun qe107 4).trans s4_e106
      have s6_e107 : e107 6 = .int .i64 y5 := (congrFun qe107 6).trans s6_e106
      clear qe107
      refine wregion (.tp 0 (.tp 1 (.done))) [] rfl (by kernel_rfl) (by kernel_rfl) ?_
      refine k_bin (X := .int .i64 y5) (Y := .int .i64 1) rfl s6_e107 rfl rfl ?_
      refine k_move (v := .int .i64 (IntKind.i64.wrap (y5 + 1))) rfl rfl ?_
      refine k_end ?_; intro e108 qe108
      have s2_e108 : e108 2 = .pointer (some ⟨g1, 0, none⟩) := (congrFun qe108 2).trans s2_e107
      have s3_e108 : e108 3 = .pointer (some ⟨g2, 0, none⟩) := (congrFun qe108 3).trans s3_e107
      have s4_e108 : e108 4 = .pointer (some ⟨g3, 0, none⟩) := (congrFun qe108 4).trans s4_e107
      obtain ⟨x7, qx7, h⟩ := lt_e h
      have s6_e108 : e108 6 = .int .i64 x7 := (congrFun qe108 6).trans (congrArg (Value.int .i64) qx7.symm)
      clear qe108
      exact ih (y4.set (y5 : Int).toNat (IntKind.u64.wrap ((y4.getD (y5 : Int).toNat 0) + (a1.getD (y5 : Int).toNat 0)))) x7 _ _ (List.length_set.trans ly4) s2_e108 s3_e108 s4_e108 s6_e108 (hp.drop (L' := [⟨g1, 0, ints .u64 (y4.set (y5 : Int).toNat (IntKind.u64.wrap ((y4.getD (y5 : Int).toNat 0) + (a1.getD (y5 : Int).toNat 0))))⟩, ⟨g2, 0, ints .u64 a1⟩, ⟨g3, 0, ints .u64 (List.replicate 5 (0 : Int))⟩]) (List.Sublist.refl _)) h
    · replace h := br_f hb h
      refine wexit rfl ?_
      exact hQ0 _ _ y4 ly4 s2_e105 s4_e105 (hp.drop (L' := [⟨g1, 0, ints .u64 y4⟩, ⟨g2, 0, ints .u64 a1⟩, ⟨g3, 0, ints .u64 (List.replicate 5 (0 : Int))⟩]) (List.Sublist.refl _)) (Option.some.inj h).symm
theorem field_Element_Plus_ok (k : Nat) (a0 : List Int) (a1 : List Int) (la0 : a0.length = 5) (la1 : a1.length = 5) (w0 : World) (hp : Hp w0 [] w0 [] []) {r : List Int} (h : field_Element_Plus.f k a0 a1 = some r) :
    Calls Try.prog 22 [.agg (ints .u64 a0).toArray, .agg (ints .u64 a1).toArray].toArray w0 fun x w' => ∃ v, x = .returned v ∧ v = .agg (ints .u64 r).toArray ∧ r.length = 5 ∧ Hp w0 [] w' [] [] := by
  refine calls_in Try.func22 rfl (Nat.le_of_ble_eq_true (by kernel_rfl)) (by kernel_rfl) ?_
  intro e0 qe0
  have s0_e0 : e0 0 = .agg (ints .u64 a0).toArray := congrFun qe0 0
  have s1_e0 : e0 1 = .agg (ints .u64 a1).toArray := congrFun qe0 1
  clear qe0
  unfold field_Element_Plus.f at h
  refine wseq rfl ?_
  refine wregion (.ef 0 (.ef 1 (.ef 2 (.done)))) [] rfl (by kernel_rfl) (by kernel_rfl) ?_
  refine k_box (v := .agg (ints .u64 a0).toArray) (ints .u64 a0) rfl s0_e0 rfl hp ?_
  intro g1 w hbg1 hp
  refine k_box (v := .agg (ints .u64 a1).toArray) (ints .u64 a1) rfl s1_e0 rfl hp ?_
  intro g2 w hbg2 hp
  refine k_alloc (ints .u64 (List.replicate 5 (0 : Int))) rfl (by kernel_rfl) hp ?_
  intro g3 w hbg3 hp
  refine k_end ?_; intro e103 qe103
  have s2_e103 : e103 2 = .pointer (some ⟨g1, 0, none⟩) := congrFun qe103 2
  have s3_e103 : e103 3 = .pointer (some ⟨g2, 0, none⟩) := congrFun qe103 3
  have s4_e103 : e103 4 = .pointer (some ⟨g3, 0, none⟩) := congrFun qe103 4
  clear qe103
  refine wseq rfl ?_
  refine wseq rfl ?_
  refine wregion (.tp 0 (.done)) [] rfl (by kernel_rfl) (by kernel_rfl) ?_
  refine k_move (v := .int .i64 0) rfl rfl ?_
  refine k_end ?_; intro e104 qe104
  have s2_e104 : e104 2 = .pointer (some ⟨g1, 0, none⟩) := (congrFun qe104 2).trans s2_e103
  have s3_e104 : e104 3 = .pointer (some ⟨g2, 0, none⟩) := (congrFun qe104 3).trans s3_e103
  have s4_e104 : e104 4 = .pointer (some ⟨g3, 0, none⟩) := (congrFun qe104 4).trans s4_e103
  have s6_e104 : e104 6 = .int .i64 0 := congrFun qe104 6
  clear qe104
  refine wblock rfl ?_
  obtain ⟨r8, qr8, h⟩ := bd_e h
  refine wloop k rfl (field_Element_Plus.p1_ok g1 g2 g3 a1 la1 ?hq0 k a0 0 e104 _ la0 s2_e104 s3_e104 s4_e104 s6_e104 hp qr8)
  case hq0 =>
    intro e109 w m9 lm9 s2_e109 s4_e109 hp qq
    rw [qq] at h; clear qq
    refine wseq rfl ?_
    refine wregion (.tk 0 (.ef 1 (.ef 2 (.done)))) [2] rfl (by kernel_rfl) (by kernel_rfl) ?_
    refine k_loadA (n := 5) (xs := ints .u64 m9) 0 rfl (by kernel_rfl) (by kernel_rfl) s2_e109 (hp.get (j := 0) rfl) rfl rfl ((ints_length _ _).trans lm9) (fun m v hm => by rw [Nat.zero_add]; exact hm) ?_
    obtain ⟨r10, qr10, h⟩ := bd_e h
    refine k_call [.agg (ints .u64 m9).toArray] rfl (by kernel_rfl) (args1 rfl) (field_Element_carried_ok m9 lm9 _ (hp.toR (fun _ h => by cases h)) qr10) ?_
    rintro _ w' ⟨_, rfl, rfl, lr100, hpc⟩
    refine ⟨_, rfl, .inr (.of_below hpc.chg.to_below), ?_⟩; have hp := hp.below hpc.chg.to_below; clear hpc
    refine k_storeA (v := .agg (ints .u64 r10).toArray) 2 0 (r := ⟨g3, 0, ints .u64 (List.replicate 5 (0 : Int))⟩) (ints .u64 r10) (ints .u64 r10) rfl (n := 5) (by kernel_rfl) s4_e109 rfl rfl ((ints_length _ _).trans lr100) (ints_one _ _) hp rfl rfl rfl (Nat.le_of_eq ((Nat.zero_add _).trans ((ints_length _ _).trans List.length_replicate).symm)) (setMany_all _ _ (((ints_length _ _).trans lr100).trans ((ints_length _ _).trans List.length_replicate).symm)) (by decide) ?_; intro w hp
    refine k_end ?_; intro e110 qe110
    have s4_e110 : e110 4 = .pointer (some ⟨g3, 0, none⟩) := (congrFun qe110 4).trans s4_e109
    clear qe110
    refine wret rfl ?_
    have hr : r = r10 := (Option.some.inj h).symm
    show RetP _ _ _ _ _
    rw [hr]
    exact ret_i [.agg (ints .u64 r10).toArray] (res_cell s4_e110 (loadVar_agg (by kernel_rfl) (by kernel_rfl) ((ints_length _ _).trans lr100) (hp.get (j := 2) rfl) rfl rfl rfl) res_nil) ⟨rfl, lr100, hp.none⟩
/-! 9 postilion/field.Add -/
theorem field_Add_ok (k : Nat) (a0 : List Int) (a1 : List Int) (la0 : a0.length = 32) (la1 : a1.length = 32) (w0 : World) (hp : Hp w0 [] w0 [] []) {r : List Int} (h : field_Add.f k a0 a1 = some r) :
    Calls Try.prog 9 [.agg (ints .u8 a0).toArray, .agg (ints .u8 a1).toArray].toArray w0 fun x w' => ∃ v, x = .returned v ∧ v = .agg (ints .u8 r).toArray ∧ r.length = 32 ∧ Hp w0 [] w' [] [] := by
  refine calls_in Try.func9 rfl (Nat.le_of_ble_eq_true (by kernel_rfl)) (by kernel_rfl) ?_
  intro e0 qe0
  have s0_e0 : e0 0 = .agg (ints .u8 a0).toArray := congrFun qe0 0
  have s1_e0 : e0 1 = .agg (ints .u8 a1).toArray := congrFun qe0 1
  clear qe0
  unfold field_Add.f at h
  refine wseq rfl ?_
  refine wregion (.ef 0 (.ef 1 (.ef 2 (.done)))) [] rfl (by kernel_rfl) (by kernel_rfl) ?_
  refine k_box (v := .agg (ints .u8 a0).toArray) (ints .u8 a0) rfl s0_e0 rfl hp ?_
  intro g1 w hbg1 hp
  refine k_box (v := .agg (ints .u8 a1).toArray) (ints .u8 a1) rfl s1_e0 rfl hp ?_
  intro g2 w hbg2 hp
  refine k_alloc (ints .u8 (List.replicate 32 (0 : Int))) rfl (by kernel_rfl) hp ?_
  intro g3 w hbg3 hp
  refine k_end ?_; intro e111 qe111
  have s2_e111 : e111 2 = .pointer (some ⟨g1, 0, none⟩) := congrFun qe111 2
  have s3_e111 : e111 3 = .pointer (some ⟨g2, 0, none⟩) := congrFun qe111 3
  have s4_e111 : e111 4 = .pointer (some ⟨g3, 0, none⟩) := congrFun qe111 4
  clear qe111
  refine wseq rfl ?_
  refine wregion_m (.tk 0 (.tk 2 (.ef 1 (.ef 3 (.ef 4 (.ef 5 (.ef 6 (.done)))))))) [6] [(0, 0, 0), (1, 127, 127), (0, 0, 0), (6, 127, 127), (10, 127, 127), (16, 127, 127), (63, 127, 127)] rfl (by kernel_rfl) (by kernel_rfl) (Nat.le_of_ble_eq_true (by kernel_rfl)) (by kernel_rfl) (by kernel_rfl) ?_
  have hp := hp.drew
  refine k_loadA (n := 32) (xs := ints .u8 a0) 0 rfl (by kernel_rfl) (by kernel_rfl) s2_e111 (hp.get (j := 0) rfl) rfl rfl ((ints_length _ _).trans la0) (fun m v hm => by rw [Nat.zero_add]; exact hm) ?_
  refine k_loadA (n := 32) (xs := ints .u8 a1) 0 rfl (by kernel_rfl) (by kernel_rfl) s3_e111 (hp.get (j := 1) rfl) rfl rfl ((ints_length _ _).trans la1) (fun m v hm => by rw [Nat.zero_add]; exact hm) ?_
  obtain ⟨r4, qr4, h⟩ := bd_e h
  refine k_call [.agg (ints .u8 a0).toArray] rfl (by kernel_rfl) (args1 rfl) (field_Of_ok k a0 la0 _ (hp.toR (fun _ h => by cases h)) qr4) ?_
  rintro _ w' ⟨_, rfl, rfl, lr40, hpc⟩
  refine ⟨_, rfl, .inr (.of_below hpc.chg.to_below), ?_⟩; have hp := hp.below hpc.chg.to_below; clear hpc
  obtain ⟨r5, qr5, h⟩ := bd_e h
  refine k_call [.agg (ints .u8 a1).toArray] rfl (by kernel_rfl) (args1 rfl) (field_Of_ok k a1 la1 _ (hp.toR (fun _ h => by cases h)) qr5) ?_
  rintro _ w' ⟨_, rfl, rfl, lr50, hpc⟩
  refine ⟨_, rfl, .inr (.of_below hpc.chg.to_below), ?_⟩; have hp := hp.below hpc.chg.to_below; clear hpc
  obtain ⟨r6, qr6, h⟩ := bd_e h
  refine k_call [.agg (ints .u64 r4).toArray, .agg (ints .u64 r5).toArray] rfl (by kernel_rfl) (args2 rfl rfl) (field_Element_Plus_ok k r4 r5 lr40 lr50 _ (hp.toR (fun _ h => by cases h)) qr6) ?_
  rintro _ w' ⟨_, rfl, rfl, lr60, hpc⟩
  refine ⟨_, rfl, .inr (.of_below hpc.chg.to_below), ?_⟩; have hp := hp.below hpc.chg.to_below; clear hpc
  obtain ⟨r7, qr7, h⟩ := bd_e h
  refine k_call [.agg (ints .u64 r6).toArray] rfl (by kernel_rfl) (args1 rfl) (field_Element_Bytes_ok k r6 lr60 _ (hp.toR (fun _ h => by cases h)) qr7) ?_
  rintro _ w' ⟨_, rfl, rfl, lr70, hpc⟩
  refine ⟨_, rfl, .inr (.of_below hpc.chg.to_below), ?_⟩; have hp := hp.below hpc.chg.to_below; clear hpc
  refine k_storeA (v := .agg (ints .u8 r7).toArray) 2 0 (r := ⟨g3, 0, ints .u8 (List.replicate 32 (0 : Int))⟩) (ints .u8 r7) (ints .u8 r7) rfl (n := 32) (by kernel_rfl) s4_e111 rfl rfl ((ints_length _ _).trans lr70) (ints_one _ _) hp rfl rfl rfl (Nat.le_of_eq ((Nat.zero_add _).trans ((ints_length _ _).trans List.length_replicate).symm)) (setMany_all _ _ (((ints_length _ _).trans lr70).trans ((ints_length _ _).trans List.length_replicate).symm)) (by decide) ?_; intro w hp
  refine k_end ?_; intro e112 qe112
  have s4_e112 : e112 4 = .pointer (some ⟨g3, 0, none⟩) := (congrFun qe112 4).trans s4_e111
  clear qe112
  refine wret rfl ?_
  have hr : r = r7 := (Option.some.inj h).symm
  show RetP _ _ _ _ _
  rw [hr]
  exact ret_i [.agg (ints .u8 r7).toArray] (res_cell s4_e112 (loadVar_agg (by kernel_rfl) (by kernel_rfl) ((ints_length _ _).trans lr70) (hp.get (j := 2) rfl) rfl rfl rfl) res_nil) ⟨rfl, lr70, hp.none⟩
/-! 25 (postilion/field.Element).Minus -/
theorem field_Element_Minus_ok (a0 : List Int) (a1 : List Int) (la0 : a0.length = 5) (la1 : a1.length = 5) (w0 : World) (hp : Hp w0 [] w0 [] []) {r : List Int} (h : field_Element_Minus.f a0 a1 = some r) :
    Calls Try.prog 25 [.agg (ints .u64 a0).toArray, .agg (ints .u64 a1).toArray].toArray w0 fun x w' => ∃ v, x = .returned v ∧ v = .agg (ints .u64 r).toArray ∧ r.length = 5 ∧ Hp w0 [] w' [] [] := by
  refine calls_in Try.func25 rfl (Nat.le_of_ble_eq_true (by kernel_rfl)) (by kernel_rfl) ?_
  intro e0 qe0
  have s0_e0 : e0 0 = .agg (ints .u64 a0).toArray := congrFun qe0 0
  have s1_e0 : e0 1 = .agg (ints .u64 a1).toArray := congrFun qe0 1
  clear qe0
  unfold field_Element_Minus.f at h
  refine wseq rfl ?_
  refine wregion (.ef 0 (.ef 1 (.ef 2 (.done)))) [] rfl (by kernel_rfl) (by kernel_rfl) ?_
  refine k_box (v := .agg (ints .u64 a0).toArray) (ints .u64 a0) rfl s0_e0 rfl hp ?_
  intro g1 w hbg1 hp
  refine k_box (v := .agg (ints .u64 a1).toArray) (ints .u64 a1) rfl s1_e0 rfl hp ?_
  intro g2 w hbg2 hp
  refine k_alloc (ints .u64 (List.replicate 5 (0 : Int))) rfl (by kernel_rfl) hp ?_
  intro g3 w hbg3 hp
  refine k_end ?_; intro e113 qe113
  have s2_e113 : e113 2 = .pointer (some ⟨g1, 0, none⟩) := congrFun qe113 2
  have s3_e113 : e113 3 = .pointer (some ⟨g2, 0, none⟩) := congrFun qe113 3
  have s4_e113 : e113 4 = .pointer (some ⟨g3, 0, none⟩) := congrFun qe113 4
  clear qe113
  refine wseq rfl ?_
  refine wregion (.tp 0 (.tk 1 (.tp 2 (.tp 3 (.tk 4 (.tp 5 (.tp 6 (.tk 7 (.tp 8 (.tp 9 (.tk 10 (.tp 11 (.tp 12 (.tk 13 (.tp 14 (.tp 15 (.tk 16 (.tp 17 (.tp 18 (.tk 19 (.tp 20 (.tp 21 (.tk 22 (.tp 23 (.tp 24 (.tk 25 (.tp 26 (.tp 27 (.tk 28 (.tp 29 (.tp 30 (.ef 31 (.ef 32 (.done)))))))))))))))))))))))))))))))))) [32] rfl (by kernel_rfl) (by kernel_rfl) ?_
  refine k_indexA (n := 5) (s := 1) (j := 0) rfl Try.underlying34 (by kernel_rfl) s2_e113 rfl (by decide) ?_
  refine k_load (j := 0) (v := .int .u64 (a0.getD 0 0)) rfl (by kernel_rfl) rfl (hp.get (j := 0) rfl) rfl rfl (ints_get (Nat.lt_of_lt_of_eq (m := 5) (by decide) (la0).symm)) ?_
  refine k_bin (X := .int .u64 (a0.getD 0 0)) (Y := .int .u64 4503599627370458) rfl rfl rfl rfl ?_
  refine k_indexA (n := 5) (s := 1) (j := 0) rfl Try.underlying34 (by kernel_rfl) s3_e113 rfl (by decide) ?_
  refine k_load (j := 0) (v := .int .u64 (a1.getD 0 0)) rfl (by kernel_rfl) rfl (hp.get (j := 1) rfl) rfl rfl (ints_get (Nat.lt_of_lt_of_eq (m := 5) (by decide) (la1).symm)) ?_
  refine k_bin (X := .int .u64 (IntKind.u64.wrap ((a0.getD 0 0) + 4503599627370458))) (Y := .int .u64 (a1.getD 0 0)) rfl rfl rfl rfl ?_
  refine k_indexA (n := 5) (s := 1) (j := 1) rfl Try.underlying34 (by kernel_rfl) s2_e113 rfl (by decide) ?_
  refine k_load (j := 1) (v := .int .u64 (a0.getD 1 0)) rfl (by kernel_rfl) rfl (hp.get (j := 0) rfl) rfl rfl (ints_get (Nat.lt_of_lt_of_eq (m := 5) (by decide) (la0).symm)) ?_
  refine k_bin (X := .int .u64 (a0.getD 1 0)) (Y := .int .u64 4503599627370494) rfl rfl rfl rfl ?_
  refine k_indexA (n := 5) (s := 1) (j := 1) rfl Try.underlying34 (by kernel_rfl) s3_e113 rfl (by decide) ?_
  refine k_load (j := 1) (v := .int .u64 (a1.getD 1 0)) rfl (by kernel_rfl) rfl (hp.get (j := 1) rfl) rfl rfl (ints_get (Nat.lt_of_lt_of_eq (m := 5) (by decide) (la1).symm)) ?_
  refine k_bin (X := .int .u64 (IntKind.u64.wrap ((a0.getD 1 0) + 4503599627370494))) (Y := .int .u64 (a1.getD 1 0)) rfl rfl rfl rfl ?_
  refine k_indexA (n := 5) (s := 1) (j := 2) rfl Try.underlying34 (by kernel_rfl) s2_e113 rfl (by decide) ?_
  refine k_load (j := 2) (v := .int .u64 (a0.getD 2 0)) rfl (by kernel_rfl) rfl (hp.get (j := 0) rfl) rfl rfl (ints_get (Nat.lt_of_lt_of_eq (m := 5) (by decide) (la0).symm)) ?_
  refine k_bin (X := .int .u64 (a0.getD 2 0)) (Y := .int .u64 4503599627370494) rfl rfl rfl rfl ?_
  refine k_indexA (n := 5) (s := 1) (j := 2) rfl Try.underlying34 (by kernel_rfl) s3_e113 rfl (by decide) ?_
  refine k_load (j := 2) (v := .int .u64 (a1.getD 2 0)) rfl (by kernel_rfl) rfl (hp.get (j := 1) rfl) rfl rfl (ints_get (Nat.lt_of_lt_of_eq (m := 5) (by decide) (la1).symm)) ?_
  refine k_bin (X := .int .u64 (IntKind.u64.wrap ((a0.getD 2 0) + 4503599627370494))) (Y := .int .u64 (a1.getD 2 0)) rfl rfl rfl rfl ?_
  refine k_indexA (n := 5) (s := 1) (j := 3) rfl Try.underlying34 (by kernel_rfl) s2_e113 rfl (by decide) ?_
  refine k_load (j := 3) (v := .int .u64 (a0.getD 3 0)) rfl (by kernel_rfl) rfl (hp.get (j := 0) rfl) rfl rfl (ints_get (Nat.lt_of_lt_of_eq (m := 5) (by decide) (la0).symm)) ?_
  refine k_bin (X := .int .u64 (a0.getD 3 0)) (Y := .int .u64 4503599627370494) rfl rfl rfl rfl ?_
  refine k_indexA (n := 5) (s := 1) (j := 3) rfl Try.underlying34 (by kernel_rfl) s3_e113 rfl (by decide) ?_
  refine k_load (j := 3) (v := .int .u64 (a1.getD 3 0)) rfl (by kernel_rfl) rfl (hp.get (j := 1) rfl) rfl rfl (ints_get (Nat.lt_of_lt_of_eq (m := 5) (by decide) (la1).symm)) ?_
  refine k_bin (X := .int .u64 (IntKind.u64.wrap ((a0.getD 3 0) + 4503599627370494))) (Y := .int .u64 (a1.getD 3 0)) rfl rfl rfl rfl ?_
  refine k_indexA (n := 5) (s := 1) (j := 4) rfl Try.underlying34 (by kernel_rfl) s2_e113 rfl (by decide) ?_
  refine k_load (j := 4) (v := .int .u64 (a0.getD 4 0)) rfl (by kernel_rfl) rfl (hp.get (j := 0) rfl) rfl rfl (ints_get (Nat.lt_of_lt_of_eq (m := 5) (by decide) (la0).symm)) ?_
  refine k_bin (X := .int .u64 (a0.getD 4 0)) (Y := .int .u64 4503599627370494) rfl rfl rfl rfl ?_
  refine k_indexA (n := 5) (s := 1) (j := 4) rfl Try.underlying34 (by kernel_rfl) s3_e113 rfl (by decide) ?_
  refine k_load (j := 4) (v := .int .u64 (a1.getD 4 0)) rfl (by kernel_rfl) rfl (hp.get (j := 1) rfl) rfl rfl (ints_get (Nat.lt_of_lt_of_eq (m := 5) (by decide) (la1).symm)) ?_
  refine k_bin (X := .int .u64 (IntKind.u64.wrap ((a0.getD 4 0) + 4503599627370494))) (Y := .int .u64 (a1.getD 4 0)) rfl rfl rfl rfl ?_
  refine k_build (v := .agg (ints .u64 [(IntKind.u64.wrap ((IntKind.u64.wrap ((a0.getD 0 0) + 4503599627370458)) - (a1.getD 0 0))), (IntKind.u64.wrap ((IntKind.u64.wrap ((a0.getD 1 0) + 4503599627370494)) - (a1.getD 1 0))), (IntKind.u64.wrap ((IntKind.u64.wrap ((a0.getD 2 0) + 4503599627370494)) - (a1.getD 2 0))), (IntKind.u64.wrap ((IntKind.u64.wrap ((a0.getD 3 0) + 4503599627370494)) - (a1.getD 3 0))), (IntKind.u64.wrap ((IntKind.u64.wrap ((a0.getD 4 0) + 4503599627370494)) - (a1.getD 4 0)))]).toArray) rfl (fun _ => by kernel_rfl) ?_
  obtain ⟨r4, qr4, h⟩ := bd_e h
  refine k_call [.agg (ints .u64 [(IntKind.u64.wrap ((IntKind.u64.wrap ((a0.getD 0 0) + 4503599627370458)) - (a1.getD 0 0))), (IntKind.u64.wrap ((IntKind.u64.wrap ((a0.getD 1 0) + 4503599627370494)) - (a1.getD 1 0))), (IntKind.u64.wrap ((IntKind.u64.wrap ((a0.getD 2 0) + 4503599627370494)) - (a1.getD 2 0))), (IntKind.u64.wrap ((IntKind.u64.wrap ((a0.getD 3 0) + 4503599627370494)) - (a1.getD 3 0))), (IntKind.u64.wrap ((IntKind.u64.wrap ((a0.getD 4 0) + 4503599627370494)) - (a1.getD 4 0)))]).toArray] rfl (by kernel_rfl) (args1 rfl) (field_Element_carried_ok [(IntKind.u64.wrap ((IntKind.u64.wrap ((a0.getD 0 0) + 4503599627370458)) - (a1.getD 0 0))), (IntKind.u64.wrap ((IntKind.u64.wrap ((a0.getD 1 0) + 4503599627370494)) - (a1.getD 1 0))), (IntKind.u64.wrap ((IntKind.u64.wrap ((a0.getD 2 0) + 4503599627370494)) - (a1.getD 2 0))), (IntKind.u64.wrap ((IntKind.u64.wrap ((a0.getD 3 0) + 4503599627370494)) - (a1.getD 3 0))), (IntKind.u64.wrap ((IntKind.u64.wrap ((a0.getD 4 0) + 4503599627370494)) - (a1.getD 4 0)))] (rfl : List.length ([(IntKind.u64.wrap ((IntKind.u64.wrap ((a0.getD 0 0) + 4503599627370458)) - (a1.getD 0 0))), (IntKind.u64.wrap ((IntKind.u64.wrap ((a0.getD 1 0) + 4503599627370494)) - (a1.getD 1 0))), (IntKind.u64.wrap ((IntKind.u64.wrap ((a0.getD 2 0) + 4503599627370494)) - (a1.getD 2 0))), (IntKind.u64.wrap ((IntKind.u64.wrap ((a0.getD 3 0) + 4503599627370494)) - (a1.getD 3 0))), (IntKind.u64.wrap ((IntKind.u64.wrap ((a0.getD 4 0) + 4503599627370494)) - (a1.getD 4 0)))] : List Int) = 5) _ (hp.toR (fun _ h => by cases h)) qr4) ?_
  rintro _ w' ⟨_, rfl, rfl, lr40, hpc⟩
  refine ⟨_, rfl, .inr (.of_below hpc.chg.to_below), ?_⟩; have hp := hp.below hpc.chg.to_below; clear hpc
  refine k_storeA (v := .agg (ints .u64 r4).toArray) 2 0 (r := ⟨g3, 0, ints .u64 (List.replicate 5 (0 : Int))⟩) (ints .u64 r4) (ints .u64 r4) rfl (n := 5) (by kernel_rfl) s4_e113 rfl rfl ((ints_length _ _).trans lr40) (ints_one _ _) hp rfl rfl rfl (Nat.le_of_eq ((Nat.zero_add _).trans ((ints_length _ _).trans List.length_replicate).symm)) (setMany_all _ _ (((ints_length _ _).trans lr40).trans ((ints_length _ _).trans List.length_replicate).symm)) (by decide) ?_; intro w hp
  refine k_end ?_; intro e114 qe114
  have s4_e114 : e114 4 = .pointer (some ⟨g3, 0, none⟩) := (congrFun qe114 4).trans s4_e113
  clear qe114
  refine wret rfl ?_
  have hr : r = r4 := (Option.some.inj h).symm
  show RetP _ _ _ _ _
  rw [hr]
  exact ret_i [.agg (ints .u64 r4).toArray] (res_cell s4_e114 (loadVar_agg (by kernel_rfl) (by kernel_rfl) ((ints_length _ _).trans lr40) (hp.get (j := 2) rfl) rfl rfl rfl) res_nil) ⟨rfl, lr40, hp.none⟩
/-! 11 postilion/field.Sub -/
theorem field_Sub_ok (k : Nat) (a0 : List Int) (a1 : List Int) (la0 : a0.length = 32) (la1 : a1.length = 32) (w0 : World) (hp : Hp w0 [] w0 [] []) {r : List Int} (h : field_Sub.f k a0 a1 = some r) :
    Calls Try.prog 11 [.agg (ints .u8 a0).toArray, .agg (ints .u8 a1).toArray].toArray w0 fun x w' => ∃ v, x = .returned v ∧ v = .agg (ints .u8 r).toArray ∧ r.length = 32 ∧ Hp w0 [] w' [] [] := by
  refine calls_in Try.func11 rfl (Nat.le_of_ble_eq_true (by kernel_rfl)) (by kernel_rfl) ?_
  intro e0 qe0
  have s0_e0 : e0 0 = .agg (ints .u8 a0).toArray := congrFun qe0 0
  have s1_e0 : e0 1 = .agg (ints .u8 a1).toArray := congrFun qe0 1
  clear qe0
  unfold field_Sub.f at h
  refine wseq rfl ?_
  refine wregion (.ef 0 (.ef 1 (.ef 2 (.done)))) [] rfl (by kernel_rfl) (by kernel_rfl) ?_
  refine k_box (v := .agg (ints .u8 a0).toArray) (ints .u8 a0) rfl s0_e0 rfl hp ?_
  intro g1 w hbg1 hp
  refine k_box (v := .agg (ints .u8 a1).toArray) (ints .u8 a1) rfl s1_e0 rfl hp ?_
  intro g2 w hbg2 hp
  refine k_alloc (ints .u8 (List.replicate 32 (0 : Int))) rfl (by kernel_rfl) hp ?_
  intro g3 w hbg3 hp
  refine k_end ?_; intro e115 qe115
  have s2_e115 : e115 2 = .pointer (some ⟨g1, 0, none⟩) := congrFun qe115 2
  have s3_e115 : e115 3 = .pointer (some ⟨g2, 0, none⟩) := congrFun qe115 3
  have s4_e115 : e115 4 = .pointer (some ⟨g3, 0, none⟩) := congrFun qe115 4
  clear qe115
  refine wseq rfl ?_
  refine wregion_m (.tk 0 (.tk 2 (.ef 1 (.ef 3 (.ef 4 (.ef 5 (.ef 6 (.done)))))))) [6] [(0, 0, 0), (1, 127, 127), (0, 0, 0), (6, 127, 127), (10, 127, 127), (16, 127, 127), (63, 127, 127)] rfl (by kernel_rfl) (by kernel_rfl) (Nat.le_of_ble_eq_true (by kernel_rfl)) (by kernel_rfl) (by kernel_rfl) ?_
  have hp := hp.drew
  refine k_loadA (n := 32) (xs := ints .u8 a0) 0 rfl (by kernel_rfl) (by kernel_rfl) s2_e115 (hp.get (j := 0) rfl) rfl rfl ((ints_length _ _).trans la0) (fun m v hm => by rw [Nat.zero_add]; exact hm) ?_
  refine k_loadA (n := 32) (xs := ints .u8 a1) 0 rfl (by kernel_rfl) (by kernel_rfl) s3_e115 (hp.get (j := 1) rfl) rfl rfl ((ints_length _ _).trans la1) (fun m v hm => by rw [Nat.zero_add]; exact hm) ?_
  obtain ⟨r4, qr4, h⟩ := bd_e h
  refine k_call [.agg (ints .u8 a0).toArray] rfl (by kernel_rfl) (args1 rfl) (field_Of_ok k a0 la0 _ (hp.toR (fun _ h => by cases h)) qr4) ?_
  rintro _ w' ⟨_, rfl, rfl, lr40, hpc⟩
  refine ⟨_, rfl, .inr (.of_below hpc.chg.to_below), ?_⟩; have hp := hp.below hpc.chg.to_below; clear hpc
  obtain ⟨r5, qr5, h⟩ := bd_e h
  refine k_call [.agg (ints .u8 a1).toArray] rfl (by kernel_rfl) (args1 rfl) (field_Of_ok k a1 la1 _ (hp.toR (fun _ h => by cases h)) qr5) ?_
  rintro _ w' ⟨_, rfl, rfl, lr50, hpc⟩
  refine ⟨_, rfl, .inr (.of_below hpc.chg.to_below), ?_⟩; have hp := hp.below hpc.chg.to_below; clear hpc
  obtain ⟨r6, qr6, h⟩ := bd_e h
  refine k_call [.agg (ints .u64 r4).toArray, .agg (ints .u64 r5).toArray] rfl (by kernel_rfl) (args2 rfl rfl) (field_Element_Minus_ok r4 r5 lr40 lr50 _ (hp.toR (fun _ h => by cases h)) qr6) ?_
  rintro _ w' ⟨_, rfl, rfl, lr60, hpc⟩
  refine ⟨_, rfl, .inr (.of_below hpc.chg.to_below), ?_⟩; have hp := hp.below hpc.chg.to_below; clear hpc
  obtain ⟨r7, qr7, h⟩ := bd_e h
  refine k_call [.agg (ints .u64 r6).toArray] rfl (by kernel_rfl) (args1 rfl) (field_Element_Bytes_ok k r6 lr60 _ (hp.toR (fun _ h => by cases h)) qr7) ?_
  rintro _ w' ⟨_, rfl, rfl, lr70, hpc⟩
  refine ⟨_, rfl, .inr (.of_below hpc.chg.to_below), ?_⟩; have hp := hp.below hpc.chg.to_below; clear hpc
  refine k_storeA (v := .agg (ints .u8 r7).toArray) 2 0 (r := ⟨g3, 0, ints .u8 (List.replicate 32 (0 : Int))⟩) (ints .u8 r7) (ints .u8 r7) rfl (n := 32) (by kernel_rfl) s4_e115 rfl rfl ((ints_length _ _).trans lr70) (ints_one _ _) hp rfl rfl rfl (Nat.le_of_eq ((Nat.zero_add _).trans ((ints_length _ _).trans List.length_replicate).symm)) (setMany_all _ _ (((ints_length _ _).trans lr70).trans ((ints_length _ _).trans List.length_replicate).symm)) (by decide) ?_; intro w hp
  refine k_end ?_; intro e116 qe116
  have s4_e116 : e116 4 = .pointer (some ⟨g3, 0, none⟩) := (congrFun qe116 4).trans s4_e115
  clear qe116
  refine wret rfl ?_
  have hr : r = r7 := (Option.some.inj h).symm
  show RetP _ _ _ _ _
  rw [hr]
  exact ret_i [.agg (ints .u8 r7).toArray] (res_cell s4_e116 (loadVar_agg (by kernel_rfl) (by kernel_rfl) ((ints_length _ _).trans lr70) (hp.get (j := 2) rfl) rfl rfl rfl) res_nil) ⟨rfl, lr70, hp.none⟩
/-! 3 postilion/postilionlaw04.FieldRing -/
theorem postilionlaw04_FieldRing.p1_ok {w0 : World} {Ws : List Wr} {Q : Exit → Env → World → Prop} (k : Nat) (g1 g2 g3 : Nat) (a0 : List Int) (a1 : List Int) (a2 : List Int) (l_a0 : a0.length = 32) (l_a1 : a1.length = 32) (l_a2 : a2.length = 32) {r : Bool} (hQ0 : ∀ (e' : Env) (w' : World) (z0 : Bool), e' 3 = .pointer (some ⟨g1, 0, none⟩) → e' 4 = .pointer (some ⟨g2, 0, none⟩) → e' 5 = .pointer (some ⟨g3, 0, none⟩) → e' 35 = .bool z0 → Hp w0 Ws w' [⟨g1, 0, ints .u8 a0⟩, ⟨g2, 0, ints .u8 a1⟩, ⟨g3, 0, ints .u8 a2⟩] [] → r = (z0) → Q .normal e' w') (e : Env) (w : World) (s3_e : e 3 = .pointer (some ⟨g1, 0, none⟩)) (s4_e : e 4 = .pointer (some ⟨g2, 0, none⟩)) (s5_e : e 5 = .pointer (some ⟨g3, 0, none⟩)) (hp : Hp w0 Ws w [⟨g1, 0, ints .u8 a0⟩, ⟨g2, 0, ints .u8 a1⟩, ⟨g3, 0, ints .u8 a2⟩] []) (h : postilionlaw04_FieldRing.p1 k a0 a1 = some r) : Wp Try.prog Try.f3.ntmps (at_ (fbody Try.f3) [1, 1, 0, 0]) Q e w := by
  unfold postilionlaw04_FieldRing.p1 at h
  refine wregion_m (.tk 0 (.tk 1 (.tk 3 (.tk 4 (.ef 2 (.ef 5 (.tp 6 (.tp 7 (.tk 8 (.tk 9 (.tk 11 (.tk 12 (.ef 10 (.ef 13 (.tp 14 (.tp 15 (.tp 16 (.tk 17 (.tk 18 (.tk 20 (.tk 22 (.tp 23 (.ef 19 (.ef 21 (.ef 24 (.tp 25 (.tp 26 (.done)))))))))))))))))))))))))))) [] [(0, 0, 0), (0, 0, 0), (3, 134217727, 134217727), (0, 0, 0), (0, 0, 0), (28, 134217727, 134217727), (36, 36, 134217727), (96, 64, 134217727), (128, 128, 0), (128, 128, 0), (896, 134217727, 134217727), (128, 128, 0), (128, 128, 0), (7296, 134217727, 134217727), (9344, 9344, 134217727), (16512, 16512, 134217727), (40960, 32768, 134217727), (65536, 65536, 0), (65536, 65536, 0), (458752, 134217727, 134217727), (65536, 65536, 0), (1638400, 134217727, 134217727), (65536, 65536, 0), (65536, 65536, 134217727), (14745600, 134217727, 134217727), (18939904, 18939904, 134217727), (33619968, 33619968, 134217727)] rfl (by kernel_rfl) (by kernel_rfl) (Nat.le_of_ble_eq_true (by kernel_rfl)) (by kernel_rfl) (by kernel_rfl) ?_
  have hp := hp.drew
  refine k_loadA (n := 32) (xs := ints .u8 a0) 0 rfl (by kernel_rfl) (by kernel_rfl) s3_e (hp.get (j := 0) rfl) rfl rfl ((ints_length _ _).trans l_a0) (fun m v hm => by rw [Nat.zero_add]; exact hm) ?_
  refine k_loadA (n := 32) (xs := ints .u8 a1) 0 rfl (by kernel_rfl) (by kernel_rfl) s4_e (hp.get (j := 1) rfl) rfl rfl ((ints_length _ _).trans l_a1) (fun m v hm => by rw [Nat.zero_add]; exact hm) ?_
  refine k_loadA (n := 32) (xs := ints .u8 a1) 0 rfl (by kernel_rfl) (by kernel_rfl) s4_e (hp.get (j := 1) rfl) rfl rfl ((ints_length _ _).trans l_a1) (fun m v hm => by rw [Nat.zero_add]; exact hm) ?_
  refine k_loadA (n := 32) (xs := ints .u8 a0) 0 rfl (by kernel_rfl) (by kernel_rfl) s3_e (hp.get (j := 0) rfl) rfl rfl ((ints_length _ _).trans l_a0) (fun m v hm => by rw [Nat.zero_add]; exact hm) ?_
  obtain ⟨r5, qr5, h⟩ := bd_e h
  refine k_call [.agg (ints .u8 a0).toArray, .agg (ints .u8 a1).toArray] rfl (by kernel_rfl) (args2 rfl rfl) (field_Add_ok k a0 a1 l_a0 l_a1 _ (hp.toR (fun _ h => by cases h)) qr5) ?_
  rintro _ w' ⟨_, rfl, rfl, lr50, hpc⟩
  refine ⟨_, rfl, .inr (.of_below hpc.chg.to_below), ?_⟩; have hp := hp.below hpc.chg.to_below; clear hpc
  obtain ⟨r6, qr6, h⟩ := bd_e h
  refine k_call [.agg (ints .u8 a1).toArray, .agg (ints .u8 a0).toArray] rfl (by kernel_rfl) (args2 rfl rfl) (field_Add_ok k a1 a0 l_a1 l_a0 _ (hp.toR (fun _ h => by cases h)) qr6) ?_
  rintro _ w' ⟨_, rfl, rfl, lr60, hpc⟩
  refine ⟨_, rfl, .inr (.of_below hpc.chg.to_below), ?_⟩; have hp := hp.below hpc.chg.to_below; clear hpc
  refine k_neI (k := .u8) (l := r5) (l' := r6) rfl Try.underlying22 Try.underlying5 (by kernel_rfl) (by kernel_rfl) rfl rfl lr50 lr60 ?_
  rcases Bool.eq_false_or_eq_true (!(r5 == r6)) with hb | hb
  · replace h := br_t hb h
    refine k_move (v := .bool true) rfl (Eq.trans (b := .bool (!(r5 == r6))) rfl (congrArg Value.bool hb)) ?_
    refine k_skip_tk rfl ?_
    refine k_skip_tk rfl ?_
    refine k_skip_tk rfl ?_
    refine k_skip_tk rfl ?_
    refine k_skip_ef rfl ?_
    refine k_skip_ef rfl ?_
    refine k_skip rfl ?_
    refine k_pick (b := true) (v := .bool true) rfl rfl rfl rfl rfl ?_
    refine k_move (v := .bool true) rfl rfl ?_
    refine k_skip_tk rfl ?_
    refine k_skip_tk rfl ?_
    refine k_skip_tk rfl ?_
    refine k_skip_tk rfl ?_
    refine k_skip rfl ?_
    refine k_skip_ef rfl ?_
    refine k_skip_ef rfl ?_
    refine k_skip_ef rfl ?_
    refine k_skip rfl ?_
    refine k_pick (b := true) (v := .bool true) rfl rfl rfl rfl rfl ?_
    refine k_end ?_; intro e120 qe120
    have s3_e120 : e120 3 = .pointer (some ⟨g1, 0, none⟩) := (congrFun qe120 3).trans s3_e
    have s4_e120 : e120 4 = .pointer (some ⟨g2, 0, none⟩) := (congrFun qe120 4).trans s4_e
    have s5_e120 : e120 5 = .pointer (some ⟨g3, 0, none⟩) := (congrFun qe120 5).trans s5_e
    have s35_e120 : e120 35 = .bool true := congrFun qe120 35
    clear qe120
    exact hQ0 _ _ true  s3_e120 s4_e120 s5_e120 s35_e120 (hp.drop (L' := [⟨g1, 0, ints .u8 a0⟩, ⟨g2, 0, ints .u8 a1⟩, ⟨g3, 0, ints .u8 a2⟩]) (List.Sublist.refl _)) (Option.some.inj h).symm
  · replace h := br_f hb h
    refine k_move (v := .bool false) rfl (Eq.trans (b := .bool (!(r5 == r6))) rfl (congrArg Value.bool hb)) ?_
    refine k_loadA (n := 32) (xs := ints .u8 a0) 0 rfl (by kernel_rfl) (by kernel_rfl) s3_e (hp.get (j := 0) rfl) rfl rfl ((ints_length _ _).trans l_a0) (fun m v hm => by rw [Nat.zero_add]; exact hm) ?_
    refine k_loadA (n := 32) (xs := ints .u8 a1) 0 rfl (by kernel_rfl) (by kernel_rfl) s4_e (hp.get (j := 1) rfl) rfl rfl ((ints_length _ _).trans l_a1) (fun m v hm => by rw [Nat.zero_add]; exact hm) ?_
    refine k_loadA (n := 32) (xs := ints .u8 a1) 0 rfl (by kernel_rfl) (by kernel_rfl) s4_e (hp.get (j := 1) rfl) rfl rfl ((ints_length _ _).trans l_a1) (fun m v hm => by rw [Nat.zero_add]; exact hm) ?_
    refine k_loadA (n := 32) (xs := ints .u8 a0) 0 rfl (by kernel_rfl) (by kernel_rfl) s3_e (hp.get (j := 0) rfl) rfl rfl ((ints_length _ _).trans l_a0) (fun m v hm => by rw [Nat.zero_add]; exact hm) ?_
    obtain ⟨r7, qr7, h⟩ := bd_e h
    refine k_call [.agg (ints .u8 a0).toArray, .agg (ints .u8 a1).toArray] rfl (by kernel_rfl) (args2 rfl rfl) (field_Mul_ok k a0 a1 l_a0 l_a1 _ (hp.toR (fun _ h => by cases h)) qr7) ?_
    rintro _ w' ⟨_, rfl, rfl, lr70, hpc⟩
    refine ⟨_, rfl, .inr (.of_below hpc.chg.to_below), ?_⟩; have hp := hp.below hpc.chg.to_below; clear hpc
    obtain ⟨r8, qr8, h⟩ := bd_e h
    refine k_call [.agg (ints .u8 a1).toArray, .agg (ints .u8 a0).toArray] rfl (by kernel_rfl) (args2 rfl rfl) (field_Mul_ok k a1 a0 l_a1 l_a0 _ (hp.toR (fun _ h => by cases h)) qr8) ?_
    rintro _ w' ⟨_, rfl, rfl, lr80, hpc⟩
    refine ⟨_, rfl, .inr (.of_below hpc.chg.to_below), ?_⟩; have hp := hp.below hpc.chg.to_below; clear hpc
    refine k_neI (k := .u8) (l := r7) (l' := r8) rfl Try.underlying22 Try.underlying5 (by kernel_rfl) (by kernel_rfl) rfl rfl lr70 lr80 ?_
    refine k_pick (b := false) (v := .bool (!(r7 == r8))) rfl rfl rfl rfl rfl ?_
    rcases Bool.eq_false_or_eq_true (!(r7 == r8)) with hb | hb
    · replace h := br_t hb h
      refine k_move (v := .bool true) rfl (Eq.trans (b := .bool (!(r7 == r8))) rfl (congrArg Value.bool hb)) ?_
      refine k_skip_tk rfl ?_
      refine k_skip_tk rfl ?_
      refine k_skip_tk rfl ?_
      refine k_skip_tk rfl ?_
      refine k_skip rfl ?_
      refine k_skip_ef rfl ?_
      refine k_skip_ef rfl ?_
      refine k_skip_ef rfl ?_
      refine k_skip rfl ?_
      refine k_pick (b := true) (v := .bool true) rfl rfl rfl rfl rfl ?_
      refine k_end ?_; intro e121 qe121
      have s3_e121 : e121 3 = .pointer (some ⟨g1, 0, none⟩) := (congrFun qe121 3).trans s3_e
      have s4_e121 : e121 4 = .pointer (some ⟨g2, 0, none⟩) := (congrFun qe121 4).trans s4_e
      have s5_e121 : e121 5 = .pointer (some ⟨g3, 0, none⟩) := (congrFun qe121 5).trans s5_e
      have s35_e121 : e121 35 = .bool true := congrFun qe121 35
      clear qe121
      exact hQ0 _ _ true  s3_e121 s4_e121 s5_e121 s35_e121 (hp.drop (L' := [⟨g1, 0, ints .u8 a0⟩, ⟨g2, 0, ints .u8 a1⟩, ⟨g3, 0, ints .u8 a2⟩]) (List.Sublist.refl _)) (Option.some.inj h).symm
    · replace h := br_f hb h
      refine k_move (v := .bool false) rfl (Eq.trans (b := .bool (!(r7 == r8))) rfl (congrArg Value.bool hb)) ?_
      refine k_loadA (n := 32) (xs := ints .u8 a0) 0 rfl (by kernel_rfl) (by kernel_rfl) s3_e (hp.get (j := 0) rfl) rfl rfl ((ints_length _ _).trans l_a0) (fun m v hm => by rw [Nat.zero_add]; exact hm) ?_
      refine k_loadA (n := 32) (xs := ints .u8 a1) 0 rfl (by kernel_rfl) (by kernel_rfl) s4_e (hp.get (j := 1) rfl) rfl rfl ((ints_length _ _).trans l_a1) (fun m v hm => by rw [Nat.zero_add]; exact hm) ?_
      refine k_loadA (n := 32) (xs := ints .u8 a1) 0 rfl (by kernel_rfl) (by kernel_rfl) s4_e (hp.get (j := 1) rfl) rfl rfl ((ints_length _ _).trans l_a1) (fun m v hm => by rw [Nat.zero_add]; exact hm) ?_
      refine k_loadA (n := 32) (xs := ints .u8 a0) 0 rfl (by kernel_rfl) (by kernel_rfl) s3_e (hp.get (j := 0) rfl) rfl rfl ((ints_length _ _).trans l_a0) (fun m v hm => by rw [Nat.zero_add]; exact hm) ?_
      refine k_build (v := .agg (ints .u8 (List.replicate 32 (0 : Int))).toArray) rfl (fun _ => by kernel_rfl) ?_
      obtain ⟨r9, qr9, h⟩ := bd_e h
      refine k_call [.agg (ints .u8 a0).toArray, .agg (ints .u8 a1).toArray] rfl (by kernel_rfl) (args2 rfl rfl) (field_Add_ok k a0 a1 l_a0 l_a1 _ (hp.toR (fun _ h => by cases h)) qr9) ?_
      rintro _ w' ⟨_, rfl, rfl, lr90, hpc⟩
      refine ⟨_, rfl, .inr (.of_below hpc.chg.to_below), ?_⟩; have hp := hp.below hpc.chg.to_below; clear hpc
      obtain ⟨r10, qr10, h⟩ := bd_e h
      refine k_call [.agg (ints .u8 r9).toArray, .agg (ints .u8 a1).toArray] rfl (by kernel_rfl) (args2 rfl rfl) (field_Sub_ok k r9 a1 lr90 l_a1 _ (hp.toR (fun _ h => by cases h)) qr10) ?_
      rintro _ w' ⟨_, rfl, rfl, lr100, hpc⟩
      refine ⟨_, rfl, .inr (.of_below hpc.chg.to_below), ?_⟩; have hp := hp.below hpc.chg.to_below; clear hpc
      obtain ⟨r11, qr11, h⟩ := bd_e h
      refine k_call [.agg (ints .u8 a0).toArray, .agg (ints .u8 (List.replicate 32 (0 : Int))).toArray] rfl (by kernel_rfl) (args2 rfl rfl) (field_Add_ok k a0 (List.replicate 32 (0 : Int)) l_a0 List.length_replicate _ (hp.toR (fun _ h => by cases h)) qr11) ?_
      rintro _ w' ⟨_, rfl, rfl, lr110, hpc⟩
      refine ⟨_, rfl, .inr (.of_below hpc.chg.to_below), ?_⟩; have hp := hp.below hpc.chg.to_below; clear hpc
      refine k_neI (k := .u8) (l := r10) (l' := r11) rfl Try.underlying22 Try.underlying5 (by kernel_rfl) (by kernel_rfl) rfl rfl lr100 lr110 ?_
      refine k_pick (b := false) (v := .bool (!(r10 == r11))) rfl rfl rfl rfl rfl ?_
      refine k_end ?_; intro e122 qe122
      have s3_e122 : e122 3 = .pointer (some ⟨g1, 0, none⟩) := (congrFun qe122 3).trans s3_e
      have s4_e122 : e122 4 = .pointer (some ⟨g2, 0, none⟩) := (congrFun qe122 4).trans s4_e
      have s5_e122 : e122 5 = .pointer (some ⟨g3, 0, none⟩) := (congrFun qe122 5).trans s5_e
      have s35_e122 : e122 35 = .bool (!(r10 == r11)) := congrFun qe122 35
      clear qe122
      exact hQ0 _ _ (!(r10 == r11))  s3_e122 s4_e122 s5_e122 s35_e122 (hp.drop (L' := [⟨g1, 0, ints .u8 a0⟩, ⟨g2, 0, ints .u8 a1⟩, ⟨g3, 0, ints .u8 a2⟩]) (List.Sublist.refl _)) (Option.some.inj h).symm
theorem postilionlaw04_FieldRing.p2_ok {w0 : World} {Ws : List Wr} {Q : Exit → Env → World → Prop} (k : Nat) (g1 g2 g3 : Nat) (a0 : List Int) (a1 : List Int) (a2 : List Int) (l_a0 : a0.length = 32) (l_a1 : a1.length = 32) (l_a2 : a2.length = 32) {r : Bool} (hQ0 : ∀ (e' : Env) (w' : World) (z0 : Bool), e' 6 = .bool z0 → Hp w0 Ws w' [⟨g1, 0, ints .u8 a0⟩, ⟨g2, 0, ints .u8 a1⟩, ⟨g3, 0, ints .u8 a2⟩] [] → r = (z0) → Q .normal e' w') (e : Env) (w : World) (s3_e : e 3 = .pointer (some ⟨g1, 0, none⟩)) (s4_e : e 4 = .pointer (some ⟨g2, 0, none⟩)) (s5_e : e 5 = .pointer (some ⟨g3, 0, none⟩)) (hp : Hp w0 Ws w [⟨g1, 0, ints .u8 a0⟩, ⟨g2, 0, ints .u8 a1⟩, ⟨g3, 0, ints .u8 a2⟩] []) (h : postilionlaw04_FieldRing.p2 k a0 a1 a2 = some r) : Wp Try.prog Try.f3.ntmps (at_ (fbody Try.f3) [1, 1, 1, 0]) Q e w := by
  unfold postilionlaw04_FieldRing.p2 at h
  refine wregion_m (.tk 0 (.tk 1 (.tk 2 (.tk 5 (.tk 6 (.tk 8 (.tk 9 (.ef 3 (.ef 4 (.ef 7 (.ef 10 (.ef 11 (.tp 12 (.tp 13 (.tk 14 (.tk 15 (.tk 17 (.tk 19 (.tk 20 (.tk 21 (.ef 16 (.ef 18 (.ef 22 (.ef 23 (.tp 24 (.tp 25 (.tp 26 (.tk 27 (.tp 28 (.tk 30 (.tp 31 (.ef 29 (.ef 32 (.tp 33 (.tp 34 (.tp 35 (.done))))))))))))))))))))))))))))))))))))) [] [(0, 0, 0), (0, 0, 0), (0, 0, 0), (6, 68719476735, 68719476735), (9, 68719476735, 68719476735), (0, 0, 0), (0, 0, 0), (112, 68719476735, 68719476735), (0, 0, 0), (0, 0, 0), (896, 68719476735, 68719476735), (1152, 68719476735, 68719476735), (2064, 2064, 68719476735), (6144, 4096, 68719476735), (8192, 8192, 0), (8192, 8192, 0), (57344, 68719476735, 68719476735), (8192, 8192, 0), (204800, 68719476735, 68719476735), (8192, 8192, 0), (8192, 8192, 0), (8192, 8192, 0), (3416064, 68719476735, 68719476735), (4726784, 68719476735, 68719476735), (8658944, 8658944, 68719476735), (16785408, 16785408, 68719476735), (41943040, 33554432, 68719476735), (67108864, 67108864, 0), (67108864, 67108864, 68719476735), (469762048, 68719476735, 68719476735), (67108864, 67108864, 0), (67108864, 67108864, 68719476735), (3825205248, 68719476735, 68719476735), (4898947072, 4898947072, 68719476735), (8657043456, 8657043456, 68719476735), (34359738367, 17179869184, 68719476735)] rfl (by kernel_rfl) (by kernel_rfl) (Nat.le_of_ble_eq_true (by kernel_rfl)) (by kernel_rfl) (by kernel_rfl) ?_
  have hp := hp.drew
  refine k_loadA (n := 32) (xs := ints .u8 a0) 0 rfl (by kernel_rfl) (by kernel_rfl) s3_e (hp.get (j := 0) rfl) rfl rfl ((ints_length _ _).trans l_a0) (fun m v hm => by rw [Nat.zero_add]; exact hm) ?_
  refine k_loadA (n := 32) (xs := ints .u8 a1) 0 rfl (by kernel_rfl) (by kernel_rfl) s4_e (hp.get (j := 1) rfl) rfl rfl ((ints_length _ _).trans l_a1) (fun m v hm => by rw [Nat.zero_add]; exact hm) ?_
  refine k_loadA (n := 32) (xs := ints .u8 a2) 0 rfl (by kernel_rfl) (by kernel_rfl) s5_e (hp.get (j := 2) rfl) rfl rfl ((ints_length _ _).trans l_a2) (fun m v hm => by rw [Nat.zero_add]; exact hm) ?_
  refine k_loadA (n := 32) (xs := ints .u8 a0) 0 rfl (by kernel_rfl) (by kernel_rfl) s3_e (hp.get (j := 0) rfl) rfl rfl ((ints_length _ _).trans l_a0) (fun m v hm => by rw [Nat.zero_add]; exact hm) ?_
  refine k_loadA (n := 32) (xs := ints .u8 a1) 0 rfl (by kernel_rfl) (by kernel_rfl) s4_e (hp.get (j := 1) rfl) rfl rfl ((ints_length _ _).trans l_a1) (fun m v hm => by rw [Nat.zero_add]; exact hm) ?_
  refine k_loadA (n := 32) (xs := ints .u8 a0) 0 rfl (by kernel_rfl) (by kernel_rfl) s3_e (hp.get (j := 0) rfl) rfl rfl ((ints_length _ _).trans l_a0) (fun m v hm => by rw [Nat.zero_add]; exact hm) ?_
  refine k_loadA (n := 32) (xs := ints .u8 a2) 0 rfl (by kernel_rfl) (by kernel_rfl) s5_e (hp.get (j := 2) rfl) rfl rfl ((ints_length _ _).trans l_a2) (fun m v hm => by rw [Nat.zero_add]; exact hm) ?_
  obtain ⟨r14, qr14, h⟩ := bd_e h
  refine k_call [.agg (ints .u8 a1).toArray, .agg (ints .u8 a2).toArray] rfl (by kernel_rfl) (args2 rfl rfl) (field_Add_ok k a1 a2 l_a1 l_a2 _ (hp.toR (fun _ h => by cases h)) qr14) ?_
  rintro _ w' ⟨_, rfl, rfl, lr140, hpc⟩
  refine ⟨_, rfl, .inr (.of_below hpc.chg.to_below), ?_⟩; have hp := hp.below hpc.chg.to_below; clear hpc
  obtain ⟨r15, qr15, h⟩ := bd_e h
  refine k_call [.agg (ints .u8 a0).toArray, .agg (ints .u8 r14).toArray] rfl (by kernel_rfl) (args2 rfl rfl) (field_Mul_ok k a0 r14 l_a0 lr140 _ (hp.toR (fun _ h => by cases h)) qr15) ?_
  rintro _ w' ⟨_, rfl, rfl, lr150, hpc⟩
  refine ⟨_, rfl, .inr (.of_below hpc.chg.to_below), ?_⟩; have hp := hp.below hpc.chg.to_below; clear hpc
  obtain ⟨r16, qr16, h⟩ := bd_e h
  refine k_call [.agg (ints .u8 a0).toArray, .agg (ints .u8 a1).toArray] rfl (by kernel_rfl) (args2 rfl rfl) (field_Mul_ok k a0 a1 l_a0 l_a1 _ (hp.toR (fun _ h => by cases h)) qr16) ?_
  rintro _ w' ⟨_, rfl, rfl, lr160, hpc⟩
  refine ⟨_, rfl, .inr (.of_below hpc.chg.to_below), ?_⟩; have hp := hp.below hpc.chg.to_below; clear hpc
  obtain ⟨r17, qr17, h⟩ := bd_e h
  refine k_call [.agg (ints .u8 a0).toArray, .agg (ints .u8 a2).toArray] rfl (by kernel_rfl) (args2 rfl rfl) (field_Mul_ok k a0 a2 l_a0 l_a2 _ (hp.toR (fun _ h => by cases h)) qr17) ?_
  rintro _ w' ⟨_, rfl, rfl, lr170, hpc⟩
  refine ⟨_, rfl, .inr (.of_below hpc.chg.to_below), ?_⟩; have hp := hp.below hpc.chg.to_below; clear hpc
  obtain ⟨r18, qr18, h⟩ := bd_e h
  refine k_call [.agg (ints .u8 r16).toArray, .agg (ints .u8 r17).toArray] rfl (by kernel_rfl) (args2 rfl rfl) (field_Add_ok k r16 r17 lr160 lr170 _ (hp.toR (fun _ h => by cases h)) qr18) ?_
  rintro _ w' ⟨_, rfl, rfl, lr180, hpc⟩
  refine ⟨_, rfl, .inr (.of_below hpc.chg.to_below), ?_⟩; have hp := hp.below hpc.chg.to_below; clear hpc
  refine k_eqI (k := .u8) (l := r15) (l' := r18) rfl Try.underlying22 Try.underlying5 (by kernel_rfl) (by kernel_rfl) rfl rfl lr150 lr180 ?_
  rcases Bool.eq_false_or_eq_true (r15 == r18) with hb | hb
  · replace h := br_t hb h
    refine k_move (v := .bool true) rfl (Eq.trans (b := .bool (r15 == r18)) rfl (congrArg Value.bool hb)) ?_
    refine k_loadA (n := 32) (xs := ints .u8 a0) 0 rfl (by kernel_rfl) (by kernel_rfl) s3_e (hp.get (j := 0) rfl) rfl rfl ((ints_length _ _).trans l_a0) (fun m v hm => by rw [Nat.zero_add]; exact hm) ?_
    refine k_loadA (n := 32) (xs := ints .u8 a1) 0 rfl (by kernel_rfl) (by kernel_rfl) s4_e (hp.get (j := 1) rfl) rfl rfl ((ints_length _ _).trans l_a1) (fun m v hm => by rw [Nat.zero_add]; exact hm) ?_
    refine k_loadA (n := 32) (xs := ints .u8 a2) 0 rfl (by kernel_rfl) (by kernel_rfl) s5_e (hp.get (j := 2) rfl) rfl rfl ((ints_length _ _).trans l_a2) (fun m v hm => by rw [Nat.zero_add]; exact hm) ?_
    refine k_loadA (n := 32) (xs := ints .u8 a0) 0 rfl (by kernel_rfl) (by kernel_rfl) s3_e (hp.get (j := 0) rfl) rfl rfl ((ints_length _ _).trans l_a0) (fun m v hm => by rw [Nat.zero_add]; exact hm) ?_
    refine k_loadA (n := 32) (xs := ints .u8 a1) 0 rfl (by kernel_rfl) (by kernel_rfl) s4_e (hp.get (j := 1) rfl) rfl rfl ((ints_length _ _).trans l_a1) (fun m v hm => by rw [Nat.zero_add]; exact hm) ?_
    refine k_loadA (n := 32) (xs := ints .u8 a2) 0 rfl (by kernel_rfl) (by kernel_rfl) s5_e (hp.get (j := 2) rfl) rfl rfl ((ints_length _ _).trans l_a2) (fun m v hm => by rw [Nat.zero_add]; exact hm) ?_
    obtain ⟨r19, qr19, h⟩ := bd_e h
    refine k_call [.agg (ints .u8 a0).toArray, .agg (ints .u8 a1).toArray] rfl (by kernel_rfl) (args2 rfl rfl) (field_Mul_ok k a0 a1 l_a0 l_a1 _ (hp.toR (fun _ h => by cases h)) qr19) ?_
    rintro _ w' ⟨_, rfl, rfl, lr190, hpc⟩
    refine ⟨_, rfl, .inr (.of_below hpc.chg.to_below), ?_⟩; have hp := hp.below hpc.chg.to_below; clear hpc
    obtain ⟨r20, qr20, h⟩ := bd_e h
    refine k_call [.agg (ints .u8 r19).toArray, .agg (ints .u8 a2).toArray] rfl (by kernel_rfl) (args2 rfl rfl) (field_Mul_ok k r19 a2 lr190 l_a2 _ (hp.toR (fun _ h => by cases h)) qr20) ?_
    rintro _ w' ⟨_, rfl, rfl, lr200, hpc⟩
    refine ⟨_, rfl, .inr (.of_below hpc.chg.to_below), ?_⟩; have hp := hp.below hpc.chg.to_below; clear hpc
    obtain ⟨r21, qr21, h⟩ := bd_e h
    refine k_call [.agg (ints .u8 a1).toArray, .agg (ints .u8 a2).toArray] rfl (by kernel_rfl) (args2 rfl rfl) (field_Mul_ok k a1 a2 l_a1 l_a2 _ (hp.toR (fun _ h => by cases h)) qr21) ?_
    rintro _ w' ⟨_, rfl, rfl, lr210, hpc⟩
    refine ⟨_, rfl, .inr (.of_below hpc.chg.to_below), ?_⟩; have hp := hp.below hpc.chg.to_below; clear hpc
    obtain ⟨r22, qr22, h⟩ := bd_e h
    refine k_call [.agg (ints .u8 a0).toArray, .agg (ints .u8 r21).toArray] rfl (by kernel_rfl) (args2 rfl rfl) (field_Mul_ok k a0 r21 l_a0 lr210 _ (hp.toR (fun _ h => by cases h)) qr22) ?_
    rintro _ w' ⟨_, rfl, rfl, lr220, hpc⟩
    refine ⟨_, rfl, .inr (.of_below hpc.chg.to_below), ?_⟩; have hp := hp.below hpc.chg.to_below; clear hpc
    refine k_eqI (k := .u8) (l := r20) (l' := r22) rfl Try.underlying22 Try.underlying5 (by kernel_rfl) (by kernel_rfl) rfl rfl lr200 lr220 ?_
    refine k_pick (b := true) (v := .bool (r20 == r22)) rfl rfl rfl rfl rfl ?_
    rcases Bool.eq_false_or_eq_true (r20 == r22) with hb | hb
    · replace h := br_t hb h
      refine k_move (v := .bool true) rfl (Eq.trans (b := .bool (r20 == r22)) rfl (congrArg Value.bool hb)) ?_
      refine k_loadA (n := 32) (xs := ints .u8 a0) 0 rfl (by kernel_rfl) (by kernel_rfl) s3_e (hp.get (j := 0) rfl) rfl rfl ((ints_length _ _).trans l_a0) (fun m v hm => by rw [Nat.zero_add]; exact hm) ?_
      refine k_build (v := .agg (ints .u8 ((List.replicate 32 (0 : Int)).set 0 1)).toArray) rfl (fun _ => by kernel_rfl) ?_
      refine k_loadA (n := 32) (xs := ints .u8 a0) 0 rfl (by kernel_rfl) (by kernel_rfl) s3_e (hp.get (j := 0) rfl) rfl rfl ((ints_length _ _).trans l_a0) (fun m v hm => by rw [Nat.zero_add]; exact hm) ?_
      refine k_build (v := .agg (ints .u8 (List.replicate 32 (0 : Int))).toArray) rfl (fun _ => by kernel_rfl) ?_
      obtain ⟨r23, qr23, h⟩ := bd_e h
      refine k_call [.agg (ints .u8 a0).toArray, .agg (ints .u8 ((List.replicate 32 (0 : Int)).set 0 1)).toArray] rfl (by kernel_rfl) (args2 rfl rfl) (field_Mul_ok k a0 ((List.replicate 32 (0 : Int)).set 0 1) l_a0 (List.length_set.trans List.length_replicate) _ (hp.toR (fun _ h => by cases h)) qr23) ?_
      rintro _ w' ⟨_, rfl, rfl, lr230, hpc⟩
      refine ⟨_, rfl, .inr (.of_below hpc.chg.to_below), ?_⟩; have hp := hp.below hpc.chg.to_below; clear hpc
      obtain ⟨r24, qr24, h⟩ := bd_e h
      refine k_call [.agg (ints .u8 a0).toArray, .agg (ints .u8 (List.replicate 32 (0 : Int))).toArray] rfl (by kernel_rfl) (args2 rfl rfl) (field_Add_ok k a0 (List.replicate 32 (0 : Int)) l_a0 List.length_replicate _ (hp.toR (fun _ h => by cases h)) qr24) ?_
      rintro _ w' ⟨_, rfl, rfl, lr240, hpc⟩
      refine ⟨_, rfl, .inr (.of_below hpc.chg.to_below), ?_⟩; have hp := hp.below hpc.chg.to_below; clear hpc
      refine k_eqI (k := .u8) (l := r23) (l' := r24) rfl Try.underlying22 Try.underlying5 (by kernel_rfl) (by kernel_rfl) rfl rfl lr230 lr240 ?_
      refine k_pick (b := true) (v := .bool (r23 == r24)) rfl rfl rfl rfl rfl ?_
      refine k_assign (v := .bool (r23 == r24)) rfl rfl ?_
      refine k_end ?_; intro e125 qe125
      have s6_e125 : e125 6 = .bool (r23 == r24) := congrFun qe125 6
      clear qe125
      exact hQ0 _ _ (r23 == r24)  s6_e125 (hp.drop (L' := [⟨g1, 0, ints .u8 a0⟩, ⟨g2, 0, ints .u8 a1⟩, ⟨g3, 0, ints .u8 a2⟩]) (List.Sublist.refl _)) (Option.some.inj h).symm
    · replace h := br_f hb h
      refine k_move (v := .bool false) rfl (Eq.trans (b := .bool (r20 == r22)) rfl (congrArg Value.bool hb)) ?_
      refine k_skip_tk rfl ?_
      refine k_skip rfl ?_
      refine k_skip_tk rfl ?_
      refine k_skip rfl ?_
      refine k_skip_ef rfl ?_
      refine k_skip_ef rfl ?_
      refine k_skip rfl ?_
      refine k_pick (b := false) (v := .bool false) rfl rfl rfl rfl rfl ?_
      refine k_assign (v := .bool false) rfl rfl ?_
      refine k_end ?_; intro e126 qe126
      have s6_e126 : e126 6 = .bool false := congrFun qe126 6
      clear qe126
      exact hQ0 _ _ false  s6_e126 (hp.drop (L' := [⟨g1, 0, ints .u8 a0⟩, ⟨g2, 0, ints .u8 a1⟩, ⟨g3, 0, ints .u8 a2⟩]) (List.Sublist.refl _)) (Option.some.inj h).symm
  · replace h := br_f hb h
    refine k_move (v := .bool false) rfl (Eq.trans (b := .bool (r15 == r18)) rfl (congrArg Value.bool hb)) ?_
    refine k_skip_tk rfl ?_
    refine k_skip_tk rfl ?_
    refine k_skip_tk rfl ?_
    refine k_skip_tk rfl ?_
    refine k_skip_tk rfl ?_
    refine k_skip_tk rfl ?_
    refine k_skip_ef rfl ?_
    refine k_skip_ef rfl ?_
    refine k_skip_ef rfl ?_
    refine k_skip_ef rfl ?_
    refine k_skip rfl ?_
    refine k_pick (b := false) (v := .bool false) rfl rfl rfl rfl rfl ?_
    refine k_move (v := .bool false) rfl rfl ?_
    refine k_skip_tk rfl ?_
    refine k_skip rfl ?_
    refine k_skip_tk rfl ?_
    refine k_skip rfl ?_
    refine k_skip_ef rfl ?_
    refine k_skip_ef rfl ?_
    refine k_skip rfl ?_
    refine k_pick (b := false) (v := .bool false) rfl rfl rfl rfl rfl ?_
    refine k_assign (v := .bool false) rfl rfl ?_
    refine k_end ?_; intro e127 qe127
    have s6_e127 : e127 6 = .bool false := congrFun qe127 6
    clear qe127
    exact hQ0 _ _ false  s6_e127 (hp.drop (L' := [⟨g1, 0, ints .u8 a0⟩, ⟨g2, 0, ints .u8 a1⟩, ⟨g3, 0, ints .u8 a2⟩]) (List.Sublist.refl _)) (Option.some.inj h).symm
theorem postilionlaw04_FieldRing_ok (k : Nat) (a0 : List Int) (a1 : List Int) (a2 : List Int) (la0 : a0.length = 32) (la1 : a1.length = 32) (la2 : a2.length = 32) (w0 : World) (hp : Hp w0 [] w0 [] []) {r : Bool} (h : postilionlaw04_FieldRing.f k a0 a1 a2 = some r) :
    Calls Try.prog 3 [.agg (ints .u8 a0).toArray, .agg (ints .u8 a1).toArray, .agg (ints .u8 a2).toArray].toArray w0 fun x w' => ∃ v, x = .returned v ∧ v = .bool r ∧ Hp w0 [] w' [] [] := by
  refine calls_in Try.func3 rfl (Nat.le_of_ble_eq_true (by kernel_rfl)) (by kernel_rfl) ?_
  intro e0 qe0
  have s0_e0 : e0 0 = .agg (ints .u8 a0).toArray := congrFun qe0 0
  have s1_e0 : e0 1 = .agg (ints .u8 a1).toArray := congrFun qe0 1
  have s2_e0 : e0 2 = .agg (ints .u8 a2).toArray := congrFun qe0 2
  clear qe0
  unfold postilionlaw04_FieldRing.f at h
  refine wseq rfl ?_
  refine wregion (.ef 0 (.ef 1 (.ef 2 (.tp 3 (.done))))) [] rfl (by kernel_rfl) (by kernel_rfl) ?_
  refine k_box (v := .agg (ints .u8 a0).toArray) (ints .u8 a0) rfl s0_e0 rfl hp ?_
  intro g1 w hbg1 hp
  refine k_box (v := .agg (ints .u8 a1).toArray) (ints .u8 a1) rfl s1_e0 rfl hp ?_
  intro g2 w hbg2 hp
  refine k_box (v := .agg (ints .u8 a2).toArray) (ints .u8 a2) rfl s2_e0 rfl hp ?_
  intro g3 w hbg3 hp
  refine k_assign (v := .bool false) rfl rfl ?_
  refine k_end ?_; intro e117 qe117
  have s3_e117 : e117 3 = .pointer (some ⟨g1, 0, none⟩) := congrFun qe117 3
  have s4_e117 : e117 4 = .pointer (some ⟨g2, 0, none⟩) := congrFun qe117 4
  have s5_e117 : e117 5 = .pointer (some ⟨g3, 0, none⟩) := congrFun qe117 5
  clear qe117
  refine wseq rfl ?_
  refine wseq rfl ?_
  refine wregion (.ef 0 (.tp 1 (.done))) [] rfl (by kernel_rfl) (by kernel_rfl) ?_
  obtain ⟨r4, qr4, h⟩ := bd_e h
  refine k_call [] rfl (by kernel_rfl) (args0 ) (postilionlaw04_awake_ok k   _ (hp.toR (fun _ h => by cases h)) qr4) ?_
  rintro _ w' ⟨_, rfl, rfl, hpc⟩
  refine ⟨_, rfl, .inr (.of_below hpc.chg.to_below), ?_⟩; have hp := hp.below hpc.chg.to_below; clear hpc
  refine k_not (b := r4) rfl rfl ?_
  refine k_end ?_; intro e118 qe118
  have s3_e118 : e118 3 = .pointer (some ⟨g1, 0, none⟩) := (congrFun qe118 3).trans s3_e117
  have s4_e118 : e118 4 = .pointer (some ⟨g2, 0, none⟩) := (congrFun qe118 4).trans s4_e117
  have s5_e118 : e118 5 = .pointer (some ⟨g3, 0, none⟩) := (congrFun qe118 5).trans s5_e117
  have s8_e118 : e118 8 = .bool (!r4) := congrFun qe118 8
  clear qe118
  refine wcond (t := (!r4)) rfl (by decide) s8_e118 (fun hb => ?_) (fun hb => ?_)
  · replace h := br_t hb h
    refine wseq rfl ?_
    refine wregion (.tp 0 (.done)) [] rfl (by kernel_rfl) (by kernel_rfl) ?_
    refine k_assign (v := .bool false) rfl rfl ?_
    refine k_end ?_; intro e119 qe119
    have s6_e119 : e119 6 = .bool false := congrFun qe119 6
    clear qe119
    refine wret rfl ?_
    have hr : r = false := (Option.some.inj h).symm
    show RetP _ _ _ _ _
    rw [hr]
    exact ret_i [.bool false] (res_tmp s6_e119 res_nil) ⟨rfl, hp.none⟩
  · replace h := br_f hb h
    refine wskip rfl ?_
    refine wseq rfl ?_
    refine wseq rfl ?_
    obtain ⟨r12, qr12, h⟩ := bd_e h
    refine postilionlaw04_FieldRing.p1_ok k g1 g2 g3 a0 a1 a2 la0 la1 la2 ?hq0 e118 _ s3_e118 s4_e118 s5_e118 hp qr12
    case hq0 =>
      intro e123 w m13  s3_e123 s4_e123 s5_e123 s35_e123 hp qq
      rw [qq] at h; clear qq
      refine wcond (t := m13) rfl (by decide) s35_e123 (fun hb => ?_) (fun hb => ?_)
      · replace h := br_t hb h
        refine wseq rfl ?_
        refine wregion (.tp 0 (.done)) [] rfl (by kernel_rfl) (by kernel_rfl) ?_
        refine k_assign (v := .bool false) rfl rfl ?_
        refine k_end ?_; intro e124 qe124
        have s6_e124 : e124 6 = .bool false := congrFun qe124 6
        clear qe124
        refine wret rfl ?_
        have hr : r = false := (Option.some.inj h).symm
        show RetP _ _ _ _ _
        rw [hr]
        exact ret_i [.bool false] (res_tmp s6_e124 res_nil) ⟨rfl, hp.none⟩
      · replace h := br_f hb h
        refine wskip rfl ?_
        refine wseq rfl ?_
        obtain ⟨r25, qr25, h⟩ := bd_e h
        refine postilionlaw04_FieldRing.p2_ok k g1 g2 g3 a0 a1 a2 la0 la1 la2 ?hq0 e123 _ s3_e123 s4_e123 s5_e123 hp qr25
        case hq0 =>
          intro e128 w m26  s6_e128 hp qq
          rw [qq] at h; clear qq
          refine wret rfl ?_
          have hr : r = m26 := (Option.some.inj h).symm
          show RetP _ _ _ _ _
          rw [hr]
          exact ret_i [.bool m26] (res_tmp s6_e128 res_nil) ⟨rfl, hp.none⟩
/-! 44 (postilion/field.Element).squared -/
theorem field_Element_squared.p1_ok {w0 : World} {Ws : List Wr} {Q : Exit → Env → World → Prop} (g1 g2 : Nat) (a1 : Int)  {r : List Int} (hQ0 : ∀ (e' : Env) (w' : World) (z0 : List Int), z0.length = 5 → e' 2 = .pointer (some ⟨g1, 0, none⟩) → e' 4 = .pointer (some ⟨g2, 0, none⟩) → Hp w0 Ws w' [⟨g1, 0, ints .u64 z0⟩, ⟨g2, 0, ints .u64 (List.replicate 5 (0 : Int))⟩] [] → r = (z0) → Q (.exit 0) e' w') : ∀ (k : Nat), ∀ (y3 : List Int) (y4 : Int) (e : Env) (w : World) (ly3 : y3.length = 5) (s2_e : e 2 = .pointer (some ⟨g1, 0, none⟩)) (s4_e : e 4 = .pointer (some ⟨g2, 0, none⟩)) (s5_e : e 5 = .int .i64 a1) (s6_e : e 6 = .int .i64 y4) (hp : Hp w0 Ws w [⟨g1, 0, ints .u64 y3⟩, ⟨g2, 0, ints .u64 (List.replicate 5 (0 : Int))⟩] []) (h : field_Element_squared.p1 k a1 y3 y4 = some r), Lp Try.prog Try.f44.ntmps (at_ (fbody Try.f44) [1, 0, 1, 0, 0]) Q k e w := by
  intro k
  induction k with
  | zero => intro y3 y4 e w ly3 s2_e s4_e s5_e s6_e hp h; cases h
  | succ k ih =>
    intro y3 y4 e w ly3 s2_e s4_e s5_e s6_e hp h
    unfold field_Element_squared.p1 at h
    show Wp _ _ _ _ _ _
    refine wseq rfl ?_
    refine wregion (.tp 0 (.done)) [] rfl (by kernel_rfl) (by kernel_rfl) ?_
    refine k_bin (X := .int .i64 y4) (Y := .int .i64 a1) rfl s6_e s5_e rfl ?_
    refine k_end ?_; intro e131 qe131
    have s2_e131 : e131 2 = .pointer (some ⟨g1, 0, none⟩) := (congrFun qe131 2).trans s2_e
    have s4_e131 : e131 4 = .pointer (some ⟨g2, 0, none⟩) := (congrFun qe131 4).trans s4_e
    have s5_e131 : e131 5 = .int .i64 a1 := (congrFun qe131 5).trans s5_e
    have s6_e131 : e131 6 = .int .i64 y4 := (congrFun qe131 6).trans s6_e
    have s7_e131 : e131 7 = .bool (decide (y4 < a1)) := congrFun qe131 7
    clear qe131
    refine wseq rfl ?_
    refine wcond (t := (decide (y4 < a1))) rfl (by decide) s7_e131 (fun hb => ?_) (fun hb => ?_)
    · replace h := br_t hb h
      refine wskip rfl ?_
      refine wseq rfl ?_
      refine wblock rfl ?_
      refine wregion (.tk 0 (.tk 1 (.ef 2 (.ef 3 (.done))))) [3] rfl (by kernel_rfl) (by kernel_rfl) ?_
      refine k_loadA (n := 5) (xs := ints .u64 y3) 0 rfl (by kernel_rfl) (by kernel_rfl) s2_e131 (hp.get (j := 0) rfl) rfl rfl ((ints_length _ _).trans ly3) (fun m v hm => by rw [Nat.zero_add]; exact hm) ?_
      refine k_loadA (n := 5) (xs := ints .u64 y3) 0 rfl (by kernel_rfl) (by kernel_rfl) s2_e131 (hp.get (j := 0) rfl) rfl rfl ((ints_length _ _).trans ly3) (fun m v hm => by rw [Nat.zero_add]; exact hm) ?_
      obtain ⟨r5, qr5, h⟩ := bd_e h
      refine k_call [.agg (ints .u64 y3).toArray, .agg (ints .u64 y3).toArray] rfl (by kernel_rfl) (args2 rfl rfl) (field_Element_Times_ok y3 y3 ly3 ly3 _ (hp.toR (fun _ h => by cases h)) qr5) ?_
      rintro _ w' ⟨_, rfl, rfl, lr50, hpc⟩
      refine ⟨_, rfl, .inr (.of_below hpc.chg.to_below), ?_⟩; have hp := hp.below hpc.chg.to_below; clear hpc
      refine k_storeA (v := .agg (ints .u64 r5).toArray) 0 0 (r := ⟨g1, 0, ints .u64 y3⟩) (ints .u64 r5) (ints .u64 r5) rfl (n := 5) (by kernel_rfl) s2_e131 rfl rfl ((ints_length _ _).trans lr50) (ints_one _ _) hp rfl rfl rfl (Nat.le_of_eq ((Nat.zero_add _).trans ((ints_length _ _).trans ly3).symm)) (setMany_all _ _ (((ints_length _ _).trans lr50).trans ((ints_length _ _).trans ly3).symm)) (by decide) ?_; intro w hp
      refine k_end ?_; intro e132 qe132
      have s2_e132 : e132 2 = .pointer (some ⟨g1, 0, none⟩) := (congrFun qe132 2).trans s2_e131
      have s4_e132 : e132 4 = .pointer (some ⟨g2, 0, none⟩) := (congrFun qe132 4).trans s4_e131
      have s5_e132 : e132 5 = .int .i64 a1 := (congrFun qe132 5).trans s5_e131
      have s6_e132 : e132 6 = .int .i64 y4 := (congrFun qe132 6).trans s6_e131
      clear qe132
      refine wregion (.tp 0 (.tp 1 (.done))) [] rfl (by kernel_rfl) (by kernel_rfl) ?_
      refine k_bin (X := .int .i64 y4) (Y := .int .i64 1) rfl s6_e132 rfl rfl ?_
      refine k_move (v := .int .i64 (IntKind.i64.wrap (y4 + 1))) rfl rfl ?_
      refine k_end ?_; intro e133 qe133
      have s2_e133 : e133 2 = .pointer (some ⟨g1, 0, none⟩) := (congrFun qe133 2).trans s2_e132
      have s4_e133 : e133 4 = .pointer (some ⟨g2, 0, none⟩) := (congrFun qe133 4).trans s4_e132
      have s5_e133 : e133 5 = .int .i64 a1 := (congrFun qe133 5).trans s5_e132
      obtain ⟨x6, qx6, h⟩ := lt_e h
      have s6_e133 : e133 6 = .int .i64 x6 := (congrFun qe133 6).trans (congrArg (Value.int .i64) qx6.symm)
      clear qe133
      exact ih r5 x6 _ _ lr50 s2_e133 s4_e133 s5_e133 s6_e133 (hp.drop (L' := [⟨g1, 0, ints .u64 r5⟩, ⟨g2, 0, ints .u64 (List.replicate 5 (0 : Int))⟩]) (List.Sublist.refl _)) h
    · replace h := br_f hb h
      refine wexit rfl ?_
      exact hQ0 _ _ y3 ly3 s2_e131 s4_e131 (hp.drop (L' := [⟨g1, 0, ints .u64 y3⟩, ⟨g2, 0, ints .u64 (List.replicate 5 (0 : Int))⟩]) (List.Sublist.refl _)) (Option.some.inj h).symm
theorem field_Element_squared_ok (k : Nat) (a0 : List Int) (a1 : Int) (la0 : a0.length = 5) (w0 : World) (hp : Hp w0 [] w0 [] []) {r : List Int} (h : field_Element_squared.f k a0 a1 = some r) :
    Calls Try.prog 44 [.agg (ints .u64 a0).toArray, .int .i64 a1].toArray w0 fun x w' => ∃ v, x = .returned v ∧ v = .agg (ints .u64 r).toArray ∧ r.length = 5 ∧ Hp w0 [] w' [] [] := by
  refine calls_in Try.func44 rfl (Nat.le_of_ble_eq_true (by kernel_rfl)) (by kernel_rfl) ?_
  intro e0 qe0
  have s0_e0 : e0 0 = .agg (ints .u64 a0).toArray := congrFun qe0 0
  have s1_e0 : e0 1 = .int .i64 a1 := congrFun qe0 1
  clear qe0
  unfold field_Element_squared.f at h
  refine wseq rfl ?_
  refine wregion (.ef 0 (.ef 1 (.done))) [] rfl (by kernel_rfl) (by kernel_rfl) ?_
  refine k_box (v := .agg (ints .u64 a0).toArray) (ints .u64 a0) rfl s0_e0 rfl hp ?_
  intro g1 w hbg1 hp
  refine k_alloc (ints .u64 (List.replicate 5 (0 : Int))) rfl (by kernel_rfl) hp ?_
  intro g2 w hbg2 hp
  refine k_end ?_; intro e129 qe129
  have s1_e129 : e129 1 = .int .i64 a1 := (congrFun qe129 1).trans s1_e0
  have s2_e129 : e129 2 = .pointer (some ⟨g1, 0, none⟩) := congrFun qe129 2
  have s4_e129 : e129 4 = .pointer (some ⟨g2, 0, none⟩) := congrFun qe129 4
  clear qe129
  refine wseq rfl ?_
  refine wseq rfl ?_
  refine wregion (.tp 0 (.tp 1 (.done))) [] rfl (by kernel_rfl) (by kernel_rfl) ?_
  refine k_move (v := .int .i64 a1) rfl s1_e129 ?_
  refine k_move (v := .int .i64 0) rfl rfl ?_
  refine k_end ?_; intro e130 qe130
  have s2_e130 : e130 2 = .pointer (some ⟨g1, 0, none⟩) := (congrFun qe130 2).trans s2_e129
  have s4_e130 : e130 4 = .pointer (some ⟨g2, 0, none⟩) := (congrFun qe130 4).trans s4_e129
  have s5_e130 : e130 5 = .int .i64 a1 := congrFun qe130 5
  have s6_e130 : e130 6 = .int .i64 0 := congrFun qe130 6
  clear qe130
  refine wblock rfl ?_
  obtain ⟨r7, qr7, h⟩ := bd_e h
  refine wloop k rfl (field_Element_squared.p1_ok g1 g2 a1  ?hq0 k a0 0 e130 _ la0 s2_e130 s4_e130 s5_e130 s6_e130 hp qr7)
  case hq0 =>
    intro e134 w m8 lm8 s2_e134 s4_e134 hp qq
    rw [qq] at h; clear qq
    refine wseq rfl ?_
    refine wregion (.tk 0 (.ef 1 (.done))) [1] rfl (by kernel_rfl) (by kernel_rfl) ?_
    refine k_loadA (n := 5) (xs := ints .u64 m8) 0 rfl (by kernel_rfl) (by kernel_rfl) s2_e134 (hp.get (j := 0) rfl) rfl rfl ((ints_length _ _).trans lm8) (fun m v hm => by rw [Nat.zero_add]; exact hm) ?_
    refine k_storeA (v := .agg (ints .u64 m8).toArray) 1 0 (r := ⟨g2, 0, ints .u64 (List.replicate 5 (0 : Int))⟩) (ints .u64 m8) (ints .u64 m8) rfl (n := 5) (by kernel_rfl) s4_e134 rfl rfl ((ints_length _ _).trans lm8) (ints_one _ _) hp rfl rfl rfl (Nat.le_of_eq ((Nat.zero_add _).trans ((ints_length _ _).trans List.length_replicate).symm)) (setMany_all _ _ (((ints_length _ _).trans lm8).trans ((ints_length _ _).trans List.length_replicate).symm)) (by decide) ?_; intro w hp
    refine k_end ?_; intro e135 qe135
    have s4_e135 : e135 4 = .pointer (some ⟨g2, 0, none⟩) := (congrFun qe135 4).trans s4_e134
    clear qe135
    refine wret rfl ?_
    have hr : r = m8 := (Option.some.inj h).symm
    show RetP _ _ _ _ _
    rw [hr]
    exact ret_i [.agg (ints .u64 m8).toArray] (res_cell s4_e135 (loadVar_agg (by kernel_rfl) (by kernel_rfl) ((ints_length _ _).trans lm8) (hp.get (j := 1) rfl) rfl rfl rfl) res_nil) ⟨rfl, lm8, hp.none⟩
/-! 43 (postilion/field.Element).chain -/
theorem field_Element_chain_ok (k : Nat) (a0 : List Int) (la0 : a0.length = 5) (w0 : World) (hp : Hp w0 [] w0 [] []) {r : List Int × List Int} (h : field_Element_chain.f k a0 = some r) :
    Calls Try.prog 43 [.agg (ints .u64 a0).toArray].toArray w0 fun x w' => ∃ v, x = .returned v ∧ v = .tuple #[.agg (ints .u64 r.1).toArray, .agg (ints .u64 r.2).toArray] ∧ r.1.length = 5 ∧ r.2.length = 5 ∧ Hp w0 [] w' [] [] := by
  refine calls_in Try.func43 rfl (Nat.le_of_ble_eq_true (by kernel_rfl)) (by kernel_rfl) ?_
  intro e0 qe0
  have s0_e0 : e0 0 = .agg (ints .u64 a0).toArray := congrFun qe0 0
  clear qe0
  unfold field_Element_chain.f at h
  refine wseq rfl ?_
  refine wregion (.ef 0 (.ef 1 (.ef 2 (.done)))) [] rfl (by kernel_rfl) (by kernel_rfl) ?_
  refine k_box (v := .agg (ints .u64 a0).toArray) (ints .u64 a0) rfl s0_e0 rfl hp ?_
  intro g1 w hbg1 hp
  refine k_alloc (ints .u64 (List.replicate 5 (0 : Int))) rfl (by kernel_rfl) hp ?_
  intro g2 w hbg2 hp
  refine k_alloc (ints .u64 (List.replicate 5 (0 : Int))) rfl (by kernel_rfl) hp ?_
  intro g3 w hbg3 hp
  refine k_end ?_; intro e136 qe136
  have s1_e136 : e136 1 = .pointer (some ⟨g1, 0, none⟩) := congrFun qe136 1
  have s2_e136 : e136 2 = .pointer (some ⟨g2, 0, none⟩) := congrFun qe136 2
  have s3_e136 : e136 3 = .pointer (some ⟨g3, 0, none⟩) := congrFun qe136 3
  clear qe136
  refine wseq rfl ?_
  refine wregion (.tk 0 (.ef 1 (.ef 2 (.ef 3 (.done))))) [3] rfl (by kernel_rfl) (by kernel_rfl) ?_
  refine k_loadA (n := 5) (xs := ints .u64 a0) 0 rfl (by kernel_rfl) (by kernel_rfl) s1_e136 (hp.get (j := 0) rfl) rfl rfl ((ints_length _ _).trans la0) (fun m v hm => by rw [Nat.zero_add]; exact hm) ?_
  obtain ⟨r4, qr4, h⟩ := bd_e h
  refine k_call [.agg (ints .u64 a0).toArray, .int .i64 1] rfl (by kernel_rfl) (args2 rfl rfl) (field_Element_squared_ok k a0 1 la0 _ (hp.toR (fun _ h => by cases h)) qr4) ?_
  rintro _ w' ⟨_, rfl, rfl, lr40, hpc⟩
  refine ⟨_, rfl, .inr (.of_below hpc.chg.to_below), ?_⟩; have hp := hp.below hpc.chg.to_below; clear hpc
  refine k_alloc (ints .u64 (List.replicate 5 (0 : Int))) rfl (by kernel_rfl) hp ?_
  intro g5 w hbg5 hp
  refine k_storeA (v := .agg (ints .u64 r4).toArray) 3 0 (r := ⟨g5, 0, ints .u64 (List.replicate 5 (0 : Int))⟩) (ints .u64 r4) (ints .u64 r4) rfl (n := 5) (by kernel_rfl) rfl rfl rfl ((ints_length _ _).trans lr40) (ints_one _ _) hp rfl rfl rfl (Nat.le_of_eq ((Nat.zero_add _).trans ((ints_length _ _).trans List.length_replicate).symm)) (setMany_all _ _ (((ints_length _ _).trans lr40).trans ((ints_length _ _).trans List.length_replicate).symm)) (by decide) ?_; intro w hp
  refine k_end ?_; intro e137 qe137
  have s1_e137 : e137 1 = .pointer (some ⟨g1, 0, none⟩) := (congrFun qe137 1).trans s1_e136
  have s2_e137 : e137 2 = .pointer (some ⟨g2, 0, none⟩) := (congrFun qe137 2).trans s2_e136
  have s3_e137 : e137 3 = .pointer (some ⟨g3, 0, none⟩) := (congrFun qe137 3).trans s3_e136
  have s4_e137 : e137 4 = .pointer (some ⟨g5, 0, none⟩) := congrFun qe137 4
  clear qe137
  refine wseq rfl ?_
  obtain ⟨r6, qr6, h⟩ := bd_e h
  obtain ⟨r7, qr7, h⟩ := bd_e h
  refine wcut (fun e138 w2 => ∃ g8 : Nat, r7.length = 5 ∧ e138 2 = .pointer (some ⟨g2, 0, none⟩) ∧ e138 3 = .pointer (some ⟨g3, 0, none⟩) ∧ e138 4 = .pointer (some ⟨g5, 0, none⟩) ∧ e138 5 = .pointer (some ⟨g8, 0, none⟩) ∧ Hp w0 [] w2 [⟨g1, 0, ints .u64 a0⟩, ⟨g2, 0, ints .u64 (List.replicate 5 (0 : Int))⟩, ⟨g3, 0, ints .u64 (List.replicate 5 (0 : Int))⟩, ⟨g5, 0, ints .u64 r4⟩, ⟨g8, 0, ints .u64 r7⟩] []) ?_ ?_
  rotate_left
  · refine wregion_m (.tk 0 (.tk 2 (.alt (.ef 1 (.alt (.ef 3 (.ef 4 (.ef 5 (.done)))) (.ef 4 (.ef 3 (.ef 5 (.done)))))) (.ef 4 (.ef 1 (.ef 3 (.ef 5 (.done)))))))) [5] [(0, 0, 0), (1, 63, 63), (0, 0, 0), (6, 63, 63), (0, 63, 63), (31, 63, 63)] rfl (by kernel_rfl) (by kernel_rfl) (Nat.le_of_ble_eq_true (by kernel_rfl)) (by kernel_rfl) (by kernel_rfl) ?_
    have hp := hp.drew
    refine k_loadA (n := 5) (xs := ints .u64 r4) 0 rfl (by kernel_rfl) (by kernel_rfl) s4_e137 (hp.get (j := 3) rfl) rfl rfl ((ints_length _ _).trans lr40) (fun m v hm => by rw [Nat.zero_add]; exact hm) ?_
    refine k_loadA (n := 5) (xs := ints .u64 a0) 0 rfl (by kernel_rfl) (by kernel_rfl) s1_e137 (hp.get (j := 0) rfl) rfl rfl ((ints_length _ _).trans la0) (fun m v hm => by rw [Nat.zero_add]; exact hm) ?_
    refine k_alt ?_ ?_
    ·
      refine k_call [.agg (ints .u64 r4).toArray, .int .i64 2] rfl (by kernel_rfl) (args2 rfl rfl) (field_Element_squared_ok k r4 2 lr40 _ (hp.toR (fun _ h => by cases h)) qr6) ?_
      rintro _ w' ⟨_, rfl, rfl, lr60, hpc⟩
      refine ⟨_, rfl, .inr (.of_below hpc.chg.to_below), ?_⟩; have hp := hp.below hpc.chg.to_below; clear hpc
      refine k_alt ?_ ?_
      ·
        refine k_call [.agg (ints .u64 r6).toArray, .agg (ints .u64 a0).toArray] rfl (by kernel_rfl) (args2 rfl rfl) (field_Element_Times_ok r6 a0 lr60 la0 _ (hp.toR (fun _ h => by cases h)) qr7) ?_
        rintro _ w' ⟨_, rfl, rfl, lr70, hpc⟩
        refine ⟨_, rfl, .inr (.of_below hpc.chg.to_below), ?_⟩; have hp := hp.below hpc.chg.to_below; clear hpc
        refine k_alloc (ints .u64 (List.replicate 5 (0 : Int))) rfl (by kernel_rfl) hp ?_
        intro g8 w hbg8 hp
        refine k_storeA (v := .agg (ints .u64 r7).toArray) 4 0 (r := ⟨g8, 0, ints .u64 (List.replicate 5 (0 : Int))⟩) (ints .u64 r7) (ints .u64 r7) rfl (n := 5) (by kernel_rfl) rfl rfl rfl ((ints_length _ _).trans lr70) (ints_one _ _) hp rfl rfl rfl (Nat.le_of_eq ((Nat.zero_add _).trans ((ints_length _ _).trans List.length_replicate).symm)) (setMany_all _ _ (((ints_length _ _).trans lr70).trans ((ints_length _ _).trans List.length_replicate).symm)) (by decide) ?_; intro w hp
        refine k_endI ?_; intro e138 qe138
        exact ⟨g8, lr70, (congrFun qe138 2).trans s2_e137, (congrFun qe138 3).trans s3_e137, (congrFun qe138 4).trans s4_e137, congrFun qe138 5, hp⟩
      refine k_alloc (ints .u64 (List.replicate 5 (0 : Int))) rfl (by kernel_rfl) hp ?_
      intro g8 w hbg8 hp
      refine k_call [.agg (ints .u64 r6).toArray, .agg (ints .u64 a0).toArray] rfl (by kernel_rfl) (args2 rfl rfl) (field_Element_Times_ok r6 a0 lr60 la0 _ (hp.toR (fun _ h => by cases h)) qr7) ?_
      rintro _ w' ⟨_, rfl, rfl, lr70, hpc⟩
      refine ⟨_, rfl, .inr (.of_below hpc.chg.to_below), ?_⟩; have hp := hp.below hpc.chg.to_below; clear hpc
      refine k_storeA (v := .agg (ints .u64 r7).toArray) 4 0 (r := ⟨g8, 0, ints .u64 (List.replicate 5 (0 : Int))⟩) (ints .u64 r7) (ints .u64 r7) rfl (n := 5) (by kernel_rfl) rfl rfl rfl ((ints_length _ _).trans lr70) (ints_one _ _) hp rfl rfl rfl (Nat.le_of_eq ((Nat.zero_add _).trans ((ints_length _ _).trans List.length_replicate).symm)) (setMany_all _ _ (((ints_length _ _).trans lr70).trans ((ints_length _ _).trans List.length_replicate).symm)) (by decide) ?_; intro w hp
      refine k_endI ?_; intro e138 qe138
      exact ⟨g8, lr70, (congrFun qe138 2).trans s2_e137, (congrFun qe138 3).trans s3_e137, (congrFun qe138 4).trans s4_e137, congrFun qe138 5, hp⟩
    refine k_alloc (ints .u64 (List.replicate 5 (0 : Int))) rfl (by kernel_rfl) hp ?_
    intro g8 w hbg8 hp
    refine k_call [.agg (ints .u64 r4).toArray, .int .i64 2] rfl (by kernel_rfl) (args2 rfl rfl) (field_Element_squared_ok k r4 2 lr40 _ (hp.toR (fun _ h => by cases h)) qr6) ?_
    rintro _ w' ⟨_, rfl, rfl, lr60, hpc⟩
    refine ⟨_, rfl, .inr (.of_below hpc.chg.to_below), ?_⟩; have hp := hp.below hpc.chg.to_below; clear hpc
    refine k_call [.agg (ints .u64 r6).toArray, .agg (ints .u64 a0).toArray] rfl (by kernel_rfl) (args2 rfl rfl) (field_Element_Times_ok r6 a0 lr60 la0 _ (hp.toR (fun _ h => by cases h)) qr7) ?_
    rintro _ w' ⟨_, rfl, rfl, lr70, hpc⟩
    refine ⟨_, rfl, .inr (.of_below hpc.chg.to_below), ?_⟩; have hp := hp.below hpc.chg.to_below; clear hpc
    refine k_storeA (v := .agg (ints .u64 r7).toArray) 4 0 (r := ⟨g8, 0, ints .u64 (List.replicate 5 (0 : Int))⟩) (ints .u64 r7) (ints .u64 r7) rfl (n := 5) (by kernel_rfl) rfl rfl rfl ((ints_length _ _).trans lr70) (ints_one _ _) hp rfl rfl rfl (Nat.le_of_eq ((Nat.zero_add _).trans ((ints_length _ _).trans List.length_replicate).symm)) (setMany_all _ _ (((ints_length _ _).trans lr70).trans ((ints_length _ _).trans List.length_replicate).symm)) (by decide) ?_; intro w hp
    refine k_endI ?_; intro e138 qe138
    exact ⟨g8, lr70, (congrFun qe138 2).trans s2_e137, (congrFun qe138 3).trans s3_e137, (congrFun qe138 4).trans s4_e137, congrFun qe138 5, hp⟩
  rintro e138 w ⟨g8, lr70, s2_e138, s3_e138, s4_e138, s5_e138, hp⟩
  refine wseq rfl ?_
  refine wregion (.tk 0 (.tk 1 (.ef 2 (.ef 3 (.ef 4 (.done)))))) [4] rfl (by kernel_rfl) (by kernel_rfl) ?_
  refine k_loadA (n := 5) (xs := ints .u64 r7) 0 rfl (by kernel_rfl) (by kernel_rfl) s5_e138 (hp.get (j := 4) rfl) rfl rfl ((ints_length _ _).trans lr70) (fun m v hm => by rw [Nat.zero_add]; exact hm) ?_
  refine k_loadA (n := 5) (xs := ints .u64 r4) 0 rfl (by kernel_rfl) (by kernel_rfl) s4_e138 (hp.get (j := 3) rfl) rfl rfl ((ints_length _ _).trans lr40) (fun m v hm => by rw [Nat.zero_add]; exact hm) ?_
  obtain ⟨r9, qr9, h⟩ := bd_e h
  refine k_call [.agg (ints .u64 r7).toArray, .agg (ints .u64 r4).toArray] rfl (by kernel_rfl) (args2 rfl rfl) (field_Element_Times_ok r7 r4 lr70 lr40 _ (hp.toR (fun _ h => by cases h)) qr9) ?_
  rintro _ w' ⟨_, rfl, rfl, lr90, hpc⟩
  refine ⟨_, rfl, .inr (.of_below hpc.chg.to_below), ?_⟩; have hp := hp.below hpc.chg.to_below; clear hpc
  refine k_alloc (ints .u64 (List.replicate 5 (0 : Int))) rfl (by kernel_rfl) hp ?_
  intro g10 w hbg10 hp
  refine k_storeA (v := .agg (ints .u64 r9).toArray) 5 0 (r := ⟨g10, 0, ints .u64 (List.replicate 5 (0 : Int))⟩) (ints .u64 r9) (ints .u64 r9) rfl (n := 5) (by kernel_rfl) rfl rfl rfl ((ints_length _ _).trans lr90) (ints_one _ _) hp rfl rfl rfl (Nat.le_of_eq ((Nat.zero_add _).trans ((ints_length _ _).trans List.length_replicate).symm)) (setMany_all _ _ (((ints_length _ _).trans lr90).trans ((ints_length _ _).trans List.length_replicate).symm)) (by decide) ?_; intro w hp
  refine k_end ?_; intro e139 qe139
  have s2_e139 : e139 2 = .pointer (some ⟨g2, 0, none⟩) := (congrFun qe139 2).trans s2_e138
  have s3_e139 : e139 3 = .pointer (some ⟨g3, 0, none⟩) := (congrFun qe139 3).trans s3_e138
  have s5_e139 : e139 5 = .pointer (some ⟨g8, 0, none⟩) := (congrFun qe139 5).trans s5_e138
  have s6_e139 : e139 6 = .pointer (some ⟨g10, 0, none⟩) := congrFun qe139 6
  clear qe139
  refine wseq rfl ?_
  obtain ⟨r11, qr11, h⟩ := bd_e h
  obtain ⟨r12, qr12, h⟩ := bd_e h
  refine wcut (fun e140 w2 => ∃ g13 : Nat, r12.length = 5 ∧ e140 2 = .pointer (some ⟨g2, 0, none⟩) ∧ e140 3 = .pointer (some ⟨g3, 0, none⟩) ∧ e140 6 = .pointer (some ⟨g10, 0, none⟩) ∧ e140 7 = .pointer (some ⟨g13, 0, none⟩) ∧ Hp w0 [] w2 [⟨g1, 0, ints .u64 a0⟩, ⟨g2, 0, ints .u64 (List.replicate 5 (0 : Int))⟩, ⟨g3, 0, ints .u64 (List.replicate 5 (0 : Int))⟩, ⟨g5, 0, ints .u64 r4⟩, ⟨g8, 0, ints .u64 r7⟩, ⟨g10, 0, ints .u64 r9⟩, ⟨g13, 0, ints .u64 r12⟩] []) ?_ ?_
  rotate_left
  · refine wregion_m (.tk 0 (.tk 2 (.alt (.ef 1 (.alt (.ef 3 (.ef 4 (.ef 5 (.done)))) (.ef 4 (.ef 3 (.ef 5 (.done)))))) (.ef 4 (.ef 1 (.ef 3 (.ef 5 (.done)))))))) [5] [(0, 0, 0), (1, 63, 63), (0, 0, 0), (6, 63, 63), (0, 63, 63), (31, 63, 63)] rfl (by kernel_rfl) (by kernel_rfl) (Nat.le_of_ble_eq_true (by kernel_rfl)) (by kernel_rfl) (by kernel_rfl) ?_
    have hp := hp.drew
    refine k_loadA (n := 5) (xs := ints .u64 r9) 0 rfl (by kernel_rfl) (by kernel_rfl) s6_e139 (hp.get (j := 5) rfl) rfl rfl ((ints_length _ _).trans lr90) (fun m v hm => by rw [Nat.zero_add]; exact hm) ?_
    refine k_loadA (n := 5) (xs := ints .u64 r7) 0 rfl (by kernel_rfl) (by kernel_rfl) s5_e139 (hp.get (j := 4) rfl) rfl rfl ((ints_length _ _).trans lr70) (fun m v hm => by rw [Nat.zero_add]; exact hm) ?_
    refine k_alt ?_ ?_
    ·
      refine k_call [.agg (ints .u64 r9).toArray, .int .i64 1] rfl (by kernel_rfl) (args2 rfl rfl) (field_Element_squared_ok k r9 1 lr90 _ (hp.toR (fun _ h => by cases h)) qr11) ?_
      rintro _ w' ⟨_, rfl, rfl, lr110, hpc⟩
      refine ⟨_, rfl, .inr (.of_below hpc.chg.to_below), ?_⟩; have hp := hp.below hpc.chg.to_below; clear hpc
      refine k_alt ?_ ?_
      ·
        refine k_call [.agg (ints .u64 r11).toArray, .agg (ints .u64 r7).toArray] rfl (by kernel_rfl) (args2 rfl rfl) (field_Element_Times_ok r11 r7 lr110 lr70 _ (hp.toR (fun _ h => by cases h)) qr12) ?_
        rintro _ w' ⟨_, rfl, rfl, lr120, hpc⟩
        refine ⟨_, rfl, .inr (.of_below hpc.chg.to_below), ?_⟩; have hp := hp.below hpc.chg.to_below; clear hpc
        refine k_alloc (ints .u64 (List.replicate 5 (0 : Int))) rfl (by kernel_rfl) hp ?_
        intro g13 w hbg13 hp
        refine k_storeA (v := .agg (ints .u64 r12).toArray) 6 0 (r := ⟨g13, 0, ints .u64 (List.replicate 5 (0 : Int))⟩) (ints .u64 r12) (ints .u64 r12) rfl (n := 5) (by kernel_rfl) rfl rfl rfl ((ints_length _ _).trans lr120) (ints_one _ _) hp rfl rfl rfl (Nat.le_of_eq ((Nat.zero_add _).trans ((ints_length _ _).trans List.length_replicate).symm)) (setMany_all _ _ (((ints_length _ _).trans lr120).trans ((ints_length _ _).trans List.length_replicate).symm)) (by decide) ?_; intro w hp
        refine k_endI ?_; intro e140 qe140
        exact ⟨g13, lr120, (congrFun qe140 2).trans s2_e139, (congrFun qe140 3).trans s3_e139, (congrFun qe140 6).trans s6_e139, congrFun qe140 7, hp⟩
      refine k_alloc (ints .u64 (List.replicate 5 (0 : Int))) rfl (by kernel_rfl) hp ?_
      intro g13 w hbg13 hp
      refine k_call [.agg (ints .u64 r11).toArray, .agg (ints .u64 r7).toArray] rfl (by kernel_rfl) (args2 rfl rfl) (field_Element_Times_ok r11 r7 lr110 lr70 _ (hp.toR (fun _ h => by cases h)) qr12) ?_
      rintro _ w' ⟨_, rfl, rfl, lr120, hpc⟩
      refine ⟨_, rfl, .inr (.of_below hpc.chg.to_below), ?_⟩; have hp := hp.below hpc.chg.to_below; clear hpc
      refine k_storeA (v := .agg (ints .u64 r12).toArray) 6 0 (r := ⟨g13, 0, ints .u64 (List.replicate 5 (0 : Int))⟩) (ints .u64 r12) (ints .u64 r12) rfl (n := 5) (by kernel_rfl) rfl rfl rfl ((ints_length _ _).trans lr120) (ints_one _ _) hp rfl rfl rfl (Nat.le_of_eq ((Nat.zero_add _).trans ((ints_length _ _).trans List.length_replicate).symm)) (setMany_all _ _ (((ints_length _ _).trans lr120).trans ((ints_length _ _).trans List.length_replicate).symm)) (by decide) ?_; intro w hp
      refine k_endI ?_; intro e140 qe140
      exact ⟨g13, lr120, (congrFun qe140 2).trans s2_e139, (congrFun qe140 3).trans s3_e139, (congrFun qe140 6).trans s6_e139, congrFun qe140 7, hp⟩
    refine k_alloc (ints .u64 (List.replicate 5 (0 : Int))) rfl (by kernel_rfl) hp ?_
    intro g13 w hbg13 hp
    refine k_call [.agg (ints .u64 r9).toArray, .int .i64 1] rfl (by kernel_rfl) (args2 rfl rfl) (field_Element_squared_ok k r9 1 lr90 _ (hp.toR (fun _ h => by cases h)) qr11) ?_
    rintro _ w' ⟨_, rfl, rfl, lr110, hpc⟩
    refine ⟨_, rfl, .inr (.of_below hpc.chg.to_below), ?_⟩; have hp := hp.below hpc.chg.to_below; clear hpc
    refine k_call [.agg (ints .u64 r11).toArray, .agg (ints .u64 r7).toArray] rfl (by kernel_rfl) (args2 rfl rfl) (field_Element_Times_ok r11 r7 lr110 lr70 _ (hp.toR (fun _ h => by cases h)) qr12) ?_
    rintro _ w' ⟨_, rfl, rfl, lr120, hpc⟩
    refine ⟨_, rfl, .inr (.of_below hpc.chg.to_below), ?_⟩; have hp := hp.below hpc.chg.to_below; clear hpc
    refine k_storeA (v := .agg (ints .u64 r12).toArray) 6 0 (r := ⟨g13, 0, ints .u64 (List.replicate 5 (0 : Int))⟩) (ints .u64 r12) (ints .u64 r12) rfl (n := 5) (by kernel_rfl) rfl rfl rfl ((ints_length _ _).trans lr120) (ints_one _ _) hp rfl rfl rfl (Nat.le_of_eq ((Nat.zero_add _).trans ((ints_length _ _).trans List.length_replicate).symm)) (setMany_all _ _ (((ints_length _ _).trans lr120).trans ((ints_length _ _).trans List.length_replicate).symm)) (by decide) ?_; intro w hp
    refine k_endI ?_; intro e140 qe140
    exact ⟨g13, lr120, (congrFun qe140 2).trans s2_e139, (congrFun qe140 3).trans s3_e139, (congrFun qe140 6).trans s6_e139, congrFun qe140 7, hp⟩
  rintro e140 w ⟨g13, lr120, s2_e140, s3_e140, s6_e140, s7_e140, hp⟩
  refine wseq rfl ?_
  obtain ⟨r14, qr14, h⟩ := bd_e h
  obtain ⟨r15, qr15, h⟩ := bd_e h
  refine wcut (fun e141 w2 => ∃ g16 : Nat, r15.length = 5 ∧ e141 2 = .pointer (some ⟨g2, 0, none⟩) ∧ e141 3 = .pointer (some ⟨g3, 0, none⟩) ∧ e141 6 = .pointer (some ⟨g10, 0, none⟩) ∧ e141 8 = .pointer (some ⟨g16, 0, none⟩) ∧ Hp w0 [] w2 [⟨g1, 0, ints .u64 a0⟩, ⟨g2, 0, ints .u64 (List.replicate 5 (0 : Int))⟩, ⟨g3, 0, ints .u64 (List.replicate 5 (0 : Int))⟩, ⟨g5, 0, ints .u64 r4⟩, ⟨g8, 0, ints .u64 r7⟩, ⟨g10, 0, ints .u64 r9⟩, ⟨g13, 0, ints .u64 r12⟩, ⟨g16, 0, ints .u64 r15⟩] []) ?_ ?_
  rotate_left
  · refine wregion_m (.tk 0 (.tk 2 (.alt (.ef 1 (.alt (.ef 3 (.ef 4 (.ef 5 (.done)))) (.ef 4 (.ef 3 (.ef 5 (.done)))))) (.ef 4 (.ef 1 (.ef 3 (.ef 5 (.done)))))))) [5] [(0, 0, 0), (1, 63, 63), (0, 0, 0), (6, 63, 63), (0, 63, 63), (31, 63, 63)] rfl (by kernel_rfl) (by kernel_rfl) (Nat.le_of_ble_eq_true (by kernel_rfl)) (by kernel_rfl) (by kernel_rfl) ?_
    have hp := hp.drew
    refine k_loadA (n := 5) (xs := ints .u64 r12) 0 rfl (by kernel_rfl) (by kernel_rfl) s7_e140 (hp.get (j := 6) rfl) rfl rfl ((ints_length _ _).trans lr120) (fun m v hm => by rw [Nat.zero_add]; exact hm) ?_
    refine k_loadA (n := 5) (xs := ints .u64 r12) 0 rfl (by kernel_rfl) (by kernel_rfl) s7_e140 (hp.get (j := 6) rfl) rfl rfl ((ints_length _ _).trans lr120) (fun m v hm => by rw [Nat.zero_add]; exact hm) ?_
    refine k_alt ?_ ?_
    ·
      refine k_call [.agg (ints .u64 r12).toArray, .int .i64 5] rfl (by kernel_rfl) (args2 rfl rfl) (field_Element_squared_ok k r12 5 lr120 _ (hp.toR (fun _ h => by cases h)) qr14) ?_
      rintro _ w' ⟨_, rfl, rfl, lr140, hpc⟩
      refine ⟨_, rfl, .inr (.of_below hpc.chg.to_below), ?_⟩; have hp := hp.below hpc.chg.to_below; clear hpc
      refine k_alt ?_ ?_
      ·
        refine k_call [.agg (ints .u64 r14).toArray, .agg (ints .u64 r12).toArray] rfl (by kernel_rfl) (args2 rfl rfl) (field_Element_Times_ok r14 r12 lr140 lr120 _ (hp.toR (fun _ h => by cases h)) qr15) ?_
        rintro _ w' ⟨_, rfl, rfl, lr150, hpc⟩
        refine ⟨_, rfl, .inr (.of_below hpc.chg.to_below), ?_⟩; have hp := hp.below hpc.chg.to_below; clear hpc
        refine k_alloc (ints .u64 (List.replicate 5 (0 : Int))) rfl (by kernel_rfl) hp ?_
        intro g16 w hbg16 hp
        refine k_storeA (v := .agg (ints .u64 r15).toArray) 7 0 (r := ⟨g16, 0, ints .u64 (List.replicate 5 (0 : Int))⟩) (ints .u64 r15) (ints .u64 r15) rfl (n := 5) (by kernel_rfl) rfl rfl rfl ((ints_length _ _).trans lr150) (ints_one _ _) hp rfl rfl rfl (Nat.le_of_eq ((Nat.zero_add _).trans ((ints_length _ _).trans List.length_replicate).symm)) (setMany_all _ _ (((ints_length _ _).trans lr150).trans ((ints_length _ _).trans List.length_replicate).symm)) (by decide) ?_; intro w hp
        refine k_endI ?_; intro e141 qe141
        exact ⟨g16, lr150, (congrFun qe141 2).trans s2_e140, (congrFun qe141 3).trans s3_e140, (congrFun qe141 6).trans s6_e140, congrFun qe141 8, hp⟩
      refine k_alloc (ints .u64 (List.replicate 5 (0 : Int))) rfl (by kernel_rfl) hp ?_
      intro g16 w hbg16 hp
      refine k_call [.agg (ints .u64 r14).toArray, .agg (ints .u64 r12).toArray] rfl (by kernel_rfl) (args2 rfl rfl) (field_Element_Times_ok r14 r12 lr140 lr120 _ (hp.toR (fun _ h => by cases h)) qr15) ?_
      rintro _ w' ⟨_, rfl, rfl, lr150, hpc⟩
      refine ⟨_, rfl, .inr (.of_below hpc.chg.to_below), ?_⟩; have hp := hp.below hpc.chg.to_below; clear hpc
      refine k_storeA (v := .agg (ints .u64 r15).toArray) 7 0 (r := ⟨g16, 0, ints .u64 (List.replicate 5 (0 : Int))⟩) (ints .u64 r15) (ints .u64 r15) rfl (n := 5) (by kernel_rfl) rfl rfl rfl ((ints_length _ _).trans lr150) (ints_one _ _) hp rfl rfl rfl (Nat.le_of_eq ((Nat.zero_add _).trans ((ints_length _ _).trans List.length_replicate).symm)) (setMany_all _ _ (((ints_length _ _).trans lr150).trans ((ints_length _ _).trans List.length_replicate).symm)) (by decide) ?_; intro w hp
      refine k_endI ?_; intro e141 qe141
      exact ⟨g16, lr150, (congrFun qe141 2).trans s2_e140, (congrFun qe141 3).trans s3_e140, (congrFun qe141 6).trans s6_e140, congrFun qe141 8, hp⟩
    refine k_alloc (ints .u64 (List.replicate 5 (0 : Int))) rfl (by kernel_rfl) hp ?_
    intro g16 w hbg16 hp
    refine k_call [.agg (ints .u64 r12).toArray, .int .i64 5] rfl (by kernel_rfl) (args2 rfl rfl) (field_Element_squared_ok k r12 5 lr120 _ (hp.toR (fun _ h => by cases h)) qr14) ?_
    rintro _ w' ⟨_, rfl, rfl, lr140, hpc⟩
    refine ⟨_, rfl, .inr (.of_below hpc.chg.to_below), ?_⟩; have hp := hp.below hpc.chg.to_below; clear hpc
    refine k_call [.agg (ints .u64 r14).toArray, .agg (ints .u64 r12).toArray] rfl (by kernel_rfl) (args2 rfl rfl) (field_Element_Times_ok r14 r12 lr140 lr120 _ (hp.toR (fun _ h => by cases h)) qr15) ?_
    rintro _ w' ⟨_, rfl, rfl, lr150, hpc⟩
    refine ⟨_, rfl, .inr (.of_below hpc.chg.to_below), ?_⟩; have hp := hp.below hpc.chg.to_below; clear hpc
    refine k_storeA (v := .agg (ints .u64 r15).toArray) 7 0 (r := ⟨g16, 0, ints .u64 (List.replicate 5 (0 : Int))⟩) (ints .u64 r15) (ints .u64 r15) rfl (n := 5) (by kernel_rfl) rfl rfl rfl ((ints_length _ _).trans lr150) (ints_one _ _) hp rfl rfl rfl (Nat.le_of_eq ((Nat.zero_add _).trans ((ints_length _ _).trans List.length_replicate).symm)) (setMany_all _ _ (((ints_length _ _).trans lr150).trans ((ints_length _ _).trans List.length_replicate).symm)) (by decide) ?_; intro w hp
    refine k_endI ?_; intro e141 qe141
    exact ⟨g16, lr150, (congrFun qe141 2).trans s2_e140, (congrFun qe141 3).trans s3_e140, (congrFun qe141 6).trans s6_e140, congrFun qe141 8, hp⟩
  rintro e141 w ⟨g16, lr150, s2_e141, s3_e141, s6_e141, s8_e141, hp⟩
  refine wseq rfl ?_
  obtain ⟨r17, qr17, h⟩ := bd_e h
  obtain ⟨r18, qr18, h⟩ := bd_e h
  refine wcut (fun e142 w2 => ∃ g19 : Nat, r18.length = 5 ∧ e142 2 = .pointer (some ⟨g2, 0, none⟩) ∧ e142 3 = .pointer (some ⟨g3, 0, none⟩) ∧ e142 6 = .pointer (some ⟨g10, 0, none⟩) ∧ e142 8 = .pointer (some ⟨g16, 0, none⟩) ∧ e142 9 = .pointer (some ⟨g19, 0, none⟩) ∧ Hp w0 [] w2 [⟨g1, 0, ints .u64 a0⟩, ⟨g2, 0, ints .u64 (List.replicate 5 (0 : Int))⟩, ⟨g3, 0, ints .u64 (List.replicate 5 (0 : Int))⟩, ⟨g5, 0, ints .u64 r4⟩, ⟨g8, 0, ints .u64 r7⟩, ⟨g10, 0, ints .u64 r9⟩, ⟨g13, 0, ints .u64 r12⟩, ⟨g16, 0, ints .u64 r15⟩, ⟨g19, 0, ints .u64 r18⟩] []) ?_ ?_
  rotate_left
  · refine wregion_m (.tk 0 (.tk 2 (.alt (.ef 1 (.alt (.ef 3 (.ef 4 (.ef 5 (.done)))) (.ef 4 (.ef 3 (.ef 5 (.done)))))) (.ef 4 (.ef 1 (.ef 3 (.ef 5 (.done)))))))) [5] [(0, 0, 0), (1, 63, 63), (0, 0, 0), (6, 63, 63), (0, 63, 63), (31, 63, 63)] rfl (by kernel_rfl) (by kernel_rfl) (Nat.le_of_ble_eq_true (by kernel_rfl)) (by kernel_rfl) (by kernel_rfl) ?_
    have hp := hp.drew
    refine k_loadA (n := 5) (xs := ints .u64 r15) 0 rfl (by kernel_rfl) (by kernel_rfl) s8_e141 (hp.get (j := 7) rfl) rfl rfl ((ints_length _ _).trans lr150) (fun m v hm => by rw [Nat.zero_add]; exact hm) ?_
    refine k_loadA (n := 5) (xs := ints .u64 r15) 0 rfl (by kernel_rfl) (by kernel_rfl) s8_e141 (hp.get (j := 7) rfl) rfl rfl ((ints_length _ _).trans lr150) (fun m v hm => by rw [Nat.zero_add]; exact hm) ?_
    refine k_alt ?_ ?_
    ·
      refine k_call [.agg (ints .u64 r15).toArray, .int .i64 10] rfl (by kernel_rfl) (args2 rfl rfl) (field_Element_squared_ok k r15 10 lr150 _ (hp.toR (fun _ h => by cases h)) qr17) ?_
      rintro _ w' ⟨_, rfl, rfl, lr170, hpc⟩
      refine ⟨_, rfl, .inr (.of_below hpc.chg.to_below), ?_⟩; have hp := hp.below hpc.chg.to_below; clear hpc
      refine k_alt ?_ ?_
      ·
        refine k_call [.agg (ints .u64 r17).toArray, .agg (ints .u64 r15).toArray] rfl (by kernel_rfl) (args2 rfl rfl) (field_Element_Times_ok r17 r15 lr170 lr150 _ (hp.toR (fun _ h => by cases h)) qr18) ?_
        rintro _ w' ⟨_, rfl, rfl, lr180, hpc⟩
        refine ⟨_, rfl, .inr (.of_below hpc.chg.to_below), ?_⟩; have hp := hp.below hpc.chg.to_below; clear hpc
        refine k_alloc (ints .u64 (List.replicate 5 (0 : Int))) rfl (by kernel_rfl) hp ?_
        intro g19 w hbg19 hp
        refine k_storeA (v := .agg (ints .u64 r18).toArray) 8 0 (r := ⟨g19, 0, ints .u64 (List.replicate 5 (0 : Int))⟩) (ints .u64 r18) (ints .u64 r18) rfl (n := 5) (by kernel_rfl) rfl rfl rfl ((ints_length _ _).trans lr180) (ints_one _ _) hp rfl rfl rfl (Nat.le_of_eq ((Nat.zero_add _).trans ((ints_length _ _).trans List.length_replicate).symm)) (setMany_all _ _ (((ints_length _ _).trans lr180).trans ((ints_length _ _).trans List.length_replicate).symm)) (by decide) ?_; intro w hp
        refine k_endI ?_; intro e142 qe142
        exact ⟨g19, lr180, (congrFun qe142 2).trans s2_e141, (congrFun qe142 3).trans s3_e141, (congrFun qe142 6).trans s6_e141, (congrFun qe142 8).trans s8_e141, congrFun qe142 9, hp⟩
      refine k_alloc (ints .u64 (List.replicate 5 (0 : Int))) rfl (by kernel_rfl) hp ?_
      intro g19 w hbg19 hp
      refine k_call [.agg (ints .u64 r17).toArray, .agg (ints .u64 r15).toArray] rfl (by kernel_rfl) (args2 rfl rfl) (field_Element_Times_ok r17 r15 lr170 lr150 _ (hp.toR (fun _ h => by cases h)) qr18) ?_
      rintro _ w' ⟨_, rfl, rfl, lr180, hpc⟩
      refine ⟨_, rfl, .inr (.of_below hpc.chg.to_below), ?_⟩; have hp := hp.below hpc.chg.to_below; clear hpc
      refine k_storeA (v := .agg (ints .u64 r18).toArray) 8 0 (r := ⟨g19, 0, ints .u64 (List.replicate 5 (0 : Int))⟩) (ints .u64 r18) (ints .u64 r18) rfl (n := 5) (by kernel_rfl) rfl rfl rfl ((ints_length _ _).trans lr180) (ints_one _ _) hp rfl rfl rfl (Nat.le_of_eq ((Nat.zero_add _).trans ((ints_length _ _).trans List.length_replicate).symm)) (setMany_all _ _ (((ints_length _ _).trans lr180).trans ((ints_length _ _).trans List.length_replicate).symm)) (by decide) ?_; intro w hp
      refine k_endI ?_; intro e142 qe142
      exact ⟨g19, lr180, (congrFun qe142 2).trans s2_e141, (congrFun qe142 3).trans s3_e141, (congrFun qe142 6).trans s6_e141, (congrFun qe142 8).trans s8_e141, congrFun qe142 9, hp⟩
    refine k_alloc (ints .u64 (List.replicate 5 (0 : Int))) rfl (by kernel_rfl) hp ?_
    intro g19 w hbg19 hp
    refine k_call [.agg (ints .u64 r15).toArray, .int .i64 10] rfl (by kernel_rfl) (args2 rfl rfl) (field_Element_squared_ok k r15 10 lr150 _ (hp.toR (fun _ h => by cases h)) qr17) ?_
    rintro _ w' ⟨_, rfl, rfl, lr170, hpc⟩
    refine ⟨_, rfl, .inr (.of_below hpc.chg.to_below), ?_⟩; have hp := hp.below hpc.chg.to_below; clear hpc
    refine k_call [.agg (ints .u64 r17).toArray, .agg (ints .u64 r15).toArray] rfl (by kernel_rfl) (args2 rfl rfl) (field_Element_Times_ok r17 r15 lr170 lr150 _ (hp.toR (fun _ h => by cases h)) qr18) ?_
    rintro _ w' ⟨_, rfl, rfl, lr180, hpc⟩
    refine ⟨_, rfl, .inr (.of_below hpc.chg.to_below), ?_⟩; have hp := hp.below hpc.chg.to_below; clear hpc
    refine k_storeA (v := .agg (ints .u64 r18).toArray) 8 0 (r := ⟨g19, 0, ints .u64 (List.replicate 5 (0 : Int))⟩) (ints .u64 r18) (ints .u64 r18) rfl (n := 5) (by kernel_rfl) rfl rfl rfl ((ints_length _ _).trans lr180) (ints_one _ _) hp rfl rfl rfl (Nat.le_of_eq ((Nat.zero_add _).trans ((ints_length _ _).trans List.length_replicate).symm)) (setMany_all _ _ (((ints_length _ _).trans lr180).trans ((ints_length _ _).trans List.length_replicate).symm)) (by decide) ?_; intro w hp
    refine k_endI ?_; intro e142 qe142
    exact ⟨g19, lr180, (congrFun qe142 2).trans s2_e141, (congrFun qe142 3).trans s3_e141, (congrFun qe142 6).trans s6_e141, (congrFun qe142 8).trans s8_e141, congrFun qe142 9, hp⟩
  rintro e142 w ⟨g19, lr180, s2_e142, s3_e142, s6_e142, s8_e142, s9_e142, hp⟩
  refine wseq rfl ?_
  obtain ⟨r20, qr20, h⟩ := bd_e h
  obtain ⟨r21, qr21, h⟩ := bd_e h
  refine wcut (fun e143 w2 => ∃ g22 : Nat, r21.length = 5 ∧ e143 2 = .pointer (some ⟨g2, 0, none⟩) ∧ e143 3 = .pointer (some ⟨g3, 0, none⟩) ∧ e143 6 = .pointer (some ⟨g10, 0, none⟩) ∧ e143 8 = .pointer (some ⟨g16, 0, none⟩) ∧ e143 10 = .pointer (some ⟨g22, 0, none⟩) ∧ Hp w0 [] w2 [⟨g1, 0, ints .u64 a0⟩, ⟨g2, 0, ints .u64 (List.replicate 5 (0 : Int))⟩, ⟨g3, 0, ints .u64 (List.replicate 5 (0 : Int))⟩, ⟨g5, 0, ints .u64 r4⟩, ⟨g8, 0, ints .u64 r7⟩, ⟨g10, 0, ints .u64 r9⟩, ⟨g13, 0, ints .u64 r12⟩, ⟨g16, 0, ints .u64 r15⟩, ⟨g19, 0, ints .u64 r18⟩, ⟨g22, 0, ints .u64 r21⟩] []) ?_ ?_
  rotate_left
  · refine wregion_m (.tk 0 (.tk 2 (.alt (.ef 1 (.alt (.ef 3 (.ef 4 (.ef 5 (.done)))) (.ef 4 (.ef 3 (.ef 5 (.done)))))) (.ef 4 (.ef 1 (.ef 3 (.ef 5 (.done)))))))) [5] [(0, 0, 0), (1, 63, 63), (0, 0, 0), (6, 63, 63), (0, 63, 63), (31, 63, 63)] rfl (by kernel_rfl) (by kernel_rfl) (Nat.le_of_ble_eq_true (by kernel_rfl)) (by kernel_rfl) (by kernel_rfl) ?_
    have hp := hp.drew
    refine k_loadA (n := 5) (xs := ints .u64 r18) 0 rfl (by kernel_rfl) (by kernel_rfl) s9_e142 (hp.get (j := 8) rfl) rfl rfl ((ints_length _ _).trans lr180) (fun m v hm => by rw [Nat.zero_add]; exact hm) ?_
    refine k_loadA (n := 5) (xs := ints .u64 r18) 0 rfl (by kernel_rfl) (by kernel_rfl) s9_e142 (hp.get (j := 8) rfl) rfl rfl ((ints_length _ _).trans lr180) (fun m v hm => by rw [Nat.zero_add]; exact hm) ?_
    refine k_alt ?_ ?_
    ·
      refine k_call [.agg (ints .u64 r18).toArray, .int .i64 20] rfl (by kernel_rfl) (args2 rfl rfl) (field_Element_squared_ok k r18 20 lr180 _ (hp.toR (fun _ h => by cases h)) qr20) ?_
      rintro _ w' ⟨_, rfl, rfl, lr200, hpc⟩
      refine ⟨_, rfl, .inr (.of_below hpc.chg.to_below), ?_⟩; have hp := hp.below hpc.chg.to_below; clear hpc
      refine k_alt ?_ ?_
      ·
        refine k_call [.agg (ints .u64 r20).toArray, .agg (ints .u64 r18).toArray] rfl (by kernel_rfl) (args2 rfl rfl) (field_Element_Times_ok r20 r18 lr200 lr180 _ (hp.toR (fun _ h => by cases h)) qr21) ?_
        rintro _ w' ⟨_, rfl, rfl, lr210, hpc⟩
        refine ⟨_, rfl, .inr (.of_below hpc.chg.to_below), ?_⟩; have hp := hp.below hpc.chg.to_below; clear hpc
        refine k_alloc (ints .u64 (List.replicate 5 (0 : Int))) rfl (by kernel_rfl) hp ?_
        intro g22 w hbg22 hp
        refine k_storeA (v := .agg (ints .u64 r21).toArray) 9 0 (r := ⟨g22, 0, ints .u64 (List.replicate 5 (0 : Int))⟩) (ints .u64 r21) (ints .u64 r21) rfl (n := 5) (by kernel_rfl) rfl rfl rfl ((ints_length _ _).trans lr210) (ints_one _ _) hp rfl rfl rfl (Nat.le_of_eq ((Nat.zero_add _).trans ((ints_length _ _).trans List.length_replicate).symm)) (setMany_all _ _ (((ints_length _ _).trans lr210).trans ((ints_length _ _).trans List.length_replicate).symm)) (by decide) ?_; intro w hp
        refine k_endI ?_; intro e143 qe143
        exact ⟨g22, lr210, (congrFun qe143 2).trans s2_e142, (congrFun qe143 3).trans s3_e142, (congrFun qe143 6).trans s6_e142, (congrFun qe143 8).trans s8_e142, congrFun qe143 10, hp⟩
      refine k_alloc (ints .u64 (List.replicate 5 (0 : Int))) rfl (by kernel_rfl) hp ?_
      intro g22 w hbg22 hp
      refine k_call [.agg (ints .u64 r20).toArray, .agg (ints .u64 r18).toArray] rfl (by kernel_rfl) (args2 rfl rfl) (field_Element_Times_ok r20 r18 lr200 lr180 _ (hp.toR (fun _ h => by cases h)) qr21) ?_
      rintro _ w' ⟨_, rfl, rfl, lr210, hpc⟩
      refine ⟨_, rfl, .inr (.of_below hpc.chg.to_below), ?_⟩; have hp := hp.below hpc.chg.to_below; clear hpc
      refine k_storeA (v := .agg (ints .u64 r21).toArray) 9 0 (r := ⟨g22, 0, ints .u64 (List.replicate 5 (0 : Int))⟩) (ints .u64 r21) (ints .u64 r21) rfl (n := 5) (by kernel_rfl) rfl rfl rfl ((ints_length _ _).trans lr210) (ints_one _ _) hp rfl rfl rfl (Nat.le_of_eq ((Nat.zero_add _).trans ((ints_length _ _).trans List.length_replicate).symm)) (setMany_all _ _ (((ints_length _ _).trans lr210).trans ((ints_length _ _).trans List.length_replicate).symm)) (by decide) ?_; intro w hp
      refine k_endI ?_; intro e143 qe143
      exact ⟨g22, lr210, (congrFun qe143 2).trans s2_e142, (congrFun qe143 3).trans s3_e142, (congrFun qe143 6).trans s6_e142, (congrFun qe143 8).trans s8_e142, congrFun qe143 10, hp⟩
    refine k_alloc (ints .u64 (List.replicate 5 (0 : Int))) rfl (by kernel_rfl) hp ?_
    intro g22 w hbg22 hp
    refine k_call [.agg (ints .u64 r18).toArray, .int .i64 20] rfl (by kernel_rfl) (args2 rfl rfl) (field_Element_squared_ok k r18 20 lr180 _ (hp.toR (fun _ h => by cases h)) qr20) ?_
    rintro _ w' ⟨_, rfl, rfl, lr200, hpc⟩
    refine ⟨_, rfl, .inr (.of_below hpc.chg.to_below), ?_⟩; have hp := hp.below hpc.chg.to_below; clear hpc
    refine k_call [.agg (ints .u64 r20).toArray, .agg (ints .u64 r18).toArray] rfl (by kernel_rfl) (args2 rfl rfl) (field_Element_Times_ok r20 r18 lr200 lr180 _ (hp.toR (fun _ h => by cases h)) qr21) ?_
    rintro _ w' ⟨_, rfl, rfl, lr210, hpc⟩
    refine ⟨_, rfl, .inr (.of_below hpc.chg.to_below), ?_⟩; have hp := hp.below hpc.chg.to_below; clear hpc
    refine k_storeA (v := .agg (ints .u64 r21).toArray) 9 0 (r := ⟨g22, 0, ints .u64 (List.replicate 5 (0 : Int))⟩) (ints .u64 r21) (ints .u64 r21) rfl (n := 5) (by kernel_rfl) rfl rfl rfl ((ints_length _ _).trans lr210) (ints_one _ _) hp rfl rfl rfl (Nat.le_of_eq ((Nat.zero_add _).trans ((ints_length _ _).trans List.length_replicate).symm)) (setMany_all _ _ (((ints_length _ _).trans lr210).trans ((ints_length _ _).trans List.length_replicate).symm)) (by decide) ?_; intro w hp
    refine k_endI ?_; intro e143 qe143
    exact ⟨g22, lr210, (congrFun qe143 2).trans s2_e142, (congrFun qe143 3).trans s3_e142, (congrFun qe143 6).trans s6_e142, (congrFun qe143 8).trans s8_e142, congrFun qe143 10, hp⟩
  rintro e143 w ⟨g22, lr210, s2_e143, s3_e143, s6_e143, s8_e143, s10_e143, hp⟩
  refine wseq rfl ?_
  obtain ⟨r23, qr23, h⟩ := bd_e h
  obtain ⟨r24, qr24, h⟩ := bd_e h
  refine wcut (fun e144 w2 => ∃ g25 : Nat, r24.length = 5 ∧ e144 2 = .pointer (some ⟨g2, 0, none⟩) ∧ e144 3 = .pointer (some ⟨g3, 0, none⟩) ∧ e144 6 = .pointer (some ⟨g10, 0, none⟩) ∧ e144 11 = .pointer (some ⟨g25, 0, none⟩) ∧ Hp w0 [] w2 [⟨g1, 0, ints .u64 a0⟩, ⟨g2, 0, ints .u64 (List.replicate 5 (0 : Int))⟩, ⟨g3, 0, ints .u64 (List.replicate 5 (0 : Int))⟩, ⟨g5, 0, ints .u64 r4⟩, ⟨g8, 0, ints .u64 r7⟩, ⟨g10, 0, ints .u64 r9⟩, ⟨g13, 0, ints .u64 r12⟩, ⟨g16, 0, ints .u64 r15⟩, ⟨g19, 0, ints .u64 r18⟩, ⟨g22, 0, ints .u64 r21⟩, ⟨g25, 0, ints .u64 r24⟩] []) ?_ ?_
  rotate_left
  · refine wregion_m (.tk 0 (.tk 2 (.alt (.ef 1 (.alt (.ef 3 (.ef 4 (.ef 5 (.done)))) (.ef 4 (.ef 3 (.ef 5 (.done)))))) (.ef 4 (.ef 1 (.ef 3 (.ef 5 (.done)))))))) [5] [(0, 0, 0), (1, 63, 63), (0, 0, 0), (6, 63, 63), (0, 63, 63), (31, 63, 63)] rfl (by kernel_rfl) (by kernel_rfl) (Nat.le_of_ble_eq_true (by kernel_rfl)) (by kernel_rfl) (by kernel_rfl) ?_
    have hp := hp.drew
    refine k_loadA (n := 5) (xs := ints .u64 r21) 0 rfl (by kernel_rfl) (by kernel_rfl) s10_e143 (hp.get (j := 9) rfl) rfl rfl ((ints_length _ _).trans lr210) (fun m v hm => by rw [Nat.zero_add]; exact hm) ?_
    refine k_loadA (n := 5) (xs := ints .u64 r15) 0 rfl (by kernel_rfl) (by kernel_rfl) s8_e143 (hp.get (j := 7) rfl) rfl rfl ((ints_length _ _).trans lr150) (fun m v hm => by rw [Nat.zero_add]; exact hm) ?_
    refine k_alt ?_ ?_
    ·
      refine k_call [.agg (ints .u64 r21).toArray, .int .i64 10] rfl (by kernel_rfl) (args2 rfl rfl) (field_Element_squared_ok k r21 10 lr210 _ (hp.toR (fun _ h => by cases h)) qr23) ?_
      rintro _ w' ⟨_, rfl, rfl, lr230, hpc⟩
      refine ⟨_, rfl, .inr (.of_below hpc.chg.to_below), ?_⟩; have hp := hp.below hpc.chg.to_below; clear hpc
      refine k_alt ?_ ?_
      ·
        refine k_call [.agg (ints .u64 r23).toArray, .agg (ints .u64 r15).toArray] rfl (by kernel_rfl) (args2 rfl rfl) (field_Element_Times_ok r23 r15 lr230 lr150 _ (hp.toR (fun _ h => by cases h)) qr24) ?_
        rintro _ w' ⟨_, rfl, rfl, lr240, hpc⟩
        refine ⟨_, rfl, .inr (.of_below hpc.chg.to_below), ?_⟩; have hp := hp.below hpc.chg.to_below; clear hpc
        refine k_alloc (ints .u64 (List.replicate 5 (0 : Int))) rfl (by kernel_rfl) hp ?_
        intro g25 w hbg25 hp
        refine k_storeA (v := .agg (ints .u64 r24).toArray) 10 0 (r := ⟨g25, 0, ints .u64 (List.replicate 5 (0 : Int))⟩) (ints .u64 r24) (ints .u64 r24) rfl (n := 5) (by kernel_rfl) rfl rfl rfl ((ints_length _ _).trans lr240) (ints_one _ _) hp rfl rfl rfl (Nat.le_of_eq ((Nat.zero_add _).trans ((ints_length _ _).trans List.length_replicate).symm)) (setMany_all _ _ (((ints_length _ _).trans lr240).trans ((ints_length _ _).trans List.length_replicate).symm)) (by decide) ?_; intro w hp
        refine k_endI ?_; intro e144 qe144
        exact ⟨g25, lr240, (congrFun qe144 2).trans s2_e143, (congrFun qe144 3).trans s3_e143, (congrFun qe144 6).trans s6_e143, congrFun qe144 11, hp⟩
      refine k_alloc (ints .u64 (List.replicate 5 (0 : Int))) rfl (by kernel_rfl) hp ?_
      intro g25 w hbg25 hp
      refine k_call [.agg (ints .u64 r23).toArray, .agg (ints .u64 r15).toArray] rfl (by kernel_rfl) (args2 rfl rfl) (field_Element_Times_ok r23 r15 lr230 lr150 _ (hp.toR (fun _ h => by cases h)) qr24) ?_
      rintro _ w' ⟨_, rfl, rfl, lr240, hpc⟩
      refine ⟨_, rfl, .inr (.of_below hpc.chg.to_below), ?_⟩; have hp := hp.below hpc.chg.to_below; clear hpc
      refine k_storeA (v := .agg (ints .u64 r24).toArray) 10 0 (r := ⟨g25, 0, ints .u64 (List.replicate 5 (0 : Int))⟩) (ints .u64 r24) (ints .u64 r24) rfl (n := 5) (by kernel_rfl) rfl rfl rfl ((ints_length _ _).trans lr240) (ints_one _ _) hp rfl rfl rfl (Nat.le_of_eq ((Nat.zero_add _).trans ((ints_length _ _).trans List.length_replicate).symm)) (setMany_all _ _ (((ints_length _ _).trans lr240).trans ((ints_length _ _).trans List.length_replicate).symm)) (by decide) ?_; intro w hp
      refine k_endI ?_; intro e144 qe144
      exact ⟨g25, lr240, (congrFun qe144 2).trans s2_e143, (congrFun qe144 3).trans s3_e143, (congrFun qe144 6).trans s6_e143, congrFun qe144 11, hp⟩
    refine k_alloc (ints .u64 (List.replicate 5 (0 : Int))) rfl (by kernel_rfl) hp ?_
    intro g25 w hbg25 hp
    refine k_call [.agg (ints .u64 r21).toArray, .int .i64 10] rfl (by kernel_rfl) (args2 rfl rfl) (field_Element_squared_ok k r21 10 lr210 _ (hp.toR (fun _ h => by cases h)) qr23) ?_
    rintro _ w' ⟨_, rfl, rfl, lr230, hpc⟩
    refine ⟨_, rfl, .inr (.of_below hpc.chg.to_below), ?_⟩; have hp := hp.below hpc.chg.to_below; clear hpc
    refine k_call [.agg (ints .u64 r23).toArray, .agg (ints .u64 r15).toArray] rfl (by kernel_rfl) (args2 rfl rfl) (field_Element_Times_ok r23 r15 lr230 lr150 _ (hp.toR (fun _ h => by cases h)) qr24) ?_
    rintro _ w' ⟨_, rfl, rfl, lr240, hpc⟩
    refine ⟨_, rfl, .inr (.of_below hpc.chg.to_below), ?_⟩; have hp := hp.below hpc.chg.to_below; clear hpc
    refine k_storeA (v := .agg (ints .u64 r24).toArray) 10 0 (r := ⟨g25, 0, ints .u64 (List.replicate 5 (0 : Int))⟩) (ints .u64 r24) (ints .u64 r24) rfl (n := 5) (by kernel_rfl) rfl rfl rfl ((ints_length _ _).trans lr240) (ints_one _ _) hp rfl rfl rfl (Nat.le_of_eq ((Nat.zero_add _).trans ((ints_length _ _).trans List.length_replicate).symm)) (setMany_all _ _ (((ints_length _ _).trans lr240).trans ((ints_length _ _).trans List.length_replicate).symm)) (by decide) ?_; intro w hp
    refine k_endI ?_; intro e144 qe144
    exact ⟨g25, lr240, (congrFun qe144 2).trans s2_e143, (congrFun qe144 3).trans s3_e143, (congrFun qe144 6).trans s6_e143, congrFun qe144 11, hp⟩
  rintro e144 w ⟨g25, lr240, s2_e144, s3_e144, s6_e144, s11_e144, hp⟩
  refine wseq rfl ?_
  obtain ⟨r26, qr26, h⟩ := bd_e h
  obtain ⟨r27, qr27, h⟩ := bd_e h
  refine wcut (fun e145 w2 => ∃ g28 : Nat, r27.length = 5 ∧ e145 2 = .pointer (some ⟨g2, 0, none⟩) ∧ e145 3 = .pointer (some ⟨g3, 0, none⟩) ∧ e145 6 = .pointer (some ⟨g10, 0, none⟩) ∧ e145 11 = .pointer (some ⟨g25, 0, none⟩) ∧ e145 12 = .pointer (some ⟨g28, 0, none⟩) ∧ Hp w0 [] w2 [⟨g1, 0, ints .u64 a0⟩, ⟨g2, 0, ints .u64 (List.replicate 5 (0 : Int))⟩, ⟨g3, 0, ints .u64 (List.replicate 5 (0 : Int))⟩, ⟨g5, 0, ints .u64 r4⟩, ⟨g8, 0, ints .u64 r7⟩, ⟨g10, 0, ints .u64 r9⟩, ⟨g13, 0, ints .u64 r12⟩, ⟨g16, 0, ints .u64 r15⟩, ⟨g19, 0, ints .u64 r18⟩, ⟨g22, 0, ints .u64 r21⟩, ⟨g25, 0, ints .u64 r24⟩, ⟨g28, 0, ints .u64 r27⟩] []) ?_ ?_
  rotate_left
  · refine wregion_m (.tk 0 (.tk 2 (.alt (.ef 1 (.alt (.ef 3 (.ef 4 (.ef 5 (.done)))) (.ef 4 (.ef 3 (.ef 5 (.done)))))) (.ef 4 (.ef 1 (.ef 3 (.ef 5 (.done)))))))) [5] [(0, 0, 0), (1, 63, 63), (0, 0, 0), (6, 63, 63), (0, 63, 63), (31, 63, 63)] rfl (by kernel_rfl) (by kernel_rfl) (Nat.le_of_ble_eq_true (by kernel_rfl)) (by kernel_rfl) (by kernel_rfl) ?_
    have hp := hp.drew
    refine k_loadA (n := 5) (xs := ints .u64 r24) 0 rfl (by kernel_rfl) (by kernel_rfl) s11_e144 (hp.get (j := 10) rfl) rfl rfl ((ints_length _ _).trans lr240) (fun m v hm => by rw [Nat.zero_add]; exact hm) ?_
    refine k_loadA (n := 5) (xs := ints .u64 r24) 0 rfl (by kernel_rfl) (by kernel_rfl) s11_e144 (hp.get (j := 10) rfl) rfl rfl ((ints_length _ _).trans lr240) (fun m v hm => by rw [Nat.zero_add]; exact hm) ?_
    refine k_alt ?_ ?_
    ·
      refine k_call [.agg (ints .u64 r24).toArray, .int .i64 50] rfl (by kernel_rfl) (args2 rfl rfl) (field_Element_squared_ok k r24 50 lr240 _ (hp.toR (fun _ h => by cases h)) qr26) ?_
      rintro _ w' ⟨_, rfl, rfl, lr260, hpc⟩
      refine ⟨_, rfl, .inr (.of_below hpc.chg.to_below), ?_⟩; have hp := hp.below hpc.chg.to_below; clear hpc
      refine k_alt ?_ ?_
      ·
        refine k_call [.agg (ints .u64 r26).toArray, .agg (ints .u64 r24).toArray] rfl (by kernel_rfl) (args2 rfl rfl) (field_Element_Times_ok r26 r24 lr260 lr240 _ (hp.toR (fun _ h => by cases h)) qr27) ?_
        rintro _ w' ⟨_, rfl, rfl, lr270, hpc⟩
        refine ⟨_, rfl, .inr (.of_below hpc.chg.to_below), ?_⟩; have hp := hp.below hpc.chg.to_below; clear hpc
        refine k_alloc (ints .u64 (List.replicate 5 (0 : Int))) rfl (by kernel_rfl) hp ?_
        intro g28 w hbg28 hp
        refine k_storeA (v := .agg (ints .u64 r27).toArray) 11 0 (r := ⟨g28, 0, ints .u64 (List.replicate 5 (0 : Int))⟩) (ints .u64 r27) (ints .u64 r27) rfl (n := 5) (by kernel_rfl) rfl rfl rfl ((ints_length _ _).trans lr270) (ints_one _ _) hp rfl rfl rfl (Nat.le_of_eq ((Nat.zero_add _).trans ((ints_length _ _).trans List.length_replicate).symm)) (setMany_all _ _ (((ints_length _ _).trans lr270).trans ((ints_length _ _).trans List.length_replicate).symm)) (by decide) ?_; intro w hp
        refine k_endI ?_; intro e145 qe145
        exact ⟨g28, lr270, (congrFun qe145 2).trans s2_e144, (congrFun qe145 3).trans s3_e144, (congrFun qe145 6).trans s6_e144, (congrFun qe145 11).trans s11_e144, congrFun qe145 12, hp⟩
      refine k_alloc (ints .u64 (List.replicate 5 (0 : Int))) rfl (by kernel_rfl) hp ?_
      intro g28 w hbg28 hp
      refine k_call [.agg (ints .u64 r26).toArray, .agg (ints .u64 r24).toArray] rfl (by kernel_rfl) (args2 rfl rfl) (field_Element_Times_ok r26 r24 lr260 lr240 _ (hp.toR (fun _ h => by cases h)) qr27) ?_
      rintro _ w' ⟨_, rfl, rfl, lr270, hpc⟩
      refine ⟨_, rfl, .inr (.of_below hpc.chg.to_below), ?_⟩; have hp := hp.below hpc.chg.to_below; clear hpc
      refine k_storeA (v := .agg (ints .u64 r27).toArray) 11 0 (r := ⟨g28, 0, ints .u64 (List.replicate 5 (0 : Int))⟩) (ints .u64 r27) (ints .u64 r27) rfl (n := 5) (by kernel_rfl) rfl rfl rfl ((ints_length _ _).trans lr270) (ints_one _ _) hp rfl rfl rfl (Nat.le_of_eq ((Nat.zero_add _).trans ((ints_length _ _).trans List.length_replicate).symm)) (setMany_all _ _ (((ints_length _ _).trans lr270).trans ((ints_length _ _).trans List.length_replicate).symm)) (by decide) ?_; intro w hp
      refine k_endI ?_; intro e145 qe145
      exact ⟨g28, lr270, (congrFun qe145 2).trans s2_e144, (congrFun qe145 3).trans s3_e144, (congrFun qe145 6).trans s6_e144, (congrFun qe145 11).trans s11_e144, congrFun qe145 12, hp⟩
    refine k_alloc (ints .u64 (List.replicate 5 (0 : Int))) rfl (by kernel_rfl) hp ?_
    intro g28 w hbg28 hp
    refine k_call [.agg (ints .u64 r24).toArray, .int .i64 50] rfl (by kernel_rfl) (args2 rfl rfl) (field_Element_squared_ok k r24 50 lr240 _ (hp.toR (fun _ h => by cases h)) qr26) ?_
    rintro _ w' ⟨_, rfl, rfl, lr260, hpc⟩
    refine ⟨_, rfl, .inr (.of_below hpc.chg.to_below), ?_⟩; have hp := hp.below hpc.chg.to_below; clear hpc
    refine k_call [.agg (ints .u64 r26).toArray, .agg (ints .u64 r24).toArray] rfl (by kernel_rfl) (args2 rfl rfl) (field_Element_Times_ok r26 r24 lr260 lr240 _ (hp.toR (fun _ h => by cases h)) qr27) ?_
    rintro _ w' ⟨_, rfl, rfl, lr270, hpc⟩
    refine ⟨_, rfl, .inr (.of_below hpc.chg.to_below), ?_⟩; have hp := hp.below hpc.chg.to_below; clear hpc
    refine k_storeA (v := .agg (ints .u64 r27).toArray) 11 0 (r := ⟨g28, 0, ints .u64 (List.replicate 5 (0 : Int))⟩) (ints .u64 r27) (ints .u64 r27) rfl (n := 5) (by kernel_rfl) rfl rfl rfl ((ints_length _ _).trans lr270) (ints_one _ _) hp rfl rfl rfl (Nat.le_of_eq ((Nat.zero_add _).trans ((ints_length _ _).trans List.length_replicate).symm)) (setMany_all _ _ (((ints_length _ _).trans lr270).trans ((ints_length _ _).trans List.length_replicate).symm)) (by decide) ?_; intro w hp
    refine k_endI ?_; intro e145 qe145
    exact ⟨g28, lr270, (congrFun qe145 2).trans s2_e144, (congrFun qe145 3).trans s3_e144, (congrFun qe145 6).trans s6_e144, (congrFun qe145 11).trans s11_e144, congrFun qe145 12, hp⟩
  rintro e145 w ⟨g28, lr270, s2_e145, s3_e145, s6_e145, s11_e145, s12_e145, hp⟩
  refine wseq rfl ?_
  obtain ⟨r29, qr29, h⟩ := bd_e h
  obtain ⟨r30, qr30, h⟩ := bd_e h
  refine wcut (fun e146 w2 => ∃ g31 : Nat, r30.length = 5 ∧ e146 2 = .pointer (some ⟨g2, 0, none⟩) ∧ e146 3 = .pointer (some ⟨g3, 0, none⟩) ∧ e146 6 = .pointer (some ⟨g10, 0, none⟩) ∧ e146 11 = .pointer (some ⟨g25, 0, none⟩) ∧ e146 13 = .pointer (some ⟨g31, 0, none⟩) ∧ Hp w0 [] w2 [⟨g1, 0, ints .u64 a0⟩, ⟨g2, 0, ints .u64 (List.replicate 5 (0 : Int))⟩, ⟨g3, 0, ints .u64 (List.replicate 5 (0 : Int))⟩, ⟨g5, 0, ints .u64 r4⟩, ⟨g8, 0, ints .u64 r7⟩, ⟨g10, 0, ints .u64 r9⟩, ⟨g13, 0, ints .u64 r12⟩, ⟨g16, 0, ints .u64 r15⟩, ⟨g19, 0, ints .u64 r18⟩, ⟨g22, 0, ints .u64 r21⟩, ⟨g25, 0, ints .u64 r24⟩, ⟨g28, 0, ints .u64 r27⟩, ⟨g31, 0, ints .u64 r30⟩] []) ?_ ?_
  rotate_left
  · refine wregion_m (.tk 0 (.tk 2 (.alt (.ef 1 (.alt (.ef 3 (.ef 4 (.ef 5 (.done)))) (.ef 4 (.ef 3 (.ef 5 (.done)))))) (.ef 4 (.ef 1 (.ef 3 (.ef 5 (.done)))))))) [5] [(0, 0, 0), (1, 63, 63), (0, 0, 0), (6, 63, 63), (0, 63, 63), (31, 63, 63)] rfl (by kernel_rfl) (by kernel_rfl) (Nat.le_of_ble_eq_true (by kernel_rfl)) (by kernel_rfl) (by kernel_rfl) ?_
    have hp := hp.drew
    refine k_loadA (n := 5) (xs := ints .u64 r27) 0 rfl (by kernel_rfl) (by kernel_rfl) s12_e145 (hp.get (j := 11) rfl) rfl rfl ((ints_length _ _).trans lr270) (fun m v hm => by rw [Nat.zero_add]; exact hm) ?_
    refine k_loadA (n := 5) (xs := ints .u64 r27) 0 rfl (by kernel_rfl) (by kernel_rfl) s12_e145 (hp.get (j := 11) rfl) rfl rfl ((ints_length _ _).trans lr270) (fun m v hm => by rw [Nat.zero_add]; exact hm) ?_
    refine k_alt ?_ ?_
    ·
      refine k_call [.agg (ints .u64 r27).toArray, .int .i64 100] rfl (by kernel_rfl) (args2 rfl rfl) (field_Element_squared_ok k r27 100 lr270 _ (hp.toR (fun _ h => by cases h)) qr29) ?_
      rintro _ w' ⟨_, rfl, rfl, lr290, hpc⟩
      refine ⟨_, rfl, .inr (.of_below hpc.chg.to_below), ?_⟩; have hp := hp.below hpc.chg.to_below; clear hpc
      refine k_alt ?_ ?_
      ·
        refine k_call [.agg (ints .u64 r29).toArray, .agg (ints .u64 r27).toArray] rfl (by kernel_rfl) (args2 rfl rfl) (field_Element_Times_ok r29 r27 lr290 lr270 _ (hp.toR (fun _ h => by cases h)) qr30) ?_
        rintro _ w' ⟨_, rfl, rfl, lr300, hpc⟩
        refine ⟨_, rfl, .inr (.of_below hpc.chg.to_below), ?_⟩; have hp := hp.below hpc.chg.to_below; clear hpc
        refine k_alloc (ints .u64 (List.replicate 5 (0 : Int))) rfl (by kernel_rfl) hp ?_
        intro g31 w hbg31 hp
        refine k_storeA (v := .agg (ints .u64 r30).toArray) 12 0 (r := ⟨g31, 0, ints .u64 (List.replicate 5 (0 : Int))⟩) (ints .u64 r30) (ints .u64 r30) rfl (n := 5) (by kernel_rfl) rfl rfl rfl ((ints_length _ _).trans lr300) (ints_one _ _) hp rfl rfl rfl (Nat.le_of_eq ((Nat.zero_add _).trans ((ints_length _ _).trans List.length_replicate).symm)) (setMany_all _ _ (((ints_length _ _).trans lr300).trans ((ints_length _ _).trans List.length_replicate).symm)) (by decide) ?_; intro w hp
        refine k_endI ?_; intro e146 qe146
        exact ⟨g31, lr300, (congrFun qe146 2).trans s2_e145, (congrFun qe146 3).trans s3_e145, (congrFun qe146 6).trans s6_e145, (congrFun qe146 11).trans s11_e145, congrFun qe146 13, hp⟩
      refine k_alloc (ints .u64 (List.replicate 5 (0 : Int))) rfl (by kernel_rfl) hp ?_
      intro g31 w hbg31 hp
      refine k_call [.agg (ints .u64 r29).toArray, .agg (ints .u64 r27).toArray] rfl (by kernel_rfl) (args2 rfl rfl) (field_Element_Times_ok r29 r27 lr290 lr270 _ (hp.toR (fun _ h => by cases h)) qr30) ?_
      rintro _ w' ⟨_, rfl, rfl, lr300, hpc⟩
      refine ⟨_, rfl, .inr (.of_below hpc.chg.to_below), ?_⟩; have hp := hp.below hpc.chg.to_below; clear hpc
      refine k_storeA (v := .agg (ints .u64 r30).toArray) 12 0 (r := ⟨g31, 0, ints .u64 (List.replicate 5 (0 : Int))⟩) (ints .u64 r30) (ints .u64 r30) rfl (n := 5) (by kernel_rfl) rfl rfl rfl ((ints_length _ _).trans lr300) (ints_one _ _) hp rfl rfl rfl (Nat.le_of_eq ((Nat.zero_add _).trans ((ints_length _ _).trans List.length_replicate).symm)) (setMany_all _ _ (((ints_length _ _).trans lr300).trans ((ints_length _ _).trans List.length_replicate).symm)) (by decide) ?_; intro w hp
      refine k_endI ?_; intro e146 qe146
      exact ⟨g31, lr300, (congrFun qe146 2).trans s2_e145, (congrFun qe146 3).trans s3_e145, (congrFun qe146 6).trans s6_e145, (congrFun qe146 11).trans s11_e145, congrFun qe146 13, hp⟩
    refine k_alloc (ints .u64 (List.replicate 5 (0 : Int))) rfl (by kernel_rfl) hp ?_
    intro g31 w hbg31 hp
    refine k_call [.agg (ints .u64 r27).toArray, .int .i64 100] rfl (by kernel_rfl) (args2 rfl rfl) (field_Element_squared_ok k r27 100 lr270 _ (hp.toR (fun _ h => by cases h)) qr29) ?_
    rintro _ w' ⟨_, rfl, rfl, lr290, hpc⟩
    refine ⟨_, rfl, .inr (.of_below hpc.chg.to_below), ?_⟩; have hp := hp.below hpc.chg.to_below; clear hpc
    refine k_call [.agg (ints .u64 r29).toArray, .agg (ints .u64 r27).toArray] rfl (by kernel_rfl) (args2 rfl rfl) (field_Element_Times_ok r29 r27 lr290 lr270 _ (hp.toR (fun _ h => by cases h)) qr30) ?_
    rintro _ w' ⟨_, rfl, rfl, lr300, hpc⟩
    refine ⟨_, rfl, .inr (.of_below hpc.chg.to_below), ?_⟩; have hp := hp.below hpc.chg.to_below; clear hpc
    refine k_storeA (v := .agg (ints .u64 r30).toArray) 12 0 (r := ⟨g31, 0, ints .u64 (List.replicate 5 (0 : Int))⟩) (ints .u64 r30) (ints .u64 r30) rfl (n := 5) (by kernel_rfl) rfl rfl rfl ((ints_length _ _).trans lr300) (ints_one _ _) hp rfl rfl rfl (Nat.le_of_eq ((Nat.zero_add _).trans ((ints_length _ _).trans List.length_replicate).symm)) (setMany_all _ _ (((ints_length _ _).trans lr300).trans ((ints_length _ _).trans List.length_replicate).symm)) (by decide) ?_; intro w hp
    refine k_endI ?_; intro e146 qe146
    exact ⟨g31, lr300, (congrFun qe146 2).trans s2_e145, (congrFun qe146 3).trans s3_e145, (congrFun qe146 6).trans s6_e145, (congrFun qe146 11).trans s11_e145, congrFun qe146 13, hp⟩
  rintro e146 w ⟨g31, lr300, s2_e146, s3_e146, s6_e146, s11_e146, s13_e146, hp⟩
  refine wseq rfl ?_
  obtain ⟨r32, qr32, h⟩ := bd_e h
  obtain ⟨r33, qr33, h⟩ := bd_e h
  refine wcut (fun e147 w2 => r33.length = 5 ∧ e147 2 = .pointer (some ⟨g2, 0, none⟩) ∧ e147 3 = .pointer (some ⟨g3, 0, none⟩) ∧ Hp w0 [] w2 [⟨g1, 0, ints .u64 a0⟩, ⟨g2, 0, ints .u64 r33⟩, ⟨g3, 0, ints .u64 r9⟩, ⟨g5, 0, ints .u64 r4⟩, ⟨g8, 0, ints .u64 r7⟩, ⟨g10, 0, ints .u64 r9⟩, ⟨g13, 0, ints .u64 r12⟩, ⟨g16, 0, ints .u64 r15⟩, ⟨g19, 0, ints .u64 r18⟩, ⟨g22, 0, ints .u64 r21⟩, ⟨g25, 0, ints .u64 r24⟩, ⟨g28, 0, ints .u64 r27⟩, ⟨g31, 0, ints .u64 r30⟩] []) ?_ ?_
  rotate_left
  · refine wregion_m (.tk 0 (.tk 2 (.alt (.ef 1 (.alt (.ef 3 (.alt (.ef 4 (.ef 5 (.ef 6 (.done)))) (.ef 5 (.tk 4 (.ef 6 (.done)))))) (.ef 4 (.ef 3 (.ef 5 (.ef 6 (.done))))))) (.ef 4 (.ef 1 (.ef 3 (.ef 5 (.ef 6 (.done))))))))) [5, 6] [(0, 0, 0), (1, 127, 127), (0, 0, 0), (6, 127, 127), (0, 0, 32), (15, 127, 127), (63, 127, 127)] rfl (by kernel_rfl) (by kernel_rfl) (Nat.le_of_ble_eq_true (by kernel_rfl)) (by kernel_rfl) (by kernel_rfl) ?_
    have hp := hp.drew
    refine k_loadA (n := 5) (xs := ints .u64 r30) 0 rfl (by kernel_rfl) (by kernel_rfl) s13_e146 (hp.get (j := 12) rfl) rfl rfl ((ints_length _ _).trans lr300) (fun m v hm => by rw [Nat.zero_add]; exact hm) ?_
    refine k_loadA (n := 5) (xs := ints .u64 r24) 0 rfl (by kernel_rfl) (by kernel_rfl) s11_e146 (hp.get (j := 10) rfl) rfl rfl ((ints_length _ _).trans lr240) (fun m v hm => by rw [Nat.zero_add]; exact hm) ?_
    refine k_alt ?_ ?_
    ·
      refine k_call [.agg (ints .u64 r30).toArray, .int .i64 50] rfl (by kernel_rfl) (args2 rfl rfl) (field_Element_squared_ok k r30 50 lr300 _ (hp.toR (fun _ h => by cases h)) qr32) ?_
      rintro _ w' ⟨_, rfl, rfl, lr320, hpc⟩
      refine ⟨_, rfl, .inr (.of_below hpc.chg.to_below), ?_⟩; have hp := hp.below hpc.chg.to_below; clear hpc
      refine k_alt ?_ ?_
      ·
        refine k_call [.agg (ints .u64 r32).toArray, .agg (ints .u64 r24).toArray] rfl (by kernel_rfl) (args2 rfl rfl) (field_Element_Times_ok r32 r24 lr320 lr240 _ (hp.toR (fun _ h => by cases h)) qr33) ?_
        rintro _ w' ⟨_, rfl, rfl, lr330, hpc⟩
        refine ⟨_, rfl, .inr (.of_below hpc.chg.to_below), ?_⟩; have hp := hp.below hpc.chg.to_below; clear hpc
        refine k_alt ?_ ?_
        ·
          refine tk_ef ?_
          refine k_loadA (n := 5) (xs := ints .u64 r9) 0 rfl (by kernel_rfl) (by kernel_rfl) s6_e146 (hp.get (j := 5) rfl) rfl rfl ((ints_length _ _).trans lr90) (fun m v hm => by rw [Nat.zero_add]; exact hm) ?_
          refine k_storeA (v := .agg (ints .u64 r33).toArray) 1 0 (r := ⟨g2, 0, ints .u64 (List.replicate 5 (0 : Int))⟩) (ints .u64 r33) (ints .u64 r33) rfl (n := 5) (by kernel_rfl) s2_e146 rfl rfl ((ints_length _ _).trans lr330) (ints_one _ _) hp rfl rfl rfl (Nat.le_of_eq ((Nat.zero_add _).trans ((ints_length _ _).trans List.length_replicate).symm)) (setMany_all _ _ (((ints_length _ _).trans lr330).trans ((ints_length _ _).trans List.length_replicate).symm)) (by decide) ?_; intro w hp
          refine k_storeA (v := .agg (ints .u64 r9).toArray) 2 0 (r := ⟨g3, 0, ints .u64 (List.replicate 5 (0 : Int))⟩) (ints .u64 r9) (ints .u64 r9) rfl (n := 5) (by kernel_rfl) s3_e146 rfl rfl ((ints_length _ _).trans lr90) (ints_one _ _) hp rfl rfl rfl (Nat.le_of_eq ((Nat.zero_add _).trans ((ints_length _ _).trans List.length_replicate).symm)) (setMany_all _ _ (((ints_length _ _).trans lr90).trans ((ints_length _ _).trans List.length_replicate).symm)) (by decide) ?_; intro w hp
          refine k_endI ?_; intro e147 qe147
          exact ⟨lr330, (congrFun qe147 2).trans s2_e146, (congrFun qe147 3).trans s3_e146, hp⟩
        refine k_storeA (v := .agg (ints .u64 r33).toArray) 1 0 (r := ⟨g2, 0, ints .u64 (List.replicate 5 (0 : Int))⟩) (ints .u64 r33) (ints .u64 r33) rfl (n := 5) (by kernel_rfl) s2_e146 rfl rfl ((ints_length _ _).trans lr330) (ints_one _ _) hp rfl rfl rfl (Nat.le_of_eq ((Nat.zero_add _).trans ((ints_length _ _).trans List.length_replicate).symm)) (setMany_all _ _ (((ints_length _ _).trans lr330).trans ((ints_length _ _).trans List.length_replicate).symm)) (by decide) ?_; intro w hp
        refine k_loadA (n := 5) (xs := ints .u64 r9) 0 rfl (by kernel_rfl) (by kernel_rfl) s6_e146 (hp.get (j := 5) rfl) rfl rfl ((ints_length _ _).trans lr90) (fun m v hm => by rw [Nat.zero_add]; exact hm) ?_
        refine k_storeA (v := .agg (ints .u64 r9).toArray) 2 0 (r := ⟨g3, 0, ints .u64 (List.replicate 5 (0 : Int))⟩) (ints .u64 r9) (ints .u64 r9) rfl (n := 5) (by kernel_rfl) s3_e146 rfl rfl ((ints_length _ _).trans lr90) (ints_one _ _) hp rfl rfl rfl (Nat.le_of_eq ((Nat.zero_add _).trans ((ints_length _ _).trans List.length_replicate).symm)) (setMany_all _ _ (((ints_length _ _).trans lr90).trans ((ints_length _ _).trans List.length_replicate).symm)) (by decide) ?_; intro w hp
        refine k_endI ?_; intro e147 qe147
        exact ⟨lr330, (congrFun qe147 2).trans s2_e146, (congrFun qe147 3).trans s3_e146, hp⟩
      refine tk_ef ?_
      refine k_loadA (n := 5) (xs := ints .u64 r9) 0 rfl (by kernel_rfl) (by kernel_rfl) s6_e146 (hp.get (j := 5) rfl) rfl rfl ((ints_length _ _).trans lr90) (fun m v hm => by rw [Nat.zero_add]; exact hm) ?_
      refine k_call [.agg (ints .u64 r32).toArray, .agg (ints .u64 r24).toArray] rfl (by kernel_rfl) (args2 rfl rfl) (field_Element_Times_ok r32 r24 lr320 lr240 _ (hp.toR (fun _ h => by cases h)) qr33) ?_
      rintro _ w' ⟨_, rfl, rfl, lr330, hpc⟩
      refine ⟨_, rfl, .inr (.of_below hpc.chg.to_below), ?_⟩; have hp := hp.below hpc.chg.to_below; clear hpc
      refine k_storeA (v := .agg (ints .u64 r33).toArray) 1 0 (r := ⟨g2, 0, ints .u64 (List.replicate 5 (0 : Int))⟩) (ints .u64 r33) (ints .u64 r33) rfl (n := 5) (by kernel_rfl) s2_e146 rfl rfl ((ints_length _ _).trans lr330) (ints_one _ _) hp rfl rfl rfl (Nat.le_of_eq ((Nat.zero_add _).trans ((ints_length _ _).trans List.length_replicate).symm)) (setMany_all _ _ (((ints_length _ _).trans lr330).trans ((ints_length _ _).trans List.length_replicate).symm)) (by decide) ?_; intro w hp
      refine k_storeA (v := .agg (ints .u64 r9).toArray) 2 0 (r := ⟨g3, 0, ints .u64 (List.replicate 5 (0 : Int))⟩) (ints .u64 r9) (ints .u64 r9) rfl (n := 5) (by kernel_rfl) s3_e146 rfl rfl ((ints_length _ _).trans lr90) (ints_one _ _) hp rfl rfl rfl (Nat.le_of_eq ((Nat.zero_add _).trans ((ints_length _ _).trans List.length_replicate).symm)) (setMany_all _ _ (((ints_length _ _).trans lr90).trans ((ints_length _ _).trans List.length_replicate).symm)) (by decide) ?_; intro w hp
      refine k_endI ?_; intro e147 qe147
      exact ⟨lr330, (congrFun qe147 2).trans s2_e146, (congrFun qe147 3).trans s3_e146, hp⟩
    refine tk_ef ?_
    refine k_loadA (n := 5) (xs := ints .u64 r9) 0 rfl (by kernel_rfl) (by kernel_rfl) s6_e146 (hp.get (j := 5) rfl) rfl rfl ((ints_length _ _).trans lr90) (fun m v hm => by rw [Nat.zero_add]; exact hm) ?_
    refine k_call [.agg (ints .u64 r30).toArray, .int .i64 50] rfl (by kernel_rfl) (args2 rfl rfl) (field_Element_squared_ok k r30 50 lr300 _ (hp.toR (fun _ h => by cases h)) qr32) ?_
    rintro _ w' ⟨_, rfl, rfl, lr320, hpc⟩
    refine ⟨_, rfl, .inr (.of_below hpc.chg.to_below), ?_⟩; have hp := hp.below hpc.chg.to_below; clear hpc
    refine k_call [.agg (ints .u64 r32).toArray, .agg (ints .u64 r24).toArray] rfl (by kernel_rfl) (args2 rfl rfl) (field_Element_Times_ok r32 r24 lr320 lr240 _ (hp.toR (fun _ h => by cases h)) qr33) ?_
    rintro _ w' ⟨_, rfl, rfl, lr330, hpc⟩
    refine ⟨_, rfl, .inr (.of_below hpc.chg.to_below), ?_⟩; have hp := hp.below hpc.chg.to_below; clear hpc
    refine k_storeA (v := .agg (ints .u64 r33).toArray) 1 0 (r := ⟨g2, 0, ints .u64 (List.replicate 5 (0 : Int))⟩) (ints .u64 r33) (ints .u64 r33) rfl (n := 5) (by kernel_rfl) s2_e146 rfl rfl ((ints_length _ _).trans lr330) (ints_one _ _) hp rfl rfl rfl (Nat.le_of_eq ((Nat.zero_add _).trans ((ints_length _ _).trans List.length_replicate).symm)) (setMany_all _ _ (((ints_length _ _).trans lr330).trans ((ints_length _ _).trans List.length_replicate).symm)) (by decide) ?_; intro w hp
    refine k_storeA (v := .agg (ints .u64 r9).toArray) 2 0 (r := ⟨g3, 0, ints .u64 (List.replicate 5 (0 : Int))⟩) (ints .u64 r9) (ints .u64 r9) rfl (n := 5) (by kernel_rfl) s3_e146 rfl rfl ((ints_length _ _).trans lr90) (ints_one _ _) hp rfl rfl rfl (Nat.le_of_eq ((Nat.zero_add _).trans ((ints_length _ _).trans List.length_replicate).symm)) (setMany_all _ _ (((ints_length _ _).trans lr90).trans ((ints_length _ _).trans List.length_replicate).symm)) (by decide) ?_; intro w hp
    refine k_endI ?_; intro e147 qe147
    exact ⟨lr330, (congrFun qe147 2).trans s2_e146, (congrFun qe147 3).trans s3_e146, hp⟩
  rintro e147 w ⟨lr330, s2_e147, s3_e147, hp⟩
  refine wret rfl ?_
  have hr : r = (r33, r9) := (Option.some.inj h).symm
  show RetP _ _ _ _ _
  rw [hr]
  exact ret_i [.agg (ints .u64 r33).toArray, .agg (ints .u64 r9).toArray] (res_cell s2_e147 (loadVar_agg (by kernel_rfl) (by kernel_rfl) ((ints_length _ _).trans lr330) (hp.get (j := 1) rfl) rfl rfl rfl) (res_cell s3_e147 (loadVar_agg (by kernel_rfl) (by kernel_rfl) ((ints_length _ _).trans lr90) (hp.get (j := 2) rfl) rfl rfl rfl) res_nil)) ⟨rfl, lr330, lr90, hp.none⟩
/-! 26 (postilion/field.Element).Inverse -/
theorem field_Element_Inverse_ok (k : Nat) (a0 : List Int) (la0 : a0.length = 5) (w0 : World) (hp : Hp w0 [] w0 [] []) {r : List Int} (h : field_Element_Inverse.f k a0 = some r) :
    Calls Try.prog 26 [.agg (ints .u64 a0).toArray].toArray w0 fun x w' => ∃ v, x = .returned v ∧ v = .agg (ints .u64 r).toArray ∧ r.length = 5 ∧ Hp w0 [] w' [] [] := by
  refine calls_in Try.func26 rfl (Nat.le_of_ble_eq_true (by kernel_rfl)) (by kernel_rfl) ?_
  intro e0 qe0
  have s0_e0 : e0 0 = .agg (ints .u64 a0).toArray := congrFun qe0 0
  clear qe0
  unfold field_Element_Inverse.f at h
  refine wseq rfl ?_
  refine wregion (.ef 0 (.ef 1 (.done))) [] rfl (by kernel_rfl) (by kernel_rfl) ?_
  refine k_box (v := .agg (ints .u64 a0).toArray) (ints .u64 a0) rfl s0_e0 rfl hp ?_
  intro g1 w hbg1 hp
  refine k_alloc (ints .u64 (List.replicate 5 (0 : Int))) rfl (by kernel_rfl) hp ?_
  intro g2 w hbg2 hp
  refine k_end ?_; intro e148 qe148
  have s1_e148 : e148 1 = .pointer (some ⟨g1, 0, none⟩) := congrFun qe148 1
  have s2_e148 : e148 2 = .pointer (some ⟨g2, 0, none⟩) := congrFun qe148 2
  clear qe148
  refine wseq rfl ?_
  refine wregion (.tk 0 (.ef 1 (.tp 2 (.tp 3 (.tp 4 (.ef 5 (.ef 6 (.ef 7 (.ef 8 (.done)))))))))) [7, 8] rfl (by kernel_rfl) (by kernel_rfl) ?_
  refine k_loadA (n := 5) (xs := ints .u64 a0) 0 rfl (by kernel_rfl) (by kernel_rfl) s1_e148 (hp.get (j := 0) rfl) rfl rfl ((ints_length _ _).trans la0) (fun m v hm => by rw [Nat.zero_add]; exact hm) ?_
  obtain ⟨r3, qr3, h⟩ := bd_e h
  refine k_call [.agg (ints .u64 a0).toArray] rfl (by kernel_rfl) (args1 rfl) (field_Element_chain_ok k a0 la0 _ (hp.toR (fun _ h => by cases h)) qr3) ?_
  rintro _ w' ⟨_, rfl, rfl, lr30, lr31, hpc⟩
  refine ⟨_, rfl, .inr (.of_below hpc.chg.to_below), ?_⟩; have hp := hp.below hpc.chg.to_below; clear hpc
  refine k_move (v := .tuple #[.agg (ints .u64 r3.1).toArray, .agg (ints .u64 r3.2).toArray]) rfl rfl ?_
  refine k_extract (v := .agg (ints .u64 r3.1).toArray) rfl rfl rfl ?_
  refine k_extract (v := .agg (ints .u64 r3.2).toArray) rfl rfl rfl ?_
  refine k_alloc (ints .u64 (List.replicate 5 (0 : Int))) rfl (by kernel_rfl) hp ?_
  intro g4 w hbg4 hp
  refine k_alloc (ints .u64 (List.replicate 5 (0 : Int))) rfl (by kernel_rfl) hp ?_
  intro g5 w hbg5 hp
  refine k_storeA (v := .agg (ints .u64 r3.1).toArray) 2 0 (r := ⟨g4, 0, ints .u64 (List.replicate 5 (0 : Int))⟩) (ints .u64 r3.1) (ints .u64 r3.1) rfl (n := 5) (by kernel_rfl) rfl rfl rfl ((ints_length _ _).trans lr30) (ints_one _ _) hp rfl rfl rfl (Nat.le_of_eq ((Nat.zero_add _).trans ((ints_length _ _).trans List.length_replicate).symm)) (setMany_all _ _ (((ints_length _ _).trans lr30).trans ((ints_length _ _).trans List.length_replicate).symm)) (by decide) ?_; intro w hp
  refine k_storeA (v := .agg (ints .u64 r3.2).toArray) 3 0 (r := ⟨g5, 0, ints .u64 (List.replicate 5 (0 : Int))⟩) (ints .u64 r3.2) (ints .u64 r3.2) rfl (n := 5) (by kernel_rfl) rfl rfl rfl ((ints_length _ _).trans lr31) (ints_one _ _) hp rfl rfl rfl (Nat.le_of_eq ((Nat.zero_add _).trans ((ints_length _ _).trans List.length_replicate).symm)) (setMany_all _ _ (((ints_length _ _).trans lr31).trans ((ints_length _ _).trans List.length_replicate).symm)) (by decide) ?_; intro w hp
  refine k_end ?_; intro e149 qe149
  have s2_e149 : e149 2 = .pointer (some ⟨g2, 0, none⟩) := (congrFun qe149 2).trans s2_e148
  have s3_e149 : e149 3 = .pointer (some ⟨g4, 0, none⟩) := congrFun qe149 3
  have s4_e149 : e149 4 = .pointer (some ⟨g5, 0, none⟩) := congrFun qe149 4
  clear qe149
  refine wseq rfl ?_
  refine wregion_m (.tk 0 (.tk 2 (.ef 1 (.ef 3 (.ef 4 (.done)))))) [4] [(0, 0, 0), (1, 31, 31), (0, 0, 0), (6, 31, 31), (15, 31, 31)] rfl (by kernel_rfl) (by kernel_rfl) (Nat.le_of_ble_eq_true (by kernel_rfl)) (by kernel_rfl) (by kernel_rfl) ?_
  have hp := hp.drew
  refine k_loadA (n := 5) (xs := ints .u64 r3.1) 0 rfl (by kernel_rfl) (by kernel_rfl) s3_e149 (hp.get (j := 2) rfl) rfl rfl ((ints_length _ _).trans lr30) (fun m v hm => by rw [Nat.zero_add]; exact hm) ?_
  refine k_loadA (n := 5) (xs := ints .u64 r3.2) 0 rfl (by kernel_rfl) (by kernel_rfl) s4_e149 (hp.get (j := 3) rfl) rfl rfl ((ints_length _ _).trans lr31) (fun m v hm => by rw [Nat.zero_add]; exact hm) ?_
  obtain ⟨r6, qr6, h⟩ := bd_e h
  refine k_call [.agg (ints .u64 r3.1).toArray, .int .i64 5] rfl (by kernel_rfl) (args2 rfl rfl) (field_Element_squared_ok k r3.1 5 lr30 _ (hp.toR (fun _ h => by cases h)) qr6) ?_
  rintro _ w' ⟨_, rfl, rfl, lr60, hpc⟩
  refine ⟨_, rfl, .inr (.of_below hpc.chg.to_below), ?_⟩; have hp := hp.below hpc.chg.to_below; clear hpc
  obtain ⟨r7, qr7, h⟩ := bd_e h
  refine k_call [.agg (ints .u64 r6).toArray, .agg (ints .u64 r3.2).toArray] rfl (by kernel_rfl) (args2 rfl rfl) (field_Element_Times_ok r6 r3.2 lr60 lr31 _ (hp.toR (fun _ h => by cases h)) qr7) ?_
  rintro _ w' ⟨_, rfl, rfl, lr70, hpc⟩
  refine ⟨_, rfl, .inr (.of_below hpc.chg.to_below), ?_⟩; have hp := hp.below hpc.chg.to_below; clear hpc
  refine k_storeA (v := .agg (ints .u64 r7).toArray) 1 0 (r := ⟨g2, 0, ints .u64 (List.replicate 5 (0 : Int))⟩) (ints .u64 r7) (ints .u64 r7) rfl (n := 5) (by kernel_rfl) s2_e149 rfl rfl ((ints_length _ _).trans lr70) (ints_one _ _) hp rfl rfl rfl (Nat.le_of_eq ((Nat.zero_add _).trans ((ints_length _ _).trans List.length_replicate).symm)) (setMany_all _ _ (((ints_length _ _).trans lr70).trans ((ints_length _ _).trans List.length_replicate).symm)) (by decide) ?_; intro w hp
  refine k_end ?_; intro e150 qe150
  have s2_e150 : e150 2 = .pointer (some ⟨g2, 0, none⟩) := (congrFun qe150 2).trans s2_e149
  clear qe150
  refine wret rfl ?_
  have hr : r = r7 := (Option.some.inj h).symm
  show RetP _ _ _ _ _
  rw [hr]
  exact ret_i [.agg (ints .u64 r7).toArray] (res_cell s2_e150 (loadVar_agg (by kernel_rfl) (by kernel_rfl) ((ints_length _ _).trans lr70) (hp.get (j := 1) rfl) rfl rfl rfl) res_nil) ⟨rfl, lr70, hp.none⟩
/-! 12 postilion/field.Inv -/
theorem field_Inv_ok (k : Nat) (a0 : List Int) (la0 : a0.length = 32) (w0 : World) (hp : Hp w0 [] w0 [] []) {r : List Int} (h : field_Inv.f k a0 = some r) :
    Calls Try.prog 12 [.agg (ints .u8 a0).toArray].toArray w0 fun x w' => ∃ v, x = .returned v ∧ v = .agg (ints .u8 r).toArray ∧ r.length = 32 ∧ Hp w0 [] w' [] [] := by
  refine calls_in Try.func12 rfl (Nat.le_of_ble_eq_true (by kernel_rfl)) (by kernel_rfl) ?_
  intro e0 qe0
  have s0_e0 : e0 0 = .agg (ints .u8 a0).toArray := congrFun qe0 0
  clear qe0
  unfold field_Inv.f at h
  refine wseq rfl ?_
  refine wregion (.ef 0 (.ef 1 (.done))) [] rfl (by kernel_rfl) (by kernel_rfl) ?_
  refine k_box (v := .agg (ints .u8 a0).toArray) (ints .u8 a0) rfl s0_e0 rfl hp ?_
  intro g1 w hbg1 hp
  refine k_alloc (ints .u8 (List.replicate 32 (0 : Int))) rfl (by kernel_rfl) hp ?_
  intro g2 w hbg2 hp
  refine k_end ?_; intro e151 qe151
  have s1_e151 : e151 1 = .pointer (some ⟨g1, 0, none⟩) := congrFun qe151 1
  have s2_e151 : e151 2 = .pointer (some ⟨g2, 0, none⟩) := congrFun qe151 2
  clear qe151
  refine wseq rfl ?_
  refine wregion (.tk 0 (.ef 1 (.ef 2 (.ef 3 (.ef 4 (.done)))))) [4] rfl (by kernel_rfl) (by kernel_rfl) ?_
  refine k_loadA (n := 32) (xs := ints .u8 a0) 0 rfl (by kernel_rfl) (by kernel_rfl) s1_e151 (hp.get (j := 0) rfl) rfl rfl ((ints_length _ _).trans la0) (fun m v hm => by rw [Nat.zero_add]; exact hm) ?_
  obtain ⟨r3, qr3, h⟩ := bd_e h
  refine k_call [.agg (ints .u8 a0).toArray] rfl (by kernel_rfl) (args1 rfl) (field_Of_ok k a0 la0 _ (hp.toR (fun _ h => by cases h)) qr3) ?_
  rintro _ w' ⟨_, rfl, rfl, lr30, hpc⟩
  refine ⟨_, rfl, .inr (.of_below hpc.chg.to_below), ?_⟩; have hp := hp.below hpc.chg.to_below; clear hpc
  obtain ⟨r4, qr4, h⟩ := bd_e h
  refine k_call [.agg (ints .u64 r3).toArray] rfl (by kernel_rfl) (args1 rfl) (field_Element_Inverse_ok k r3 lr30 _ (hp.toR (fun _ h => by cases h)) qr4) ?_
  rintro _ w' ⟨_, rfl, rfl, lr40, hpc⟩
  refine ⟨_, rfl, .inr (.of_below hpc.chg.to_below), ?_⟩; have hp := hp.below hpc.chg.to_below; clear hpc
  obtain ⟨r5, qr5, h⟩ := bd_e h
  refine k_call [.agg (ints .u64 r4).toArray] rfl (by kernel_rfl) (args1 rfl) (field_Element_Bytes_ok k r4 lr40 _ (hp.toR (fun _ h => by cases h)) qr5) ?_
  rintro _ w' ⟨_, rfl, rfl, lr50, hpc⟩
  refine ⟨_, rfl, .inr (.of_below hpc.chg.to_below), ?_⟩; have hp := hp.below hpc.chg.to_below; clear hpc
  refine k_storeA (v := .agg (ints .u8 r5).toArray) 1 0 (r := ⟨g2, 0, ints .u8 (List.replicate 32 (0 : Int))⟩) (ints .u8 r5) (ints .u8 r5) rfl (n := 32) (by kernel_rfl) s2_e151 rfl rfl ((ints_length _ _).trans lr50) (ints_one _ _) hp rfl rfl rfl (Nat.le_of_eq ((Nat.zero_add _).trans ((ints_length _ _).trans List.length_replicate).symm)) (setMany_all _ _ (((ints_length _ _).trans lr50).trans ((ints_length _ _).trans List.length_replicate).symm)) (by decide) ?_; intro w hp
  refine k_end ?_; intro e152 qe152
  have s2_e152 : e152 2 = .pointer (some ⟨g2, 0, none⟩) := (congrFun qe152 2).trans s2_e151
  clear qe152
  refine wret rfl ?_
  have hr : r = r5 := (Option.some.inj h).symm
  show RetP _ _ _ _ _
  rw [hr]
  exact ret_i [.agg (ints .u8 r5).toArray] (res_cell s2_e152 (loadVar_agg (by kernel_rfl) (by kernel_rfl) ((ints_length _ _).trans lr50) (hp.get (j := 1) rfl) rfl rfl rfl) res_nil) ⟨rfl, lr50, hp.none⟩
/-! 4 postilion/postilionlaw04.FieldInverses -/
theorem postilionlaw04_FieldInverses.p1_ok {w0 : World} {Ws : List Wr} {Q : Exit → Env → World → Prop} (k : Nat) (g1 : Nat) (a0 : List Int) (l_a0 : a0.length = 32) {r : Bool} (hQ0 : ∀ (e' : Env) (w' : World) (z0 : Bool), e' 2 = .bool z0 → Hp w0 Ws w' [⟨g1, 0, ints .u8 a0⟩] [] → r = (z0) → Q .normal e' w') (e : Env) (w : World) (s1_e : e 1 = .pointer (some ⟨g1, 0, none⟩)) (hp : Hp w0 Ws w [⟨g1, 0, ints .u8 a0⟩] []) (h : postilionlaw04_FieldInverses.p1 k a0 = some r) : Wp Try.prog Try.f4.ntmps (at_ (fbody Try.f4) [1, 1, 1, 0]) Q e w := by
  unfold postilionlaw04_FieldInverses.p1 at h
  refine wregion_m (.tk 0 (.tk 1 (.tp 4 (.ef 2 (.ef 3 (.tp 5 (.tp 6 (.tk 7 (.tk 10 (.tp 11 (.ef 8 (.ef 9 (.ef 12 (.tp 13 (.tp 14 (.tp 15 (.done))))))))))))))))) [] [(0, 0, 0), (0, 0, 0), (2, 65535, 65535), (5, 65535, 65535), (0, 0, 65535), (24, 24, 65535), (40, 32, 65535), (64, 64, 0), (192, 65535, 65535), (320, 65535, 65535), (64, 64, 0), (64, 64, 65535), (3648, 65535, 65535), (4672, 4672, 65535), (8256, 8256, 65535), (32767, 16384, 65535)] rfl (by kernel_rfl) (by kernel_rfl) (Nat.le_of_ble_eq_true (by kernel_rfl)) (by kernel_rfl) (by kernel_rfl) ?_
  have hp := hp.drew
  refine k_loadA (n := 32) (xs := ints .u8 a0) 0 rfl (by kernel_rfl) (by kernel_rfl) s1_e (hp.get (j := 0) rfl) rfl rfl ((ints_length _ _).trans l_a0) (fun m v hm => by rw [Nat.zero_add]; exact hm) ?_
  refine k_loadA (n := 32) (xs := ints .u8 a0) 0 rfl (by kernel_rfl) (by kernel_rfl) s1_e (hp.get (j := 0) rfl) rfl rfl ((ints_length _ _).trans l_a0) (fun m v hm => by rw [Nat.zero_add]; exact hm) ?_
  refine k_build (v := .agg (ints .u8 ((List.replicate 32 (0 : Int)).set 0 1)).toArray) rfl (fun _ => by kernel_rfl) ?_
  obtain ⟨r5, qr5, h⟩ := bd_e h
  refine k_call [.agg (ints .u8 a0).toArray] rfl (by kernel_rfl) (args1 rfl) (field_Inv_ok k a0 l_a0 _ (hp.toR (fun _ h => by cases h)) qr5) ?_
  rintro _ w' ⟨_, rfl, rfl, lr50, hpc⟩
  refine ⟨_, rfl, .inr (.of_below hpc.chg.to_below), ?_⟩; have hp := hp.below hpc.chg.to_below; clear hpc
  obtain ⟨r6, qr6, h⟩ := bd_e h
  refine k_call [.agg (ints .u8 a0).toArray, .agg (ints .u8 r5).toArray] rfl (by kernel_rfl) (args2 rfl rfl) (field_Mul_ok k a0 r5 l_a0 lr50 _ (hp.toR (fun _ h => by cases h)) qr6) ?_
  rintro _ w' ⟨_, rfl, rfl, lr60, hpc⟩
  refine ⟨_, rfl, .inr (.of_below hpc.chg.to_below), ?_⟩; have hp := hp.below hpc.chg.to_below; clear hpc
  refine k_eqI (k := .u8) (l := r6) (l' := ((List.replicate 32 (0 : Int)).set 0 1)) rfl Try.underlying22 Try.underlying5 (by kernel_rfl) (by kernel_rfl) rfl rfl lr60 (List.length_set.trans List.length_replicate) ?_
  rcases Bool.eq_false_or_eq_true (r6 == ((List.replicate 32 (0 : Int)).set 0 1)) with hb | hb
  · replace h := br_t hb h
    refine k_move (v := .bool true) rfl (Eq.trans (b := .bool (r6 == ((List.replicate 32 (0 : Int)).set 0 1))) rfl (congrArg Value.bool hb)) ?_
    refine k_loadA (n := 32) (xs := ints .u8 a0) 0 rfl (by kernel_rfl) (by kernel_rfl) s1_e (hp.get (j := 0) rfl) rfl rfl ((ints_length _ _).trans l_a0) (fun m v hm => by rw [Nat.zero_add]; exact hm) ?_
    refine k_loadA (n := 32) (xs := ints .u8 a0) 0 rfl (by kernel_rfl) (by kernel_rfl) s1_e (hp.get (j := 0) rfl) rfl rfl ((ints_length _ _).trans l_a0) (fun m v hm => by rw [Nat.zero_add]; exact hm) ?_
    refine k_build (v := .agg (ints .u8 (List.replicate 32 (0 : Int))).toArray) rfl (fun _ => by kernel_rfl) ?_
    obtain ⟨r7, qr7, h⟩ := bd_e h
    refine k_call [.agg (ints .u8 a0).toArray] rfl (by kernel_rfl) (args1 rfl) (field_Inv_ok k a0 l_a0 _ (hp.toR (fun _ h => by cases h)) qr7) ?_
    rintro _ w' ⟨_, rfl, rfl, lr70, hpc⟩
    refine ⟨_, rfl, .inr (.of_below hpc.chg.to_below), ?_⟩; have hp := hp.below hpc.chg.to_below; clear hpc
    obtain ⟨r8, qr8, h⟩ := bd_e h
    refine k_call [.agg (ints .u8 r7).toArray] rfl (by kernel_rfl) (args1 rfl) (field_Inv_ok k r7 lr70 _ (hp.toR (fun _ h => by cases h)) qr8) ?_
    rintro _ w' ⟨_, rfl, rfl, lr80, hpc⟩
    refine ⟨_, rfl, .inr (.of_below hpc.chg.to_below), ?_⟩; have hp := hp.below hpc.chg.to_below; clear hpc
    obtain ⟨r9, qr9, h⟩ := bd_e h
    refine k_call [.agg (ints .u8 a0).toArray, .agg (ints .u8 (List.replicate 32 (0 : Int))).toArray] rfl (by kernel_rfl) (args2 rfl rfl) (field_Add_ok k a0 (List.replicate 32 (0 : Int)) l_a0 List.length_replicate _ (hp.toR (fun _ h => by cases h)) qr9) ?_
    rintro _ w' ⟨_, rfl, rfl, lr90, hpc⟩
    refine ⟨_, rfl, .inr (.of_below hpc.chg.to_below), ?_⟩; have hp := hp.below hpc.chg.to_below; clear hpc
    refine k_eqI (k := .u8) (l := r8) (l' := r9) rfl Try.underlying22 Try.underlying5 (by kernel_rfl) (by kernel_rfl) rfl rfl lr80 lr90 ?_
    refine k_pick (b := true) (v := .bool (r8 == r9)) rfl rfl rfl rfl rfl ?_
    refine k_assign (v := .bool (r8 == r9)) rfl rfl ?_
    refine k_end ?_; intro e158 qe158
    have s2_e158 : e158 2 = .bool (r8 == r9) := congrFun qe158 2
    clear qe158
    exact hQ0 _ _ (r8 == r9)  s2_e158 (hp.drop (L' := [⟨g1, 0, ints .u8 a0⟩]) (List.Sublist.refl _)) (Option.some.inj h).symm
  · replace h := br_f hb h
    refine k_move (v := .bool false) rfl (Eq.trans (b := .bool (r6 == ((List.replicate 32 (0 : Int)).set 0 1))) rfl (congrArg Value.bool hb)) ?_
    refine k_skip_tk rfl ?_
    refine k_skip_tk rfl ?_
    refine k_skip rfl ?_
    refine k_skip_ef rfl ?_
    refine k_skip_ef rfl ?_
    refine k_skip_ef rfl ?_
    refine k_skip rfl ?_
    refine k_pick (b := false) (v := .bool false) rfl rfl rfl rfl rfl ?_
    refine k_assign (v := .bool false) rfl rfl ?_
    refine k_end ?_; intro e159 qe159
    have s2_e159 : e159 2 = .bool false := congrFun qe159 2
    clear qe159
    exact hQ0 _ _ false  s2_e159 (hp.drop (L' := [⟨g1, 0, ints .u8 a0⟩]) (List.Sublist.refl _)) (Option.some.inj h).symm
theorem postilionlaw04_FieldInverses_ok (k : Nat) (a0 : List Int) (la0 : a0.length = 32) (w0 : World) (hp : Hp w0 [] w0 [] []) {r : Bool} (h : postilionlaw04_FieldInverses.f k a0 = some r) :
    Calls Try.prog 4 [.agg (ints .u8 a0).toArray].toArray w0 fun x w' => ∃ v, x = .returned v ∧ v = .bool r ∧ Hp w0 [] w' [] [] := by
  refine calls_in Try.func4 rfl (Nat.le_of_ble_eq_true (by kernel_rfl)) (by kernel_rfl) ?_
  intro e0 qe0
  have s0_e0 : e0 0 = .agg (ints .u8 a0).toArray := congrFun qe0 0
  clear qe0
  unfold postilionlaw04_FieldInverses.f at h
  refine wseq rfl ?_
  refine wregion (.ef 0 (.tp 1 (.done))) [] rfl (by kernel_rfl) (by kernel_rfl) ?_
  refine k_box (v := .agg (ints .u8 a0).toArray) (ints .u8 a0) rfl s0_e0 rfl hp ?_
  intro g1 w hbg1 hp
  refine k_assign (v := .bool false) rfl rfl ?_
  refine k_end ?_; intro e153 qe153
  have s1_e153 : e153 1 = .pointer (some ⟨g1, 0, none⟩) := congrFun qe153 1
  clear qe153
  refine wseq rfl ?_
  refine wseq rfl ?_
  refine wregion (.ef 0 (.tp 1 (.done))) [] rfl (by kernel_rfl) (by kernel_rfl) ?_
  obtain ⟨r2, qr2, h⟩ := bd_e h
  refine k_call [] rfl (by kernel_rfl) (args0 ) (postilionlaw04_awake_ok k   _ (hp.toR (fun _ h => by cases h)) qr2) ?_
  rintro _ w' ⟨_, rfl, rfl, hpc⟩
  refine ⟨_, rfl, .inr (.of_below hpc.chg.to_below), ?_⟩; have hp := hp.below hpc.chg.to_below; clear hpc
  refine k_not (b := r2) rfl rfl ?_
  refine k_end ?_; intro e154 qe154
  have s1_e154 : e154 1 = .pointer (some ⟨g1, 0, none⟩) := (congrFun qe154 1).trans s1_e153
  have s4_e154 : e154 4 = .bool (!r2) := congrFun qe154 4
  clear qe154
  refine wcond (t := (!r2)) rfl (by decide) s4_e154 (fun hb => ?_) (fun hb => ?_)
  · replace h := br_t hb h
    refine wseq rfl ?_
    refine wregion (.tp 0 (.done)) [] rfl (by kernel_rfl) (by kernel_rfl) ?_
    refine k_assign (v := .bool false) rfl rfl ?_
    refine k_end ?_; intro e155 qe155
    have s2_e155 : e155 2 = .bool false := congrFun qe155 2
    clear qe155
    refine wret rfl ?_
    have hr : r = false := (Option.some.inj h).symm
    show RetP _ _ _ _ _
    rw [hr]
    exact ret_i [.bool false] (res_tmp s2_e155 res_nil) ⟨rfl, hp.none⟩
  · replace h := br_f hb h
    refine wskip rfl ?_
    refine wseq rfl ?_
    refine wseq rfl ?_
    refine wregion (.tk 0 (.tp 1 (.ef 2 (.tp 3 (.tp 4 (.done)))))) [] rfl (by kernel_rfl) (by kernel_rfl) ?_
    refine k_loadA (n := 32) (xs := ints .u8 a0) 0 rfl (by kernel_rfl) (by kernel_rfl) s1_e154 (hp.get (j := 0) rfl) rfl rfl ((ints_length _ _).trans la0) (fun m v hm => by rw [Nat.zero_add]; exact hm) ?_
    refine k_build (v := .agg (ints .u8 (List.replicate 32 (0 : Int))).toArray) rfl (fun _ => by kernel_rfl) ?_
    obtain ⟨r3, qr3, h⟩ := bd_e h
    refine k_call [.agg (ints .u8 a0).toArray, .agg (ints .u8 (List.replicate 32 (0 : Int))).toArray] rfl (by kernel_rfl) (args2 rfl rfl) (field_Add_ok k a0 (List.replicate 32 (0 : Int)) la0 List.length_replicate _ (hp.toR (fun _ h => by cases h)) qr3) ?_
    rintro _ w' ⟨_, rfl, rfl, lr30, hpc⟩
    refine ⟨_, rfl, .inr (.of_below hpc.chg.to_below), ?_⟩; have hp := hp.below hpc.chg.to_below; clear hpc
    refine k_build (v := .agg (ints .u8 (List.replicate 32 (0 : Int))).toArray) rfl (fun _ => by kernel_rfl) ?_
    refine k_eqI (k := .u8) (l := r3) (l' := (List.replicate 32 (0 : Int))) rfl Try.underlying22 Try.underlying5 (by kernel_rfl) (by kernel_rfl) rfl rfl lr30 List.length_replicate ?_
    refine k_end ?_; intro e156 qe156
    have s1_e156 : e156 1 = .pointer (some ⟨g1, 0, none⟩) := (congrFun qe156 1).trans s1_e154
    have s9_e156 : e156 9 = .bool (r3 == (List.replicate 32 (0 : Int))) := congrFun qe156 9
    clear qe156
    refine wcond (t := (r3 == (List.replicate 32 (0 : Int)))) rfl (by decide) s9_e156 (fun hb => ?_) (fun hb => ?_)
    · replace h := br_t hb h
      refine wseq rfl ?_
      refine wregion (.tk 0 (.ef 1 (.tp 2 (.tp 3 (.tp 4 (.done)))))) [] rfl (by kernel_rfl) (by kernel_rfl) ?_
      refine k_loadA (n := 32) (xs := ints .u8 a0) 0 rfl (by kernel_rfl) (by kernel_rfl) s1_e156 (hp.get (j := 0) rfl) rfl rfl ((ints_length _ _).trans la0) (fun m v hm => by rw [Nat.zero_add]; exact hm) ?_
      obtain ⟨r4, qr4, h⟩ := bd_e h
      refine k_call [.agg (ints .u8 a0).toArray] rfl (by kernel_rfl) (args1 rfl) (field_Inv_ok k a0 la0 _ (hp.toR (fun _ h => by cases h)) qr4) ?_
      rintro _ w' ⟨_, rfl, rfl, lr40, hpc⟩
      refine ⟨_, rfl, .inr (.of_below hpc.chg.to_below), ?_⟩; have hp := hp.below hpc.chg.to_below; clear hpc
      refine k_build (v := .agg (ints .u8 (List.replicate 32 (0 : Int))).toArray) rfl (fun _ => by kernel_rfl) ?_
      refine k_eqI (k := .u8) (l := r4) (l' := (List.replicate 32 (0 : Int))) rfl Try.underlying22 Try.underlying5 (by kernel_rfl) (by kernel_rfl) rfl rfl lr40 List.length_replicate ?_
      refine k_assign (v := .bool (r4 == (List.replicate 32 (0 : Int)))) rfl rfl ?_
      refine k_end ?_; intro e157 qe157
      have s2_e157 : e157 2 = .bool (r4 == (List.replicate 32 (0 : Int))) := congrFun qe157 2
      clear qe157
      refine wret rfl ?_
      have hr : r = (r4 == (List.replicate 32 (0 : Int))) := (Option.some.inj h).symm
      show RetP _ _ _ _ _
      rw [hr]
      exact ret_i [.bool (r4 == (List.replicate 32 (0 : Int)))] (res_tmp s2_e157 res_nil) ⟨rfl, hp.none⟩
    · replace h := br_f hb h
      refine wskip rfl ?_
      refine wseq rfl ?_
      obtain ⟨r10, qr10, h⟩ := bd_e h
      refine postilionlaw04_FieldInverses.p1_ok k g1 a0 la0 ?hq0 e156 _ s1_e156 hp qr10
      case hq0 =>
        intro e160 w m11  s2_e160 hp qq
        rw [qq] at h; clear qq
        refine wret rfl ?_
        have hr : r = m11 := (Option.some.inj h).symm
        show RetP _ _ _ _ _
        rw [hr]
        exact ret_i [.bool m11] (res_tmp s2_e160 res_nil) ⟨rfl, hp.none⟩
/-! 5 postilion/postilionlaw04.FieldCanonical -/
theorem postilionlaw04_FieldCanonical.p1_ok {w0 : World} {Ws : List Wr} {Q : Exit → Env → World → Prop} (k : Nat) (g1 g2 : Nat) (r4 : List Int) (a0 : List Int) (a1 : List Int) (l_a0 : a0.length = 32) (l_a1 : a1.length = 32) (l_r4 : r4.length = 32) {r : Bool} (hQ0 : ∀ (e' : Env) (w' : World) (z0 : Bool), e' 4 = .bool z0 → Hp w0 Ws w' [⟨g1, 0, ints .u8 a0⟩, ⟨g2, 0, ints .u8 a1⟩] [] → r = (z0) → Q .normal e' w') (e : Env) (w : World) (s2_e : e 2 = .pointer (some ⟨g1, 0, none⟩)) (s3_e : e 3 = .pointer (some ⟨g2, 0, none⟩)) (s5_e : e 5 = .bool (r4 == a0)) (hp : Hp w0 Ws w [⟨g1, 0, ints .u8 a0⟩, ⟨g2, 0, ints .u8 a1⟩] []) (h : postilionlaw04_FieldCanonical.p1 k r4 a0 a1 = some r) : Wp Try.prog Try.f5.ntmps (at_ (fbody Try.f5) [1, 1, 1, 0]) Q e w := by
  unfold postilionlaw04_FieldCanonical.p1 at h
  refine wregion (.tk 0 (.tk 1 (.ef 2 (.ef 3 (.tp 4 (.tk 5 (.tk 6 (.ef 7 (.ef 8 (.tp 9 (.tp 10 (.tk 11 (.tk 12 (.ef 13 (.ef 14 (.tp 15 (.tp 16 (.tk 17 (.ef 18 (.ef 19 (.tp 20 (.tp 21 (.tk 22 (.ef 23 (.tp 24 (.tp 25 (.tp 26 (.tp 27 (.done))))))))))))))))))))))))))))) [] rfl (by kernel_rfl) (by kernel_rfl) ?_
  refine k_loadA (n := 32) (xs := ints .u8 a0) 0 rfl (by kernel_rfl) (by kernel_rfl) s2_e (hp.get (j := 0) rfl) rfl rfl ((ints_length _ _).trans l_a0) (fun m v hm => by rw [Nat.zero_add]; exact hm) ?_
  refine k_loadA (n := 32) (xs := ints .u8 a1) 0 rfl (by kernel_rfl) (by kernel_rfl) s3_e (hp.get (j := 1) rfl) rfl rfl ((ints_length _ _).trans l_a1) (fun m v hm => by rw [Nat.zero_add]; exact hm) ?_
  obtain ⟨r5, qr5, h⟩ := bd_e h
  refine k_call [.agg (ints .u8 a0).toArray, .agg (ints .u8 a1).toArray] rfl (by kernel_rfl) (args2 rfl rfl) (field_Add_ok k a0 a1 l_a0 l_a1 _ (hp.toR (fun _ h => by cases h)) qr5) ?_
  rintro _ w' ⟨_, rfl, rfl, lr50, hpc⟩
  refine ⟨_, rfl, .inr (.of_below hpc.chg.to_below), ?_⟩; have hp := hp.below hpc.chg.to_below; clear hpc
  obtain ⟨r6, qr6, h⟩ := bd_e h
  refine k_call [.agg (ints .u8 r5).toArray] rfl (by kernel_rfl) (args1 rfl) (field_Canonical_ok k r5 lr50 _ (hp.toR (fun _ h => by cases h)) qr6) ?_
  rintro _ w' ⟨_, rfl, rfl, hpc⟩
  refine ⟨_, rfl, .inr (.of_below hpc.chg.to_below), ?_⟩; have hp := hp.below hpc.chg.to_below; clear hpc
  rcases Bool.eq_false_or_eq_true r6 with hb | hb
  · replace h := br_t hb h
    refine k_move (v := .bool true) rfl (Eq.trans (b := .bool r6) rfl (congrArg Value.bool hb)) ?_
    refine k_loadA (n := 32) (xs := ints .u8 a0) 0 rfl (by kernel_rfl) (by kernel_rfl) s2_e (hp.get (j := 0) rfl) rfl rfl ((ints_length _ _).trans l_a0) (fun m v hm => by rw [Nat.zero_add]; exact hm) ?_
    refine k_loadA (n := 32) (xs := ints .u8 a1) 0 rfl (by kernel_rfl) (by kernel_rfl) s3_e (hp.get (j := 1) rfl) rfl rfl ((ints_length _ _).trans l_a1) (fun m v hm => by rw [Nat.zero_add]; exact hm) ?_
    obtain ⟨r7, qr7, h⟩ := bd_e h
    refine k_call [.agg (ints .u8 a0).toArray, .agg (ints .u8 a1).toArray] rfl (by kernel_rfl) (args2 rfl rfl) (field_Mul_ok k a0 a1 l_a0 l_a1 _ (hp.toR (fun _ h => by cases h)) qr7) ?_
    rintro _ w' ⟨_, rfl, rfl, lr70, hpc⟩
    refine ⟨_, rfl, .inr (.of_below hpc.chg.to_below), ?_⟩; have hp := hp.below hpc.chg.to_below; clear hpc
    obtain ⟨r8, qr8, h⟩ := bd_e h
    refine k_call [.agg (ints .u8 r7).toArray] rfl (by kernel_rfl) (args1 rfl) (field_Canonical_ok k r7 lr70 _ (hp.toR (fun _ h => by cases h)) qr8) ?_
    rintro _ w' ⟨_, rfl, rfl, hpc⟩
    refine ⟨_, rfl, .inr (.of_below hpc.chg.to_below), ?_⟩; have hp := hp.below hpc.chg.to_below; clear hpc
    refine k_pick (b := true) (v := .bool r8) rfl rfl rfl rfl rfl ?_
    rcases Bool.eq_false_or_eq_true r8 with hb | hb
    · replace h := br_t hb h
      refine k_move (v := .bool true) rfl (Eq.trans (b := .bool r8) rfl (congrArg Value.bool hb)) ?_
      refine k_loadA (n := 32) (xs := ints .u8 a0) 0 rfl (by kernel_rfl) (by kernel_rfl) s2_e (hp.get (j := 0) rfl) rfl rfl ((ints_length _ _).trans l_a0) (fun m v hm => by rw [Nat.zero_add]; exact hm) ?_
      refine k_loadA (n := 32) (xs := ints .u8 a1) 0 rfl (by kernel_rfl) (by kernel_rfl) s3_e (hp.get (j := 1) rfl) rfl rfl ((ints_length _ _).trans l_a1) (fun m v hm => by rw [Nat.zero_add]; exact hm) ?_
      obtain ⟨r9, qr9, h⟩ := bd_e h
      refine k_call [.agg (ints .u8 a0).toArray, .agg (ints .u8 a1).toArray] rfl (by kernel_rfl) (args2 rfl rfl) (field_Sub_ok k a0 a1 l_a0 l_a1 _ (hp.toR (fun _ h => by cases h)) qr9) ?_
      rintro _ w' ⟨_, rfl, rfl, lr90, hpc⟩
      refine ⟨_, rfl, .inr (.of_below hpc.chg.to_below), ?_⟩; have hp := hp.below hpc.chg.to_below; clear hpc
      obtain ⟨r10, qr10, h⟩ := bd_e h
      refine k_call [.agg (ints .u8 r9).toArray] rfl (by kernel_rfl) (args1 rfl) (field_Canonical_ok k r9 lr90 _ (hp.toR (fun _ h => by cases h)) qr10) ?_
      rintro _ w' ⟨_, rfl, rfl, hpc⟩
      refine ⟨_, rfl, .inr (.of_below hpc.chg.to_below), ?_⟩; have hp := hp.below hpc.chg.to_below; clear hpc
      refine k_pick (b := true) (v := .bool r10) rfl rfl rfl rfl rfl ?_
      rcases Bool.eq_false_or_eq_true r10 with hb | hb
      · replace h := br_t hb h
        refine k_move (v := .bool true) rfl (Eq.trans (b := .bool r10) rfl (congrArg Value.bool hb)) ?_
        refine k_loadA (n := 32) (xs := ints .u8 a0) 0 rfl (by kernel_rfl) (by kernel_rfl) s2_e (hp.get (j := 0) rfl) rfl rfl ((ints_length _ _).trans l_a0) (fun m v hm => by rw [Nat.zero_add]; exact hm) ?_
        obtain ⟨r11, qr11, h⟩ := bd_e h
        refine k_call [.agg (ints .u8 a0).toArray] rfl (by kernel_rfl) (args1 rfl) (field_Inv_ok k a0 l_a0 _ (hp.toR (fun _ h => by cases h)) qr11) ?_
        rintro _ w' ⟨_, rfl, rfl, lr110, hpc⟩
        refine ⟨_, rfl, .inr (.of_below hpc.chg.to_below), ?_⟩; have hp := hp.below hpc.chg.to_below; clear hpc
        obtain ⟨r12, qr12, h⟩ := bd_e h
        refine k_call [.agg (ints .u8 r11).toArray] rfl (by kernel_rfl) (args1 rfl) (field_Canonical_ok k r11 lr110 _ (hp.toR (fun _ h => by cases h)) qr12) ?_
        rintro _ w' ⟨_, rfl, rfl, hpc⟩
        refine ⟨_, rfl, .inr (.of_below hpc.chg.to_below), ?_⟩; have hp := hp.below hpc.chg.to_below; clear hpc
        refine k_pick (b := true) (v := .bool r12) rfl rfl rfl rfl rfl ?_
        rcases Bool.eq_false_or_eq_true r12 with hb | hb
        · replace h := br_t hb h
          refine k_move (v := .bool true) rfl (Eq.trans (b := .bool r12) rfl (congrArg Value.bool hb)) ?_
          refine k_loadA (n := 32) (xs := ints .u8 a0) 0 rfl (by kernel_rfl) (by kernel_rfl) s2_e (hp.get (j := 0) rfl) rfl rfl ((ints_length _ _).trans l_a0) (fun m v hm => by rw [Nat.zero_add]; exact hm) ?_
          obtain ⟨r13, qr13, h⟩ := bd_e h
          refine k_call [.agg (ints .u8 a0).toArray] rfl (by kernel_rfl) (args1 rfl) (field_Canonical_ok k a0 l_a0 _ (hp.toR (fun _ h => by cases h)) qr13) ?_
          rintro _ w' ⟨_, rfl, rfl, hpc⟩
          refine ⟨_, rfl, .inr (.of_below hpc.chg.to_below), ?_⟩; have hp := hp.below hpc.chg.to_below; clear hpc
          refine k_move (v := .bool (r4 == a0)) rfl s5_e ?_
          refine k_eqB (a := r13) (b := (r4 == a0)) rfl Try.underlying4 rfl rfl ?_
          refine k_pick (b := true) (v := .bool (r13 == (r4 == a0))) rfl rfl rfl rfl rfl ?_
          refine k_assign (v := .bool (r13 == (r4 == a0))) rfl rfl ?_
          refine k_end ?_; intro e165 qe165
          have s4_e165 : e165 4 = .bool (r13 == (r4 == a0)) := congrFun qe165 4
          clear qe165
          exact hQ0 _ _ (r13 == (r4 == a0))  s4_e165 (hp.drop (L' := [⟨g1, 0, ints .u8 a0⟩, ⟨g2, 0, ints .u8 a1⟩]) (List.Sublist.refl _)) (Option.some.inj h).symm
        · replace h := br_f hb h
          refine k_move (v := .bool false) rfl (Eq.trans (b := .bool r12) rfl (congrArg Value.bool hb)) ?_
          refine k_skip_tk rfl ?_
          refine k_skip_ef rfl ?_
          refine k_skip rfl ?_
          refine k_skip rfl ?_
          refine k_pick (b := false) (v := .bool false) rfl rfl rfl rfl rfl ?_
          refine k_assign (v := .bool false) rfl rfl ?_
          refine k_end ?_; intro e166 qe166
          have s4_e166 : e166 4 = .bool false := congrFun qe166 4
          clear qe166
          exact hQ0 _ _ false  s4_e166 (hp.drop (L' := [⟨g1, 0, ints .u8 a0⟩, ⟨g2, 0, ints .u8 a1⟩]) (List.Sublist.refl _)) (Option.some.inj h).symm
      · replace h := br_f hb h
        refine k_move (v := .bool false) rfl (Eq.trans (b := .bool r10) rfl (congrArg Value.bool hb)) ?_
        refine k_skip_tk rfl ?_
        refine k_skip_ef rfl ?_
        refine k_skip_ef rfl ?_
        refine k_pick (b := false) (v := .bool false) rfl rfl rfl rfl rfl ?_
        refine k_move (v := .bool false) rfl rfl ?_
        refine k_skip_tk rfl ?_
        refine k_skip_ef rfl ?_
        refine k_skip rfl ?_
        refine k_skip rfl ?_
        refine k_pick (b := false) (v := .bool false) rfl rfl rfl rfl rfl ?_
        refine k_assign (v := .bool false) rfl rfl ?_
        refine k_end ?_; intro e167 qe167
        have s4_e167 : e167 4 = .bool false := congrFun qe167 4
        clear qe167
        exact hQ0 _ _ false  s4_e167 (hp.drop (L' := [⟨g1, 0, ints .u8 a0⟩, ⟨g2, 0, ints .u8 a1⟩]) (List.Sublist.refl _)) (Option.some.inj h).symm
    · replace h := br_f hb h
      refine k_move (v := .bool false) rfl (Eq.trans (b := .bool r8) rfl (congrArg Value.bool hb)) ?_
      refine k_skip_tk rfl ?_
      refine k_skip_tk rfl ?_
      refine k_skip_ef rfl ?_
      refine k_skip_ef rfl ?_
      refine k_pick (b := false) (v := .bool false) rfl rfl rfl rfl rfl ?_
      refine k_move (v := .bool false) rfl rfl ?_
      refine k_skip_tk rfl ?_
      refine k_skip_ef rfl ?_
      refine k_skip_ef rfl ?_
      refine k_pick (b := false) (v := .bool false) rfl rfl rfl rfl rfl ?_
      refine k_move (v := .bool false) rfl rfl ?_
      refine k_skip_tk rfl ?_
      refine k_skip_ef rfl ?_
      refine k_skip rfl ?_
      refine k_skip rfl ?_
      refine k_pick (b := false) (v := .bool false) rfl rfl rfl rfl rfl ?_
      refine k_assign (v := .bool false) rfl rfl ?_
      refine k_end ?_; intro e168 qe168
      have s4_e168 : e168 4 = .bool false := congrFun qe168 4
      clear qe168
      exact hQ0 _ _ false  s4_e168 (hp.drop (L' := [⟨g1, 0, ints .u8 a0⟩, ⟨g2, 0, ints .u8 a1⟩]) (List.Sublist.refl _)) (Option.some.inj h).symm
  · replace h := br_f hb h
    refine k_move (v := .bool false) rfl (Eq.trans (b := .bool r6) rfl (congrArg Value.bool hb)) ?_
    refine k_skip_tk rfl ?_
    refine k_skip_tk rfl ?_
    refine k_skip_ef rfl ?_
    refine k_skip_ef rfl ?_
    refine k_pick (b := false) (v := .bool false) rfl rfl rfl rfl rfl ?_
    refine k_move (v := .bool false) rfl rfl ?_
    refine k_skip_tk rfl ?_
    refine k_skip_tk rfl ?_
    refine k_skip_ef rfl ?_
    refine k_skip_ef rfl ?_
    refine k_pick (b := false) (v := .bool false) rfl rfl rfl rfl rfl ?_
    refine k_move (v := .bool false) rfl rfl ?_
    refine k_skip_tk rfl ?_
    refine k_skip_ef rfl ?_
    refine k_skip_ef rfl ?_
    refine k_pick (b := false) (v := .bool false) rfl rfl rfl rfl rfl ?_
    refine k_move (v := .bool false) rfl rfl ?_
    refine k_skip_tk rfl ?_
    refine k_skip_ef rfl ?_
    refine k_skip rfl ?_
    refine k_skip rfl ?_
    refine k_pick (b := false) (v := .bool false) rfl rfl rfl rfl rfl ?_
    refine k_assign (v := .bool false) rfl rfl ?_
    refine k_end ?_; intro e169 qe169
    have s4_e169 : e169 4 = .bool false := congrFun qe169 4
    clear qe169
    exact hQ0 _ _ false  s4_e169 (hp.drop (L' := [⟨g1, 0, ints .u8 a0⟩, ⟨g2, 0, ints .u8 a1⟩]) (List.Sublist.refl _)) (Option.some.inj h).symm
theorem postilionlaw04_FieldCanonical_ok (k : Nat) (a0 : List Int) (a1 : List Int) (la0 : a0.length = 32) (la1 : a1.length = 32) (w0 : World) (hp : Hp w0 [] w0 [] []) {r : Bool} (h : postilionlaw04_FieldCanonical.f k a0 a1 = some r) :
    Calls Try.prog 5 [.agg (ints .u8 a0).toArray, .agg (ints .u8 a1).toArray].toArray w0 fun x w' => ∃ v, x = .returned v ∧ v = .bool r ∧ Hp w0 [] w' [] [] := by
  refine calls_in Try.func5 rfl (Nat.le_of_ble_eq_true (by kernel_rfl)) (by kernel_rfl) ?_
  intro e0 qe0
  have s0_e0 : e0 0 = .agg (ints .u8 a0).toArray := congrFun qe0 0
  have s1_e0 : e0 1 = .agg (ints .u8 a1).toArray := congrFun qe0 1
  clear qe0
  unfold postilionlaw04_FieldCanonical.f at h
  refine wseq rfl ?_
  refine wregion (.ef 0 (.ef 1 (.tp 2 (.done)))) [] rfl (by kernel_rfl) (by kernel_rfl) ?_
  refine k_box (v := .agg (ints .u8 a0).toArray) (ints .u8 a0) rfl s0_e0 rfl hp ?_
  intro g1 w hbg1 hp
  refine k_box (v := .agg (ints .u8 a1).toArray) (ints .u8 a1) rfl s1_e0 rfl hp ?_
  intro g2 w hbg2 hp
  refine k_assign (v := .bool false) rfl rfl ?_
  refine k_end ?_; intro e161 qe161
  have s2_e161 : e161 2 = .pointer (some ⟨g1, 0, none⟩) := congrFun qe161 2
  have s3_e161 : e161 3 = .pointer (some ⟨g2, 0, none⟩) := congrFun qe161 3
  clear qe161
  refine wseq rfl ?_
  refine wseq rfl ?_
  refine wregion (.ef 0 (.tp 1 (.done))) [] rfl (by kernel_rfl) (by kernel_rfl) ?_
  obtain ⟨r3, qr3, h⟩ := bd_e h
  refine k_call [] rfl (by kernel_rfl) (args0 ) (postilionlaw04_awake_ok k   _ (hp.toR (fun _ h => by cases h)) qr3) ?_
  rintro _ w' ⟨_, rfl, rfl, hpc⟩
  refine ⟨_, rfl, .inr (.of_below hpc.chg.to_below), ?_⟩; have hp := hp.below hpc.chg.to_below; clear hpc
  refine k_not (b := r3) rfl rfl ?_
  refine k_end ?_; intro e162 qe162
  have s2_e162 : e162 2 = .pointer (some ⟨g1, 0, none⟩) := (congrFun qe162 2).trans s2_e161
  have s3_e162 : e162 3 = .pointer (some ⟨g2, 0, none⟩) := (congrFun qe162 3).trans s3_e161
  have s7_e162 : e162 7 = .bool (!r3) := congrFun qe162 7
  clear qe162
  refine wcond (t := (!r3)) rfl (by decide) s7_e162 (fun hb => ?_) (fun hb => ?_)
  · replace h := br_t hb h
    refine wseq rfl ?_
    refine wregion (.tp 0 (.done)) [] rfl (by kernel_rfl) (by kernel_rfl) ?_
    refine k_assign (v := .bool false) rfl rfl ?_
    refine k_end ?_; intro e163 qe163
    have s4_e163 : e163 4 = .bool false := congrFun qe163 4
    clear qe163
    refine wret rfl ?_
    have hr : r = false := (Option.some.inj h).symm
    show RetP _ _ _ _ _
    rw [hr]
    exact ret_i [.bool false] (res_tmp s4_e163 res_nil) ⟨rfl, hp.none⟩
  · replace h := br_f hb h
    refine wskip rfl ?_
    refine wseq rfl ?_
    refine wregion_m (.tk 0 (.tp 1 (.tk 3 (.ef 2 (.tp 4 (.tp 5 (.done))))))) [] [(0, 0, 0), (0, 0, 63), (3, 63, 63), (0, 0, 0), (12, 12, 63), (31, 16, 63)] rfl (by kernel_rfl) (by kernel_rfl) (Nat.le_of_ble_eq_true (by kernel_rfl)) (by kernel_rfl) (by kernel_rfl) ?_
    have hp := hp.drew
    refine k_loadA (n := 32) (xs := ints .u8 a0) 0 rfl (by kernel_rfl) (by kernel_rfl) s2_e162 (hp.get (j := 0) rfl) rfl rfl ((ints_length _ _).trans la0) (fun m v hm => by rw [Nat.zero_add]; exact hm) ?_
    refine k_build (v := .agg (ints .u8 (List.replicate 32 (0 : Int))).toArray) rfl (fun _ => by kernel_rfl) ?_
    refine k_loadA (n := 32) (xs := ints .u8 a0) 0 rfl (by kernel_rfl) (by kernel_rfl) s2_e162 (hp.get (j := 0) rfl) rfl rfl ((ints_length _ _).trans la0) (fun m v hm => by rw [Nat.zero_add]; exact hm) ?_
    obtain ⟨r4, qr4, h⟩ := bd_e h
    refine k_call [.agg (ints .u8 a0).toArray, .agg (ints .u8 (List.replicate 32 (0 : Int))).toArray] rfl (by kernel_rfl) (args2 rfl rfl) (field_Add_ok k a0 (List.replicate 32 (0 : Int)) la0 List.length_replicate _ (hp.toR (fun _ h => by cases h)) qr4) ?_
    rintro _ w' ⟨_, rfl, rfl, lr40, hpc⟩
    refine ⟨_, rfl, .inr (.of_below hpc.chg.to_below), ?_⟩; have hp := hp.below hpc.chg.to_below; clear hpc
    refine k_eqI (k := .u8) (l := r4) (l' := a0) rfl Try.underlying22 Try.underlying5 (by kernel_rfl) (by kernel_rfl) rfl rfl lr40 la0 ?_
    refine k_assign (v := .bool (r4 == a0)) rfl rfl ?_
    refine k_end ?_; intro e164 qe164
    have s2_e164 : e164 2 = .pointer (some ⟨g1, 0, none⟩) := (congrFun qe164 2).trans s2_e162
    have s3_e164 : e164 3 = .pointer (some ⟨g2, 0, none⟩) := (congrFun qe164 3).trans s3_e162
    have s5_e164 : e164 5 = .bool (r4 == a0) := congrFun qe164 5
    clear qe164
    refine wseq rfl ?_
    obtain ⟨r14, qr14, h⟩ := bd_e h
    refine postilionlaw04_FieldCanonical.p1_ok k g1 g2 r4 a0 a1 la0 la1 lr40 ?hq0 e164 _ s2_e164 s3_e164 s5_e164 hp qr14
    case hq0 =>
      intro e170 w m15  s4_e170 hp qq
      rw [qq] at h; clear qq
      refine wret rfl ?_
      have hr : r = m15 := (Option.some.inj h).symm
      show RetP _ _ _ _ _
      rw [hr]
      exact ret_i [.bool m15] (res_tmp s4_e170 res_nil) ⟨rfl, hp.none⟩
/-! 28 postilion/field.One -/
theorem field_One_ok  (w0 : World) (hp : Hp w0 [] w0 [] []) {r : List Int} (h : field_One.f  = some r) :
    Calls Try.prog 28 [].toArray w0 fun x w' => ∃ v, x = .returned v ∧ v = .agg (ints .u64 r).toArray ∧ r.length = 5 ∧ Hp w0 [] w' [] [] := by
  refine calls_in Try.func28 rfl (Nat.le_of_ble_eq_true (by kernel_rfl)) (by kernel_rfl) ?_
  intro e0 qe0
  clear qe0
  unfold field_One.f at h
  refine wseq rfl ?_
  refine wregion (.ef 0 (.done)) [] rfl (by kernel_rfl) (by kernel_rfl) ?_
  refine k_alloc (ints .u64 (List.replicate 5 (0 : Int))) rfl (by kernel_rfl) hp ?_
  intro g1 w hbg1 hp
  refine k_end ?_; intro e171 qe171
  have s0_e171 : e171 0 = .pointer (some ⟨g1, 0, none⟩) := congrFun qe171 0
  clear qe171
  refine wseq rfl ?_
  refine wregion (.tp 0 (.ef 1 (.done))) [1] rfl (by kernel_rfl) (by kernel_rfl) ?_
  refine k_build (v := .agg (ints .u64 ((List.replicate 5 (0 : Int)).set 0 1)).toArray) rfl (fun _ => by kernel_rfl) ?_
  refine k_storeA (v := .agg (ints .u64 ((List.replicate 5 (0 : Int)).set 0 1)).toArray) 0 0 (r := ⟨g1, 0, ints .u64 (List.replicate 5 (0 : Int))⟩) (ints .u64 ((List.replicate 5 (0 : Int)).set 0 1)) (ints .u64 ((List.replicate 5 (0 : Int)).set 0 1)) rfl (n := 5) (by kernel_rfl) s0_e171 rfl rfl ((ints_length _ _).trans (List.length_set.trans List.length_replicate)) (ints_one _ _) hp rfl rfl rfl (Nat.le_of_eq ((Nat.zero_add _).trans ((ints_length _ _).trans List.length_replicate).symm)) (setMany_all _ _ (((ints_length _ _).trans (List.length_set.trans List.length_replicate)).trans ((ints_length _ _).trans List.length_replicate).symm)) (by decide) ?_; intro w hp
  refine k_end ?_; intro e172 qe172
  have s0_e172 : e172 0 = .pointer (some ⟨g1, 0, none⟩) := (congrFun qe172 0).trans s0_e171
  clear qe172
  refine wret rfl ?_
  have hr : r = ((List.replicate 5 (0 : Int)).set 0 1) := (Option.some.inj h).symm
  show RetP _ _ _ _ _
  rw [hr]
  exact ret_i [.agg (ints .u64 ((List.replicate 5 (0 : Int)).set 0 1)).toArray] (res_cell s0_e172 (loadVar_agg (by kernel_rfl) (by kernel_rfl) ((ints_length _ _).trans (List.length_set.trans List.length_replicate)) (hp.get (j := 0) rfl) rfl rfl rfl) res_nil) ⟨rfl, (List.length_set.trans List.length_replicate), hp.none⟩
/-! 45 (postilion/field.Element).Power58 -/
theorem field_Element_Power58_ok (k : Nat) (a0 : List Int) (la0 : a0.length = 5) (w0 : World) (hp : Hp w0 [] w0 [] []) {r : List Int} (h : field_Element_Power58.f k a0 = some r) :
    Calls Try.prog 45 [.agg (ints .u64 a0).toArray].toArray w0 fun x w' => ∃ v, x = .returned v ∧ v = .agg (ints .u64 r).toArray ∧ r.length = 5 ∧ Hp w0 [] w' [] [] := by
  refine calls_in Try.func45 rfl (Nat.le_of_ble_eq_true (by kernel_rfl)) (by kernel_rfl) ?_
  intro e0 qe0
  have s0_e0 : e0 0 = .agg (ints .u64 a0).toArray := congrFun qe0 0
  clear qe0
  unfold field_Element_Power58.f at h
  refine wseq rfl ?_
  refine wregion (.ef 0 (.ef 1 (.done))) [] rfl (by kernel_rfl) (by kernel_rfl) ?_
  refine k_box (v := .agg (ints .u64 a0).toArray) (ints .u64 a0) rfl s0_e0 rfl hp ?_
  intro g1 w hbg1 hp
  refine k_alloc (ints .u64 (List.replicate 5 (0 : Int))) rfl (by kernel_rfl) hp ?_
  intro g2 w hbg2 hp
  refine k_end ?_; intro e173 qe173
  have s1_e173 : e173 1 = .pointer (some ⟨g1, 0, none⟩) := congrFun qe173 1
  have s2_e173 : e173 2 = .pointer (some ⟨g2, 0, none⟩) := congrFun qe173 2
  clear qe173
  refine wseq rfl ?_
  refine wregion (.tk 0 (.ef 1 (.tp 2 (.tp 3 (.tp 4 (.ef 5 (.ef 6 (.ef 7 (.ef 8 (.done)))))))))) [7, 8] rfl (by kernel_rfl) (by kernel_rfl) ?_
  refine k_loadA (n := 5) (xs := ints .u64 a0) 0 rfl (by kernel_rfl) (by kernel_rfl) s1_e173 (hp.get (j := 0) rfl) rfl rfl ((ints_length _ _).trans la0) (fun m v hm => by rw [Nat.zero_add]; exact hm) ?_
  obtain ⟨r3, qr3, h⟩ := bd_e h
  refine k_call [.agg (ints .u64 a0).toArray] rfl (by kernel_rfl) (args1 rfl) (field_Element_chain_ok k a0 la0 _ (hp.toR (fun _ h => by cases h)) qr3) ?_
  rintro _ w' ⟨_, rfl, rfl, lr30, lr31, hpc⟩
  refine ⟨_, rfl, .inr (.of_below hpc.chg.to_below), ?_⟩; have hp := hp.below hpc.chg.to_below; clear hpc
  refine k_move (v := .tuple #[.agg (ints .u64 r3.1).toArray, .agg (ints .u64 r3.2).toArray]) rfl rfl ?_
  refine k_extract (v := .agg (ints .u64 r3.1).toArray) rfl rfl rfl ?_
  refine k_extract (v := .agg (ints .u64 r3.2).toArray) rfl rfl rfl ?_
  refine k_alloc (ints .u64 (List.replicate 5 (0 : Int))) rfl (by kernel_rfl) hp ?_
  intro g4 w hbg4 hp
  refine k_alloc (ints .u64 (List.replicate 5 (0 : Int))) rfl (by kernel_rfl) hp ?_
  intro g5 w hbg5 hp
  refine k_storeA (v := .agg (ints .u64 r3.1).toArray) 2 0 (r := ⟨g4, 0, ints .u64 (List.replicate 5 (0 : Int))⟩) (ints .u64 r3.1) (ints .u64 r3.1) rfl (n := 5) (by kernel_rfl) rfl rfl rfl ((ints_length _ _).trans lr30) (ints_one _ _) hp rfl rfl rfl (Nat.le_of_eq ((Nat.zero_add _).trans ((ints_length _ _).trans List.length_replicate).symm)) (setMany_all _ _ (((ints_length _ _).trans lr30).trans ((ints_length _ _).trans List.length_replicate).symm)) (by decide) ?_; intro w hp
  refine k_storeA (v := .agg (ints .u64 r3.2).toArray) 3 0 (r := ⟨g5, 0, ints .u64 (List.replicate 5 (0 : Int))⟩) (ints .u64 r3.2) (ints .u64 r3.2) rfl (n := 5) (by kernel_rfl) rfl rfl rfl ((ints_length _ _).trans lr31) (ints_one _ _) hp rfl rfl rfl (Nat.le_of_eq ((Nat.zero_add _).trans ((ints_length _ _).trans List.length_replicate).symm)) (setMany_all _ _ (((ints_length _ _).trans lr31).trans ((ints_length _ _).trans List.length_replicate).symm)) (by decide) ?_; intro w hp
  refine k_end ?_; intro e174 qe174
  have s1_e174 : e174 1 = .pointer (some ⟨g1, 0, none⟩) := (congrFun qe174 1).trans s1_e173
  have s2_e174 : e174 2 = .pointer (some ⟨g2, 0, none⟩) := (congrFun qe174 2).trans s2_e173
  have s3_e174 : e174 3 = .pointer (some ⟨g4, 0, none⟩) := congrFun qe174 3
  clear qe174
  refine wseq rfl ?_
  refine wregion_m (.tk 0 (.tk 2 (.ef 1 (.ef 3 (.ef 4 (.done)))))) [4] [(0, 0, 0), (1, 31, 31), (0, 0, 0), (6, 31, 31), (15, 31, 31)] rfl (by kernel_rfl) (by kernel_rfl) (Nat.le_of_ble_eq_true (by kernel_rfl)) (by kernel_rfl) (by kernel_rfl) ?_
  have hp := hp.drew
  refine k_loadA (n := 5) (xs := ints .u64 r3.1) 0 rfl (by kernel_rfl) (by kernel_rfl) s3_e174 (hp.get (j := 2) rfl) rfl rfl ((ints_length _ _).trans lr30) (fun m v hm => by rw [Nat.zero_add]; exact hm) ?_
  refine k_loadA (n := 5) (xs := ints .u64 a0) 0 rfl (by kernel_rfl) (by kernel_rfl) s1_e174 (hp.get (j := 0) rfl) rfl rfl ((ints_length _ _).trans la0) (fun m v hm => by rw [Nat.zero_add]; exact hm) ?_
  obtain ⟨r6, qr6, h⟩ := bd_e h
  refine k_call [.agg (ints .u64 r3.1).toArray, .int .i64 2] rfl (by kernel_rfl) (args2 rfl rfl) (field_Element_squared_ok k r3.1 2 lr30 _ (hp.toR (fun _ h => by cases h)) qr6) ?_
  rintro _ w' ⟨_, rfl, rfl, lr60, hpc⟩
  refine ⟨_, rfl, .inr (.of_below hpc.chg.to_below), ?_⟩; have hp := hp.below hpc.chg.to_below; clear hpc
  obtain ⟨r7, qr7, h⟩ := bd_e h
  refine k_call [.agg (ints .u64 r6).toArray, .agg (ints .u64 a0).toArray] rfl (by kernel_rfl) (args2 rfl rfl) (field_Element_Times_ok r6 a0 lr60 la0 _ (hp.toR (fun _ h => by cases h)) qr7) ?_
  rintro _ w' ⟨_, rfl, rfl, lr70, hpc⟩
  refine ⟨_, rfl, .inr (.of_below hpc.chg.to_below), ?_⟩; have hp := hp.below hpc.chg.to_below; clear hpc
  refine k_storeA (v := .agg (ints .u64 r7).toArray) 1 0 (r := ⟨g2, 0, ints .u64 (List.replicate 5 (0 : Int))⟩) (ints .u64 r7) (ints .u64 r7) rfl (n := 5) (by kernel_rfl) s2_e174 rfl rfl ((ints_length _ _).trans lr70) (ints_one _ _) hp rfl rfl rfl (Nat.le_of_eq ((Nat.zero_add _).trans ((ints_length _ _).trans List.length_replicate).symm)) (setMany_all _ _ (((ints_length _ _).trans lr70).trans ((ints_length _ _).trans List.length_replicate).symm)) (by decide) ?_; intro w hp
  refine k_end ?_; intro e175 qe175
  have s2_e175 : e175 2 = .pointer (some ⟨g2, 0, none⟩) := (congrFun qe175 2).trans s2_e174
  clear qe175
  refine wret rfl ?_
  have hr : r = r7 := (Option.some.inj h).symm
  show RetP _ _ _ _ _
  rw [hr]
  exact ret_i [.agg (ints .u64 r7).toArray] (res_cell s2_e175 (loadVar_agg (by kernel_rfl) (by kernel_rfl) ((ints_length _ _).trans lr70) (hp.get (j := 1) rfl) rfl rfl rfl) res_nil) ⟨rfl, lr70, hp.none⟩
/-! 46 (postilion/field.Element).Is -/
theorem field_Element_Is_ok (k : Nat) (a0 : List Int) (a1 : List Int) (la0 : a0.length = 5) (la1 : a1.length = 5) (w0 : World) (hp : Hp w0 [] w0 [] []) {r : Bool} (h : field_Element_Is.f k a0 a1 = some r) :
    Calls Try.prog 46 [.agg (ints .u64 a0).toArray, .agg (ints .u64 a1).toArray].toArray w0 fun x w' => ∃ v, x = .returned v ∧ v = .bool r ∧ Hp w0 [] w' [] [] := by
  refine calls_in Try.func46 rfl (Nat.le_of_ble_eq_true (by kernel_rfl)) (by kernel_rfl) ?_
  intro e0 qe0
  have s0_e0 : e0 0 = .agg (ints .u64 a0).toArray := congrFun qe0 0
  have s1_e0 : e0 1 = .agg (ints .u64 a1).toArray := congrFun qe0 1
  clear qe0
  unfold field_Element_Is.f at h
  refine wseq rfl ?_
  refine wregion (.ef 0 (.ef 1 (.tp 2 (.done)))) [] rfl (by kernel_rfl) (by kernel_rfl) ?_
  refine k_box (v := .agg (ints .u64 a0).toArray) (ints .u64 a0) rfl s0_e0 rfl hp ?_
  intro g1 w hbg1 hp
  refine k_box (v := .agg (ints .u64 a1).toArray) (ints .u64 a1) rfl s1_e0 rfl hp ?_
  intro g2 w hbg2 hp
  refine k_assign (v := .bool false) rfl rfl ?_
  refine k_end ?_; intro e176 qe176
  have s2_e176 : e176 2 = .pointer (some ⟨g1, 0, none⟩) := congrFun qe176 2
  have s3_e176 : e176 3 = .pointer (some ⟨g2, 0, none⟩) := congrFun qe176 3
  clear qe176
  refine wseq rfl ?_
  refine wregion_m (.tk 0 (.tk 2 (.ef 1 (.ef 3 (.tp 4 (.tp 5 (.done))))))) [] [(0, 0, 0), (1, 63, 63), (0, 0, 0), (6, 63, 63), (10, 10, 63), (31, 16, 63)] rfl (by kernel_rfl) (by kernel_rfl) (Nat.le_of_ble_eq_true (by kernel_rfl)) (by kernel_rfl) (by kernel_rfl) ?_
  have hp := hp.drew
  refine k_loadA (n := 5) (xs := ints .u64 a0) 0 rfl (by kernel_rfl) (by kernel_rfl) s2_e176 (hp.get (j := 0) rfl) rfl rfl ((ints_length _ _).trans la0) (fun m v hm => by rw [Nat.zero_add]; exact hm) ?_
  refine k_loadA (n := 5) (xs := ints .u64 a1) 0 rfl (by kernel_rfl) (by kernel_rfl) s3_e176 (hp.get (j := 1) rfl) rfl rfl ((ints_length _ _).trans la1) (fun m v hm => by rw [Nat.zero_add]; exact hm) ?_
  obtain ⟨r3, qr3, h⟩ := bd_e h
  refine k_call [.agg (ints .u64 a0).toArray] rfl (by kernel_rfl) (args1 rfl) (field_Element_Bytes_ok k a0 la0 _ (hp.toR (fun _ h => by cases h)) qr3) ?_
  rintro _ w' ⟨_, rfl, rfl, lr30, hpc⟩
  refine ⟨_, rfl, .inr (.of_below hpc.chg.to_below), ?_⟩; have hp := hp.below hpc.chg.to_below; clear hpc
  obtain ⟨r4, qr4, h⟩ := bd_e h
  refine k_call [.agg (ints .u64 a1).toArray] rfl (by kernel_rfl) (args1 rfl) (field_Element_Bytes_ok k a1 la1 _ (hp.toR (fun _ h => by cases h)) qr4) ?_
  rintro _ w' ⟨_, rfl, rfl, lr40, hpc⟩
  refine ⟨_, rfl, .inr (.of_below hpc.chg.to_below), ?_⟩; have hp := hp.below hpc.chg.to_below; clear hpc
  refine k_eqI (k := .u8) (l := r3) (l' := r4) rfl Try.underlying22 Try.underlying5 (by kernel_rfl) (by kernel_rfl) rfl rfl lr30 lr40 ?_
  refine k_assign (v := .bool (r3 == r4)) rfl rfl ?_
  refine k_end ?_; intro e177 qe177
  have s4_e177 : e177 4 = .bool (r3 == r4) := congrFun qe177 4
  clear qe177
  refine wret rfl ?_
  have hr : r = (r3 == r4) := (Option.some.inj h).symm
  show RetP _ _ _ _ _
  rw [hr]
  exact ret_i [.bool (r3 == r4)] (res_tmp s4_e177 res_nil) ⟨rfl, hp.none⟩
/-! 47 postilion/field.RootOfMinusOne -/
theorem field_RootOfMinusOne_ok  (w0 : World) (hp : Hp w0 [] w0 [] []) {r : List Int} (h : field_RootOfMinusOne.f  = some r) :
    Calls Try.prog 47 [].toArray w0 fun x w' => ∃ v, x = .returned v ∧ v = .agg (ints .u64 r).toArray ∧ r.length = 5 ∧ Hp w0 [] w' [] [] := by
  refine calls_in Try.func47 rfl (Nat.le_of_ble_eq_true (by kernel_rfl)) (by kernel_rfl) ?_
  intro e0 qe0
  clear qe0
  unfold field_RootOfMinusOne.f at h
  refine wseq rfl ?_
  refine wregion (.ef 0 (.done)) [] rfl (by kernel_rfl) (by kernel_rfl) ?_
  refine k_alloc (ints .u64 (List.replicate 5 (0 : Int))) rfl (by kernel_rfl) hp ?_
  intro g1 w hbg1 hp
  refine k_end ?_; intro e178 qe178
  have s0_e178 : e178 0 = .pointer (some ⟨g1, 0, none⟩) := congrFun qe178 0
  clear qe178
  refine wseq rfl ?_
  refine wregion (.tp 0 (.ef 1 (.done))) [1] rfl (by kernel_rfl) (by kernel_rfl) ?_
  refine k_build (v := .agg (ints .u64 [1718705420411056, 234908883556509, 2233514472574048, 2117202627021982, 765476049583133]).toArray) rfl (fun _ => by kernel_rfl) ?_
  refine k_storeA (v := .agg (ints .u64 [1718705420411056, 234908883556509, 2233514472574048, 2117202627021982, 765476049583133]).toArray) 0 0 (r := ⟨g1, 0, ints .u64 (List.replicate 5 (0 : Int))⟩) (ints .u64 [1718705420411056, 234908883556509, 2233514472574048, 2117202627021982, 765476049583133]) (ints .u64 [1718705420411056, 234908883556509, 2233514472574048, 2117202627021982, 765476049583133]) rfl (n := 5) (by kernel_rfl) s0_e178 rfl rfl ((ints_length _ _).trans (rfl : List.length ([1718705420411056, 234908883556509, 2233514472574048, 2117202627021982, 765476049583133] : List Int) = 5)) (ints_one _ _) hp rfl rfl rfl (Nat.le_of_eq ((Nat.zero_add _).trans ((ints_length _ _).trans List.length_replicate).symm)) (setMany_all _ _ (((ints_length _ _).trans (rfl : List.length ([1718705420411056, 234908883556509, 2233514472574048, 2117202627021982, 765476049583133] : List Int) = 5)).trans ((ints_length _ _).trans List.length_replicate).symm)) (by decide) ?_; intro w hp
  refine k_end ?_; intro e179 qe179
  have s0_e179 : e179 0 = .pointer (some ⟨g1, 0, none⟩) := (congrFun qe179 0).trans s0_e178
  clear qe179
  refine wret rfl ?_
  have hr : r = [1718705420411056, 234908883556509, 2233514472574048, 2117202627021982, 765476049583133] := (Option.some.inj h).symm
  show RetP _ _ _ _ _
  rw [hr]
  exact ret_i [.agg (ints .u64 [1718705420411056, 234908883556509, 2233514472574048, 2117202627021982, 765476049583133]).toArray] (res_cell s0_e179 (loadVar_agg (by kernel_rfl) (by kernel_rfl) ((ints_length _ _).trans (rfl : List.length ([1718705420411056, 234908883556509, 2233514472574048, 2117202627021982, 765476049583133] : List Int) = 5)) (hp.get (j := 0) rfl) rfl rfl rfl) res_nil) ⟨rfl, (rfl : List.length ([1718705420411056, 234908883556509, 2233514472574048, 2117202627021982, 765476049583133] : List Int) = 5), hp.none⟩
/-! 48 (postilion/field.Element).Odd -/
theorem field_Element_Odd_ok (k : Nat) (a0 : List Int) (la0 : a0.length = 5) (w0 : World) (hp : Hp w0 [] w0 [] []) {r : Bool} (h : field_Element_Odd.f k a0 = some r) :
    Calls Try.prog 48 [.agg (ints .u64 a0).toArray].toArray w0 fun x w' => ∃ v, x = .returned v ∧ v = .bool r ∧ Hp w0 [] w' [] [] := by
  refine calls_in Try.func48 rfl (Nat.le_of_ble_eq_true (by kernel_rfl)) (by kernel_rfl) ?_
  intro e0 qe0
  have s0_e0 : e0 0 = .agg (ints .u64 a0).toArray := congrFun qe0 0
  clear qe0
  unfold field_Element_Odd.f at h
  refine wseq rfl ?_
  refine wregion (.ef 0 (.tp 1 (.done))) [] rfl (by kernel_rfl) (by kernel_rfl) ?_
  refine k_box (v := .agg (ints .u64 a0).toArray) (ints .u64 a0) rfl s0_e0 rfl hp ?_
  intro g1 w hbg1 hp
  refine k_assign (v := .bool false) rfl rfl ?_
  refine k_end ?_; intro e180 qe180
  have s1_e180 : e180 1 = .pointer (some ⟨g1, 0, none⟩) := congrFun qe180 1
  clear qe180
  refine wseq rfl ?_
  refine wregion (.tk 0 (.ef 1 (.tp 2 (.tp 3 (.tp 4 (.tp 5 (.done))))))) [] rfl (by kernel_rfl) (by kernel_rfl) ?_
  refine k_loadA (n := 5) (xs := ints .u64 a0) 0 rfl (by kernel_rfl) (by kernel_rfl) s1_e180 (hp.get (j := 0) rfl) rfl rfl ((ints_length _ _).trans la0) (fun m v hm => by rw [Nat.zero_add]; exact hm) ?_
  obtain ⟨r2, qr2, h⟩ := bd_e h
  refine k_call [.agg (ints .u64 a0).toArray] rfl (by kernel_rfl) (args1 rfl) (field_Element_Bytes_ok k a0 la0 _ (hp.toR (fun _ h => by cases h)) qr2) ?_
  rintro _ w' ⟨_, rfl, rfl, lr20, hpc⟩
  refine ⟨_, rfl, .inr (.of_below hpc.chg.to_below), ?_⟩; have hp := hp.below hpc.chg.to_below; clear hpc
  refine k_index (n := 32) (v := .int .u8 (r2.getD 0 0)) rfl Try.underlying22 (by kernel_rfl) (by kernel_rfl) rfl rfl (by decide) (ints_get (Nat.lt_of_lt_of_eq (m := 32) (by decide) (lr20).symm)) ?_
  refine k_bin (X := .int .u8 (r2.getD 0 0)) (Y := .int .u8 1) rfl rfl rfl rfl ?_
  refine k_bin (X := .int .u8 (bits .and .u8 (r2.getD 0 0) 1)) (Y := .int .u8 1) rfl rfl rfl rfl ?_
  refine k_assign (v := .bool ((bits .and .u8 (r2.getD 0 0) 1) == 1)) rfl rfl ?_
  refine k_end ?_; intro e181 qe181
  have s2_e181 : e181 2 = .bool ((bits .and .u8 (r2.getD 0 0) 1) == 1) := congrFun qe181 2
  clear qe181
  refine wret rfl ?_
  have hr : r = ((bits .and .u8 (r2.getD 0 0) 1) == 1) := (Option.some.inj h).symm
  show RetP _ _ _ _ _
  rw [hr]
  exact ret_i [.bool ((bits .and .u8 (r2.getD 0 0) 1) == 1)] (res_tmp s2_e181 res_nil) ⟨rfl, hp.none⟩
end Go.Proofs.Ytmjjkhnofolacaa
