/-
  The walks: each function of the program form returns what its plain definition computes. Printed by my own program.
  Conditions: none; every function is taken as the given program's form has it.
-/
import Derived.Test.YtpnkcajlgaokiaaDoorProg
import Derived.Test.YtpnkcajlgaokiaaDoorX1
namespace Go.Proofs.YtpnkcajlgaokiaaDoor
open Go Go.Gx Go.RowKit
set_option linter.unusedVariables false
set_option maxRecDepth 100000
/-! 26 postilion/postilionref05.from -/
theorem postilionref05_from.p1_ok {w0 : World} {Ws : List Wr} {Q : Exit → Env → World → Prop} (b0 c0 g1 g2 o0 : Nat) (a0 : List Int) (x3 : Int)  {r : List Int} (hQ0 : ∀ (e' : Env) (w' : World) (z0 : List Int), z0.length = 4 → e' 2 = .pointer (some ⟨g1, 0, none⟩) → e' 3 = .pointer (some ⟨g2, 0, none⟩) → Hp w0 Ws w' [⟨g1, 0, ints .u64 (List.replicate 4 (0 : Int))⟩, ⟨g2, 0, ints .u64 z0⟩] [⟨0, 0, ints .u64 [6346243789798364141, 1503914060200516822, 0, 1152921504606846976]⟩, ⟨b0, o0, ints .u8 a0⟩] → r = (z0) → Q (.exit 0) e' w') : ∀ (k : Nat), ∀ (y4 : List Int) (y5 : Int) (e : Env) (w : World) (ly4 : y4.length = 4) (s0_e : e 0 = .slice (some ⟨b0, o0, none⟩) a0.length c0) (s2_e : e 2 = .pointer (some ⟨g1, 0, none⟩)) (s3_e : e 3 = .pointer (some ⟨g2, 0, none⟩)) (s6_e : e 6 = .int .i64 x3) (s7_e : e 7 = .int .i64 y5) (hp : Hp w0 Ws w [⟨g1, 0, ints .u64 (List.replicate 4 (0 : Int))⟩, ⟨g2, 0, ints .u64 y4⟩] [⟨0, 0, ints .u64 [6346243789798364141, 1503914060200516822, 0, 1152921504606846976]⟩, ⟨b0, o0, ints .u8 a0⟩]) (h : postilionref05_from.p1 k a0 x3 y4 y5 = some r), Lp Tryd.prog Tryd.f26.ntmps (at_ (fbody Tryd.f26) [1, 1, 0, 1, 0, 0]) Q k e w := by
  intro k
  induction k with
  | zero => intro y4 y5 e w ly4 s0_e s2_e s3_e s6_e s7_e hp h; cases h
  | succ k ih =>
    intro y4 y5 e w ly4 s0_e s2_e s3_e s6_e s7_e hp h
    unfold postilionref05_from.p1 at h
    show Wp _ _ _ _ _ _
    refine wseq rfl ?_
    refine wregion (.tp 0 (.done)) [] rfl (by kernel_rfl) (by kernel_rfl) ?_
    refine k_bin (X := .int .i64 y5) (Y := .int .i64 x3) rfl s7_e s6_e rfl ?_
    refine k_end ?_; intro e153 qe153
    have s0_e153 : e153 0 = .slice (some ⟨b0, o0, none⟩) a0.length c0 := (congrFun qe153 0).trans s0_e
    have s2_e153 : e153 2 = .pointer (some ⟨g1, 0, none⟩) := (congrFun qe153 2).trans s2_e
    have s3_e153 : e153 3 = .pointer (some ⟨g2, 0, none⟩) := (congrFun qe153 3).trans s3_e
    have s6_e153 : e153 6 = .int .i64 x3 := (congrFun qe153 6).trans s6_e
    have s7_e153 : e153 7 = .int .i64 y5 := (congrFun qe153 7).trans s7_e
    have s8_e153 : e153 8 = .bool (decide (y5 < x3)) := congrFun qe153 8
    clear qe153
    refine wseq rfl ?_
    refine wcond (t := (decide (y5 < x3))) rfl (by decide) s8_e153 (fun hb => ?_) (fun hb => ?_)
    · replace h := br_t hb h
      refine wskip rfl ?_
      refine wseq rfl ?_
      refine wblock rfl ?_
      refine wseq rfl ?_
      refine wregion (.tp 0 (.tp 1 (.done))) [] rfl (by kernel_rfl) (by kernel_rfl) ?_
      refine k_move (v := .int .i64 y5) rfl s7_e153 ?_
      refine k_assign (v := .int .i64 y5) rfl rfl ?_
      refine k_end ?_; intro e154 qe154
      have s0_e154 : e154 0 = .slice (some ⟨b0, o0, none⟩) a0.length c0 := (congrFun qe154 0).trans s0_e153
      have s2_e154 : e154 2 = .pointer (some ⟨g1, 0, none⟩) := (congrFun qe154 2).trans s2_e153
      have s3_e154 : e154 3 = .pointer (some ⟨g2, 0, none⟩) := (congrFun qe154 3).trans s3_e153
      have s4_e154 : e154 4 = .int .i64 y5 := congrFun qe154 4
      have s6_e154 : e154 6 = .int .i64 x3 := (congrFun qe154 6).trans s6_e153
      have s7_e154 : e154 7 = .int .i64 y5 := (congrFun qe154 7).trans s7_e153
      clear qe154
      refine wregion_d (.tp 0 (.tp 1 (.tp 2 (.tp 3 (.tp 4 (.tk 5 (.tp 6 (.tp 7 (.tp 8 (.tk 9 (.tp 10 (.tp 11 (.tp 12 (.tp 13 (.tp 14 (.tp 15 (.tp 16 (.tp 17 (.ef 18 (.done)))))))))))))))))))) [18] rfl (by kernel_rfl) (by kernel_rfl) (Nat.le_of_ble_eq_true (by kernel_rfl)) (by kernel_rfl) ?_
      have hp := hp.drew
      refine k_move (v := .int .i64 y5) rfl s4_e154 ?_
      refine k_quo (a := y5) (b := 8) rfl rfl rfl (by decide) ?_
      refine k_move (v := .int .i64 y5) rfl s4_e154 ?_
      refine k_quo (a := y5) (b := 8) rfl rfl rfl (by decide) ?_
      obtain ⟨c6, h⟩ := chk_e h
      refine k_indexA (n := 4) (s := 1) (j := (IntKind.i64.wrap (Int.tdiv y5 8))) rfl Tryd.underlying48 (by kernel_rfl) s3_e154 rfl c6 ?_
      refine k_load (j := ((IntKind.i64.wrap (Int.tdiv y5 8)) : Int).toNat) (v := .int .u64 (y4.getD ((IntKind.i64.wrap (Int.tdiv y5 8)) : Int).toNat 0)) rfl (by kernel_rfl) rfl (hp.get (j := 1) rfl) rfl (show 0 + ((IntKind.i64.wrap (Int.tdiv y5 8)) : Int).toNat * 1 = 0 + ((IntKind.i64.wrap (Int.tdiv y5 8)) : Int).toNat by omega) (ints_get (idx_lt c6 ly4)) ?_
      refine k_move (v := .slice (some ⟨b0, o0, none⟩) a0.length c0) rfl s0_e154 ?_
      refine k_move (v := .int .i64 y5) rfl s4_e154 ?_
      obtain ⟨c7, h⟩ := chk_e h
      refine k_indexS (s := 1) (j := y5) rfl Tryd.underlying37 (by kernel_rfl) rfl rfl c7 ?_
      refine k_load (j := (y5 : Int).toNat) (v := .int .u8 (a0.getD (y5 : Int).toNat 0)) rfl (by kernel_rfl) rfl (hp.getR (j := 1) rfl) rfl (show o0 + (y5 : Int).toNat * 1 = o0 + (y5 : Int).toNat by omega) (ints_get (idx_lt c7 rfl)) ?_
      refine k_conv (k := .u64) (k' := .u8) (n := (a0.getD (y5 : Int).toNat 0)) rfl Tryd.underlying5 Tryd.underlying33 rfl ?_
      refine k_move (v := .int .i64 y5) rfl s4_e154 ?_
      refine k_rem (a := y5) (b := 8) rfl rfl rfl (by decide) ?_
      refine k_bin (X := .int .i64 8) (Y := .int .i64 (Int.tmod y5 8)) rfl rfl rfl rfl ?_
      refine k_conv (k := .u64) (k' := .i64) (n := (IntKind.i64.wrap (8 * (Int.tmod y5 8)))) rfl Tryd.underlying3 Tryd.underlying53 rfl ?_
      obtain ⟨c8, h⟩ := chk_e h
      refine k_shl (a := (IntKind.u64.wrap (a0.getD (y5 : Int).toNat 0))) (b := (IntKind.u64.wrap (IntKind.i64.wrap (8 * (Int.tmod y5 8))))) rfl rfl rfl c8 ?_
      refine k_bin (X := .int .u64 (y4.getD ((IntKind.i64.wrap (Int.tdiv y5 8)) : Int).toNat 0)) (Y := .int .u64 (IntKind.u64.wrap ((IntKind.u64.wrap (a0.getD (y5 : Int).toNat 0)) * 2 ^ (min ((IntKind.u64.wrap (IntKind.i64.wrap (8 * (Int.tmod y5 8)))) : Int).toNat (IntKind.u64).bits)))) rfl rfl rfl rfl ?_
      refine k_indexA (n := 4) (s := 1) (j := (IntKind.i64.wrap (Int.tdiv y5 8))) rfl Tryd.underlying48 (by kernel_rfl) s3_e154 rfl c6 ?_
      refine k_store (v := .int .u64 (bits .or .u64 (y4.getD ((IntKind.i64.wrap (Int.tdiv y5 8)) : Int).toNat 0) (IntKind.u64.wrap ((IntKind.u64.wrap (a0.getD (y5 : Int).toNat 0)) * 2 ^ (min ((IntKind.u64.wrap (IntKind.i64.wrap (8 * (Int.tmod y5 8)))) : Int).toNat (IntKind.u64).bits))))) 1 ((IntKind.i64.wrap (Int.tdiv y5 8)) : Int).toNat (r := ⟨g2, 0, ints .u64 y4⟩) rfl (by kernel_rfl) rfl rfl rfl hp rfl rfl (show 0 + ((IntKind.i64.wrap (Int.tdiv y5 8)) : Int).toNat * 1 = 0 + ((IntKind.i64.wrap (Int.tdiv y5 8)) : Int).toNat by omega) (Nat.lt_of_lt_of_eq (idx_lt c6 ly4) (ints_length _ _).symm) (by decide) ?_; intro w hp; rw [ints_set] at hp
      refine k_end ?_; intro e155 qe155
      have s0_e155 : e155 0 = .slice (some ⟨b0, o0, none⟩) a0.length c0 := (congrFun qe155 0).trans s0_e154
      have s2_e155 : e155 2 = .pointer (some ⟨g1, 0, none⟩) := (congrFun qe155 2).trans s2_e154
      have s3_e155 : e155 3 = .pointer (some ⟨g2, 0, none⟩) := (congrFun qe155 3).trans s3_e154
      have s6_e155 : e155 6 = .int .i64 x3 := (congrFun qe155 6).trans s6_e154
      have s7_e155 : e155 7 = .int .i64 y5 := (congrFun qe155 7).trans s7_e154
      clear qe155
      refine wregion (.tp 0 (.tp 1 (.done))) [] rfl (by kernel_rfl) (by kernel_rfl) ?_
      refine k_bin (X := .int .i64 y5) (Y := .int .i64 1) rfl s7_e155 rfl rfl ?_
      refine k_move (v := .int .i64 (IntKind.i64.wrap (y5 + 1))) rfl rfl ?_
      refine k_end ?_; intro e156 qe156
      have s0_e156 : e156 0 = .slice (some ⟨b0, o0, none⟩) a0.length c0 := (congrFun qe156 0).trans s0_e155
      have s2_e156 : e156 2 = .pointer (some ⟨g1, 0, none⟩) := (congrFun qe156 2).trans s2_e155
      have s3_e156 : e156 3 = .pointer (some ⟨g2, 0, none⟩) := (congrFun qe156 3).trans s3_e155
      have s6_e156 : e156 6 = .int .i64 x3 := (congrFun qe156 6).trans s6_e155
      obtain ⟨x9, qx9, h⟩ := lt_e h
      have s7_e156 : e156 7 = .int .i64 x9 := (congrFun qe156 7).trans (congrArg (Value.int .i64) qx9.symm)
      clear qe156
      exact ih (y4.set ((IntKind.i64.wrap (Int.tdiv y5 8)) : Int).toNat (bits .or .u64 (y4.getD ((IntKind.i64.wrap (Int.tdiv y5 8)) : Int).toNat 0) (IntKind.u64.wrap ((IntKind.u64.wrap (a0.getD (y5 : Int).toNat 0)) * 2 ^ (min ((IntKind.u64.wrap (IntKind.i64.wrap (8 * (Int.tmod y5 8)))) : Int).toNat (IntKind.u64).bits))))) x9 _ _ (List.length_set.trans ly4) s0_e156 s2_e156 s3_e156 s6_e156 s7_e156 (hp.drop (L' := [⟨g1, 0, ints .u64 (List.replicate 4 (0 : Int))⟩, ⟨g2, 0, ints .u64 (y4.set ((IntKind.i64.wrap (Int.tdiv y5 8)) : Int).toNat (bits .or .u64 (y4.getD ((IntKind.i64.wrap (Int.tdiv y5 8)) : Int).toNat 0) (IntKind.u64.wrap ((IntKind.u64.wrap (a0.getD (y5 : Int).toNat 0)) * 2 ^ (min ((IntKind.u64.wrap (IntKind.i64.wrap (8 * (Int.tmod y5 8)))) : Int).toNat (IntKind.u64).bits)))))⟩]) (List.Sublist.refl _)) h
    · replace h := br_f hb h
      refine wexit rfl ?_
      exact hQ0 _ _ y4 ly4 s2_e153 s3_e153 (hp.drop (L' := [⟨g1, 0, ints .u64 (List.replicate 4 (0 : Int))⟩, ⟨g2, 0, ints .u64 y4⟩]) (List.Sublist.refl _)) (Option.some.inj h).symm
theorem postilionref05_from_ok (k : Nat) (a0 : List Int) (b0 o0 c0 : Nat) (w0 : World) (hp : Hp w0 [] w0 [] [⟨0, 0, ints .u64 [6346243789798364141, 1503914060200516822, 0, 1152921504606846976]⟩, ⟨b0, o0, ints .u8 a0⟩]) {r : List Int} (h : postilionref05_from.f k a0 = some r) :
    Calls Tryd.prog 26 [.slice (some ⟨b0, o0, none⟩) a0.length c0].toArray w0 fun x w' => ∃ v, x = .returned v ∧ v = .agg (ints .u64 r).toArray ∧ r.length = 4 ∧ Hp w0 [] w' [] [⟨0, 0, ints .u64 [6346243789798364141, 1503914060200516822, 0, 1152921504606846976]⟩, ⟨b0, o0, ints .u8 a0⟩] := by
  refine calls_in Tryd.func26 rfl (Nat.le_of_ble_eq_true (by kernel_rfl)) (by kernel_rfl) ?_
  intro e0 qe0
  have s0_e0 : e0 0 = .slice (some ⟨b0, o0, none⟩) a0.length c0 := congrFun qe0 0
  clear qe0
  unfold postilionref05_from.f at h
  refine wseq rfl ?_
  refine wregion (.ef 0 (.done)) [] rfl (by kernel_rfl) (by kernel_rfl) ?_
  refine k_alloc (ints .u64 (List.replicate 4 (0 : Int))) rfl (by kernel_rfl) hp ?_
  intro g1 w hbg1 hp
  refine k_end ?_; intro e150 qe150
  have s0_e150 : e150 0 = .slice (some ⟨b0, o0, none⟩) a0.length c0 := (congrFun qe150 0).trans s0_e0
  have s2_e150 : e150 2 = .pointer (some ⟨g1, 0, none⟩) := congrFun qe150 2
  clear qe150
  refine wseq rfl ?_
  refine wregion (.ef 0 (.done)) [] rfl (by kernel_rfl) (by kernel_rfl) ?_
  refine k_alloc (ints .u64 (List.replicate 4 (0 : Int))) rfl (by kernel_rfl) hp ?_
  intro g2 w hbg2 hp
  refine k_end ?_; intro e151 qe151
  have s0_e151 : e151 0 = .slice (some ⟨b0, o0, none⟩) a0.length c0 := (congrFun qe151 0).trans s0_e150
  have s2_e151 : e151 2 = .pointer (some ⟨g1, 0, none⟩) := (congrFun qe151 2).trans s2_e150
  have s3_e151 : e151 3 = .pointer (some ⟨g2, 0, none⟩) := congrFun qe151 3
  clear qe151
  refine wseq rfl ?_
  refine wseq rfl ?_
  refine wregion (.tp 0 (.tp 1 (.tp 2 (.done)))) [] rfl (by kernel_rfl) (by kernel_rfl) ?_
  refine k_move (v := .slice (some ⟨b0, o0, none⟩) a0.length c0) rfl s0_e151 ?_
  refine k_len rfl Tryd.underlying37 rfl ?_
  refine k_move (v := .int .i64 0) rfl rfl ?_
  refine k_end ?_; intro e152 qe152
  have s0_e152 : e152 0 = .slice (some ⟨b0, o0, none⟩) a0.length c0 := (congrFun qe152 0).trans s0_e151
  have s2_e152 : e152 2 = .pointer (some ⟨g1, 0, none⟩) := (congrFun qe152 2).trans s2_e151
  have s3_e152 : e152 3 = .pointer (some ⟨g2, 0, none⟩) := (congrFun qe152 3).trans s3_e151
  obtain ⟨x3, qx3, h⟩ := lt_e h
  have s6_e152 : e152 6 = .int .i64 x3 := (congrFun qe152 6).trans (congrArg (Value.int .i64) qx3.symm)
  have s7_e152 : e152 7 = .int .i64 0 := congrFun qe152 7
  clear qe152
  refine wblock rfl ?_
  obtain ⟨r10, qr10, h⟩ := bd_e h
  refine wloop k rfl (postilionref05_from.p1_ok b0 c0 g1 g2 o0 a0 x3  ?hq0 k (List.replicate 4 (0 : Int)) 0 e152 _ List.length_replicate s0_e152 s2_e152 s3_e152 s6_e152 s7_e152 hp qr10)
  case hq0 =>
    intro e157 w m11 lm11 s2_e157 s3_e157 hp qq
    rw [qq] at h; clear qq
    refine wseq rfl ?_
    refine wregion (.tk 0 (.ef 1 (.done))) [1] rfl (by kernel_rfl) (by kernel_rfl) ?_
    refine k_loadA (n := 4) (xs := ints .u64 m11) 0 rfl (by kernel_rfl) (by kernel_rfl) s3_e157 (hp.get (j := 1) rfl) rfl rfl ((ints_length _ _).trans lm11) (fun m v hm => by rw [Nat.zero_add]; exact hm) ?_
    refine k_storeA (v := .agg (ints .u64 m11).toArray) 0 0 (r := ⟨g1, 0, ints .u64 (List.replicate 4 (0 : Int))⟩) (ints .u64 m11) (ints .u64 m11) rfl (n := 4) (by kernel_rfl) s2_e157 rfl rfl ((ints_length _ _).trans lm11) (ints_one _ _) hp rfl rfl rfl (Nat.le_of_eq ((Nat.zero_add _).trans ((ints_length _ _).trans List.length_replicate).symm)) (setMany_all _ _ (((ints_length _ _).trans lm11).trans ((ints_length _ _).trans List.length_replicate).symm)) (by decide) ?_; intro w hp
    refine k_end ?_; intro e158 qe158
    have s2_e158 : e158 2 = .pointer (some ⟨g1, 0, none⟩) := (congrFun qe158 2).trans s2_e157
    clear qe158
    refine wret rfl ?_
    have hr : r = m11 := (Option.some.inj h).symm
    show RetP _ _ _ _ _
    rw [hr]
    exact ret_i [.agg (ints .u64 m11).toArray] (res_cell s2_e158 (loadVar_agg (by kernel_rfl) (by kernel_rfl) ((ints_length _ _).trans lm11) (hp.get (j := 0) rfl) rfl rfl rfl) res_nil) ⟨rfl, lm11, hp.none⟩
/-! 27 postilion/postilionref05.order -/
theorem postilionref05_order_ok  (w0 : World) (hp : Hp w0 [] w0 [] [⟨0, 0, ints .u64 [6346243789798364141, 1503914060200516822, 0, 1152921504606846976]⟩]) {r : List Int} (h : postilionref05_order.f  = some r) :
    Calls Tryd.prog 27 [].toArray w0 fun x w' => ∃ v, x = .returned v ∧ v = .agg (ints .u64 r).toArray ∧ r.length = 4 ∧ Hp w0 [] w' [] [⟨0, 0, ints .u64 [6346243789798364141, 1503914060200516822, 0, 1152921504606846976]⟩] := by
  refine calls_in Tryd.func27 rfl (Nat.le_of_ble_eq_true (by kernel_rfl)) (by kernel_rfl) ?_
  intro e0 qe0
  clear qe0
  unfold postilionref05_order.f at h
  refine wseq rfl ?_
  refine wregion (.ef 0 (.done)) [] rfl (by kernel_rfl) (by kernel_rfl) ?_
  refine k_alloc (ints .u64 (List.replicate 4 (0 : Int))) rfl (by kernel_rfl) hp ?_
  intro g1 w hbg1 hp
  refine k_end ?_; intro e159 qe159
  have s0_e159 : e159 0 = .pointer (some ⟨g1, 0, none⟩) := congrFun qe159 0
  clear qe159
  refine wseq rfl ?_
  refine wregion (.tp 0 (.ef 1 (.done))) [1] rfl (by kernel_rfl) (by kernel_rfl) ?_
  refine k_build (v := .agg (ints .u64 [6346243789798364141, 1503914060200516822, 0, 1152921504606846976]).toArray) rfl (fun _ => by kernel_rfl) ?_
  refine k_storeA (v := .agg (ints .u64 [6346243789798364141, 1503914060200516822, 0, 1152921504606846976]).toArray) 0 0 (r := ⟨g1, 0, ints .u64 (List.replicate 4 (0 : Int))⟩) (ints .u64 [6346243789798364141, 1503914060200516822, 0, 1152921504606846976]) (ints .u64 [6346243789798364141, 1503914060200516822, 0, 1152921504606846976]) rfl (n := 4) (by kernel_rfl) s0_e159 rfl rfl ((ints_length _ _).trans (rfl : List.length ([6346243789798364141, 1503914060200516822, 0, 1152921504606846976] : List Int) = 4)) (ints_one _ _) hp rfl rfl rfl (Nat.le_of_eq ((Nat.zero_add _).trans ((ints_length _ _).trans List.length_replicate).symm)) (setMany_all _ _ (((ints_length _ _).trans (rfl : List.length ([6346243789798364141, 1503914060200516822, 0, 1152921504606846976] : List Int) = 4)).trans ((ints_length _ _).trans List.length_replicate).symm)) (by decide) ?_; intro w hp
  refine k_end ?_; intro e160 qe160
  have s0_e160 : e160 0 = .pointer (some ⟨g1, 0, none⟩) := (congrFun qe160 0).trans s0_e159
  clear qe160
  refine wret rfl ?_
  have hr : r = [6346243789798364141, 1503914060200516822, 0, 1152921504606846976] := (Option.some.inj h).symm
  show RetP _ _ _ _ _
  rw [hr]
  exact ret_i [.agg (ints .u64 [6346243789798364141, 1503914060200516822, 0, 1152921504606846976]).toArray] (res_cell s0_e160 (loadVar_agg (by kernel_rfl) (by kernel_rfl) ((ints_length _ _).trans (rfl : List.length ([6346243789798364141, 1503914060200516822, 0, 1152921504606846976] : List Int) = 4)) (hp.get (j := 0) rfl) rfl rfl rfl) res_nil) ⟨rfl, (rfl : List.length ([6346243789798364141, 1503914060200516822, 0, 1152921504606846976] : List Int) = 4), hp.none⟩
/-! 25 postilion/postilionref05.below -/
theorem postilionref05_below.p1_ok {w0 : World} {Ws : List Wr} {Q : Exit → Env → World → Prop} (g1 g2 : Nat) (a0 : List Int) (a1 : List Int) (l_a0 : a0.length = 4) (l_a1 : a1.length = 4) {r : (Unit) ⊕ (Bool)} (hQ0 : ∀ (e' : Env) (w' : World) , Hp w0 Ws w' [⟨g1, 0, ints .u64 a0⟩, ⟨g2, 0, ints .u64 a1⟩] [⟨0, 0, ints .u64 [6346243789798364141, 1503914060200516822, 0, 1152921504606846976]⟩] → r = (.inl ()) → Q (.exit 0) e' w') (hQ1 : ∀ (e' : Env) (w' : World) (z0 : Bool), e' 4 = .bool z0 → Hp w0 Ws w' [⟨g1, 0, ints .u64 a0⟩, ⟨g2, 0, ints .u64 a1⟩] [⟨0, 0, ints .u64 [6346243789798364141, 1503914060200516822, 0, 1152921504606846976]⟩] → r = (.inr (z0)) → Q .ret e' w') : ∀ (k : Nat), ∀ (y3 : Int) (e : Env) (w : World)  (s2_e : e 2 = .pointer (some ⟨g1, 0, none⟩)) (s3_e : e 3 = .pointer (some ⟨g2, 0, none⟩)) (s5_e : e 5 = .int .i64 y3) (hp : Hp w0 Ws w [⟨g1, 0, ints .u64 a0⟩, ⟨g2, 0, ints .u64 a1⟩] [⟨0, 0, ints .u64 [6346243789798364141, 1503914060200516822, 0, 1152921504606846976]⟩]) (h : postilionref05_below.p1 k a0 a1 y3 = some r), Lp Tryd.prog Tryd.f25.ntmps (at_ (fbody Tryd.f25) [1, 0, 1, 0, 0]) Q k e w := by
  intro k
  induction k with
  | zero => intro y3 e w  s2_e s3_e s5_e hp h; cases h
  | succ k ih =>
    intro y3 e w  s2_e s3_e s5_e hp h
    unfold postilionref05_below.p1 at h
    show Wp _ _ _ _ _ _
    refine wseq rfl ?_
    refine wseq rfl ?_
    refine wregion (.tp 0 (.tp 1 (.done))) [] rfl (by kernel_rfl) (by kernel_rfl) ?_
    refine k_move (v := .int .i64 y3) rfl s5_e ?_
    refine k_bin (X := .int .i64 y3) (Y := .int .i64 0) rfl rfl rfl rfl ?_
    refine k_end ?_; intro e163 qe163
    have s2_e163 : e163 2 = .pointer (some ⟨g1, 0, none⟩) := (congrFun qe163 2).trans s2_e
    have s3_e163 : e163 3 = .pointer (some ⟨g2, 0, none⟩) := (congrFun qe163 3).trans s3_e
    have s5_e163 : e163 5 = .int .i64 y3 := (congrFun qe163 5).trans s5_e
    have s7_e163 : e163 7 = .bool (decide (y3 ≥ 0)) := congrFun qe163 7
    clear qe163
    refine wcond (t := (decide (y3 ≥ 0))) rfl (by decide) s7_e163 (fun hb => ?_) (fun hb => ?_)
    · replace h := br_t hb h
      refine wskip rfl ?_
      refine wseq rfl ?_
      refine wblock rfl ?_
      refine wseq rfl ?_
      refine wregion_d (.tp 0 (.tp 1 (.tk 2 (.tp 3 (.tp 4 (.tk 5 (.tp 6 (.done)))))))) [] rfl (by kernel_rfl) (by kernel_rfl) (Nat.le_of_ble_eq_true (by kernel_rfl)) (by kernel_rfl) ?_
      have hp := hp.drew
      refine k_move (v := .int .i64 y3) rfl s5_e163 ?_
      obtain ⟨c4, h⟩ := chk_e h
      refine k_indexA (n := 4) (s := 1) (j := y3) rfl Tryd.underlying48 (by kernel_rfl) s2_e163 rfl c4 ?_
      refine k_load (j := (y3 : Int).toNat) (v := .int .u64 (a0.getD (y3 : Int).toNat 0)) rfl (by kernel_rfl) rfl (hp.get (j := 0) rfl) rfl (show 0 + (y3 : Int).toNat * 1 = 0 + (y3 : Int).toNat by omega) (ints_get (idx_lt c4 l_a0)) ?_
      refine k_move (v := .int .i64 y3) rfl s5_e163 ?_
      refine k_indexA (n := 4) (s := 1) (j := y3) rfl Tryd.underlying48 (by kernel_rfl) s3_e163 rfl c4 ?_
      refine k_load (j := (y3 : Int).toNat) (v := .int .u64 (a1.getD (y3 : Int).toNat 0)) rfl (by kernel_rfl) rfl (hp.get (j := 1) rfl) rfl (show 0 + (y3 : Int).toNat * 1 = 0 + (y3 : Int).toNat by omega) (ints_get (idx_lt c4 l_a1)) ?_
      refine k_bin (X := .int .u64 (a0.getD (y3 : Int).toNat 0)) (Y := .int .u64 (a1.getD (y3 : Int).toNat 0)) rfl rfl rfl rfl ?_
      refine k_end ?_; intro e164 qe164
      have s2_e164 : e164 2 = .pointer (some ⟨g1, 0, none⟩) := (congrFun qe164 2).trans s2_e163
      have s3_e164 : e164 3 = .pointer (some ⟨g2, 0, none⟩) := (congrFun qe164 3).trans s3_e163
      have s5_e164 : e164 5 = .int .i64 y3 := (congrFun qe164 5).trans s5_e163
      obtain ⟨t5, qt5, h⟩ := lt_e h
      have s16_e164 : e164 16 = .bool t5 := (congrFun qe164 16).trans (congrArg Value.bool qt5.symm)
      clear qe164
      refine wcond (t := t5) rfl (by decide) s16_e164 (fun hb => ?_) (fun hb => ?_)
      · replace h := br_t hb h
        refine wseq rfl ?_
        refine wregion_d (.tp 0 (.tp 1 (.tk 2 (.tp 3 (.tp 4 (.tk 5 (.tp 6 (.tp 7 (.done))))))))) [] rfl (by kernel_rfl) (by kernel_rfl) (Nat.le_of_ble_eq_true (by kernel_rfl)) (by kernel_rfl) ?_
        have hp := hp.drew
        refine k_move (v := .int .i64 y3) rfl s5_e164 ?_
        refine k_indexA (n := 4) (s := 1) (j := y3) rfl Tryd.underlying48 (by kernel_rfl) s2_e164 rfl c4 ?_
        refine k_load (j := (y3 : Int).toNat) (v := .int .u64 (a0.getD (y3 : Int).toNat 0)) rfl (by kernel_rfl) rfl (hp.get (j := 0) rfl) rfl (show 0 + (y3 : Int).toNat * 1 = 0 + (y3 : Int).toNat by omega) (ints_get (idx_lt c4 l_a0)) ?_
        refine k_move (v := .int .i64 y3) rfl s5_e164 ?_
        refine k_indexA (n := 4) (s := 1) (j := y3) rfl Tryd.underlying48 (by kernel_rfl) s3_e164 rfl c4 ?_
        refine k_load (j := (y3 : Int).toNat) (v := .int .u64 (a1.getD (y3 : Int).toNat 0)) rfl (by kernel_rfl) rfl (hp.get (j := 1) rfl) rfl (show 0 + (y3 : Int).toNat * 1 = 0 + (y3 : Int).toNat by omega) (ints_get (idx_lt c4 l_a1)) ?_
        refine k_bin (X := .int .u64 (a0.getD (y3 : Int).toNat 0)) (Y := .int .u64 (a1.getD (y3 : Int).toNat 0)) rfl rfl rfl rfl ?_
        refine k_assign (v := .bool (decide ((a0.getD (y3 : Int).toNat 0) < (a1.getD (y3 : Int).toNat 0)))) rfl rfl ?_
        refine k_end ?_; intro e165 qe165
        obtain ⟨t6, qt6, h⟩ := lt_e h
        have s4_e165 : e165 4 = .bool t6 := (congrFun qe165 4).trans (congrArg Value.bool qt6.symm)
        clear qe165
        refine wret rfl ?_
        exact hQ1 _ _ t6  s4_e165 (hp.drop (L' := [⟨g1, 0, ints .u64 a0⟩, ⟨g2, 0, ints .u64 a1⟩]) (List.Sublist.refl _)) (Option.some.inj h).symm
      · replace h := br_f hb h
        refine wskip rfl ?_
        refine wregion (.tp 0 (.tp 1 (.tp 2 (.done)))) [] rfl (by kernel_rfl) (by kernel_rfl) ?_
        refine k_move (v := .int .i64 y3) rfl s5_e164 ?_
        refine k_bin (X := .int .i64 y3) (Y := .int .i64 1) rfl rfl rfl rfl ?_
        refine k_assign (v := .int .i64 (IntKind.i64.wrap (y3 - 1))) rfl rfl ?_
        refine k_end ?_; intro e166 qe166
        have s2_e166 : e166 2 = .pointer (some ⟨g1, 0, none⟩) := (congrFun qe166 2).trans s2_e164
        have s3_e166 : e166 3 = .pointer (some ⟨g2, 0, none⟩) := (congrFun qe166 3).trans s3_e164
        obtain ⟨x7, qx7, h⟩ := lt_e h
        have s5_e166 : e166 5 = .int .i64 x7 := (congrFun qe166 5).trans (congrArg (Value.int .i64) qx7.symm)
        clear qe166
        exact ih x7 _ _  s2_e166 s3_e166 s5_e166 (hp.drop (L' := [⟨g1, 0, ints .u64 a0⟩, ⟨g2, 0, ints .u64 a1⟩]) (List.Sublist.refl _)) h
    · replace h := br_f hb h
      refine wexit rfl ?_
      exact hQ0 _ _    (hp.drop (L' := [⟨g1, 0, ints .u64 a0⟩, ⟨g2, 0, ints .u64 a1⟩]) (List.Sublist.refl _)) (Option.some.inj h).symm
theorem postilionref05_below_ok (k : Nat) (a0 : List Int) (a1 : List Int) (la0 : a0.length = 4) (la1 : a1.length = 4) (w0 : World) (hp : Hp w0 [] w0 [] [⟨0, 0, ints .u64 [6346243789798364141, 1503914060200516822, 0, 1152921504606846976]⟩]) {r : Bool} (h : postilionref05_below.f k a0 a1 = some r) :
    Calls Tryd.prog 25 [.agg (ints .u64 a0).toArray, .agg (ints .u64 a1).toArray].toArray w0 fun x w' => ∃ v, x = .returned v ∧ v = .bool r ∧ Hp w0 [] w' [] [⟨0, 0, ints .u64 [6346243789798364141, 1503914060200516822, 0, 1152921504606846976]⟩] := by
  refine calls_in Tryd.func25 rfl (Nat.le_of_ble_eq_true (by kernel_rfl)) (by kernel_rfl) ?_
  intro e0 qe0
  have s0_e0 : e0 0 = .agg (ints .u64 a0).toArray := congrFun qe0 0
  have s1_e0 : e0 1 = .agg (ints .u64 a1).toArray := congrFun qe0 1
  clear qe0
  unfold postilionref05_below.f at h
  refine wseq rfl ?_
  refine wregion (.ef 0 (.ef 1 (.tp 2 (.done)))) [] rfl (by kernel_rfl) (by kernel_rfl) ?_
  refine k_box (v := .agg (ints .u64 a0).toArray) (ints .u64 a0) rfl s0_e0 rfl hp ?_
  intro g1 w hbg1 hp
  refine k_box (v := .agg (ints .u64 a1).toArray) (ints .u64 a1) rfl s1_e0 rfl hp ?_
  intro g2 w hbg2 hp
  refine k_assign (v := .bool false) rfl rfl ?_
  refine k_end ?_; intro e161 qe161
  have s2_e161 : e161 2 = .pointer (some ⟨g1, 0, none⟩) := congrFun qe161 2
  have s3_e161 : e161 3 = .pointer (some ⟨g2, 0, none⟩) := congrFun qe161 3
  clear qe161
  refine wseq rfl ?_
  refine wseq rfl ?_
  refine wregion (.tp 0 (.done)) [] rfl (by kernel_rfl) (by kernel_rfl) ?_
  refine k_assign (v := .int .i64 3) rfl rfl ?_
  refine k_end ?_; intro e162 qe162
  have s2_e162 : e162 2 = .pointer (some ⟨g1, 0, none⟩) := (congrFun qe162 2).trans s2_e161
  have s3_e162 : e162 3 = .pointer (some ⟨g2, 0, none⟩) := (congrFun qe162 3).trans s3_e161
  have s5_e162 : e162 5 = .int .i64 3 := congrFun qe162 5
  clear qe162
  refine wblock rfl ?_
  obtain ⟨r8, qr8, h⟩ := bd_e h
  refine wloop k rfl (postilionref05_below.p1_ok g1 g2 a0 a1 la0 la1 ?hq0 ?hq1 k 3 e162 _  s2_e162 s3_e162 s5_e162 hp qr8)
  case hq0 =>
    intro e167 w    hp qq
    rw [qq] at h; clear qq
    refine wseq rfl ?_
    refine wregion (.tp 0 (.done)) [] rfl (by kernel_rfl) (by kernel_rfl) ?_
    refine k_assign (v := .bool false) rfl rfl ?_
    refine k_end ?_; intro e168 qe168
    have s4_e168 : e168 4 = .bool false := congrFun qe168 4
    clear qe168
    refine wret rfl ?_
    have hr : r = false := (Option.some.inj h).symm
    show RetP _ _ _ _ _
    rw [hr]
    exact ret_i [.bool false] (res_tmp s4_e168 res_nil) ⟨rfl, hp.none⟩
  case hq1 =>
    intro e169 w m9  s4_e169 hp qq
    rw [qq] at h; clear qq
    have hr : r = m9 := (Option.some.inj h).symm
    show RetP _ _ _ _ _
    rw [hr]
    exact ret_i [.bool m9] (res_tmp s4_e169 res_nil) ⟨rfl, hp.none⟩
/-! 13 postilion/postilionref05.Canonical -/
theorem postilionref05_Canonical_ok (k : Nat) (a0 : List Int) (la0 : a0.length = 32) (w0 : World) (hp : Hp w0 [] w0 [] [⟨0, 0, ints .u64 [6346243789798364141, 1503914060200516822, 0, 1152921504606846976]⟩]) {r : Bool} (h : postilionref05_Canonical.f k a0 = some r) :
    Calls Tryd.prog 13 [.agg (ints .u8 a0).toArray].toArray w0 fun x w' => ∃ v, x = .returned v ∧ v = .bool r ∧ Hp w0 [] w' [] [⟨0, 0, ints .u64 [6346243789798364141, 1503914060200516822, 0, 1152921504606846976]⟩] := by
  refine calls_in Tryd.func13 rfl (Nat.le_of_ble_eq_true (by kernel_rfl)) (by kernel_rfl) ?_
  intro e0 qe0
  have s0_e0 : e0 0 = .agg (ints .u8 a0).toArray := congrFun qe0 0
  clear qe0
  unfold postilionref05_Canonical.f at h
  refine wseq rfl ?_
  refine wregion (.ef 0 (.tp 1 (.done))) [] rfl (by kernel_rfl) (by kernel_rfl) ?_
  refine k_box (v := .agg (ints .u8 a0).toArray) (ints .u8 a0) rfl s0_e0 rfl hp ?_
  intro g1 w hbg1 hp
  refine k_assign (v := .bool false) rfl rfl ?_
  refine k_end ?_; intro e170 qe170
  have s1_e170 : e170 1 = .pointer (some ⟨g1, 0, none⟩) := congrFun qe170 1
  clear qe170
  refine wseq rfl ?_
  refine wregion (.tp 0 (.ef 1 (.ef 2 (.ef 3 (.tp 4 (.done)))))) [] rfl (by kernel_rfl) (by kernel_rfl) ?_
  refine k_sliceA (n := 32) (s := 1) (l := 0) (h' := 32) rfl Tryd.underlying22 (by kernel_rfl) s1_e170 rfl rfl (by decide) ?_
  obtain ⟨r2, qr2, h⟩ := bd_e h
  refine k_call [.slice (some ⟨g1, 0 + 0 * 1, none⟩) a0.length (32 - 0)] rfl (by kernel_rfl) (args1 (Eq.trans (b := .slice (some ⟨g1, 0 + 0 * 1, none⟩) (32 - 0) (32 - 0)) rfl (congrArg (fun n => Value.slice (some ⟨g1, 0 + 0 * 1, none⟩) n (32 - 0)) (show (32 - 0) = a0.length from la0.symm)))) (postilionref05_from_ok k a0 g1 (0 + 0 * 1) ((32 - 0))  _ (hp.toR (fun r hr => by simp only [List.mem_cons, List.not_mem_nil, or_false] at hr; rcases hr with rfl | rfl; exact .inr (List.mem_of_getElem? (i := 0) rfl); exact .inl (List.mem_of_getElem? (i := 0) rfl))) qr2) ?_
  rintro _ w' ⟨_, rfl, rfl, lr20, hpc⟩
  refine ⟨_, rfl, .inr (.of_below hpc.chg.to_below), ?_⟩; have hp := hp.below hpc.chg.to_below; clear hpc
  obtain ⟨r3, qr3, h⟩ := bd_e h
  refine k_call [] rfl (by kernel_rfl) (args0 ) (postilionref05_order_ok   _ (hp.toR (fun r hr => by rw [List.mem_singleton] at hr; subst hr; exact .inr (List.mem_of_getElem? (i := 0) rfl))) qr3) ?_
  rintro _ w' ⟨_, rfl, rfl, lr30, hpc⟩
  refine ⟨_, rfl, .inr (.of_below hpc.chg.to_below), ?_⟩; have hp := hp.below hpc.chg.to_below; clear hpc
  obtain ⟨r4, qr4, h⟩ := bd_e h
  refine k_call [.agg (ints .u64 r2).toArray, .agg (ints .u64 r3).toArray] rfl (by kernel_rfl) (args2 rfl rfl) (postilionref05_below_ok k r2 r3 lr20 lr30 _ (hp.toR (fun r hr => by rw [List.mem_singleton] at hr; subst hr; exact .inr (List.mem_of_getElem? (i := 0) rfl))) qr4) ?_
  rintro _ w' ⟨_, rfl, rfl, hpc⟩
  refine ⟨_, rfl, .inr (.of_below hpc.chg.to_below), ?_⟩; have hp := hp.below hpc.chg.to_below; clear hpc
  refine k_assign (v := .bool r4) rfl rfl ?_
  refine k_end ?_; intro e171 qe171
  have s2_e171 : e171 2 = .bool r4 := congrFun qe171 2
  clear qe171
  refine wret rfl ?_
  have hr : r = r4 := (Option.some.inj h).symm
  show RetP _ _ _ _ _
  rw [hr]
  exact ret_i [.bool r4] (res_tmp s2_e171 res_nil) ⟨rfl, hp.none⟩
/-! 31 postilion/postilionref05.less -/
theorem postilionref05_less.p1_ok {w0 : World} {Ws : List Wr} {Q : Exit → Env → World → Prop} (g1 g2 g3 g4 : Nat) (a0 : List Int) (a1 : List Int) (l_a0 : a0.length = 4) (l_a1 : a1.length = 4) {r : List Int} (hQ0 : ∀ (e' : Env) (w' : World) (z0 : List Int), z0.length = 4 → e' 4 = .pointer (some ⟨g3, 0, none⟩) → e' 5 = .pointer (some ⟨g4, 0, none⟩) → Hp w0 Ws w' [⟨g1, 0, ints .u64 a0⟩, ⟨g2, 0, ints .u64 a1⟩, ⟨g3, 0, ints .u64 (List.replicate 4 (0 : Int))⟩, ⟨g4, 0, ints .u64 z0⟩] [⟨0, 0, ints .u64 [6346243789798364141, 1503914060200516822, 0, 1152921504606846976]⟩] → r = (z0) → Q (.exit 0) e' w') : ∀ (k : Nat), ∀ (y5 : List Int) (y6 : Int) (y7 : Int) (e : Env) (w : World) (ly5 : y5.length = 4) (s2_e : e 2 = .pointer (some ⟨g1, 0, none⟩)) (s3_e : e 3 = .pointer (some ⟨g2, 0, none⟩)) (s4_e : e 4 = .pointer (some ⟨g3, 0, none⟩)) (s5_e : e 5 = .pointer (some ⟨g4, 0, none⟩)) (s6_e : e 6 = .int .u64 y6) (s8_e : e 8 = .int .i64 y7) (hp : Hp w0 Ws w [⟨g1, 0, ints .u64 a0⟩, ⟨g2, 0, ints .u64 a1⟩, ⟨g3, 0, ints .u64 (List.replicate 4 (0 : Int))⟩, ⟨g4, 0, ints .u64 y5⟩] [⟨0, 0, ints .u64 [6346243789798364141, 1503914060200516822, 0, 1152921504606846976]⟩]) (h : postilionref05_less.p1 k a0 a1 y5 y6 y7 = some r), Lp Tryd.prog Tryd.f31.ntmps (at_ (fbody Tryd.f31) [1, 1, 1, 0, 1, 0, 0]) Q k e w := by
  intro k
  induction k with
  | zero => intro y5 y6 y7 e w ly5 s2_e s3_e s4_e s5_e s6_e s8_e hp h; cases h
  | succ k ih =>
    intro y5 y6 y7 e w ly5 s2_e s3_e s4_e s5_e s6_e s8_e hp h
    unfold postilionref05_less.p1 at h
    show Wp _ _ _ _ _ _
    refine wseq rfl ?_
    refine wregion (.tp 0 (.done)) [] rfl (by kernel_rfl) (by kernel_rfl) ?_
    refine k_bin (X := .int .i64 y7) (Y := .int .i64 4) rfl s8_e rfl rfl ?_
    refine k_end ?_; intro e176 qe176
    have s2_e176 : e176 2 = .pointer (some ⟨g1, 0, none⟩) := (congrFun qe176 2).trans s2_e
    have s3_e176 : e176 3 = .pointer (some ⟨g2, 0, none⟩) := (congrFun qe176 3).trans s3_e
    have s4_e176 : e176 4 = .pointer (some ⟨g3, 0, none⟩) := (congrFun qe176 4).trans s4_e
    have s5_e176 : e176 5 = .pointer (some ⟨g4, 0, none⟩) := (congrFun qe176 5).trans s5_e
    have s6_e176 : e176 6 = .int .u64 y6 := (congrFun qe176 6).trans s6_e
    have s8_e176 : e176 8 = .int .i64 y7 := (congrFun qe176 8).trans s8_e
    have s9_e176 : e176 9 = .bool (decide (y7 < 4)) := congrFun qe176 9
    clear qe176
    refine wseq rfl ?_
    refine wcond (t := (decide (y7 < 4))) rfl (by decide) s9_e176 (fun hb => ?_) (fun hb => ?_)
    · replace h := br_t hb h
      refine wskip rfl ?_
      refine wseq rfl ?_
      refine wblock rfl ?_
      refine wseq rfl ?_
      refine wregion (.tp 0 (.tp 1 (.done))) [] rfl (by kernel_rfl) (by kernel_rfl) ?_
      refine k_move (v := .int .i64 y7) rfl s8_e176 ?_
      refine k_assign (v := .int .i64 y7) rfl rfl ?_
      refine k_end ?_; intro e177 qe177
      have s2_e177 : e177 2 = .pointer (some ⟨g1, 0, none⟩) := (congrFun qe177 2).trans s2_e176
      have s3_e177 : e177 3 = .pointer (some ⟨g2, 0, none⟩) := (congrFun qe177 3).trans s3_e176
      have s4_e177 : e177 4 = .pointer (some ⟨g3, 0, none⟩) := (congrFun qe177 4).trans s4_e176
      have s5_e177 : e177 5 = .pointer (some ⟨g4, 0, none⟩) := (congrFun qe177 5).trans s5_e176
      have s6_e177 : e177 6 = .int .u64 y6 := (congrFun qe177 6).trans s6_e176
      have s7_e177 : e177 7 = .int .i64 y7 := congrFun qe177 7
      have s8_e177 : e177 8 = .int .i64 y7 := (congrFun qe177 8).trans s8_e176
      clear qe177
      refine wregion_d (.tp 0 (.tp 1 (.tp 2 (.tk 3 (.tp 4 (.tp 5 (.tk 6 (.tp 7 (.tp 8 (.tp 9 (.tp 10 (.tp 11 (.tp 12 (.ef 13 (.tp 14 (.done)))))))))))))))) [13] rfl (by kernel_rfl) (by kernel_rfl) (Nat.le_of_ble_eq_true (by kernel_rfl)) (by kernel_rfl) ?_
      have hp := hp.drew
      refine k_move (v := .int .i64 y7) rfl s7_e177 ?_
      refine k_move (v := .int .i64 y7) rfl s7_e177 ?_
      obtain ⟨c8, h⟩ := chk_e h
      refine k_indexA (n := 4) (s := 1) (j := y7) rfl Tryd.underlying48 (by kernel_rfl) s2_e177 rfl c8 ?_
      refine k_load (j := (y7 : Int).toNat) (v := .int .u64 (a0.getD (y7 : Int).toNat 0)) rfl (by kernel_rfl) rfl (hp.get (j := 0) rfl) rfl (show 0 + (y7 : Int).toNat * 1 = 0 + (y7 : Int).toNat by omega) (ints_get (idx_lt c8 l_a0)) ?_
      refine k_move (v := .int .i64 y7) rfl s7_e177 ?_
      refine k_indexA (n := 4) (s := 1) (j := y7) rfl Tryd.underlying48 (by kernel_rfl) s3_e177 rfl c8 ?_
      refine k_load (j := (y7 : Int).toNat) (v := .int .u64 (a1.getD (y7 : Int).toNat 0)) rfl (by kernel_rfl) rfl (hp.get (j := 1) rfl) rfl (show 0 + (y7 : Int).toNat * 1 = 0 + (y7 : Int).toNat by omega) (ints_get (idx_lt c8 l_a1)) ?_
      refine k_move (v := .int .u64 y6) rfl s6_e177 ?_
      obtain ⟨c9, h⟩ := chk_e h
      refine k_ext [.int .u64 (a0.getD (y7 : Int).toNat 0), .int .u64 (a1.getD (y7 : Int).toNat 0), .int .u64 y6] rfl ext33 (args3 rfl rfl rfl) (fun w' => run_sub64 (a0.getD (y7 : Int).toNat 0) (a1.getD (y7 : Int).toNat 0) y6 c9.1 c9.2.1 c9.2.2.1 c9.2.2.2 w') ?_
      refine k_move (v := .tuple #[.int .u64 (((a0.getD (y7 : Int).toNat 0) - (a1.getD (y7 : Int).toNat 0) - y6) % 18446744073709551616), .int .u64 (if (a0.getD (y7 : Int).toNat 0) < (a1.getD (y7 : Int).toNat 0) + y6 then 1 else 0)]) rfl rfl ?_
      refine k_extract (v := .int .u64 (((a0.getD (y7 : Int).toNat 0) - (a1.getD (y7 : Int).toNat 0) - y6) % 18446744073709551616)) rfl rfl rfl ?_
      refine k_extract (v := .int .u64 (if (a0.getD (y7 : Int).toNat 0) < (a1.getD (y7 : Int).toNat 0) + y6 then 1 else 0)) rfl rfl rfl ?_
      refine k_indexA (n := 4) (s := 1) (j := y7) rfl Tryd.underlying48 (by kernel_rfl) s5_e177 rfl c8 ?_
      refine k_store (v := .int .u64 (((a0.getD (y7 : Int).toNat 0) - (a1.getD (y7 : Int).toNat 0) - y6) % 18446744073709551616)) 3 (y7 : Int).toNat (r := ⟨g4, 0, ints .u64 y5⟩) rfl (by kernel_rfl) rfl rfl rfl hp rfl rfl (show 0 + (y7 : Int).toNat * 1 = 0 + (y7 : Int).toNat by omega) (Nat.lt_of_lt_of_eq (idx_lt c8 ly5) (ints_length _ _).symm) (by decide) ?_; intro w hp; rw [ints_set] at hp
      refine k_assign (v := .int .u64 (if (a0.getD (y7 : Int).toNat 0) < (a1.getD (y7 : Int).toNat 0) + y6 then 1 else 0)) rfl rfl ?_
      refine k_end ?_; intro e178 qe178
      have s2_e178 : e178 2 = .pointer (some ⟨g1, 0, none⟩) := (congrFun qe178 2).trans s2_e177
      have s3_e178 : e178 3 = .pointer (some ⟨g2, 0, none⟩) := (congrFun qe178 3).trans s3_e177
      have s4_e178 : e178 4 = .pointer (some ⟨g3, 0, none⟩) := (congrFun qe178 4).trans s4_e177
      have s5_e178 : e178 5 = .pointer (some ⟨g4, 0, none⟩) := (congrFun qe178 5).trans s5_e177
      obtain ⟨x10, qx10, h⟩ := lt_e h
      have s6_e178 : e178 6 = .int .u64 x10 := (congrFun qe178 6).trans (congrArg (Value.int .u64) qx10.symm)
      have s8_e178 : e178 8 = .int .i64 y7 := (congrFun qe178 8).trans s8_e177
      clear qe178
      refine wregion (.tp 0 (.tp 1 (.done))) [] rfl (by kernel_rfl) (by kernel_rfl) ?_
      refine k_bin (X := .int .i64 y7) (Y := .int .i64 1) rfl s8_e178 rfl rfl ?_
      refine k_move (v := .int .i64 (IntKind.i64.wrap (y7 + 1))) rfl rfl ?_
      refine k_end ?_; intro e179 qe179
      have s2_e179 : e179 2 = .pointer (some ⟨g1, 0, none⟩) := (congrFun qe179 2).trans s2_e178
      have s3_e179 : e179 3 = .pointer (some ⟨g2, 0, none⟩) := (congrFun qe179 3).trans s3_e178
      have s4_e179 : e179 4 = .pointer (some ⟨g3, 0, none⟩) := (congrFun qe179 4).trans s4_e178
      have s5_e179 : e179 5 = .pointer (some ⟨g4, 0, none⟩) := (congrFun qe179 5).trans s5_e178
      have s6_e179 : e179 6 = .int .u64 x10 := (congrFun qe179 6).trans s6_e178
      obtain ⟨x11, qx11, h⟩ := lt_e h
      have s8_e179 : e179 8 = .int .i64 x11 := (congrFun qe179 8).trans (congrArg (Value.int .i64) qx11.symm)
      clear qe179
      exact ih (y5.set (y7 : Int).toNat (((a0.getD (y7 : Int).toNat 0) - (a1.getD (y7 : Int).toNat 0) - y6) % 18446744073709551616)) x10 x11 _ _ (List.length_set.trans ly5) s2_e179 s3_e179 s4_e179 s5_e179 s6_e179 s8_e179 (hp.drop (L' := [⟨g1, 0, ints .u64 a0⟩, ⟨g2, 0, ints .u64 a1⟩, ⟨g3, 0, ints .u64 (List.replicate 4 (0 : Int))⟩, ⟨g4, 0, ints .u64 (y5.set (y7 : Int).toNat (((a0.getD (y7 : Int).toNat 0) - (a1.getD (y7 : Int).toNat 0) - y6) % 18446744073709551616))⟩]) (List.Sublist.refl _)) h
    · replace h := br_f hb h
      refine wexit rfl ?_
      exact hQ0 _ _ y5 ly5 s4_e176 s5_e176 (hp.drop (L' := [⟨g1, 0, ints .u64 a0⟩, ⟨g2, 0, ints .u64 a1⟩, ⟨g3, 0, ints .u64 (List.replicate 4 (0 : Int))⟩, ⟨g4, 0, ints .u64 y5⟩]) (List.Sublist.refl _)) (Option.some.inj h).symm
theorem postilionref05_less_ok (k : Nat) (a0 : List Int) (a1 : List Int) (la0 : a0.length = 4) (la1 : a1.length = 4) (w0 : World) (hp : Hp w0 [] w0 [] [⟨0, 0, ints .u64 [6346243789798364141, 1503914060200516822, 0, 1152921504606846976]⟩]) {r : List Int} (h : postilionref05_less.f k a0 a1 = some r) :
    Calls Tryd.prog 31 [.agg (ints .u64 a0).toArray, .agg (ints .u64 a1).toArray].toArray w0 fun x w' => ∃ v, x = .returned v ∧ v = .agg (ints .u64 r).toArray ∧ r.length = 4 ∧ Hp w0 [] w' [] [⟨0, 0, ints .u64 [6346243789798364141, 1503914060200516822, 0, 1152921504606846976]⟩] := by
  refine calls_in Tryd.func31 rfl (Nat.le_of_ble_eq_true (by kernel_rfl)) (by kernel_rfl) ?_
  intro e0 qe0
  have s0_e0 : e0 0 = .agg (ints .u64 a0).toArray := congrFun qe0 0
  have s1_e0 : e0 1 = .agg (ints .u64 a1).toArray := congrFun qe0 1
  clear qe0
  unfold postilionref05_less.f at h
  refine wseq rfl ?_
  refine wregion (.ef 0 (.ef 1 (.ef 2 (.done)))) [] rfl (by kernel_rfl) (by kernel_rfl) ?_
  refine k_box (v := .agg (ints .u64 a0).toArray) (ints .u64 a0) rfl s0_e0 rfl hp ?_
  intro g1 w hbg1 hp
  refine k_box (v := .agg (ints .u64 a1).toArray) (ints .u64 a1) rfl s1_e0 rfl hp ?_
  intro g2 w hbg2 hp
  refine k_alloc (ints .u64 (List.replicate 4 (0 : Int))) rfl (by kernel_rfl) hp ?_
  intro g3 w hbg3 hp
  refine k_end ?_; intro e172 qe172
  have s2_e172 : e172 2 = .pointer (some ⟨g1, 0, none⟩) := congrFun qe172 2
  have s3_e172 : e172 3 = .pointer (some ⟨g2, 0, none⟩) := congrFun qe172 3
  have s4_e172 : e172 4 = .pointer (some ⟨g3, 0, none⟩) := congrFun qe172 4
  clear qe172
  refine wseq rfl ?_
  refine wregion (.ef 0 (.done)) [] rfl (by kernel_rfl) (by kernel_rfl) ?_
  refine k_alloc (ints .u64 (List.replicate 4 (0 : Int))) rfl (by kernel_rfl) hp ?_
  intro g4 w hbg4 hp
  refine k_end ?_; intro e173 qe173
  have s2_e173 : e173 2 = .pointer (some ⟨g1, 0, none⟩) := (congrFun qe173 2).trans s2_e172
  have s3_e173 : e173 3 = .pointer (some ⟨g2, 0, none⟩) := (congrFun qe173 3).trans s3_e172
  have s4_e173 : e173 4 = .pointer (some ⟨g3, 0, none⟩) := (congrFun qe173 4).trans s4_e172
  have s5_e173 : e173 5 = .pointer (some ⟨g4, 0, none⟩) := congrFun qe173 5
  clear qe173
  refine wseq rfl ?_
  refine wregion (.tp 0 (.done)) [] rfl (by kernel_rfl) (by kernel_rfl) ?_
  refine k_assign (v := .int .u64 0) rfl rfl ?_
  refine k_end ?_; intro e174 qe174
  have s2_e174 : e174 2 = .pointer (some ⟨g1, 0, none⟩) := (congrFun qe174 2).trans s2_e173
  have s3_e174 : e174 3 = .pointer (some ⟨g2, 0, none⟩) := (congrFun qe174 3).trans s3_e173
  have s4_e174 : e174 4 = .pointer (some ⟨g3, 0, none⟩) := (congrFun qe174 4).trans s4_e173
  have s5_e174 : e174 5 = .pointer (some ⟨g4, 0, none⟩) := (congrFun qe174 5).trans s5_e173
  have s6_e174 : e174 6 = .int .u64 0 := congrFun qe174 6
  clear qe174
  refine wseq rfl ?_
  refine wseq rfl ?_
  refine wregion (.tp 0 (.done)) [] rfl (by kernel_rfl) (by kernel_rfl) ?_
  refine k_move (v := .int .i64 0) rfl rfl ?_
  refine k_end ?_; intro e175 qe175
  have s2_e175 : e175 2 = .pointer (some ⟨g1, 0, none⟩) := (congrFun qe175 2).trans s2_e174
  have s3_e175 : e175 3 = .pointer (some ⟨g2, 0, none⟩) := (congrFun qe175 3).trans s3_e174
  have s4_e175 : e175 4 = .pointer (some ⟨g3, 0, none⟩) := (congrFun qe175 4).trans s4_e174
  have s5_e175 : e175 5 = .pointer (some ⟨g4, 0, none⟩) := (congrFun qe175 5).trans s5_e174
  have s6_e175 : e175 6 = .int .u64 0 := (congrFun qe175 6).trans s6_e174
  have s8_e175 : e175 8 = .int .i64 0 := congrFun qe175 8
  clear qe175
  refine wblock rfl ?_
  obtain ⟨r12, qr12, h⟩ := bd_e h
  refine wloop k rfl (postilionref05_less.p1_ok g1 g2 g3 g4 a0 a1 la0 la1 ?hq0 k (List.replicate 4 (0 : Int)) 0 0 e175 _ List.length_replicate s2_e175 s3_e175 s4_e175 s5_e175 s6_e175 s8_e175 hp qr12)
  case hq0 =>
    intro e180 w m13 lm13 s4_e180 s5_e180 hp qq
    rw [qq] at h; clear qq
    refine wseq rfl ?_
    refine wregion (.tk 0 (.ef 1 (.done))) [1] rfl (by kernel_rfl) (by kernel_rfl) ?_
    refine k_loadA (n := 4) (xs := ints .u64 m13) 0 rfl (by kernel_rfl) (by kernel_rfl) s5_e180 (hp.get (j := 3) rfl) rfl rfl ((ints_length _ _).trans lm13) (fun m v hm => by rw [Nat.zero_add]; exact hm) ?_
    refine k_storeA (v := .agg (ints .u64 m13).toArray) 2 0 (r := ⟨g3, 0, ints .u64 (List.replicate 4 (0 : Int))⟩) (ints .u64 m13) (ints .u64 m13) rfl (n := 4) (by kernel_rfl) s4_e180 rfl rfl ((ints_length _ _).trans lm13) (ints_one _ _) hp rfl rfl rfl (Nat.le_of_eq ((Nat.zero_add _).trans ((ints_length _ _).trans List.length_replicate).symm)) (setMany_all _ _ (((ints_length _ _).trans lm13).trans ((ints_length _ _).trans List.length_replicate).symm)) (by decide) ?_; intro w hp
    refine k_end ?_; intro e181 qe181
    have s4_e181 : e181 4 = .pointer (some ⟨g3, 0, none⟩) := (congrFun qe181 4).trans s4_e180
    clear qe181
    refine wret rfl ?_
    have hr : r = m13 := (Option.some.inj h).symm
    show RetP _ _ _ _ _
    rw [hr]
    exact ret_i [.agg (ints .u64 m13).toArray] (res_cell s4_e181 (loadVar_agg (by kernel_rfl) (by kernel_rfl) ((ints_length _ _).trans lm13) (hp.get (j := 2) rfl) rfl rfl rfl) res_nil) ⟨rfl, lm13, hp.none⟩
/-! 30 postilion/postilionref05.plus -/
theorem postilionref05_plus.p1_ok {w0 : World} {Ws : List Wr} {Q : Exit → Env → World → Prop} (g1 g2 g3 g4 : Nat) (a0 : List Int) (a1 : List Int) (l_a0 : a0.length = 4) (l_a1 : a1.length = 4) {r : List Int} (hQ0 : ∀ (e' : Env) (w' : World) (z0 : List Int), z0.length = 4 → e' 4 = .pointer (some ⟨g3, 0, none⟩) → e' 5 = .pointer (some ⟨g4, 0, none⟩) → Hp w0 Ws w' [⟨g1, 0, ints .u64 a0⟩, ⟨g2, 0, ints .u64 a1⟩, ⟨g3, 0, ints .u64 (List.replicate 4 (0 : Int))⟩, ⟨g4, 0, ints .u64 z0⟩] [⟨0, 0, ints .u64 [6346243789798364141, 1503914060200516822, 0, 1152921504606846976]⟩] → r = (z0) → Q (.exit 0) e' w') : ∀ (k : Nat), ∀ (y5 : List Int) (y6 : Int) (y7 : Int) (e : Env) (w : World) (ly5 : y5.length = 4) (s2_e : e 2 = .pointer (some ⟨g1, 0, none⟩)) (s3_e : e 3 = .pointer (some ⟨g2, 0, none⟩)) (s4_e : e 4 = .pointer (some ⟨g3, 0, none⟩)) (s5_e : e 5 = .pointer (some ⟨g4, 0, none⟩)) (s6_e : e 6 = .int .u64 y6) (s8_e : e 8 = .int .i64 y7) (hp : Hp w0 Ws w [⟨g1, 0, ints .u64 a0⟩, ⟨g2, 0, ints .u64 a1⟩, ⟨g3, 0, ints .u64 (List.replicate 4 (0 : Int))⟩, ⟨g4, 0, ints .u64 y5⟩] [⟨0, 0, ints .u64 [6346243789798364141, 1503914060200516822, 0, 1152921504606846976]⟩]) (h : postilionref05_plus.p1 k a0 a1 y5 y6 y7 = some r), Lp Tryd.prog Tryd.f30.ntmps (at_ (fbody Tryd.f30) [1, 1, 1, 0, 1, 0, 0]) Q k e w := by
  intro k
  induction k with
  | zero => intro y5 y6 y7 e w ly5 s2_e s3_e s4_e s5_e s6_e s8_e hp h; cases h
  | succ k ih =>
    intro y5 y6 y7 e w ly5 s2_e s3_e s4_e s5_e s6_e s8_e hp h
    unfold postilionref05_plus.p1 at h
    show Wp _ _ _ _ _ _
    refine wseq rfl ?_
    refine wregion (.tp 0 (.done)) [] rfl (by kernel_rfl) (by kernel_rfl) ?_
    refine k_bin (X := .int .i64 y7) (Y := .int .i64 4) rfl s8_e rfl rfl ?_
    refine k_end ?_; intro e186 qe186
    have s2_e186 : e186 2 = .pointer (some ⟨g1, 0, none⟩) := (congrFun qe186 2).trans s2_e
    have s3_e186 : e186 3 = .pointer (some ⟨g2, 0, none⟩) := (congrFun qe186 3).trans s3_e
    have s4_e186 : e186 4 = .pointer (some ⟨g3, 0, none⟩) := (congrFun qe186 4).trans s4_e
    have s5_e186 : e186 5 = .pointer (some ⟨g4, 0, none⟩) := (congrFun qe186 5).trans s5_e
    have s6_e186 : e186 6 = .int .u64 y6 := (congrFun qe186 6).trans s6_e
    have s8_e186 : e186 8 = .int .i64 y7 := (congrFun qe186 8).trans s8_e
    have s9_e186 : e186 9 = .bool (decide (y7 < 4)) := congrFun qe186 9
    clear qe186
    refine wseq rfl ?_
    refine wcond (t := (decide (y7 < 4))) rfl (by decide) s9_e186 (fun hb => ?_) (fun hb => ?_)
    · replace h := br_t hb h
      refine wskip rfl ?_
      refine wseq rfl ?_
      refine wblock rfl ?_
      refine wseq rfl ?_
      refine wregion (.tp 0 (.tp 1 (.done))) [] rfl (by kernel_rfl) (by kernel_rfl) ?_
      refine k_move (v := .int .i64 y7) rfl s8_e186 ?_
      refine k_assign (v := .int .i64 y7) rfl rfl ?_
      refine k_end ?_; intro e187 qe187
      have s2_e187 : e187 2 = .pointer (some ⟨g1, 0, none⟩) := (congrFun qe187 2).trans s2_e186
      have s3_e187 : e187 3 = .pointer (some ⟨g2, 0, none⟩) := (congrFun qe187 3).trans s3_e186
      have s4_e187 : e187 4 = .pointer (some ⟨g3, 0, none⟩) := (congrFun qe187 4).trans s4_e186
      have s5_e187 : e187 5 = .pointer (some ⟨g4, 0, none⟩) := (congrFun qe187 5).trans s5_e186
      have s6_e187 : e187 6 = .int .u64 y6 := (congrFun qe187 6).trans s6_e186
      have s7_e187 : e187 7 = .int .i64 y7 := congrFun qe187 7
      have s8_e187 : e187 8 = .int .i64 y7 := (congrFun qe187 8).trans s8_e186
      clear qe187
      refine wregion_d (.tp 0 (.tp 1 (.tp 2 (.tk 3 (.tp 4 (.tp 5 (.tk 6 (.tp 7 (.tp 8 (.tp 9 (.tp 10 (.tp 11 (.tp 12 (.ef 13 (.tp 14 (.done)))))))))))))))) [13] rfl (by kernel_rfl) (by kernel_rfl) (Nat.le_of_ble_eq_true (by kernel_rfl)) (by kernel_rfl) ?_
      have hp := hp.drew
      refine k_move (v := .int .i64 y7) rfl s7_e187 ?_
      refine k_move (v := .int .i64 y7) rfl s7_e187 ?_
      obtain ⟨c8, h⟩ := chk_e h
      refine k_indexA (n := 4) (s := 1) (j := y7) rfl Tryd.underlying48 (by kernel_rfl) s2_e187 rfl c8 ?_
      refine k_load (j := (y7 : Int).toNat) (v := .int .u64 (a0.getD (y7 : Int).toNat 0)) rfl (by kernel_rfl) rfl (hp.get (j := 0) rfl) rfl (show 0 + (y7 : Int).toNat * 1 = 0 + (y7 : Int).toNat by omega) (ints_get (idx_lt c8 l_a0)) ?_
      refine k_move (v := .int .i64 y7) rfl s7_e187 ?_
      refine k_indexA (n := 4) (s := 1) (j := y7) rfl Tryd.underlying48 (by kernel_rfl) s3_e187 rfl c8 ?_
      refine k_load (j := (y7 : Int).toNat) (v := .int .u64 (a1.getD (y7 : Int).toNat 0)) rfl (by kernel_rfl) rfl (hp.get (j := 1) rfl) rfl (show 0 + (y7 : Int).toNat * 1 = 0 + (y7 : Int).toNat by omega) (ints_get (idx_lt c8 l_a1)) ?_
      refine k_move (v := .int .u64 y6) rfl s6_e187 ?_
      obtain ⟨c9, h⟩ := chk_e h
      refine k_ext [.int .u64 (a0.getD (y7 : Int).toNat 0), .int .u64 (a1.getD (y7 : Int).toNat 0), .int .u64 y6] rfl ext21 (args3 rfl rfl rfl) (fun w' => run_add64 (a0.getD (y7 : Int).toNat 0) (a1.getD (y7 : Int).toNat 0) y6 c9.1 c9.2.1 c9.2.2.1 c9.2.2.2 w') ?_
      refine k_move (v := .tuple #[.int .u64 (((a0.getD (y7 : Int).toNat 0) + (a1.getD (y7 : Int).toNat 0) + y6) % 18446744073709551616), .int .u64 (((a0.getD (y7 : Int).toNat 0) + (a1.getD (y7 : Int).toNat 0) + y6) / 18446744073709551616)]) rfl rfl ?_
      refine k_extract (v := .int .u64 (((a0.getD (y7 : Int).toNat 0) + (a1.getD (y7 : Int).toNat 0) + y6) % 18446744073709551616)) rfl rfl rfl ?_
      refine k_extract (v := .int .u64 (((a0.getD (y7 : Int).toNat 0) + (a1.getD (y7 : Int).toNat 0) + y6) / 18446744073709551616)) rfl rfl rfl ?_
      refine k_indexA (n := 4) (s := 1) (j := y7) rfl Tryd.underlying48 (by kernel_rfl) s5_e187 rfl c8 ?_
      refine k_store (v := .int .u64 (((a0.getD (y7 : Int).toNat 0) + (a1.getD (y7 : Int).toNat 0) + y6) % 18446744073709551616)) 3 (y7 : Int).toNat (r := ⟨g4, 0, ints .u64 y5⟩) rfl (by kernel_rfl) rfl rfl rfl hp rfl rfl (show 0 + (y7 : Int).toNat * 1 = 0 + (y7 : Int).toNat by omega) (Nat.lt_of_lt_of_eq (idx_lt c8 ly5) (ints_length _ _).symm) (by decide) ?_; intro w hp; rw [ints_set] at hp
      refine k_assign (v := .int .u64 (((a0.getD (y7 : Int).toNat 0) + (a1.getD (y7 : Int).toNat 0) + y6) / 18446744073709551616)) rfl rfl ?_
      refine k_end ?_; intro e188 qe188
      have s2_e188 : e188 2 = .pointer (some ⟨g1, 0, none⟩) := (congrFun qe188 2).trans s2_e187
      have s3_e188 : e188 3 = .pointer (some ⟨g2, 0, none⟩) := (congrFun qe188 3).trans s3_e187
      have s4_e188 : e188 4 = .pointer (some ⟨g3, 0, none⟩) := (congrFun qe188 4).trans s4_e187
      have s5_e188 : e188 5 = .pointer (some ⟨g4, 0, none⟩) := (congrFun qe188 5).trans s5_e187
      obtain ⟨x10, qx10, h⟩ := lt_e h
      have s6_e188 : e188 6 = .int .u64 x10 := (congrFun qe188 6).trans (congrArg (Value.int .u64) qx10.symm)
      have s8_e188 : e188 8 = .int .i64 y7 := (congrFun qe188 8).trans s8_e187
      clear qe188
      refine wregion (.tp 0 (.tp 1 (.done))) [] rfl (by kernel_rfl) (by kernel_rfl) ?_
      refine k_bin (X := .int .i64 y7) (Y := .int .i64 1) rfl s8_e188 rfl rfl ?_
      refine k_move (v := .int .i64 (IntKind.i64.wrap (y7 + 1))) rfl rfl ?_
      refine k_end ?_; intro e189 qe189
      have s2_e189 : e189 2 = .pointer (some ⟨g1, 0, none⟩) := (congrFun qe189 2).trans s2_e188
      have s3_e189 : e189 3 = .pointer (some ⟨g2, 0, none⟩) := (congrFun qe189 3).trans s3_e188
      have s4_e189 : e189 4 = .pointer (some ⟨g3, 0, none⟩) := (congrFun qe189 4).trans s4_e188
      have s5_e189 : e189 5 = .pointer (some ⟨g4, 0, none⟩) := (congrFun qe189 5).trans s5_e188
      have s6_e189 : e189 6 = .int .u64 x10 := (congrFun qe189 6).trans s6_e188
      obtain ⟨x11, qx11, h⟩ := lt_e h
      have s8_e189 : e189 8 = .int .i64 x11 := (congrFun qe189 8).trans (congrArg (Value.int .i64) qx11.symm)
      clear qe189
      exact ih (y5.set (y7 : Int).toNat (((a0.getD (y7 : Int).toNat 0) + (a1.getD (y7 : Int).toNat 0) + y6) % 18446744073709551616)) x10 x11 _ _ (List.length_set.trans ly5) s2_e189 s3_e189 s4_e189 s5_e189 s6_e189 s8_e189 (hp.drop (L' := [⟨g1, 0, ints .u64 a0⟩, ⟨g2, 0, ints .u64 a1⟩, ⟨g3, 0, ints .u64 (List.replicate 4 (0 : Int))⟩, ⟨g4, 0, ints .u64 (y5.set (y7 : Int).toNat (((a0.getD (y7 : Int).toNat 0) + (a1.getD (y7 : Int).toNat 0) + y6) % 18446744073709551616))⟩]) (List.Sublist.refl _)) h
    · replace h := br_f hb h
      refine wexit rfl ?_
      exact hQ0 _ _ y5 ly5 s4_e186 s5_e186 (hp.drop (L' := [⟨g1, 0, ints .u64 a0⟩, ⟨g2, 0, ints .u64 a1⟩, ⟨g3, 0, ints .u64 (List.replicate 4 (0 : Int))⟩, ⟨g4, 0, ints .u64 y5⟩]) (List.Sublist.refl _)) (Option.some.inj h).symm
theorem postilionref05_plus.p2_ok {w0 : World} {Ws : List Wr} {Q : Exit → Env → World → Prop} (k : Nat) (g1 g2 g3 g4 : Nat) (r15 : Bool) (a0 : List Int) (a1 : List Int) (m13 : List Int) (l_a0 : a0.length = 4) (l_a1 : a1.length = 4) (l_m13 : m13.length = 4) {r : List Int} (hQ0 : ∀ (e' : Env) (w' : World) (z0 : List Int), z0.length = 4 → e' 4 = .pointer (some ⟨g3, 0, none⟩) → e' 5 = .pointer (some ⟨g4, 0, none⟩) → Hp w0 Ws w' [⟨g1, 0, ints .u64 a0⟩, ⟨g2, 0, ints .u64 a1⟩, ⟨g3, 0, ints .u64 (List.replicate 4 (0 : Int))⟩, ⟨g4, 0, ints .u64 z0⟩] [⟨0, 0, ints .u64 [6346243789798364141, 1503914060200516822, 0, 1152921504606846976]⟩] → r = (z0) → Q .normal e' w') (e : Env) (w : World) (s4_e : e 4 = .pointer (some ⟨g3, 0, none⟩)) (s5_e : e 5 = .pointer (some ⟨g4, 0, none⟩)) (s28_e : e 28 = .bool (!r15)) (hp : Hp w0 Ws w [⟨g1, 0, ints .u64 a0⟩, ⟨g2, 0, ints .u64 a1⟩, ⟨g3, 0, ints .u64 (List.replicate 4 (0 : Int))⟩, ⟨g4, 0, ints .u64 m13⟩] [⟨0, 0, ints .u64 [6346243789798364141, 1503914060200516822, 0, 1152921504606846976]⟩]) (h : postilionref05_plus.p2 k r15 m13 = some r) : Wp Tryd.prog Tryd.f30.ntmps (at_ (fbody Tryd.f30) [1, 1, 1, 1, 0, 1]) Q e w := by
  unfold postilionref05_plus.p2 at h
  refine wcond (t := (!r15)) rfl (by decide) s28_e (fun hb => ?_) (fun hb => ?_)
  · replace h := br_t hb h
    refine wregion_d (.tk 0 (.ef 1 (.ef 2 (.ef 3 (.done))))) [3] rfl (by kernel_rfl) (by kernel_rfl) (Nat.le_of_ble_eq_true (by kernel_rfl)) (by kernel_rfl) ?_
    have hp := hp.drew
    refine k_loadA (n := 4) (xs := ints .u64 m13) 0 rfl (by kernel_rfl) (by kernel_rfl) s5_e (hp.get (j := 3) rfl) rfl rfl ((ints_length _ _).trans l_m13) (fun m v hm => by rw [Nat.zero_add]; exact hm) ?_
    obtain ⟨r16, qr16, h⟩ := bd_e h
    refine k_call [] rfl (by kernel_rfl) (args0 ) (postilionref05_order_ok   _ (hp.toR (fun r hr => by rw [List.mem_singleton] at hr; subst hr; exact .inr (List.mem_of_getElem? (i := 0) rfl))) qr16) ?_
    rintro _ w' ⟨_, rfl, rfl, lr160, hpc⟩
    refine ⟨_, rfl, .inr (.of_below hpc.chg.to_below), ?_⟩; have hp := hp.below hpc.chg.to_below; clear hpc
    obtain ⟨r17, qr17, h⟩ := bd_e h
    refine k_call [.agg (ints .u64 m13).toArray, .agg (ints .u64 r16).toArray] rfl (by kernel_rfl) (args2 rfl rfl) (postilionref05_less_ok k m13 r16 l_m13 lr160 _ (hp.toR (fun r hr => by rw [List.mem_singleton] at hr; subst hr; exact .inr (List.mem_of_getElem? (i := 0) rfl))) qr17) ?_
    rintro _ w' ⟨_, rfl, rfl, lr170, hpc⟩
    refine ⟨_, rfl, .inr (.of_below hpc.chg.to_below), ?_⟩; have hp := hp.below hpc.chg.to_below; clear hpc
    refine k_storeA (v := .agg (ints .u64 r17).toArray) 3 0 (r := ⟨g4, 0, ints .u64 m13⟩) (ints .u64 r17) (ints .u64 r17) rfl (n := 4) (by kernel_rfl) s5_e rfl rfl ((ints_length _ _).trans lr170) (ints_one _ _) hp rfl rfl rfl (Nat.le_of_eq ((Nat.zero_add _).trans ((ints_length _ _).trans l_m13).symm)) (setMany_all _ _ (((ints_length _ _).trans lr170).trans ((ints_length _ _).trans l_m13).symm)) (by decide) ?_; intro w hp
    refine k_end ?_; intro e192 qe192
    have s4_e192 : e192 4 = .pointer (some ⟨g3, 0, none⟩) := (congrFun qe192 4).trans s4_e
    have s5_e192 : e192 5 = .pointer (some ⟨g4, 0, none⟩) := (congrFun qe192 5).trans s5_e
    clear qe192
    exact hQ0 _ _ r17 lr170 s4_e192 s5_e192 (hp.drop (L' := [⟨g1, 0, ints .u64 a0⟩, ⟨g2, 0, ints .u64 a1⟩, ⟨g3, 0, ints .u64 (List.replicate 4 (0 : Int))⟩, ⟨g4, 0, ints .u64 r17⟩]) (List.Sublist.refl _)) (Option.some.inj h).symm
  · replace h := br_f hb h
    refine wskip rfl ?_
    exact hQ0 _ _ m13 l_m13 s4_e s5_e (hp.drop (L' := [⟨g1, 0, ints .u64 a0⟩, ⟨g2, 0, ints .u64 a1⟩, ⟨g3, 0, ints .u64 (List.replicate 4 (0 : Int))⟩, ⟨g4, 0, ints .u64 m13⟩]) (List.Sublist.refl _)) (Option.some.inj h).symm
theorem postilionref05_plus_ok (k : Nat) (a0 : List Int) (a1 : List Int) (la0 : a0.length = 4) (la1 : a1.length = 4) (w0 : World) (hp : Hp w0 [] w0 [] [⟨0, 0, ints .u64 [6346243789798364141, 1503914060200516822, 0, 1152921504606846976]⟩]) {r : List Int} (h : postilionref05_plus.f k a0 a1 = some r) :
    Calls Tryd.prog 30 [.agg (ints .u64 a0).toArray, .agg (ints .u64 a1).toArray].toArray w0 fun x w' => ∃ v, x = .returned v ∧ v = .agg (ints .u64 r).toArray ∧ r.length = 4 ∧ Hp w0 [] w' [] [⟨0, 0, ints .u64 [6346243789798364141, 1503914060200516822, 0, 1152921504606846976]⟩] := by
  refine calls_in Tryd.func30 rfl (Nat.le_of_ble_eq_true (by kernel_rfl)) (by kernel_rfl) ?_
  intro e0 qe0
  have s0_e0 : e0 0 = .agg (ints .u64 a0).toArray := congrFun qe0 0
  have s1_e0 : e0 1 = .agg (ints .u64 a1).toArray := congrFun qe0 1
  clear qe0
  unfold postilionref05_plus.f at h
  refine wseq rfl ?_
  refine wregion (.ef 0 (.ef 1 (.ef 2 (.done)))) [] rfl (by kernel_rfl) (by kernel_rfl) ?_
  refine k_box (v := .agg (ints .u64 a0).toArray) (ints .u64 a0) rfl s0_e0 rfl hp ?_
  intro g1 w hbg1 hp
  refine k_box (v := .agg (ints .u64 a1).toArray) (ints .u64 a1) rfl s1_e0 rfl hp ?_
  intro g2 w hbg2 hp
  refine k_alloc (ints .u64 (List.replicate 4 (0 : Int))) rfl (by kernel_rfl) hp ?_
  intro g3 w hbg3 hp
  refine k_end ?_; intro e182 qe182
  have s2_e182 : e182 2 = .pointer (some ⟨g1, 0, none⟩) := congrFun qe182 2
  have s3_e182 : e182 3 = .pointer (some ⟨g2, 0, none⟩) := congrFun qe182 3
  have s4_e182 : e182 4 = .pointer (some ⟨g3, 0, none⟩) := congrFun qe182 4
  clear qe182
  refine wseq rfl ?_
  refine wregion (.ef 0 (.done)) [] rfl (by kernel_rfl) (by kernel_rfl) ?_
  refine k_alloc (ints .u64 (List.replicate 4 (0 : Int))) rfl (by kernel_rfl) hp ?_
  intro g4 w hbg4 hp
  refine k_end ?_; intro e183 qe183
  have s2_e183 : e183 2 = .pointer (some ⟨g1, 0, none⟩) := (congrFun qe183 2).trans s2_e182
  have s3_e183 : e183 3 = .pointer (some ⟨g2, 0, none⟩) := (congrFun qe183 3).trans s3_e182
  have s4_e183 : e183 4 = .pointer (some ⟨g3, 0, none⟩) := (congrFun qe183 4).trans s4_e182
  have s5_e183 : e183 5 = .pointer (some ⟨g4, 0, none⟩) := congrFun qe183 5
  clear qe183
  refine wseq rfl ?_
  refine wregion (.tp 0 (.done)) [] rfl (by kernel_rfl) (by kernel_rfl) ?_
  refine k_assign (v := .int .u64 0) rfl rfl ?_
  refine k_end ?_; intro e184 qe184
  have s2_e184 : e184 2 = .pointer (some ⟨g1, 0, none⟩) := (congrFun qe184 2).trans s2_e183
  have s3_e184 : e184 3 = .pointer (some ⟨g2, 0, none⟩) := (congrFun qe184 3).trans s3_e183
  have s4_e184 : e184 4 = .pointer (some ⟨g3, 0, none⟩) := (congrFun qe184 4).trans s4_e183
  have s5_e184 : e184 5 = .pointer (some ⟨g4, 0, none⟩) := (congrFun qe184 5).trans s5_e183
  have s6_e184 : e184 6 = .int .u64 0 := congrFun qe184 6
  clear qe184
  refine wseq rfl ?_
  refine wseq rfl ?_
  refine wregion (.tp 0 (.done)) [] rfl (by kernel_rfl) (by kernel_rfl) ?_
  refine k_move (v := .int .i64 0) rfl rfl ?_
  refine k_end ?_; intro e185 qe185
  have s2_e185 : e185 2 = .pointer (some ⟨g1, 0, none⟩) := (congrFun qe185 2).trans s2_e184
  have s3_e185 : e185 3 = .pointer (some ⟨g2, 0, none⟩) := (congrFun qe185 3).trans s3_e184
  have s4_e185 : e185 4 = .pointer (some ⟨g3, 0, none⟩) := (congrFun qe185 4).trans s4_e184
  have s5_e185 : e185 5 = .pointer (some ⟨g4, 0, none⟩) := (congrFun qe185 5).trans s5_e184
  have s6_e185 : e185 6 = .int .u64 0 := (congrFun qe185 6).trans s6_e184
  have s8_e185 : e185 8 = .int .i64 0 := congrFun qe185 8
  clear qe185
  refine wblock rfl ?_
  obtain ⟨r12, qr12, h⟩ := bd_e h
  refine wloop k rfl (postilionref05_plus.p1_ok g1 g2 g3 g4 a0 a1 la0 la1 ?hq0 k (List.replicate 4 (0 : Int)) 0 0 e185 _ List.length_replicate s2_e185 s3_e185 s4_e185 s5_e185 s6_e185 s8_e185 hp qr12)
  case hq0 =>
    intro e190 w m13 lm13 s4_e190 s5_e190 hp qq
    rw [qq] at h; clear qq
    refine wseq rfl ?_
    refine wseq rfl ?_
    refine wregion_d (.tk 0 (.ef 1 (.ef 2 (.tp 3 (.done))))) [] rfl (by kernel_rfl) (by kernel_rfl) (Nat.le_of_ble_eq_true (by kernel_rfl)) (by kernel_rfl) ?_
    have hp := hp.drew
    refine k_loadA (n := 4) (xs := ints .u64 m13) 0 rfl (by kernel_rfl) (by kernel_rfl) s5_e190 (hp.get (j := 3) rfl) rfl rfl ((ints_length _ _).trans lm13) (fun m v hm => by rw [Nat.zero_add]; exact hm) ?_
    obtain ⟨r14, qr14, h⟩ := bd_e h
    refine k_call [] rfl (by kernel_rfl) (args0 ) (postilionref05_order_ok   _ (hp.toR (fun r hr => by rw [List.mem_singleton] at hr; subst hr; exact .inr (List.mem_of_getElem? (i := 0) rfl))) qr14) ?_
    rintro _ w' ⟨_, rfl, rfl, lr140, hpc⟩
    refine ⟨_, rfl, .inr (.of_below hpc.chg.to_below), ?_⟩; have hp := hp.below hpc.chg.to_below; clear hpc
    obtain ⟨r15, qr15, h⟩ := bd_e h
    refine k_call [.agg (ints .u64 m13).toArray, .agg (ints .u64 r14).toArray] rfl (by kernel_rfl) (args2 rfl rfl) (postilionref05_below_ok k m13 r14 lm13 lr140 _ (hp.toR (fun r hr => by rw [List.mem_singleton] at hr; subst hr; exact .inr (List.mem_of_getElem? (i := 0) rfl))) qr15) ?_
    rintro _ w' ⟨_, rfl, rfl, hpc⟩
    refine ⟨_, rfl, .inr (.of_below hpc.chg.to_below), ?_⟩; have hp := hp.below hpc.chg.to_below; clear hpc
    refine k_not (b := r15) rfl rfl ?_
    refine k_end ?_; intro e191 qe191
    have s4_e191 : e191 4 = .pointer (some ⟨g3, 0, none⟩) := (congrFun qe191 4).trans s4_e190
    have s5_e191 : e191 5 = .pointer (some ⟨g4, 0, none⟩) := (congrFun qe191 5).trans s5_e190
    have s28_e191 : e191 28 = .bool (!r15) := congrFun qe191 28
    clear qe191
    obtain ⟨r18, qr18, h⟩ := bd_e h
    refine postilionref05_plus.p2_ok k g1 g2 g3 g4 r15 a0 a1 m13 la0 la1 lm13 ?hq0 e191 _ s4_e191 s5_e191 s28_e191 hp qr18
    case hq0 =>
      intro e193 w m19 lm19 s4_e193 s5_e193 hp qq
      rw [qq] at h; clear qq
      refine wseq rfl ?_
      refine wregion (.tk 0 (.ef 1 (.done))) [1] rfl (by kernel_rfl) (by kernel_rfl) ?_
      refine k_loadA (n := 4) (xs := ints .u64 m19) 0 rfl (by kernel_rfl) (by kernel_rfl) s5_e193 (hp.get (j := 3) rfl) rfl rfl ((ints_length _ _).trans lm19) (fun m v hm => by rw [Nat.zero_add]; exact hm) ?_
      refine k_storeA (v := .agg (ints .u64 m19).toArray) 2 0 (r := ⟨g3, 0, ints .u64 (List.replicate 4 (0 : Int))⟩) (ints .u64 m19) (ints .u64 m19) rfl (n := 4) (by kernel_rfl) s4_e193 rfl rfl ((ints_length _ _).trans lm19) (ints_one _ _) hp rfl rfl rfl (Nat.le_of_eq ((Nat.zero_add _).trans ((ints_length _ _).trans List.length_replicate).symm)) (setMany_all _ _ (((ints_length _ _).trans lm19).trans ((ints_length _ _).trans List.length_replicate).symm)) (by decide) ?_; intro w hp
      refine k_end ?_; intro e194 qe194
      have s4_e194 : e194 4 = .pointer (some ⟨g3, 0, none⟩) := (congrFun qe194 4).trans s4_e193
      clear qe194
      refine wret rfl ?_
      have hr : r = m19 := (Option.some.inj h).symm
      show RetP _ _ _ _ _
      rw [hr]
      exact ret_i [.agg (ints .u64 m19).toArray] (res_cell s4_e194 (loadVar_agg (by kernel_rfl) (by kernel_rfl) ((ints_length _ _).trans lm19) (hp.get (j := 2) rfl) rfl rfl rfl) res_nil) ⟨rfl, lm19, hp.none⟩
/-! 29 postilion/postilionref05.mod -/
theorem postilionref05_mod.p3_ok {w0 : World} {Ws : List Wr} {Q : Exit → Env → World → Prop} (k : Nat) (b0 c0 g1 g2 o0 : Nat) (a0 : List Int) (y5 : Int) (t9 : Bool) (r6 : List Int) (l_r6 : r6.length = 4) {r : List Int} (hQ0 : ∀ (e' : Env) (w' : World) (z0 : List Int), z0.length = 4 → e' 0 = .slice (some ⟨b0, o0, none⟩) a0.length c0 → e' 2 = .pointer (some ⟨g1, 0, none⟩) → e' 3 = .pointer (some ⟨g2, 0, none⟩) → e' 4 = .int .i64 y5 → Hp w0 Ws w' [⟨g1, 0, ints .u64 (List.replicate 4 (0 : Int))⟩, ⟨g2, 0, ints .u64 z0⟩] [⟨0, 0, ints .u64 [6346243789798364141, 1503914060200516822, 0, 1152921504606846976]⟩, ⟨b0, o0, ints .u8 a0⟩] → r = (z0) → Q .normal e' w') (e : Env) (w : World) (s0_e : e 0 = .slice (some ⟨b0, o0, none⟩) a0.length c0) (s2_e : e 2 = .pointer (some ⟨g1, 0, none⟩)) (s3_e : e 3 = .pointer (some ⟨g2, 0, none⟩)) (s4_e : e 4 = .int .i64 y5) (s26_e : e 26 = .bool t9) (hp : Hp w0 Ws w [⟨g1, 0, ints .u64 (List.replicate 4 (0 : Int))⟩, ⟨g2, 0, ints .u64 r6⟩] [⟨0, 0, ints .u64 [6346243789798364141, 1503914060200516822, 0, 1152921504606846976]⟩, ⟨b0, o0, ints .u8 a0⟩]) (h : postilionref05_mod.p3 k t9 r6 = some r) : Wp Tryd.prog Tryd.f29.ntmps (at_ (fbody Tryd.f29) [1, 1, 0, 1, 0, 0, 1, 0, 0, 1, 1]) Q e w := by
  unfold postilionref05_mod.p3 at h
  refine wcond (t := t9) rfl (by decide) s26_e (fun hb => ?_) (fun hb => ?_)
  · replace h := br_t hb h
    refine wregion (.tk 0 (.tp 1 (.ef 2 (.ef 3 (.done))))) [3] rfl (by kernel_rfl) (by kernel_rfl) ?_
    refine k_loadA (n := 4) (xs := ints .u64 r6) 0 rfl (by kernel_rfl) (by kernel_rfl) s3_e (hp.get (j := 1) rfl) rfl rfl ((ints_length _ _).trans l_r6) (fun m v hm => by rw [Nat.zero_add]; exact hm) ?_
    refine k_build (v := .agg (ints .u64 [1, 0, 0, 0]).toArray) rfl (fun _ => by kernel_rfl) ?_
    obtain ⟨r10, qr10, h⟩ := bd_e h
    refine k_call [.agg (ints .u64 r6).toArray, .agg (ints .u64 [1, 0, 0, 0]).toArray] rfl (by kernel_rfl) (args2 rfl rfl) (postilionref05_plus_ok k r6 [1, 0, 0, 0] l_r6 (rfl : List.length ([1, 0, 0, 0] : List Int) = 4) _ (hp.toR (fun r hr => by rw [List.mem_singleton] at hr; subst hr; exact .inr (List.mem_of_getElem? (i := 0) rfl))) qr10) ?_
    rintro _ w' ⟨_, rfl, rfl, lr100, hpc⟩
    refine ⟨_, rfl, .inr (.of_below hpc.chg.to_below), ?_⟩; have hp := hp.below hpc.chg.to_below; clear hpc
    refine k_storeA (v := .agg (ints .u64 r10).toArray) 1 0 (r := ⟨g2, 0, ints .u64 r6⟩) (ints .u64 r10) (ints .u64 r10) rfl (n := 4) (by kernel_rfl) s3_e rfl rfl ((ints_length _ _).trans lr100) (ints_one _ _) hp rfl rfl rfl (Nat.le_of_eq ((Nat.zero_add _).trans ((ints_length _ _).trans l_r6).symm)) (setMany_all _ _ (((ints_length _ _).trans lr100).trans ((ints_length _ _).trans l_r6).symm)) (by decide) ?_; intro w hp
    refine k_end ?_; intro e201 qe201
    have s0_e201 : e201 0 = .slice (some ⟨b0, o0, none⟩) a0.length c0 := (congrFun qe201 0).trans s0_e
    have s2_e201 : e201 2 = .pointer (some ⟨g1, 0, none⟩) := (congrFun qe201 2).trans s2_e
    have s3_e201 : e201 3 = .pointer (some ⟨g2, 0, none⟩) := (congrFun qe201 3).trans s3_e
    have s4_e201 : e201 4 = .int .i64 y5 := (congrFun qe201 4).trans s4_e
    clear qe201
    exact hQ0 _ _ r10 lr100 s0_e201 s2_e201 s3_e201 s4_e201 (hp.drop (L' := [⟨g1, 0, ints .u64 (List.replicate 4 (0 : Int))⟩, ⟨g2, 0, ints .u64 r10⟩]) (List.Sublist.refl _)) (Option.some.inj h).symm
  · replace h := br_f hb h
    refine wskip rfl ?_
    exact hQ0 _ _ r6 l_r6 s0_e s2_e s3_e s4_e (hp.drop (L' := [⟨g1, 0, ints .u64 (List.replicate 4 (0 : Int))⟩, ⟨g2, 0, ints .u64 r6⟩]) (List.Sublist.refl _)) (Option.some.inj h).symm
theorem postilionref05_mod.p2_ok {w0 : World} {Ws : List Wr} {Q : Exit → Env → World → Prop} (k : Nat) (b0 c0 g1 g2 o0 : Nat) (a0 : List Int) (y5 : Int) (y4 : List Int) (l_y4 : y4.length = 4) {r : List Int} (hQ0 : ∀ (e' : Env) (w' : World) (z0 : List Int), z0.length = 4 → e' 0 = .slice (some ⟨b0, o0, none⟩) a0.length c0 → e' 2 = .pointer (some ⟨g1, 0, none⟩) → e' 3 = .pointer (some ⟨g2, 0, none⟩) → e' 4 = .int .i64 y5 → Hp w0 Ws w' [⟨g1, 0, ints .u64 (List.replicate 4 (0 : Int))⟩, ⟨g2, 0, ints .u64 z0⟩] [⟨0, 0, ints .u64 [6346243789798364141, 1503914060200516822, 0, 1152921504606846976]⟩, ⟨b0, o0, ints .u8 a0⟩] → r = (z0) → Q .normal e' w') (e : Env) (w : World) (s0_e : e 0 = .slice (some ⟨b0, o0, none⟩) a0.length c0) (s2_e : e 2 = .pointer (some ⟨g1, 0, none⟩)) (s3_e : e 3 = .pointer (some ⟨g2, 0, none⟩)) (s4_e : e 4 = .int .i64 y5) (hp : Hp w0 Ws w [⟨g1, 0, ints .u64 (List.replicate 4 (0 : Int))⟩, ⟨g2, 0, ints .u64 y4⟩] [⟨0, 0, ints .u64 [6346243789798364141, 1503914060200516822, 0, 1152921504606846976]⟩, ⟨b0, o0, ints .u8 a0⟩]) (h : postilionref05_mod.p2 k a0 y5 y4 = some r) : Wp Tryd.prog Tryd.f29.ntmps (at_ (fbody Tryd.f29) [1, 1, 0, 1, 0, 0, 1, 0]) Q e w := by
  unfold postilionref05_mod.p2 at h
  refine wblock rfl ?_
  refine wseq rfl ?_
  refine wregion (.tk 0 (.tk 1 (.ef 2 (.ef 3 (.done))))) [3] rfl (by kernel_rfl) (by kernel_rfl) ?_
  refine k_loadA (n := 4) (xs := ints .u64 y4) 0 rfl (by kernel_rfl) (by kernel_rfl) s3_e (hp.get (j := 1) rfl) rfl rfl ((ints_length _ _).trans l_y4) (fun m v hm => by rw [Nat.zero_add]; exact hm) ?_
  refine k_loadA (n := 4) (xs := ints .u64 y4) 0 rfl (by kernel_rfl) (by kernel_rfl) s3_e (hp.get (j := 1) rfl) rfl rfl ((ints_length _ _).trans l_y4) (fun m v hm => by rw [Nat.zero_add]; exact hm) ?_
  obtain ⟨r6, qr6, h⟩ := bd_e h
  refine k_call [.agg (ints .u64 y4).toArray, .agg (ints .u64 y4).toArray] rfl (by kernel_rfl) (args2 rfl rfl) (postilionref05_plus_ok k y4 y4 l_y4 l_y4 _ (hp.toR (fun r hr => by rw [List.mem_singleton] at hr; subst hr; exact .inr (List.mem_of_getElem? (i := 0) rfl))) qr6) ?_
  rintro _ w' ⟨_, rfl, rfl, lr60, hpc⟩
  refine ⟨_, rfl, .inr (.of_below hpc.chg.to_below), ?_⟩; have hp := hp.below hpc.chg.to_below; clear hpc
  refine k_storeA (v := .agg (ints .u64 r6).toArray) 1 0 (r := ⟨g2, 0, ints .u64 y4⟩) (ints .u64 r6) (ints .u64 r6) rfl (n := 4) (by kernel_rfl) s3_e rfl rfl ((ints_length _ _).trans lr60) (ints_one _ _) hp rfl rfl rfl (Nat.le_of_eq ((Nat.zero_add _).trans ((ints_length _ _).trans l_y4).symm)) (setMany_all _ _ (((ints_length _ _).trans lr60).trans ((ints_length _ _).trans l_y4).symm)) (by decide) ?_; intro w hp
  refine k_end ?_; intro e199 qe199
  have s0_e199 : e199 0 = .slice (some ⟨b0, o0, none⟩) a0.length c0 := (congrFun qe199 0).trans s0_e
  have s2_e199 : e199 2 = .pointer (some ⟨g1, 0, none⟩) := (congrFun qe199 2).trans s2_e
  have s3_e199 : e199 3 = .pointer (some ⟨g2, 0, none⟩) := (congrFun qe199 3).trans s3_e
  have s4_e199 : e199 4 = .int .i64 y5 := (congrFun qe199 4).trans s4_e
  clear qe199
  refine wseq rfl ?_
  refine wregion (.tp 0 (.tp 1 (.tp 2 (.tp 3 (.tk 4 (.tp 5 (.tp 6 (.tp 7 (.tp 8 (.tp 9 (.tp 10 (.done)))))))))))) [] rfl (by kernel_rfl) (by kernel_rfl) ?_
  refine k_move (v := .slice (some ⟨b0, o0, none⟩) a0.length c0) rfl s0_e199 ?_
  refine k_move (v := .int .i64 y5) rfl s4_e199 ?_
  refine k_quo (a := y5) (b := 8) rfl rfl rfl (by decide) ?_
  obtain ⟨c7, h⟩ := chk_e h
  refine k_indexS (s := 1) (j := (IntKind.i64.wrap (Int.tdiv y5 8))) rfl Tryd.underlying37 (by kernel_rfl) rfl rfl c7 ?_
  refine k_load (j := ((IntKind.i64.wrap (Int.tdiv y5 8)) : Int).toNat) (v := .int .u8 (a0.getD ((IntKind.i64.wrap (Int.tdiv y5 8)) : Int).toNat 0)) rfl (by kernel_rfl) rfl (hp.getR (j := 1) rfl) rfl (show o0 + ((IntKind.i64.wrap (Int.tdiv y5 8)) : Int).toNat * 1 = o0 + ((IntKind.i64.wrap (Int.tdiv y5 8)) : Int).toNat by omega) (ints_get (idx_lt c7 rfl)) ?_
  refine k_move (v := .int .i64 y5) rfl s4_e199 ?_
  refine k_rem (a := y5) (b := 8) rfl rfl rfl (by decide) ?_
  refine k_conv (k := .u64) (k' := .i64) (n := (Int.tmod y5 8)) rfl Tryd.underlying3 Tryd.underlying53 rfl ?_
  obtain ⟨c8, h⟩ := chk_e h
  refine k_shr (a := (a0.getD ((IntKind.i64.wrap (Int.tdiv y5 8)) : Int).toNat 0)) (b := (IntKind.u64.wrap (Int.tmod y5 8))) rfl rfl rfl c8 ?_
  refine k_bin (X := .int .u8 (Int.fdiv (a0.getD ((IntKind.i64.wrap (Int.tdiv y5 8)) : Int).toNat 0) (2 ^ (min ((IntKind.u64.wrap (Int.tmod y5 8)) : Int).toNat (IntKind.u8).bits)))) (Y := .int .u8 1) rfl rfl rfl rfl ?_
  refine k_bin (X := .int .u8 (bits .and .u8 (Int.fdiv (a0.getD ((IntKind.i64.wrap (Int.tdiv y5 8)) : Int).toNat 0) (2 ^ (min ((IntKind.u64.wrap (Int.tmod y5 8)) : Int).toNat (IntKind.u8).bits))) 1)) (Y := .int .u8 1) rfl rfl rfl rfl ?_
  refine k_end ?_; intro e200 qe200
  have s0_e200 : e200 0 = .slice (some ⟨b0, o0, none⟩) a0.length c0 := (congrFun qe200 0).trans s0_e199
  have s2_e200 : e200 2 = .pointer (some ⟨g1, 0, none⟩) := (congrFun qe200 2).trans s2_e199
  have s3_e200 : e200 3 = .pointer (some ⟨g2, 0, none⟩) := (congrFun qe200 3).trans s3_e199
  have s4_e200 : e200 4 = .int .i64 y5 := (congrFun qe200 4).trans s4_e199
  obtain ⟨t9, qt9, h⟩ := lt_e h
  have s26_e200 : e200 26 = .bool t9 := (congrFun qe200 26).trans (congrArg Value.bool qt9.symm)
  clear qe200
  obtain ⟨r11, qr11, h⟩ := bd_e h
  refine postilionref05_mod.p3_ok k b0 c0 g1 g2 o0 a0 y5 t9 r6 lr60 ?hq0 e200 _ s0_e200 s2_e200 s3_e200 s4_e200 s26_e200 hp qr11
  case hq0 =>
    intro e202 w m12 lm12 s0_e202 s2_e202 s3_e202 s4_e202 hp qq
    rw [qq] at h; clear qq
    exact hQ0 _ _ m12 lm12 s0_e202 s2_e202 s3_e202 s4_e202 (hp.drop (L' := [⟨g1, 0, ints .u64 (List.replicate 4 (0 : Int))⟩, ⟨g2, 0, ints .u64 m12⟩]) (List.Sublist.refl _)) (Option.some.inj h).symm
theorem postilionref05_mod.p1_ok {w0 : World} {Ws : List Wr} {Q : Exit → Env → World → Prop} (b0 c0 g1 g2 o0 : Nat) (a0 : List Int)  {r : List Int} (hQ0 : ∀ (e' : Env) (w' : World) (z0 : List Int), z0.length = 4 → e' 2 = .pointer (some ⟨g1, 0, none⟩) → e' 3 = .pointer (some ⟨g2, 0, none⟩) → Hp w0 Ws w' [⟨g1, 0, ints .u64 (List.replicate 4 (0 : Int))⟩, ⟨g2, 0, ints .u64 z0⟩] [⟨0, 0, ints .u64 [6346243789798364141, 1503914060200516822, 0, 1152921504606846976]⟩, ⟨b0, o0, ints .u8 a0⟩] → r = (z0) → Q (.exit 0) e' w') : ∀ (k : Nat), ∀ (y4 : List Int) (y5 : Int) (e : Env) (w : World) (ly4 : y4.length = 4) (s0_e : e 0 = .slice (some ⟨b0, o0, none⟩) a0.length c0) (s2_e : e 2 = .pointer (some ⟨g1, 0, none⟩)) (s3_e : e 3 = .pointer (some ⟨g2, 0, none⟩)) (s4_e : e 4 = .int .i64 y5) (hp : Hp w0 Ws w [⟨g1, 0, ints .u64 (List.replicate 4 (0 : Int))⟩, ⟨g2, 0, ints .u64 y4⟩] [⟨0, 0, ints .u64 [6346243789798364141, 1503914060200516822, 0, 1152921504606846976]⟩, ⟨b0, o0, ints .u8 a0⟩]) (h : postilionref05_mod.p1 k a0 y4 y5 = some r), Lp Tryd.prog Tryd.f29.ntmps (at_ (fbody Tryd.f29) [1, 1, 0, 1, 0, 0]) Q k e w := by
  intro k
  induction k with
  | zero => intro y4 y5 e w ly4 s0_e s2_e s3_e s4_e hp h; cases h
  | succ k ih =>
    intro y4 y5 e w ly4 s0_e s2_e s3_e s4_e hp h
    unfold postilionref05_mod.p1 at h
    show Wp _ _ _ _ _ _
    refine wseq rfl ?_
    refine wseq rfl ?_
    refine wregion (.tp 0 (.tp 1 (.done))) [] rfl (by kernel_rfl) (by kernel_rfl) ?_
    refine k_move (v := .int .i64 y5) rfl s4_e ?_
    refine k_bin (X := .int .i64 y5) (Y := .int .i64 0) rfl rfl rfl rfl ?_
    refine k_end ?_; intro e198 qe198
    have s0_e198 : e198 0 = .slice (some ⟨b0, o0, none⟩) a0.length c0 := (congrFun qe198 0).trans s0_e
    have s2_e198 : e198 2 = .pointer (some ⟨g1, 0, none⟩) := (congrFun qe198 2).trans s2_e
    have s3_e198 : e198 3 = .pointer (some ⟨g2, 0, none⟩) := (congrFun qe198 3).trans s3_e
    have s4_e198 : e198 4 = .int .i64 y5 := (congrFun qe198 4).trans s4_e
    have s10_e198 : e198 10 = .bool (decide (y5 ≥ 0)) := congrFun qe198 10
    clear qe198
    refine wcond (t := (decide (y5 ≥ 0))) rfl (by decide) s10_e198 (fun hb => ?_) (fun hb => ?_)
    · replace h := br_t hb h
      refine wskip rfl ?_
      refine wseq rfl ?_
      obtain ⟨r13, qr13, h⟩ := bd_e h
      refine postilionref05_mod.p2_ok k b0 c0 g1 g2 o0 a0 y5 y4 ly4 ?hq0 e198 _ s0_e198 s2_e198 s3_e198 s4_e198 hp qr13
      case hq0 =>
        intro e203 w m14 lm14 s0_e203 s2_e203 s3_e203 s4_e203 hp qq
        rw [qq] at h; clear qq
        refine wregion (.tp 0 (.tp 1 (.tp 2 (.done)))) [] rfl (by kernel_rfl) (by kernel_rfl) ?_
        refine k_move (v := .int .i64 y5) rfl s4_e203 ?_
        refine k_bin (X := .int .i64 y5) (Y := .int .i64 1) rfl rfl rfl rfl ?_
        refine k_assign (v := .int .i64 (IntKind.i64.wrap (y5 - 1))) rfl rfl ?_
        refine k_end ?_; intro e204 qe204
        have s0_e204 : e204 0 = .slice (some ⟨b0, o0, none⟩) a0.length c0 := (congrFun qe204 0).trans s0_e203
        have s2_e204 : e204 2 = .pointer (some ⟨g1, 0, none⟩) := (congrFun qe204 2).trans s2_e203
        have s3_e204 : e204 3 = .pointer (some ⟨g2, 0, none⟩) := (congrFun qe204 3).trans s3_e203
        obtain ⟨x15, qx15, h⟩ := lt_e h
        have s4_e204 : e204 4 = .int .i64 x15 := (congrFun qe204 4).trans (congrArg (Value.int .i64) qx15.symm)
        clear qe204
        exact ih m14 x15 _ _ lm14 s0_e204 s2_e204 s3_e204 s4_e204 (hp.drop (L' := [⟨g1, 0, ints .u64 (List.replicate 4 (0 : Int))⟩, ⟨g2, 0, ints .u64 m14⟩]) (List.Sublist.refl _)) h
    · replace h := br_f hb h
      refine wexit rfl ?_
      exact hQ0 _ _ y4 ly4 s2_e198 s3_e198 (hp.drop (L' := [⟨g1, 0, ints .u64 (List.replicate 4 (0 : Int))⟩, ⟨g2, 0, ints .u64 y4⟩]) (List.Sublist.refl _)) (Option.some.inj h).symm
theorem postilionref05_mod_ok (k : Nat) (a0 : List Int) (b0 o0 c0 : Nat) (w0 : World) (hp : Hp w0 [] w0 [] [⟨0, 0, ints .u64 [6346243789798364141, 1503914060200516822, 0, 1152921504606846976]⟩, ⟨b0, o0, ints .u8 a0⟩]) {r : List Int} (h : postilionref05_mod.f k a0 = some r) :
    Calls Tryd.prog 29 [.slice (some ⟨b0, o0, none⟩) a0.length c0].toArray w0 fun x w' => ∃ v, x = .returned v ∧ v = .agg (ints .u64 r).toArray ∧ r.length = 4 ∧ Hp w0 [] w' [] [⟨0, 0, ints .u64 [6346243789798364141, 1503914060200516822, 0, 1152921504606846976]⟩, ⟨b0, o0, ints .u8 a0⟩] := by
  refine calls_in Tryd.func29 rfl (Nat.le_of_ble_eq_true (by kernel_rfl)) (by kernel_rfl) ?_
  intro e0 qe0
  have s0_e0 : e0 0 = .slice (some ⟨b0, o0, none⟩) a0.length c0 := congrFun qe0 0
  clear qe0
  unfold postilionref05_mod.f at h
  refine wseq rfl ?_
  refine wregion (.ef 0 (.done)) [] rfl (by kernel_rfl) (by kernel_rfl) ?_
  refine k_alloc (ints .u64 (List.replicate 4 (0 : Int))) rfl (by kernel_rfl) hp ?_
  intro g1 w hbg1 hp
  refine k_end ?_; intro e195 qe195
  have s0_e195 : e195 0 = .slice (some ⟨b0, o0, none⟩) a0.length c0 := (congrFun qe195 0).trans s0_e0
  have s2_e195 : e195 2 = .pointer (some ⟨g1, 0, none⟩) := congrFun qe195 2
  clear qe195
  refine wseq rfl ?_
  refine wregion (.ef 0 (.done)) [] rfl (by kernel_rfl) (by kernel_rfl) ?_
  refine k_alloc (ints .u64 (List.replicate 4 (0 : Int))) rfl (by kernel_rfl) hp ?_
  intro g2 w hbg2 hp
  refine k_end ?_; intro e196 qe196
  have s0_e196 : e196 0 = .slice (some ⟨b0, o0, none⟩) a0.length c0 := (congrFun qe196 0).trans s0_e195
  have s2_e196 : e196 2 = .pointer (some ⟨g1, 0, none⟩) := (congrFun qe196 2).trans s2_e195
  have s3_e196 : e196 3 = .pointer (some ⟨g2, 0, none⟩) := congrFun qe196 3
  clear qe196
  refine wseq rfl ?_
  refine wseq rfl ?_
  refine wregion (.tp 0 (.tp 1 (.tp 2 (.tp 3 (.tp 4 (.done)))))) [] rfl (by kernel_rfl) (by kernel_rfl) ?_
  refine k_move (v := .slice (some ⟨b0, o0, none⟩) a0.length c0) rfl s0_e196 ?_
  refine k_len rfl Tryd.underlying37 rfl ?_
  refine k_bin (X := .int .i64 8) (Y := .int .i64 ((a0.length : Nat) : Int)) rfl rfl rfl rfl ?_
  refine k_bin (X := .int .i64 (IntKind.i64.wrap (8 * ((a0.length : Nat) : Int)))) (Y := .int .i64 1) rfl rfl rfl rfl ?_
  refine k_assign (v := .int .i64 (IntKind.i64.wrap ((IntKind.i64.wrap (8 * ((a0.length : Nat) : Int))) - 1))) rfl rfl ?_
  refine k_end ?_; intro e197 qe197
  have s0_e197 : e197 0 = .slice (some ⟨b0, o0, none⟩) a0.length c0 := (congrFun qe197 0).trans s0_e196
  have s2_e197 : e197 2 = .pointer (some ⟨g1, 0, none⟩) := (congrFun qe197 2).trans s2_e196
  have s3_e197 : e197 3 = .pointer (some ⟨g2, 0, none⟩) := (congrFun qe197 3).trans s3_e196
  obtain ⟨x3, qx3, h⟩ := lt_e h
  have s4_e197 : e197 4 = .int .i64 x3 := (congrFun qe197 4).trans (congrArg (Value.int .i64) qx3.symm)
  clear qe197
  refine wblock rfl ?_
  obtain ⟨r16, qr16, h⟩ := bd_e h
  refine wloop k rfl (postilionref05_mod.p1_ok b0 c0 g1 g2 o0 a0  ?hq0 k (List.replicate 4 (0 : Int)) x3 e197 _ List.length_replicate s0_e197 s2_e197 s3_e197 s4_e197 hp qr16)
  case hq0 =>
    intro e205 w m17 lm17 s2_e205 s3_e205 hp qq
    rw [qq] at h; clear qq
    refine wseq rfl ?_
    refine wregion (.tk 0 (.ef 1 (.done))) [1] rfl (by kernel_rfl) (by kernel_rfl) ?_
    refine k_loadA (n := 4) (xs := ints .u64 m17) 0 rfl (by kernel_rfl) (by kernel_rfl) s3_e205 (hp.get (j := 1) rfl) rfl rfl ((ints_length _ _).trans lm17) (fun m v hm => by rw [Nat.zero_add]; exact hm) ?_
    refine k_storeA (v := .agg (ints .u64 m17).toArray) 0 0 (r := ⟨g1, 0, ints .u64 (List.replicate 4 (0 : Int))⟩) (ints .u64 m17) (ints .u64 m17) rfl (n := 4) (by kernel_rfl) s2_e205 rfl rfl ((ints_length _ _).trans lm17) (ints_one _ _) hp rfl rfl rfl (Nat.le_of_eq ((Nat.zero_add _).trans ((ints_length _ _).trans List.length_replicate).symm)) (setMany_all _ _ (((ints_length _ _).trans lm17).trans ((ints_length _ _).trans List.length_replicate).symm)) (by decide) ?_; intro w hp
    refine k_end ?_; intro e206 qe206
    have s2_e206 : e206 2 = .pointer (some ⟨g1, 0, none⟩) := (congrFun qe206 2).trans s2_e205
    clear qe206
    refine wret rfl ?_
    have hr : r = m17 := (Option.some.inj h).symm
    show RetP _ _ _ _ _
    rw [hr]
    exact ret_i [.agg (ints .u64 m17).toArray] (res_cell s2_e206 (loadVar_agg (by kernel_rfl) (by kernel_rfl) ((ints_length _ _).trans lm17) (hp.get (j := 0) rfl) rfl rfl rfl) res_nil) ⟨rfl, lm17, hp.none⟩
/-! 28 postilion/postilionref05.bytesOf -/
theorem postilionref05_bytesOf.p1_ok {w0 : World} {Ws : List Wr} {Q : Exit → Env → World → Prop} (g1 g2 g3 : Nat) (a0 : List Int) (l_a0 : a0.length = 4) {r : List Int} (hQ0 : ∀ (e' : Env) (w' : World) (z0 : List Int), z0.length = 32 → e' 2 = .pointer (some ⟨g2, 0, none⟩) → e' 3 = .pointer (some ⟨g3, 0, none⟩) → Hp w0 Ws w' [⟨g1, 0, ints .u64 a0⟩, ⟨g2, 0, ints .u8 (List.replicate 32 (0 : Int))⟩, ⟨g3, 0, ints .u8 z0⟩] [⟨0, 0, ints .u64 [6346243789798364141, 1503914060200516822, 0, 1152921504606846976]⟩] → r = (z0) → Q (.exit 0) e' w') : ∀ (k : Nat), ∀ (y4 : List Int) (y5 : Int) (e : Env) (w : World) (ly4 : y4.length = 32) (s1_e : e 1 = .pointer (some ⟨g1, 0, none⟩)) (s2_e : e 2 = .pointer (some ⟨g2, 0, none⟩)) (s3_e : e 3 = .pointer (some ⟨g3, 0, none⟩)) (s5_e : e 5 = .int .i64 y5) (hp : Hp w0 Ws w [⟨g1, 0, ints .u64 a0⟩, ⟨g2, 0, ints .u8 (List.replicate 32 (0 : Int))⟩, ⟨g3, 0, ints .u8 y4⟩] [⟨0, 0, ints .u64 [6346243789798364141, 1503914060200516822, 0, 1152921504606846976]⟩]) (h : postilionref05_bytesOf.p1 k a0 y4 y5 = some r), Lp Tryd.prog Tryd.f28.ntmps (at_ (fbody Tryd.f28) [1, 1, 0, 1, 0, 0]) Q k e w := by
  intro k
  induction k with
  | zero => intro y4 y5 e w ly4 s1_e s2_e s3_e s5_e hp h; cases h
  | succ k ih =>
    intro y4 y5 e w ly4 s1_e s2_e s3_e s5_e hp h
    unfold postilionref05_bytesOf.p1 at h
    show Wp _ _ _ _ _ _
    refine wseq rfl ?_
    refine wregion (.tp 0 (.done)) [] rfl (by kernel_rfl) (by kernel_rfl) ?_
    refine k_bin (X := .int .i64 y5) (Y := .int .i64 32) rfl s5_e rfl rfl ?_
    refine k_end ?_; intro e210 qe210
    have s1_e210 : e210 1 = .pointer (some ⟨g1, 0, none⟩) := (congrFun qe210 1).trans s1_e
    have s2_e210 : e210 2 = .pointer (some ⟨g2, 0, none⟩) := (congrFun qe210 2).trans s2_e
    have s3_e210 : e210 3 = .pointer (some ⟨g3, 0, none⟩) := (congrFun qe210 3).trans s3_e
    have s5_e210 : e210 5 = .int .i64 y5 := (congrFun qe210 5).trans s5_e
    have s6_e210 : e210 6 = .bool (decide (y5 < 32)) := congrFun qe210 6
    clear qe210
    refine wseq rfl ?_
    refine wcond (t := (decide (y5 < 32))) rfl (by decide) s6_e210 (fun hb => ?_) (fun hb => ?_)
    · replace h := br_t hb h
      refine wskip rfl ?_
      refine wseq rfl ?_
      refine wblock rfl ?_
      refine wseq rfl ?_
      refine wregion (.tp 0 (.tp 1 (.done))) [] rfl (by kernel_rfl) (by kernel_rfl) ?_
      refine k_move (v := .int .i64 y5) rfl s5_e210 ?_
      refine k_assign (v := .int .i64 y5) rfl rfl ?_
      refine k_end ?_; intro e211 qe211
      have s1_e211 : e211 1 = .pointer (some ⟨g1, 0, none⟩) := (congrFun qe211 1).trans s1_e210
      have s2_e211 : e211 2 = .pointer (some ⟨g2, 0, none⟩) := (congrFun qe211 2).trans s2_e210
      have s3_e211 : e211 3 = .pointer (some ⟨g3, 0, none⟩) := (congrFun qe211 3).trans s3_e210
      have s4_e211 : e211 4 = .int .i64 y5 := congrFun qe211 4
      have s5_e211 : e211 5 = .int .i64 y5 := (congrFun qe211 5).trans s5_e210
      clear qe211
      refine wregion (.tp 0 (.tp 1 (.tp 2 (.tp 3 (.tk 4 (.tp 5 (.tp 6 (.tp 7 (.tp 8 (.tp 9 (.tp 10 (.tp 11 (.ef 12 (.done)))))))))))))) [12] rfl (by kernel_rfl) (by kernel_rfl) ?_
      refine k_move (v := .int .i64 y5) rfl s4_e211 ?_
      refine k_move (v := .int .i64 y5) rfl s4_e211 ?_
      refine k_quo (a := y5) (b := 8) rfl rfl rfl (by decide) ?_
      obtain ⟨c6, h⟩ := chk_e h
      refine k_indexA (n := 4) (s := 1) (j := (IntKind.i64.wrap (Int.tdiv y5 8))) rfl Tryd.underlying48 (by kernel_rfl) s1_e211 rfl c6 ?_
      refine k_load (j := ((IntKind.i64.wrap (Int.tdiv y5 8)) : Int).toNat) (v := .int .u64 (a0.getD ((IntKind.i64.wrap (Int.tdiv y5 8)) : Int).toNat 0)) rfl (by kernel_rfl) rfl (hp.get (j := 0) rfl) rfl (show 0 + ((IntKind.i64.wrap (Int.tdiv y5 8)) : Int).toNat * 1 = 0 + ((IntKind.i64.wrap (Int.tdiv y5 8)) : Int).toNat by omega) (ints_get (idx_lt c6 l_a0)) ?_
      refine k_move (v := .int .i64 y5) rfl s4_e211 ?_
      refine k_rem (a := y5) (b := 8) rfl rfl rfl (by decide) ?_
      refine k_bin (X := .int .i64 8) (Y := .int .i64 (Int.tmod y5 8)) rfl rfl rfl rfl ?_
      refine k_conv (k := .u64) (k' := .i64) (n := (IntKind.i64.wrap (8 * (Int.tmod y5 8)))) rfl Tryd.underlying3 Tryd.underlying53 rfl ?_
      obtain ⟨c7, h⟩ := chk_e h
      refine k_shr (a := (a0.getD ((IntKind.i64.wrap (Int.tdiv y5 8)) : Int).toNat 0)) (b := (IntKind.u64.wrap (IntKind.i64.wrap (8 * (Int.tmod y5 8))))) rfl rfl rfl c7 ?_
      refine k_conv (k := .u8) (k' := .u64) (n := (Int.fdiv (a0.getD ((IntKind.i64.wrap (Int.tdiv y5 8)) : Int).toNat 0) (2 ^ (min ((IntKind.u64.wrap (IntKind.i64.wrap (8 * (Int.tmod y5 8)))) : Int).toNat (IntKind.u64).bits)))) rfl Tryd.underlying33 Tryd.underlying5 rfl ?_
      obtain ⟨c8, h⟩ := chk_e h
      refine k_indexA (n := 32) (s := 1) (j := y5) rfl Tryd.underlying22 (by kernel_rfl) s3_e211 rfl c8 ?_
      refine k_store (v := .int .u8 (IntKind.u8.wrap (Int.fdiv (a0.getD ((IntKind.i64.wrap (Int.tdiv y5 8)) : Int).toNat 0) (2 ^ (min ((IntKind.u64.wrap (IntKind.i64.wrap (8 * (Int.tmod y5 8)))) : Int).toNat (IntKind.u64).bits))))) 2 (y5 : Int).toNat (r := ⟨g3, 0, ints .u8 y4⟩) rfl (by kernel_rfl) rfl rfl rfl hp rfl rfl (show 0 + (y5 : Int).toNat * 1 = 0 + (y5 : Int).toNat by omega) (Nat.lt_of_lt_of_eq (idx_lt c8 ly4) (ints_length _ _).symm) (by decide) ?_; intro w hp; rw [ints_set] at hp
      refine k_end ?_; intro e212 qe212
      have s1_e212 : e212 1 = .pointer (some ⟨g1, 0, none⟩) := (congrFun qe212 1).trans s1_e211
      have s2_e212 : e212 2 = .pointer (some ⟨g2, 0, none⟩) := (congrFun qe212 2).trans s2_e211
      have s3_e212 : e212 3 = .pointer (some ⟨g3, 0, none⟩) := (congrFun qe212 3).trans s3_e211
      have s5_e212 : e212 5 = .int .i64 y5 := (congrFun qe212 5).trans s5_e211
      clear qe212
      refine wregion (.tp 0 (.tp 1 (.done))) [] rfl (by kernel_rfl) (by kernel_rfl) ?_
      refine k_bin (X := .int .i64 y5) (Y := .int .i64 1) rfl s5_e212 rfl rfl ?_
      refine k_move (v := .int .i64 (IntKind.i64.wrap (y5 + 1))) rfl rfl ?_
      refine k_end ?_; intro e213 qe213
      have s1_e213 : e213 1 = .pointer (some ⟨g1, 0, none⟩) := (congrFun qe213 1).trans s1_e212
      have s2_e213 : e213 2 = .pointer (some ⟨g2, 0, none⟩) := (congrFun qe213 2).trans s2_e212
      have s3_e213 : e213 3 = .pointer (some ⟨g3, 0, none⟩) := (congrFun qe213 3).trans s3_e212
      obtain ⟨x9, qx9, h⟩ := lt_e h
      have s5_e213 : e213 5 = .int .i64 x9 := (congrFun qe213 5).trans (congrArg (Value.int .i64) qx9.symm)
      clear qe213
      exact ih (y4.set (y5 : Int).toNat (IntKind.u8.wrap (Int.fdiv (a0.getD ((IntKind.i64.wrap (Int.tdiv y5 8)) : Int).toNat 0) (2 ^ (min ((IntKind.u64.wrap (IntKind.i64.wrap (8 * (Int.tmod y5 8)))) : Int).toNat (IntKind.u64).bits))))) x9 _ _ (List.length_set.trans ly4) s1_e213 s2_e213 s3_e213 s5_e213 (hp.drop (L' := [⟨g1, 0, ints .u64 a0⟩, ⟨g2, 0, ints .u8 (List.replicate 32 (0 : Int))⟩, ⟨g3, 0, ints .u8 (y4.set (y5 : Int).toNat (IntKind.u8.wrap (Int.fdiv (a0.getD ((IntKind.i64.wrap (Int.tdiv y5 8)) : Int).toNat 0) (2 ^ (min ((IntKind.u64.wrap (IntKind.i64.wrap (8 * (Int.tmod y5 8)))) : Int).toNat (IntKind.u64).bits)))))⟩]) (List.Sublist.refl _)) h
    · replace h := br_f hb h
      refine wexit rfl ?_
      exact hQ0 _ _ y4 ly4 s2_e210 s3_e210 (hp.drop (L' := [⟨g1, 0, ints .u64 a0⟩, ⟨g2, 0, ints .u8 (List.replicate 32 (0 : Int))⟩, ⟨g3, 0, ints .u8 y4⟩]) (List.Sublist.refl _)) (Option.some.inj h).symm
theorem postilionref05_bytesOf_ok (k : Nat) (a0 : List Int) (la0 : a0.length = 4) (w0 : World) (hp : Hp w0 [] w0 [] [⟨0, 0, ints .u64 [6346243789798364141, 1503914060200516822, 0, 1152921504606846976]⟩]) {r : List Int} (h : postilionref05_bytesOf.f k a0 = some r) :
    Calls Tryd.prog 28 [.agg (ints .u64 a0).toArray].toArray w0 fun x w' => ∃ v, x = .returned v ∧ v = .agg (ints .u8 r).toArray ∧ r.length = 32 ∧ Hp w0 [] w' [] [⟨0, 0, ints .u64 [6346243789798364141, 1503914060200516822, 0, 1152921504606846976]⟩] := by
  refine calls_in Tryd.func28 rfl (Nat.le_of_ble_eq_true (by kernel_rfl)) (by kernel_rfl) ?_
  intro e0 qe0
  have s0_e0 : e0 0 = .agg (ints .u64 a0).toArray := congrFun qe0 0
  clear qe0
  unfold postilionref05_bytesOf.f at h
  refine wseq rfl ?_
  refine wregion (.ef 0 (.ef 1 (.done))) [] rfl (by kernel_rfl) (by kernel_rfl) ?_
  refine k_box (v := .agg (ints .u64 a0).toArray) (ints .u64 a0) rfl s0_e0 rfl hp ?_
  intro g1 w hbg1 hp
  refine k_alloc (ints .u8 (List.replicate 32 (0 : Int))) rfl (by kernel_rfl) hp ?_
  intro g2 w hbg2 hp
  refine k_end ?_; intro e207 qe207
  have s1_e207 : e207 1 = .pointer (some ⟨g1, 0, none⟩) := congrFun qe207 1
  have s2_e207 : e207 2 = .pointer (some ⟨g2, 0, none⟩) := congrFun qe207 2
  clear qe207
  refine wseq rfl ?_
  refine wregion (.ef 0 (.done)) [] rfl (by kernel_rfl) (by kernel_rfl) ?_
  refine k_alloc (ints .u8 (List.replicate 32 (0 : Int))) rfl (by kernel_rfl) hp ?_
  intro g3 w hbg3 hp
  refine k_end ?_; intro e208 qe208
  have s1_e208 : e208 1 = .pointer (some ⟨g1, 0, none⟩) := (congrFun qe208 1).trans s1_e207
  have s2_e208 : e208 2 = .pointer (some ⟨g2, 0, none⟩) := (congrFun qe208 2).trans s2_e207
  have s3_e208 : e208 3 = .pointer (some ⟨g3, 0, none⟩) := congrFun qe208 3
  clear qe208
  refine wseq rfl ?_
  refine wseq rfl ?_
  refine wregion (.tp 0 (.done)) [] rfl (by kernel_rfl) (by kernel_rfl) ?_
  refine k_move (v := .int .i64 0) rfl rfl ?_
  refine k_end ?_; intro e209 qe209
  have s1_e209 : e209 1 = .pointer (some ⟨g1, 0, none⟩) := (congrFun qe209 1).trans s1_e208
  have s2_e209 : e209 2 = .pointer (some ⟨g2, 0, none⟩) := (congrFun qe209 2).trans s2_e208
  have s3_e209 : e209 3 = .pointer (some ⟨g3, 0, none⟩) := (congrFun qe209 3).trans s3_e208
  have s5_e209 : e209 5 = .int .i64 0 := congrFun qe209 5
  clear qe209
  refine wblock rfl ?_
  obtain ⟨r10, qr10, h⟩ := bd_e h
  refine wloop k rfl (postilionref05_bytesOf.p1_ok g1 g2 g3 a0 la0 ?hq0 k (List.replicate 32 (0 : Int)) 0 e209 _ List.length_replicate s1_e209 s2_e209 s3_e209 s5_e209 hp qr10)
  case hq0 =>
    intro e214 w m11 lm11 s2_e214 s3_e214 hp qq
    rw [qq] at h; clear qq
    refine wseq rfl ?_
    refine wregion (.tk 0 (.ef 1 (.done))) [1] rfl (by kernel_rfl) (by kernel_rfl) ?_
    refine k_loadA (n := 32) (xs := ints .u8 m11) 0 rfl (by kernel_rfl) (by kernel_rfl) s3_e214 (hp.get (j := 2) rfl) rfl rfl ((ints_length _ _).trans lm11) (fun m v hm => by rw [Nat.zero_add]; exact hm) ?_
    refine k_storeA (v := .agg (ints .u8 m11).toArray) 1 0 (r := ⟨g2, 0, ints .u8 (List.replicate 32 (0 : Int))⟩) (ints .u8 m11) (ints .u8 m11) rfl (n := 32) (by kernel_rfl) s2_e214 rfl rfl ((ints_length _ _).trans lm11) (ints_one _ _) hp rfl rfl rfl (Nat.le_of_eq ((Nat.zero_add _).trans ((ints_length _ _).trans List.length_replicate).symm)) (setMany_all _ _ (((ints_length _ _).trans lm11).trans ((ints_length _ _).trans List.length_replicate).symm)) (by decide) ?_; intro w hp
    refine k_end ?_; intro e215 qe215
    have s2_e215 : e215 2 = .pointer (some ⟨g2, 0, none⟩) := (congrFun qe215 2).trans s2_e214
    clear qe215
    refine wret rfl ?_
    have hr : r = m11 := (Option.some.inj h).symm
    show RetP _ _ _ _ _
    rw [hr]
    exact ret_i [.agg (ints .u8 m11).toArray] (res_cell s2_e215 (loadVar_agg (by kernel_rfl) (by kernel_rfl) ((ints_length _ _).trans lm11) (hp.get (j := 1) rfl) rfl rfl rfl) res_nil) ⟨rfl, lm11, hp.none⟩
/-! 14 postilion/postilionref05.Reduce -/
theorem postilionref05_Reduce_ok (k : Nat) (a0 : List Int) (la0 : a0.length = 64) (w0 : World) (hp : Hp w0 [] w0 [] [⟨0, 0, ints .u64 [6346243789798364141, 1503914060200516822, 0, 1152921504606846976]⟩]) {r : List Int} (h : postilionref05_Reduce.f k a0 = some r) :
    Calls Tryd.prog 14 [.agg (ints .u8 a0).toArray].toArray w0 fun x w' => ∃ v, x = .returned v ∧ v = .agg (ints .u8 r).toArray ∧ r.length = 32 ∧ Hp w0 [] w' [] [⟨0, 0, ints .u64 [6346243789798364141, 1503914060200516822, 0, 1152921504606846976]⟩] := by
  refine calls_in Tryd.func14 rfl (Nat.le_of_ble_eq_true (by kernel_rfl)) (by kernel_rfl) ?_
  intro e0 qe0
  have s0_e0 : e0 0 = .agg (ints .u8 a0).toArray := congrFun qe0 0
  clear qe0
  unfold postilionref05_Reduce.f at h
  refine wseq rfl ?_
  refine wregion (.ef 0 (.ef 1 (.done))) [] rfl (by kernel_rfl) (by kernel_rfl) ?_
  refine k_box (v := .agg (ints .u8 a0).toArray) (ints .u8 a0) rfl s0_e0 rfl hp ?_
  intro g1 w hbg1 hp
  refine k_alloc (ints .u8 (List.replicate 32 (0 : Int))) rfl (by kernel_rfl) hp ?_
  intro g2 w hbg2 hp
  refine k_end ?_; intro e216 qe216
  have s1_e216 : e216 1 = .pointer (some ⟨g1, 0, none⟩) := congrFun qe216 1
  have s2_e216 : e216 2 = .pointer (some ⟨g2, 0, none⟩) := congrFun qe216 2
  clear qe216
  refine wseq rfl ?_
  refine wregion (.tp 0 (.ef 1 (.ef 2 (.ef 3 (.done))))) [3] rfl (by kernel_rfl) (by kernel_rfl) ?_
  refine k_sliceA (n := 64) (s := 1) (l := 0) (h' := 64) rfl Tryd.underlying24 (by kernel_rfl) s1_e216 rfl rfl (by decide) ?_
  obtain ⟨r3, qr3, h⟩ := bd_e h
  refine k_call [.slice (some ⟨g1, 0 + 0 * 1, none⟩) a0.length (64 - 0)] rfl (by kernel_rfl) (args1 (Eq.trans (b := .slice (some ⟨g1, 0 + 0 * 1, none⟩) (64 - 0) (64 - 0)) rfl (congrArg (fun n => Value.slice (some ⟨g1, 0 + 0 * 1, none⟩) n (64 - 0)) (show (64 - 0) = a0.length from la0.symm)))) (postilionref05_mod_ok k a0 g1 (0 + 0 * 1) ((64 - 0))  _ (hp.toR (fun r hr => by simp only [List.mem_cons, List.not_mem_nil, or_false] at hr; rcases hr with rfl | rfl; exact .inr (List.mem_of_getElem? (i := 0) rfl); exact .inl (List.mem_of_getElem? (i := 0) rfl))) qr3) ?_
  rintro _ w' ⟨_, rfl, rfl, lr30, hpc⟩
  refine ⟨_, rfl, .inr (.of_below hpc.chg.to_below), ?_⟩; have hp := hp.below hpc.chg.to_below; clear hpc
  obtain ⟨r4, qr4, h⟩ := bd_e h
  refine k_call [.agg (ints .u64 r3).toArray] rfl (by kernel_rfl) (args1 rfl) (postilionref05_bytesOf_ok k r3 lr30 _ (hp.toR (fun r hr => by rw [List.mem_singleton] at hr; subst hr; exact .inr (List.mem_of_getElem? (i := 0) rfl))) qr4) ?_
  rintro _ w' ⟨_, rfl, rfl, lr40, hpc⟩
  refine ⟨_, rfl, .inr (.of_below hpc.chg.to_below), ?_⟩; have hp := hp.below hpc.chg.to_below; clear hpc
  refine k_storeA (v := .agg (ints .u8 r4).toArray) 1 0 (r := ⟨g2, 0, ints .u8 (List.replicate 32 (0 : Int))⟩) (ints .u8 r4) (ints .u8 r4) rfl (n := 32) (by kernel_rfl) s2_e216 rfl rfl ((ints_length _ _).trans lr40) (ints_one _ _) hp rfl rfl rfl (Nat.le_of_eq ((Nat.zero_add _).trans ((ints_length _ _).trans List.length_replicate).symm)) (setMany_all _ _ (((ints_length _ _).trans lr40).trans ((ints_length _ _).trans List.length_replicate).symm)) (by decide) ?_; intro w hp
  refine k_end ?_; intro e217 qe217
  have s2_e217 : e217 2 = .pointer (some ⟨g2, 0, none⟩) := (congrFun qe217 2).trans s2_e216
  clear qe217
  refine wret rfl ?_
  have hr : r = r4 := (Option.some.inj h).symm
  show RetP _ _ _ _ _
  rw [hr]
  exact ret_i [.agg (ints .u8 r4).toArray] (res_cell s2_e217 (loadVar_agg (by kernel_rfl) (by kernel_rfl) ((ints_length _ _).trans lr40) (hp.get (j := 1) rfl) rfl rfl rfl) res_nil) ⟨rfl, lr40, hp.none⟩
/-! 15 postilion/postilionref05.Add -/
theorem postilionref05_Add_ok (k : Nat) (a0 : List Int) (a1 : List Int) (la0 : a0.length = 32) (la1 : a1.length = 32) (w0 : World) (hp : Hp w0 [] w0 [] [⟨0, 0, ints .u64 [6346243789798364141, 1503914060200516822, 0, 1152921504606846976]⟩]) {r : List Int} (h : postilionref05_Add.f k a0 a1 = some r) :
    Calls Tryd.prog 15 [.agg (ints .u8 a0).toArray, .agg (ints .u8 a1).toArray].toArray w0 fun x w' => ∃ v, x = .returned v ∧ v = .agg (ints .u8 r).toArray ∧ r.length = 32 ∧ Hp w0 [] w' [] [⟨0, 0, ints .u64 [6346243789798364141, 1503914060200516822, 0, 1152921504606846976]⟩] := by
  refine calls_in Tryd.func15 rfl (Nat.le_of_ble_eq_true (by kernel_rfl)) (by kernel_rfl) ?_
  intro e0 qe0
  have s0_e0 : e0 0 = .agg (ints .u8 a0).toArray := congrFun qe0 0
  have s1_e0 : e0 1 = .agg (ints .u8 a1).toArray := congrFun qe0 1
  clear qe0
  unfold postilionref05_Add.f at h
  refine wseq rfl ?_
  refine wregion (.ef 0 (.ef 1 (.ef 2 (.done)))) [] rfl (by kernel_rfl) (by kernel_rfl) ?_
  refine k_box (v := .agg (ints .u8 a0).toArray) (ints .u8 a0) rfl s0_e0 rfl hp ?_
  intro g1 w hbg1 hp
  refine k_box (v := .agg (ints .u8 a1).toArray) (ints .u8 a1) rfl s1_e0 rfl hp ?_
  intro g2 w hbg2 hp
  refine k_alloc (ints .u8 (List.replicate 32 (0 : Int))) rfl (by kernel_rfl) hp ?_
  intro g3 w hbg3 hp
  refine k_end ?_; intro e218 qe218
  have s2_e218 : e218 2 = .pointer (some ⟨g1, 0, none⟩) := congrFun qe218 2
  have s3_e218 : e218 3 = .pointer (some ⟨g2, 0, none⟩) := congrFun qe218 3
  have s4_e218 : e218 4 = .pointer (some ⟨g3, 0, none⟩) := congrFun qe218 4
  clear qe218
  refine wseq rfl ?_
  refine wregion_d (.tp 0 (.tp 2 (.ef 1 (.ef 3 (.ef 4 (.ef 5 (.ef 6 (.done)))))))) [6] rfl (by kernel_rfl) (by kernel_rfl) (Nat.le_of_ble_eq_true (by kernel_rfl)) (by kernel_rfl) ?_
  have hp := hp.drew
  refine k_sliceA (n := 32) (s := 1) (l := 0) (h' := 32) rfl Tryd.underlying22 (by kernel_rfl) s2_e218 rfl rfl (by decide) ?_
  refine k_sliceA (n := 32) (s := 1) (l := 0) (h' := 32) rfl Tryd.underlying22 (by kernel_rfl) s3_e218 rfl rfl (by decide) ?_
  obtain ⟨r4, qr4, h⟩ := bd_e h
  refine k_call [.slice (some ⟨g1, 0 + 0 * 1, none⟩) a0.length (32 - 0)] rfl (by kernel_rfl) (args1 (Eq.trans (b := .slice (some ⟨g1, 0 + 0 * 1, none⟩) (32 - 0) (32 - 0)) rfl (congrArg (fun n => Value.slice (some ⟨g1, 0 + 0 * 1, none⟩) n (32 - 0)) (show (32 - 0) = a0.length from la0.symm)))) (postilionref05_mod_ok k a0 g1 (0 + 0 * 1) ((32 - 0))  _ (hp.toR (fun r hr => by simp only [List.mem_cons, List.not_mem_nil, or_false] at hr; rcases hr with rfl | rfl; exact .inr (List.mem_of_getElem? (i := 0) rfl); exact .inl (List.mem_of_getElem? (i := 0) rfl))) qr4) ?_
  rintro _ w' ⟨_, rfl, rfl, lr40, hpc⟩
  refine ⟨_, rfl, .inr (.of_below hpc.chg.to_below), ?_⟩; have hp := hp.below hpc.chg.to_below; clear hpc
  obtain ⟨r5, qr5, h⟩ := bd_e h
  refine k_call [.slice (some ⟨g2, 0 + 0 * 1, none⟩) a1.length (32 - 0)] rfl (by kernel_rfl) (args1 (Eq.trans (b := .slice (some ⟨g2, 0 + 0 * 1, none⟩) (32 - 0) (32 - 0)) rfl (congrArg (fun n => Value.slice (some ⟨g2, 0 + 0 * 1, none⟩) n (32 - 0)) (show (32 - 0) = a1.length from la1.symm)))) (postilionref05_mod_ok k a1 g2 (0 + 0 * 1) ((32 - 0))  _ (hp.toR (fun r hr => by simp only [List.mem_cons, List.not_mem_nil, or_false] at hr; rcases hr with rfl | rfl; exact .inr (List.mem_of_getElem? (i := 0) rfl); exact .inl (List.mem_of_getElem? (i := 1) rfl))) qr5) ?_
  rintro _ w' ⟨_, rfl, rfl, lr50, hpc⟩
  refine ⟨_, rfl, .inr (.of_below hpc.chg.to_below), ?_⟩; have hp := hp.below hpc.chg.to_below; clear hpc
  obtain ⟨r6, qr6, h⟩ := bd_e h
  refine k_call [.agg (ints .u64 r4).toArray, .agg (ints .u64 r5).toArray] rfl (by kernel_rfl) (args2 rfl rfl) (postilionref05_plus_ok k r4 r5 lr40 lr50 _ (hp.toR (fun r hr => by rw [List.mem_singleton] at hr; subst hr; exact .inr (List.mem_of_getElem? (i := 0) rfl))) qr6) ?_
  rintro _ w' ⟨_, rfl, rfl, lr60, hpc⟩
  refine ⟨_, rfl, .inr (.of_below hpc.chg.to_below), ?_⟩; have hp := hp.below hpc.chg.to_below; clear hpc
  obtain ⟨r7, qr7, h⟩ := bd_e h
  refine k_call [.agg (ints .u64 r6).toArray] rfl (by kernel_rfl) (args1 rfl) (postilionref05_bytesOf_ok k r6 lr60 _ (hp.toR (fun r hr => by rw [List.mem_singleton] at hr; subst hr; exact .inr (List.mem_of_getElem? (i := 0) rfl))) qr7) ?_
  rintro _ w' ⟨_, rfl, rfl, lr70, hpc⟩
  refine ⟨_, rfl, .inr (.of_below hpc.chg.to_below), ?_⟩; have hp := hp.below hpc.chg.to_below; clear hpc
  refine k_storeA (v := .agg (ints .u8 r7).toArray) 2 0 (r := ⟨g3, 0, ints .u8 (List.replicate 32 (0 : Int))⟩) (ints .u8 r7) (ints .u8 r7) rfl (n := 32) (by kernel_rfl) s4_e218 rfl rfl ((ints_length _ _).trans lr70) (ints_one _ _) hp rfl rfl rfl (Nat.le_of_eq ((Nat.zero_add _).trans ((ints_length _ _).trans List.length_replicate).symm)) (setMany_all _ _ (((ints_length _ _).trans lr70).trans ((ints_length _ _).trans List.length_replicate).symm)) (by decide) ?_; intro w hp
  refine k_end ?_; intro e219 qe219
  have s4_e219 : e219 4 = .pointer (some ⟨g3, 0, none⟩) := (congrFun qe219 4).trans s4_e218
  clear qe219
  refine wret rfl ?_
  have hr : r = r7 := (Option.some.inj h).symm
  show RetP _ _ _ _ _
  rw [hr]
  exact ret_i [.agg (ints .u8 r7).toArray] (res_cell s4_e219 (loadVar_agg (by kernel_rfl) (by kernel_rfl) ((ints_length _ _).trans lr70) (hp.get (j := 2) rfl) rfl rfl rfl) res_nil) ⟨rfl, lr70, hp.none⟩
/-! 16 postilion/postilionref05.Neg -/
theorem postilionref05_Neg_ok (k : Nat) (a0 : List Int) (la0 : a0.length = 32) (w0 : World) (hp : Hp w0 [] w0 [] [⟨0, 0, ints .u64 [6346243789798364141, 1503914060200516822, 0, 1152921504606846976]⟩]) {r : List Int} (h : postilionref05_Neg.f k a0 = some r) :
    Calls Tryd.prog 16 [.agg (ints .u8 a0).toArray].toArray w0 fun x w' => ∃ v, x = .returned v ∧ v = .agg (ints .u8 r).toArray ∧ r.length = 32 ∧ Hp w0 [] w' [] [⟨0, 0, ints .u64 [6346243789798364141, 1503914060200516822, 0, 1152921504606846976]⟩] := by
  refine calls_in Tryd.func16 rfl (Nat.le_of_ble_eq_true (by kernel_rfl)) (by kernel_rfl) ?_
  intro e0 qe0
  have s0_e0 : e0 0 = .agg (ints .u8 a0).toArray := congrFun qe0 0
  clear qe0
  unfold postilionref05_Neg.f at h
  refine wseq rfl ?_
  refine wregion (.ef 0 (.ef 1 (.done))) [] rfl (by kernel_rfl) (by kernel_rfl) ?_
  refine k_box (v := .agg (ints .u8 a0).toArray) (ints .u8 a0) rfl s0_e0 rfl hp ?_
  intro g1 w hbg1 hp
  refine k_alloc (ints .u8 (List.replicate 32 (0 : Int))) rfl (by kernel_rfl) hp ?_
  intro g2 w hbg2 hp
  refine k_end ?_; intro e220 qe220
  have s1_e220 : e220 1 = .pointer (some ⟨g1, 0, none⟩) := congrFun qe220 1
  have s2_e220 : e220 2 = .pointer (some ⟨g2, 0, none⟩) := congrFun qe220 2
  clear qe220
  refine wseq rfl ?_
  refine wregion (.tp 0 (.ef 1 (.ef 2 (.ef 3 (.done))))) [3] rfl (by kernel_rfl) (by kernel_rfl) ?_
  refine k_sliceA (n := 32) (s := 1) (l := 0) (h' := 32) rfl Tryd.underlying22 (by kernel_rfl) s1_e220 rfl rfl (by decide) ?_
  obtain ⟨r3, qr3, h⟩ := bd_e h
  refine k_call [.slice (some ⟨g1, 0 + 0 * 1, none⟩) a0.length (32 - 0)] rfl (by kernel_rfl) (args1 (Eq.trans (b := .slice (some ⟨g1, 0 + 0 * 1, none⟩) (32 - 0) (32 - 0)) rfl (congrArg (fun n => Value.slice (some ⟨g1, 0 + 0 * 1, none⟩) n (32 - 0)) (show (32 - 0) = a0.length from la0.symm)))) (postilionref05_mod_ok k a0 g1 (0 + 0 * 1) ((32 - 0))  _ (hp.toR (fun r hr => by simp only [List.mem_cons, List.not_mem_nil, or_false] at hr; rcases hr with rfl | rfl; exact .inr (List.mem_of_getElem? (i := 0) rfl); exact .inl (List.mem_of_getElem? (i := 0) rfl))) qr3) ?_
  rintro _ w' ⟨_, rfl, rfl, lr30, hpc⟩
  refine ⟨_, rfl, .inr (.of_below hpc.chg.to_below), ?_⟩; have hp := hp.below hpc.chg.to_below; clear hpc
  refine k_alloc (ints .u64 (List.replicate 4 (0 : Int))) rfl (by kernel_rfl) hp ?_
  intro g4 w hbg4 hp
  refine k_storeA (v := .agg (ints .u64 r3).toArray) 2 0 (r := ⟨g4, 0, ints .u64 (List.replicate 4 (0 : Int))⟩) (ints .u64 r3) (ints .u64 r3) rfl (n := 4) (by kernel_rfl) rfl rfl rfl ((ints_length _ _).trans lr30) (ints_one _ _) hp rfl rfl rfl (Nat.le_of_eq ((Nat.zero_add _).trans ((ints_length _ _).trans List.length_replicate).symm)) (setMany_all _ _ (((ints_length _ _).trans lr30).trans ((ints_length _ _).trans List.length_replicate).symm)) (by decide) ?_; intro w hp
  refine k_end ?_; intro e221 qe221
  have s2_e221 : e221 2 = .pointer (some ⟨g2, 0, none⟩) := (congrFun qe221 2).trans s2_e220
  have s3_e221 : e221 3 = .pointer (some ⟨g4, 0, none⟩) := congrFun qe221 3
  clear qe221
  refine wseq rfl ?_
  refine wseq rfl ?_
  refine wregion (.tk 0 (.tp 1 (.tp 2 (.done)))) [] rfl (by kernel_rfl) (by kernel_rfl) ?_
  refine k_loadA (n := 4) (xs := ints .u64 r3) 0 rfl (by kernel_rfl) (by kernel_rfl) s3_e221 (hp.get (j := 2) rfl) rfl rfl ((ints_length _ _).trans lr30) (fun m v hm => by rw [Nat.zero_add]; exact hm) ?_
  refine k_build (v := .agg (ints .u64 (List.replicate 4 (0 : Int))).toArray) rfl (fun _ => by kernel_rfl) ?_
  refine k_eqI (k := .u64) (l := r3) (l' := (List.replicate 4 (0 : Int))) rfl Tryd.underlying48 Tryd.underlying33 (by kernel_rfl) (by kernel_rfl) rfl rfl lr30 List.length_replicate ?_
  refine k_end ?_; intro e222 qe222
  have s2_e222 : e222 2 = .pointer (some ⟨g2, 0, none⟩) := (congrFun qe222 2).trans s2_e221
  have s3_e222 : e222 3 = .pointer (some ⟨g4, 0, none⟩) := (congrFun qe222 3).trans s3_e221
  have s8_e222 : e222 8 = .bool (r3 == (List.replicate 4 (0 : Int))) := congrFun qe222 8
  clear qe222
  refine wcond (t := (r3 == (List.replicate 4 (0 : Int)))) rfl (by decide) s8_e222 (fun hb => ?_) (fun hb => ?_)
  · replace h := br_t hb h
    refine wseq rfl ?_
    refine wregion (.tp 0 (.ef 1 (.done))) [1] rfl (by kernel_rfl) (by kernel_rfl) ?_
    refine k_build (v := .agg (ints .u8 (List.replicate 32 (0 : Int))).toArray) rfl (fun _ => by kernel_rfl) ?_
    refine k_storeA (v := .agg (ints .u8 (List.replicate 32 (0 : Int))).toArray) 1 0 (r := ⟨g2, 0, ints .u8 (List.replicate 32 (0 : Int))⟩) (ints .u8 (List.replicate 32 (0 : Int))) (ints .u8 (List.replicate 32 (0 : Int))) rfl (n := 32) (by kernel_rfl) s2_e222 rfl rfl ((ints_length _ _).trans List.length_replicate) (ints_one _ _) hp rfl rfl rfl (Nat.le_of_eq ((Nat.zero_add _).trans ((ints_length _ _).trans List.length_replicate).symm)) (setMany_all _ _ (((ints_length _ _).trans List.length_replicate).trans ((ints_length _ _).trans List.length_replicate).symm)) (by decide) ?_; intro w hp
    refine k_end ?_; intro e223 qe223
    have s2_e223 : e223 2 = .pointer (some ⟨g2, 0, none⟩) := (congrFun qe223 2).trans s2_e222
    clear qe223
    refine wret rfl ?_
    have hr : r = (List.replicate 32 (0 : Int)) := (Option.some.inj h).symm
    show RetP _ _ _ _ _
    rw [hr]
    exact ret_i [.agg (ints .u8 (List.replicate 32 (0 : Int))).toArray] (res_cell s2_e223 (loadVar_agg (by kernel_rfl) (by kernel_rfl) ((ints_length _ _).trans List.length_replicate) (hp.get (j := 1) rfl) rfl rfl rfl) res_nil) ⟨rfl, List.length_replicate, hp.none⟩
  · replace h := br_f hb h
    refine wskip rfl ?_
    refine wseq rfl ?_
    refine wregion_d (.tk 1 (.ef 0 (.ef 2 (.ef 3 (.ef 4 (.done)))))) [4] rfl (by kernel_rfl) (by kernel_rfl) (Nat.le_of_ble_eq_true (by kernel_rfl)) (by kernel_rfl) ?_
    have hp := hp.drew
    refine k_loadA (n := 4) (xs := ints .u64 r3) 0 rfl (by kernel_rfl) (by kernel_rfl) s3_e222 (hp.get (j := 2) rfl) rfl rfl ((ints_length _ _).trans lr30) (fun m v hm => by rw [Nat.zero_add]; exact hm) ?_
    obtain ⟨r5, qr5, h⟩ := bd_e h
    refine k_call [] rfl (by kernel_rfl) (args0 ) (postilionref05_order_ok   _ (hp.toR (fun r hr => by rw [List.mem_singleton] at hr; subst hr; exact .inr (List.mem_of_getElem? (i := 0) rfl))) qr5) ?_
    rintro _ w' ⟨_, rfl, rfl, lr50, hpc⟩
    refine ⟨_, rfl, .inr (.of_below hpc.chg.to_below), ?_⟩; have hp := hp.below hpc.chg.to_below; clear hpc
    obtain ⟨r6, qr6, h⟩ := bd_e h
    refine k_call [.agg (ints .u64 r5).toArray, .agg (ints .u64 r3).toArray] rfl (by kernel_rfl) (args2 rfl rfl) (postilionref05_less_ok k r5 r3 lr50 lr30 _ (hp.toR (fun r hr => by rw [List.mem_singleton] at hr; subst hr; exact .inr (List.mem_of_getElem? (i := 0) rfl))) qr6) ?_
    rintro _ w' ⟨_, rfl, rfl, lr60, hpc⟩
    refine ⟨_, rfl, .inr (.of_below hpc.chg.to_below), ?_⟩; have hp := hp.below hpc.chg.to_below; clear hpc
    obtain ⟨r7, qr7, h⟩ := bd_e h
    refine k_call [.agg (ints .u64 r6).toArray] rfl (by kernel_rfl) (args1 rfl) (postilionref05_bytesOf_ok k r6 lr60 _ (hp.toR (fun r hr => by rw [List.mem_singleton] at hr; subst hr; exact .inr (List.mem_of_getElem? (i := 0) rfl))) qr7) ?_
    rintro _ w' ⟨_, rfl, rfl, lr70, hpc⟩
    refine ⟨_, rfl, .inr (.of_below hpc.chg.to_below), ?_⟩; have hp := hp.below hpc.chg.to_below; clear hpc
    refine k_storeA (v := .agg (ints .u8 r7).toArray) 1 0 (r := ⟨g2, 0, ints .u8 (List.replicate 32 (0 : Int))⟩) (ints .u8 r7) (ints .u8 r7) rfl (n := 32) (by kernel_rfl) s2_e222 rfl rfl ((ints_length _ _).trans lr70) (ints_one _ _) hp rfl rfl rfl (Nat.le_of_eq ((Nat.zero_add _).trans ((ints_length _ _).trans List.length_replicate).symm)) (setMany_all _ _ (((ints_length _ _).trans lr70).trans ((ints_length _ _).trans List.length_replicate).symm)) (by decide) ?_; intro w hp
    refine k_end ?_; intro e224 qe224
    have s2_e224 : e224 2 = .pointer (some ⟨g2, 0, none⟩) := (congrFun qe224 2).trans s2_e222
    clear qe224
    refine wret rfl ?_
    have hr : r = r7 := (Option.some.inj h).symm
    show RetP _ _ _ _ _
    rw [hr]
    exact ret_i [.agg (ints .u8 r7).toArray] (res_cell s2_e224 (loadVar_agg (by kernel_rfl) (by kernel_rfl) ((ints_length _ _).trans lr70) (hp.get (j := 1) rfl) rfl rfl rfl) res_nil) ⟨rfl, lr70, hp.none⟩
/-! 17 postilion/postilionref05.MulAdd -/
theorem postilionref05_MulAdd.p3_ok {w0 : World} {Ws : List Wr} {Q : Exit → Env → World → Prop} (k : Nat) (g1 g2 g3 g4 g7 g8 g9 : Nat) (y11 : Int) (t15 : Bool) (a0 : List Int) (a1 : List Int) (a2 : List Int) (r5 : List Int) (r6 : List Int) (r12 : List Int) (l_a0 : a0.length = 32) (l_a1 : a1.length = 32) (l_a2 : a2.length = 32) (l_r5 : r5.length = 4) (l_r6 : r6.length = 4) (l_r12 : r12.length = 4) {r : List Int} (hQ0 : ∀ (e' : Env) (w' : World) (z0 : List Int), z0.length = 4 → e' 5 = .pointer (some ⟨g3, 0, none⟩) → e' 6 = .pointer (some ⟨g4, 0, none⟩) → e' 7 = .pointer (some ⟨g7, 0, none⟩) → e' 8 = .pointer (some ⟨g8, 0, none⟩) → e' 9 = .pointer (some ⟨g9, 0, none⟩) → e' 10 = .int .i64 y11 → Hp w0 Ws w' [⟨g1, 0, ints .u8 a0⟩, ⟨g2, 0, ints .u8 a1⟩, ⟨g3, 0, ints .u8 a2⟩, ⟨g4, 0, ints .u8 (List.replicate 32 (0 : Int))⟩, ⟨g7, 0, ints .u64 r5⟩, ⟨g8, 0, ints .u64 r6⟩, ⟨g9, 0, ints .u64 z0⟩] [⟨0, 0, ints .u64 [6346243789798364141, 1503914060200516822, 0, 1152921504606846976]⟩] → r = (z0) → Q .normal e' w') (e : Env) (w : World) (s5_e : e 5 = .pointer (some ⟨g3, 0, none⟩)) (s6_e : e 6 = .pointer (some ⟨g4, 0, none⟩)) (s7_e : e 7 = .pointer (some ⟨g7, 0, none⟩)) (s8_e : e 8 = .pointer (some ⟨g8, 0, none⟩)) (s9_e : e 9 = .pointer (some ⟨g9, 0, none⟩)) (s10_e : e 10 = .int .i64 y11) (s31_e : e 31 = .bool t15) (hp : Hp w0 Ws w [⟨g1, 0, ints .u8 a0⟩, ⟨g2, 0, ints .u8 a1⟩, ⟨g3, 0, ints .u8 a2⟩, ⟨g4, 0, ints .u8 (List.replicate 32 (0 : Int))⟩, ⟨g7, 0, ints .u64 r5⟩, ⟨g8, 0, ints .u64 r6⟩, ⟨g9, 0, ints .u64 r12⟩] [⟨0, 0, ints .u64 [6346243789798364141, 1503914060200516822, 0, 1152921504606846976]⟩]) (h : postilionref05_MulAdd.p3 k t15 r6 r12 = some r) : Wp Tryd.prog Tryd.f17.ntmps (at_ (fbody Tryd.f17) [1, 1, 1, 0, 1, 0, 0, 1, 0, 0, 1, 1]) Q e w := by
  unfold postilionref05_MulAdd.p3 at h
  refine wcond (t := t15) rfl (by decide) s31_e (fun hb => ?_) (fun hb => ?_)
  · replace h := br_t hb h
    refine wregion (.tk 0 (.tk 1 (.ef 2 (.ef 3 (.done))))) [3] rfl (by kernel_rfl) (by kernel_rfl) ?_
    refine k_loadA (n := 4) (xs := ints .u64 r12) 0 rfl (by kernel_rfl) (by kernel_rfl) s9_e (hp.get (j := 6) rfl) rfl rfl ((ints_length _ _).trans l_r12) (fun m v hm => by rw [Nat.zero_add]; exact hm) ?_
    refine k_loadA (n := 4) (xs := ints .u64 r6) 0 rfl (by kernel_rfl) (by kernel_rfl) s8_e (hp.get (j := 5) rfl) rfl rfl ((ints_length _ _).trans l_r6) (fun m v hm => by rw [Nat.zero_add]; exact hm) ?_
    obtain ⟨r16, qr16, h⟩ := bd_e h
    refine k_call [.agg (ints .u64 r12).toArray, .agg (ints .u64 r6).toArray] rfl (by kernel_rfl) (args2 rfl rfl) (postilionref05_plus_ok k r12 r6 l_r12 l_r6 _ (hp.toR (fun r hr => by rw [List.mem_singleton] at hr; subst hr; exact .inr (List.mem_of_getElem? (i := 0) rfl))) qr16) ?_
    rintro _ w' ⟨_, rfl, rfl, lr160, hpc⟩
    refine ⟨_, rfl, .inr (.of_below hpc.chg.to_below), ?_⟩; have hp := hp.below hpc.chg.to_below; clear hpc
    refine k_storeA (v := .agg (ints .u64 r16).toArray) 6 0 (r := ⟨g9, 0, ints .u64 r12⟩) (ints .u64 r16) (ints .u64 r16) rfl (n := 4) (by kernel_rfl) s9_e rfl rfl ((ints_length _ _).trans lr160) (ints_one _ _) hp rfl rfl rfl (Nat.le_of_eq ((Nat.zero_add _).trans ((ints_length _ _).trans l_r12).symm)) (setMany_all _ _ (((ints_length _ _).trans lr160).trans ((ints_length _ _).trans l_r12).symm)) (by decide) ?_; intro w hp
    refine k_end ?_; intro e232 qe232
    have s5_e232 : e232 5 = .pointer (some ⟨g3, 0, none⟩) := (congrFun qe232 5).trans s5_e
    have s6_e232 : e232 6 = .pointer (some ⟨g4, 0, none⟩) := (congrFun qe232 6).trans s6_e
    have s7_e232 : e232 7 = .pointer (some ⟨g7, 0, none⟩) := (congrFun qe232 7).trans s7_e
    have s8_e232 : e232 8 = .pointer (some ⟨g8, 0, none⟩) := (congrFun qe232 8).trans s8_e
    have s9_e232 : e232 9 = .pointer (some ⟨g9, 0, none⟩) := (congrFun qe232 9).trans s9_e
    have s10_e232 : e232 10 = .int .i64 y11 := (congrFun qe232 10).trans s10_e
    clear qe232
    exact hQ0 _ _ r16 lr160 s5_e232 s6_e232 s7_e232 s8_e232 s9_e232 s10_e232 (hp.drop (L' := [⟨g1, 0, ints .u8 a0⟩, ⟨g2, 0, ints .u8 a1⟩, ⟨g3, 0, ints .u8 a2⟩, ⟨g4, 0, ints .u8 (List.replicate 32 (0 : Int))⟩, ⟨g7, 0, ints .u64 r5⟩, ⟨g8, 0, ints .u64 r6⟩, ⟨g9, 0, ints .u64 r16⟩]) (List.Sublist.refl _)) (Option.some.inj h).symm
  · replace h := br_f hb h
    refine wskip rfl ?_
    exact hQ0 _ _ r12 l_r12 s5_e s6_e s7_e s8_e s9_e s10_e (hp.drop (L' := [⟨g1, 0, ints .u8 a0⟩, ⟨g2, 0, ints .u8 a1⟩, ⟨g3, 0, ints .u8 a2⟩, ⟨g4, 0, ints .u8 (List.replicate 32 (0 : Int))⟩, ⟨g7, 0, ints .u64 r5⟩, ⟨g8, 0, ints .u64 r6⟩, ⟨g9, 0, ints .u64 r12⟩]) (List.Sublist.refl _)) (Option.some.inj h).symm
theorem postilionref05_MulAdd.p2_ok {w0 : World} {Ws : List Wr} {Q : Exit → Env → World → Prop} (k : Nat) (g1 g2 g3 g4 g7 g8 g9 : Nat) (y11 : Int) (a0 : List Int) (a1 : List Int) (a2 : List Int) (r5 : List Int) (r6 : List Int) (y10 : List Int) (l_y10 : y10.length = 4) (l_a0 : a0.length = 32) (l_a1 : a1.length = 32) (l_a2 : a2.length = 32) (l_r5 : r5.length = 4) (l_r6 : r6.length = 4) {r : List Int} (hQ0 : ∀ (e' : Env) (w' : World) (z0 : List Int), z0.length = 4 → e' 5 = .pointer (some ⟨g3, 0, none⟩) → e' 6 = .pointer (some ⟨g4, 0, none⟩) → e' 7 = .pointer (some ⟨g7, 0, none⟩) → e' 8 = .pointer (some ⟨g8, 0, none⟩) → e' 9 = .pointer (some ⟨g9, 0, none⟩) → e' 10 = .int .i64 y11 → Hp w0 Ws w' [⟨g1, 0, ints .u8 a0⟩, ⟨g2, 0, ints .u8 a1⟩, ⟨g3, 0, ints .u8 a2⟩, ⟨g4, 0, ints .u8 (List.replicate 32 (0 : Int))⟩, ⟨g7, 0, ints .u64 r5⟩, ⟨g8, 0, ints .u64 r6⟩, ⟨g9, 0, ints .u64 z0⟩] [⟨0, 0, ints .u64 [6346243789798364141, 1503914060200516822, 0, 1152921504606846976]⟩] → r = (z0) → Q .normal e' w') (e : Env) (w : World) (s5_e : e 5 = .pointer (some ⟨g3, 0, none⟩)) (s6_e : e 6 = .pointer (some ⟨g4, 0, none⟩)) (s7_e : e 7 = .pointer (some ⟨g7, 0, none⟩)) (s8_e : e 8 = .pointer (some ⟨g8, 0, none⟩)) (s9_e : e 9 = .pointer (some ⟨g9, 0, none⟩)) (s10_e : e 10 = .int .i64 y11) (hp : Hp w0 Ws w [⟨g1, 0, ints .u8 a0⟩, ⟨g2, 0, ints .u8 a1⟩, ⟨g3, 0, ints .u8 a2⟩, ⟨g4, 0, ints .u8 (List.replicate 32 (0 : Int))⟩, ⟨g7, 0, ints .u64 r5⟩, ⟨g8, 0, ints .u64 r6⟩, ⟨g9, 0, ints .u64 y10⟩] [⟨0, 0, ints .u64 [6346243789798364141, 1503914060200516822, 0, 1152921504606846976]⟩]) (h : postilionref05_MulAdd.p2 k y11 r5 r6 y10 = some r) : Wp Tryd.prog Tryd.f17.ntmps (at_ (fbody Tryd.f17) [1, 1, 1, 0, 1, 0, 0, 1, 0]) Q e w := by
  unfold postilionref05_MulAdd.p2 at h
  refine wblock rfl ?_
  refine wseq rfl ?_
  refine wregion (.tk 0 (.tk 1 (.ef 2 (.ef 3 (.done))))) [3] rfl (by kernel_rfl) (by kernel_rfl) ?_
  refine k_loadA (n := 4) (xs := ints .u64 y10) 0 rfl (by kernel_rfl) (by kernel_rfl) s9_e (hp.get (j := 6) rfl) rfl rfl ((ints_length _ _).trans l_y10) (fun m v hm => by rw [Nat.zero_add]; exact hm) ?_
  refine k_loadA (n := 4) (xs := ints .u64 y10) 0 rfl (by kernel_rfl) (by kernel_rfl) s9_e (hp.get (j := 6) rfl) rfl rfl ((ints_length _ _).trans l_y10) (fun m v hm => by rw [Nat.zero_add]; exact hm) ?_
  obtain ⟨r12, qr12, h⟩ := bd_e h
  refine k_call [.agg (ints .u64 y10).toArray, .agg (ints .u64 y10).toArray] rfl (by kernel_rfl) (args2 rfl rfl) (postilionref05_plus_ok k y10 y10 l_y10 l_y10 _ (hp.toR (fun r hr => by rw [List.mem_singleton] at hr; subst hr; exact .inr (List.mem_of_getElem? (i := 0) rfl))) qr12) ?_
  rintro _ w' ⟨_, rfl, rfl, lr120, hpc⟩
  refine ⟨_, rfl, .inr (.of_below hpc.chg.to_below), ?_⟩; have hp := hp.below hpc.chg.to_below; clear hpc
  refine k_storeA (v := .agg (ints .u64 r12).toArray) 6 0 (r := ⟨g9, 0, ints .u64 y10⟩) (ints .u64 r12) (ints .u64 r12) rfl (n := 4) (by kernel_rfl) s9_e rfl rfl ((ints_length _ _).trans lr120) (ints_one _ _) hp rfl rfl rfl (Nat.le_of_eq ((Nat.zero_add _).trans ((ints_length _ _).trans l_y10).symm)) (setMany_all _ _ (((ints_length _ _).trans lr120).trans ((ints_length _ _).trans l_y10).symm)) (by decide) ?_; intro w hp
  refine k_end ?_; intro e230 qe230
  have s5_e230 : e230 5 = .pointer (some ⟨g3, 0, none⟩) := (congrFun qe230 5).trans s5_e
  have s6_e230 : e230 6 = .pointer (some ⟨g4, 0, none⟩) := (congrFun qe230 6).trans s6_e
  have s7_e230 : e230 7 = .pointer (some ⟨g7, 0, none⟩) := (congrFun qe230 7).trans s7_e
  have s8_e230 : e230 8 = .pointer (some ⟨g8, 0, none⟩) := (congrFun qe230 8).trans s8_e
  have s9_e230 : e230 9 = .pointer (some ⟨g9, 0, none⟩) := (congrFun qe230 9).trans s9_e
  have s10_e230 : e230 10 = .int .i64 y11 := (congrFun qe230 10).trans s10_e
  clear qe230
  refine wseq rfl ?_
  refine wregion (.tp 0 (.tp 1 (.tp 2 (.tk 3 (.tp 4 (.tp 5 (.tp 6 (.tp 7 (.tp 8 (.tp 9 (.done))))))))))) [] rfl (by kernel_rfl) (by kernel_rfl) ?_
  refine k_move (v := .int .i64 y11) rfl s10_e230 ?_
  refine k_quo (a := y11) (b := 64) rfl rfl rfl (by decide) ?_
  obtain ⟨c13, h⟩ := chk_e h
  refine k_indexA (n := 4) (s := 1) (j := (IntKind.i64.wrap (Int.tdiv y11 64))) rfl Tryd.underlying48 (by kernel_rfl) s7_e230 rfl c13 ?_
  refine k_load (j := ((IntKind.i64.wrap (Int.tdiv y11 64)) : Int).toNat) (v := .int .u64 (r5.getD ((IntKind.i64.wrap (Int.tdiv y11 64)) : Int).toNat 0)) rfl (by kernel_rfl) rfl (hp.get (j := 4) rfl) rfl (show 0 + ((IntKind.i64.wrap (Int.tdiv y11 64)) : Int).toNat * 1 = 0 + ((IntKind.i64.wrap (Int.tdiv y11 64)) : Int).toNat by omega) (ints_get (idx_lt c13 l_r5)) ?_
  refine k_move (v := .int .i64 y11) rfl s10_e230 ?_
  refine k_rem (a := y11) (b := 64) rfl rfl rfl (by decide) ?_
  refine k_conv (k := .u64) (k' := .i64) (n := (Int.tmod y11 64)) rfl Tryd.underlying3 Tryd.underlying53 rfl ?_
  obtain ⟨c14, h⟩ := chk_e h
  refine k_shr (a := (r5.getD ((IntKind.i64.wrap (Int.tdiv y11 64)) : Int).toNat 0)) (b := (IntKind.u64.wrap (Int.tmod y11 64))) rfl rfl rfl c14 ?_
  refine k_bin (X := .int .u64 (Int.fdiv (r5.getD ((IntKind.i64.wrap (Int.tdiv y11 64)) : Int).toNat 0) (2 ^ (min ((IntKind.u64.wrap (Int.tmod y11 64)) : Int).toNat (IntKind.u64).bits)))) (Y := .int .u64 1) rfl rfl rfl rfl ?_
  refine k_bin (X := .int .u64 (bits .and .u64 (Int.fdiv (r5.getD ((IntKind.i64.wrap (Int.tdiv y11 64)) : Int).toNat 0) (2 ^ (min ((IntKind.u64.wrap (Int.tmod y11 64)) : Int).toNat (IntKind.u64).bits))) 1)) (Y := .int .u64 1) rfl rfl rfl rfl ?_
  refine k_end ?_; intro e231 qe231
  have s5_e231 : e231 5 = .pointer (some ⟨g3, 0, none⟩) := (congrFun qe231 5).trans s5_e230
  have s6_e231 : e231 6 = .pointer (some ⟨g4, 0, none⟩) := (congrFun qe231 6).trans s6_e230
  have s7_e231 : e231 7 = .pointer (some ⟨g7, 0, none⟩) := (congrFun qe231 7).trans s7_e230
  have s8_e231 : e231 8 = .pointer (some ⟨g8, 0, none⟩) := (congrFun qe231 8).trans s8_e230
  have s9_e231 : e231 9 = .pointer (some ⟨g9, 0, none⟩) := (congrFun qe231 9).trans s9_e230
  have s10_e231 : e231 10 = .int .i64 y11 := (congrFun qe231 10).trans s10_e230
  obtain ⟨t15, qt15, h⟩ := lt_e h
  have s31_e231 : e231 31 = .bool t15 := (congrFun qe231 31).trans (congrArg Value.bool qt15.symm)
  clear qe231
  obtain ⟨r17, qr17, h⟩ := bd_e h
  refine postilionref05_MulAdd.p3_ok k g1 g2 g3 g4 g7 g8 g9 y11 t15 a0 a1 a2 r5 r6 r12 l_a0 l_a1 l_a2 l_r5 l_r6 lr120 ?hq0 e231 _ s5_e231 s6_e231 s7_e231 s8_e231 s9_e231 s10_e231 s31_e231 hp qr17
  case hq0 =>
    intro e233 w m18 lm18 s5_e233 s6_e233 s7_e233 s8_e233 s9_e233 s10_e233 hp qq
    rw [qq] at h; clear qq
    exact hQ0 _ _ m18 lm18 s5_e233 s6_e233 s7_e233 s8_e233 s9_e233 s10_e233 (hp.drop (L' := [⟨g1, 0, ints .u8 a0⟩, ⟨g2, 0, ints .u8 a1⟩, ⟨g3, 0, ints .u8 a2⟩, ⟨g4, 0, ints .u8 (List.replicate 32 (0 : Int))⟩, ⟨g7, 0, ints .u64 r5⟩, ⟨g8, 0, ints .u64 r6⟩, ⟨g9, 0, ints .u64 m18⟩]) (List.Sublist.refl _)) (Option.some.inj h).symm
theorem postilionref05_MulAdd.p1_ok {w0 : World} {Ws : List Wr} {Q : Exit → Env → World → Prop} (g1 g2 g3 g4 g7 g8 g9 : Nat) (a0 : List Int) (a1 : List Int) (a2 : List Int) (r5 : List Int) (r6 : List Int) (l_a0 : a0.length = 32) (l_a1 : a1.length = 32) (l_a2 : a2.length = 32) (l_r5 : r5.length = 4) (l_r6 : r6.length = 4) {r : List Int} (hQ0 : ∀ (e' : Env) (w' : World) (z0 : List Int), z0.length = 4 → e' 5 = .pointer (some ⟨g3, 0, none⟩) → e' 6 = .pointer (some ⟨g4, 0, none⟩) → e' 9 = .pointer (some ⟨g9, 0, none⟩) → Hp w0 Ws w' [⟨g1, 0, ints .u8 a0⟩, ⟨g2, 0, ints .u8 a1⟩, ⟨g3, 0, ints .u8 a2⟩, ⟨g4, 0, ints .u8 (List.replicate 32 (0 : Int))⟩, ⟨g7, 0, ints .u64 r5⟩, ⟨g8, 0, ints .u64 r6⟩, ⟨g9, 0, ints .u64 z0⟩] [⟨0, 0, ints .u64 [6346243789798364141, 1503914060200516822, 0, 1152921504606846976]⟩] → r = (z0) → Q (.exit 0) e' w') : ∀ (k : Nat), ∀ (y10 : List Int) (y11 : Int) (e : Env) (w : World) (ly10 : y10.length = 4) (s5_e : e 5 = .pointer (some ⟨g3, 0, none⟩)) (s6_e : e 6 = .pointer (some ⟨g4, 0, none⟩)) (s7_e : e 7 = .pointer (some ⟨g7, 0, none⟩)) (s8_e : e 8 = .pointer (some ⟨g8, 0, none⟩)) (s9_e : e 9 = .pointer (some ⟨g9, 0, none⟩)) (s10_e : e 10 = .int .i64 y11) (hp : Hp w0 Ws w [⟨g1, 0, ints .u8 a0⟩, ⟨g2, 0, ints .u8 a1⟩, ⟨g3, 0, ints .u8 a2⟩, ⟨g4, 0, ints .u8 (List.replicate 32 (0 : Int))⟩, ⟨g7, 0, ints .u64 r5⟩, ⟨g8, 0, ints .u64 r6⟩, ⟨g9, 0, ints .u64 y10⟩] [⟨0, 0, ints .u64 [6346243789798364141, 1503914060200516822, 0, 1152921504606846976]⟩]) (h : postilionref05_MulAdd.p1 k r5 r6 y10 y11 = some r), Lp Tryd.prog Tryd.f17.ntmps (at_ (fbody Tryd.f17) [1, 1, 1, 0, 1, 0, 0]) Q k e w := by
  intro k
  induction k with
  | zero => intro y10 y11 e w ly10 s5_e s6_e s7_e s8_e s9_e s10_e hp h; cases h
  | succ k ih =>
    intro y10 y11 e w ly10 s5_e s6_e s7_e s8_e s9_e s10_e hp h
    unfold postilionref05_MulAdd.p1 at h
    show Wp _ _ _ _ _ _
    refine wseq rfl ?_
    refine wseq rfl ?_
    refine wregion (.tp 0 (.tp 1 (.done))) [] rfl (by kernel_rfl) (by kernel_rfl) ?_
    refine k_move (v := .int .i64 y11) rfl s10_e ?_
    refine k_bin (X := .int .i64 y11) (Y := .int .i64 0) rfl rfl rfl rfl ?_
    refine k_end ?_; intro e229 qe229
    have s5_e229 : e229 5 = .pointer (some ⟨g3, 0, none⟩) := (congrFun qe229 5).trans s5_e
    have s6_e229 : e229 6 = .pointer (some ⟨g4, 0, none⟩) := (congrFun qe229 6).trans s6_e
    have s7_e229 : e229 7 = .pointer (some ⟨g7, 0, none⟩) := (congrFun qe229 7).trans s7_e
    have s8_e229 : e229 8 = .pointer (some ⟨g8, 0, none⟩) := (congrFun qe229 8).trans s8_e
    have s9_e229 : e229 9 = .pointer (some ⟨g9, 0, none⟩) := (congrFun qe229 9).trans s9_e
    have s10_e229 : e229 10 = .int .i64 y11 := (congrFun qe229 10).trans s10_e
    have s16_e229 : e229 16 = .bool (decide (y11 ≥ 0)) := congrFun qe229 16
    clear qe229
    refine wcond (t := (decide (y11 ≥ 0))) rfl (by decide) s16_e229 (fun hb => ?_) (fun hb => ?_)
    · replace h := br_t hb h
      refine wskip rfl ?_
      refine wseq rfl ?_
      obtain ⟨r19, qr19, h⟩ := bd_e h
      refine postilionref05_MulAdd.p2_ok k g1 g2 g3 g4 g7 g8 g9 y11 a0 a1 a2 r5 r6 y10 ly10 l_a0 l_a1 l_a2 l_r5 l_r6 ?hq0 e229 _ s5_e229 s6_e229 s7_e229 s8_e229 s9_e229 s10_e229 hp qr19
      case hq0 =>
        intro e234 w m20 lm20 s5_e234 s6_e234 s7_e234 s8_e234 s9_e234 s10_e234 hp qq
        rw [qq] at h; clear qq
        refine wregion (.tp 0 (.tp 1 (.tp 2 (.done)))) [] rfl (by kernel_rfl) (by kernel_rfl) ?_
        refine k_move (v := .int .i64 y11) rfl s10_e234 ?_
        refine k_bin (X := .int .i64 y11) (Y := .int .i64 1) rfl rfl rfl rfl ?_
        refine k_assign (v := .int .i64 (IntKind.i64.wrap (y11 - 1))) rfl rfl ?_
        refine k_end ?_; intro e235 qe235
        have s5_e235 : e235 5 = .pointer (some ⟨g3, 0, none⟩) := (congrFun qe235 5).trans s5_e234
        have s6_e235 : e235 6 = .pointer (some ⟨g4, 0, none⟩) := (congrFun qe235 6).trans s6_e234
        have s7_e235 : e235 7 = .pointer (some ⟨g7, 0, none⟩) := (congrFun qe235 7).trans s7_e234
        have s8_e235 : e235 8 = .pointer (some ⟨g8, 0, none⟩) := (congrFun qe235 8).trans s8_e234
        have s9_e235 : e235 9 = .pointer (some ⟨g9, 0, none⟩) := (congrFun qe235 9).trans s9_e234
        obtain ⟨x21, qx21, h⟩ := lt_e h
        have s10_e235 : e235 10 = .int .i64 x21 := (congrFun qe235 10).trans (congrArg (Value.int .i64) qx21.symm)
        clear qe235
        exact ih m20 x21 _ _ lm20 s5_e235 s6_e235 s7_e235 s8_e235 s9_e235 s10_e235 (hp.drop (L' := [⟨g1, 0, ints .u8 a0⟩, ⟨g2, 0, ints .u8 a1⟩, ⟨g3, 0, ints .u8 a2⟩, ⟨g4, 0, ints .u8 (List.replicate 32 (0 : Int))⟩, ⟨g7, 0, ints .u64 r5⟩, ⟨g8, 0, ints .u64 r6⟩, ⟨g9, 0, ints .u64 m20⟩]) (List.Sublist.refl _)) h
    · replace h := br_f hb h
      refine wexit rfl ?_
      exact hQ0 _ _ y10 ly10 s5_e229 s6_e229 s9_e229 (hp.drop (L' := [⟨g1, 0, ints .u8 a0⟩, ⟨g2, 0, ints .u8 a1⟩, ⟨g3, 0, ints .u8 a2⟩, ⟨g4, 0, ints .u8 (List.replicate 32 (0 : Int))⟩, ⟨g7, 0, ints .u64 r5⟩, ⟨g8, 0, ints .u64 r6⟩, ⟨g9, 0, ints .u64 y10⟩]) (List.Sublist.refl _)) (Option.some.inj h).symm
theorem postilionref05_MulAdd_ok (k : Nat) (a0 : List Int) (a1 : List Int) (a2 : List Int) (la0 : a0.length = 32) (la1 : a1.length = 32) (la2 : a2.length = 32) (w0 : World) (hp : Hp w0 [] w0 [] [⟨0, 0, ints .u64 [6346243789798364141, 1503914060200516822, 0, 1152921504606846976]⟩]) {r : List Int} (h : postilionref05_MulAdd.f k a0 a1 a2 = some r) :
    Calls Tryd.prog 17 [.agg (ints .u8 a0).toArray, .agg (ints .u8 a1).toArray, .agg (ints .u8 a2).toArray].toArray w0 fun x w' => ∃ v, x = .returned v ∧ v = .agg (ints .u8 r).toArray ∧ r.length = 32 ∧ Hp w0 [] w' [] [⟨0, 0, ints .u64 [6346243789798364141, 1503914060200516822, 0, 1152921504606846976]⟩] := by
  refine calls_in Tryd.func17 rfl (Nat.le_of_ble_eq_true (by kernel_rfl)) (by kernel_rfl) ?_
  intro e0 qe0
  have s0_e0 : e0 0 = .agg (ints .u8 a0).toArray := congrFun qe0 0
  have s1_e0 : e0 1 = .agg (ints .u8 a1).toArray := congrFun qe0 1
  have s2_e0 : e0 2 = .agg (ints .u8 a2).toArray := congrFun qe0 2
  clear qe0
  unfold postilionref05_MulAdd.f at h
  refine wseq rfl ?_
  refine wregion (.ef 0 (.ef 1 (.ef 2 (.ef 3 (.done))))) [] rfl (by kernel_rfl) (by kernel_rfl) ?_
  refine k_box (v := .agg (ints .u8 a0).toArray) (ints .u8 a0) rfl s0_e0 rfl hp ?_
  intro g1 w hbg1 hp
  refine k_box (v := .agg (ints .u8 a1).toArray) (ints .u8 a1) rfl s1_e0 rfl hp ?_
  intro g2 w hbg2 hp
  refine k_box (v := .agg (ints .u8 a2).toArray) (ints .u8 a2) rfl s2_e0 rfl hp ?_
  intro g3 w hbg3 hp
  refine k_alloc (ints .u8 (List.replicate 32 (0 : Int))) rfl (by kernel_rfl) hp ?_
  intro g4 w hbg4 hp
  refine k_end ?_; intro e225 qe225
  have s3_e225 : e225 3 = .pointer (some ⟨g1, 0, none⟩) := congrFun qe225 3
  have s4_e225 : e225 4 = .pointer (some ⟨g2, 0, none⟩) := congrFun qe225 4
  have s5_e225 : e225 5 = .pointer (some ⟨g3, 0, none⟩) := congrFun qe225 5
  have s6_e225 : e225 6 = .pointer (some ⟨g4, 0, none⟩) := congrFun qe225 6
  clear qe225
  refine wseq rfl ?_
  obtain ⟨r5, qr5, h⟩ := bd_e h
  obtain ⟨r6, qr6, h⟩ := bd_e h
  refine wcut (fun e226 w2 => ∃ g7 g8 : Nat, r5.length = 4 ∧ r6.length = 4 ∧ e226 5 = .pointer (some ⟨g3, 0, none⟩) ∧ e226 6 = .pointer (some ⟨g4, 0, none⟩) ∧ e226 7 = .pointer (some ⟨g7, 0, none⟩) ∧ e226 8 = .pointer (some ⟨g8, 0, none⟩) ∧ Hp w0 [] w2 [⟨g1, 0, ints .u8 a0⟩, ⟨g2, 0, ints .u8 a1⟩, ⟨g3, 0, ints .u8 a2⟩, ⟨g4, 0, ints .u8 (List.replicate 32 (0 : Int))⟩, ⟨g7, 0, ints .u64 r5⟩, ⟨g8, 0, ints .u64 r6⟩] [⟨0, 0, ints .u64 [6346243789798364141, 1503914060200516822, 0, 1152921504606846976]⟩]) ?_ ?_
  rotate_left
  · refine wregion_d (.tp 0 (.tp 2 (.alt (.ef 1 (.alt (.ef 3 (.alt (.ef 4 (.ef 5 (.ef 6 (.ef 7 (.done))))) (.ef 5 (.ef 4 (.ef 6 (.ef 7 (.done))))))) (.alt (.ef 4 (.alt (.ef 3 (.ef 5 (.ef 6 (.ef 7 (.done))))) (.ef 5 (.ef 3 (.ef 6 (.ef 7 (.done))))))) (.ef 5 (.alt (.ef 3 (.ef 4 (.ef 6 (.ef 7 (.done))))) (.ef 4 (.ef 3 (.ef 6 (.ef 7 (.done)))))))))) (.alt (.ef 4 (.alt (.ef 1 (.alt (.ef 3 (.ef 5 (.ef 6 (.ef 7 (.done))))) (.ef 5 (.ef 3 (.ef 6 (.ef 7 (.done))))))) (.ef 5 (.ef 1 (.ef 3 (.ef 6 (.ef 7 (.done)))))))) (.ef 5 (.alt (.ef 1 (.alt (.ef 3 (.ef 4 (.ef 6 (.ef 7 (.done))))) (.ef 4 (.ef 3 (.ef 6 (.ef 7 (.done))))))) (.ef 4 (.ef 1 (.ef 3 (.ef 6 (.ef 7 (.done)))))))))))) [6, 7] rfl (by kernel_rfl) (by kernel_rfl) (Nat.le_of_ble_eq_true (by kernel_rfl)) (by kernel_rfl) ?_
    have hp := hp.drew
    refine k_sliceA (n := 32) (s := 1) (l := 0) (h' := 32) rfl Tryd.underlying22 (by kernel_rfl) s3_e225 rfl rfl (by decide) ?_
    refine k_sliceA (n := 32) (s := 1) (l := 0) (h' := 32) rfl Tryd.underlying22 (by kernel_rfl) s4_e225 rfl rfl (by decide) ?_
    refine k_alt ?_ ?_
    ·
      refine k_call [.slice (some ⟨g1, 0 + 0 * 1, none⟩) a0.length (32 - 0)] rfl (by kernel_rfl) (args1 (Eq.trans (b := .slice (some ⟨g1, 0 + 0 * 1, none⟩) (32 - 0) (32 - 0)) rfl (congrArg (fun n => Value.slice (some ⟨g1, 0 + 0 * 1, none⟩) n (32 - 0)) (show (32 - 0) = a0.length from la0.symm)))) (postilionref05_mod_ok k a0 g1 (0 + 0 * 1) ((32 - 0))  _ (hp.toR (fun r hr => by simp only [List.mem_cons, List.not_mem_nil, or_false] at hr; rcases hr with rfl | rfl; exact .inr (List.mem_of_getElem? (i := 0) rfl); exact .inl (List.mem_of_getElem? (i := 0) rfl))) qr5) ?_
      rintro _ w' ⟨_, rfl, rfl, lr50, hpc⟩
      refine ⟨_, rfl, .inr (.of_below hpc.chg.to_below), ?_⟩; have hp := hp.below hpc.chg.to_below; clear hpc
      refine k_alt ?_ ?_
      ·
        refine k_call [.slice (some ⟨g2, 0 + 0 * 1, none⟩) a1.length (32 - 0)] rfl (by kernel_rfl) (args1 (Eq.trans (b := .slice (some ⟨g2, 0 + 0 * 1, none⟩) (32 - 0) (32 - 0)) rfl (congrArg (fun n => Value.slice (some ⟨g2, 0 + 0 * 1, none⟩) n (32 - 0)) (show (32 - 0) = a1.length from la1.symm)))) (postilionref05_mod_ok k a1 g2 (0 + 0 * 1) ((32 - 0))  _ (hp.toR (fun r hr => by simp only [List.mem_cons, List.not_mem_nil, or_false] at hr; rcases hr with rfl | rfl; exact .inr (List.mem_of_getElem? (i := 0) rfl); exact .inl (List.mem_of_getElem? (i := 1) rfl))) qr6) ?_
        rintro _ w' ⟨_, rfl, rfl, lr60, hpc⟩
        refine ⟨_, rfl, .inr (.of_below hpc.chg.to_below), ?_⟩; have hp := hp.below hpc.chg.to_below; clear hpc
        refine k_alt ?_ ?_
        ·
          refine k_alloc (ints .u64 (List.replicate 4 (0 : Int))) rfl (by kernel_rfl) hp ?_
          intro g7 w hbg7 hp
          refine k_alloc (ints .u64 (List.replicate 4 (0 : Int))) rfl (by kernel_rfl) hp ?_
          intro g8 w hbg8 hp
          refine k_storeA (v := .agg (ints .u64 r5).toArray) 4 0 (r := ⟨g7, 0, ints .u64 (List.replicate 4 (0 : Int))⟩) (ints .u64 r5) (ints .u64 r5) rfl (n := 4) (by kernel_rfl) rfl rfl rfl ((ints_length _ _).trans lr50) (ints_one _ _) hp rfl rfl rfl (Nat.le_of_eq ((Nat.zero_add _).trans ((ints_length _ _).trans List.length_replicate).symm)) (setMany_all _ _ (((ints_length _ _).trans lr50).trans ((ints_length _ _).trans List.length_replicate).symm)) (by decide) ?_; intro w hp
          refine k_storeA (v := .agg (ints .u64 r6).toArray) 5 0 (r := ⟨g8, 0, ints .u64 (List.replicate 4 (0 : Int))⟩) (ints .u64 r6) (ints .u64 r6) rfl (n := 4) (by kernel_rfl) rfl rfl rfl ((ints_length _ _).trans lr60) (ints_one _ _) hp rfl rfl rfl (Nat.le_of_eq ((Nat.zero_add _).trans ((ints_length _ _).trans List.length_replicate).symm)) (setMany_all _ _ (((ints_length _ _).trans lr60).trans ((ints_length _ _).trans List.length_replicate).symm)) (by decide) ?_; intro w hp
          refine k_endI ?_; intro e226 qe226
          exact ⟨g7, g8, lr50, lr60, (congrFun qe226 5).trans s5_e225, (congrFun qe226 6).trans s6_e225, congrFun qe226 7, congrFun qe226 8, hp⟩
        refine k_alloc (ints .u64 (List.replicate 4 (0 : Int))) rfl (by kernel_rfl) hp ?_
        intro g8 w hbg8 hp
        refine k_alloc (ints .u64 (List.replicate 4 (0 : Int))) rfl (by kernel_rfl) hp ?_
        intro g7 w hbg7 hp
        refine k_storeA (v := .agg (ints .u64 r5).toArray) 5 0 (r := ⟨g7, 0, ints .u64 (List.replicate 4 (0 : Int))⟩) (ints .u64 r5) (ints .u64 r5) rfl (n := 4) (by kernel_rfl) rfl rfl rfl ((ints_length _ _).trans lr50) (ints_one _ _) hp rfl rfl rfl (Nat.le_of_eq ((Nat.zero_add _).trans ((ints_length _ _).trans List.length_replicate).symm)) (setMany_all _ _ (((ints_length _ _).trans lr50).trans ((ints_length _ _).trans List.length_replicate).symm)) (by decide) ?_; intro w hp
        refine k_storeA (v := .agg (ints .u64 r6).toArray) 4 0 (r := ⟨g8, 0, ints .u64 (List.replicate 4 (0 : Int))⟩) (ints .u64 r6) (ints .u64 r6) rfl (n := 4) (by kernel_rfl) rfl rfl rfl ((ints_length _ _).trans lr60) (ints_one _ _) hp rfl rfl rfl (Nat.le_of_eq ((Nat.zero_add _).trans ((ints_length _ _).trans List.length_replicate).symm)) (setMany_all _ _ (((ints_length _ _).trans lr60).trans ((ints_length _ _).trans List.length_replicate).symm)) (by decide) ?_; intro w hp
        refine k_endI ?_; intro e226 qe226
        have hp := hp.swap 4
        exact ⟨g7, g8, lr50, lr60, (congrFun qe226 5).trans s5_e225, (congrFun qe226 6).trans s6_e225, congrFun qe226 7, congrFun qe226 8, hp⟩
      refine k_alt ?_ ?_
      ·
        refine k_alloc (ints .u64 (List.replicate 4 (0 : Int))) rfl (by kernel_rfl) hp ?_
        intro g7 w hbg7 hp
        refine k_alt ?_ ?_
        ·
          refine k_call [.slice (some ⟨g2, 0 + 0 * 1, none⟩) a1.length (32 - 0)] rfl (by kernel_rfl) (args1 (Eq.trans (b := .slice (some ⟨g2, 0 + 0 * 1, none⟩) (32 - 0) (32 - 0)) rfl (congrArg (fun n => Value.slice (some ⟨g2, 0 + 0 * 1, none⟩) n (32 - 0)) (show (32 - 0) = a1.length from la1.symm)))) (postilionref05_mod_ok k a1 g2 (0 + 0 * 1) ((32 - 0))  _ (hp.toR (fun r hr => by simp only [List.mem_cons, List.not_mem_nil, or_false] at hr; rcases hr with rfl | rfl; exact .inr (List.mem_of_getElem? (i := 0) rfl); exact .inl (List.mem_of_getElem? (i := 1) rfl))) qr6) ?_
          rintro _ w' ⟨_, rfl, rfl, lr60, hpc⟩
          refine ⟨_, rfl, .inr (.of_below hpc.chg.to_below), ?_⟩; have hp := hp.below hpc.chg.to_below; clear hpc
          refine k_alloc (ints .u64 (List.replicate 4 (0 : Int))) rfl (by kernel_rfl) hp ?_
          intro g8 w hbg8 hp
          refine k_storeA (v := .agg (ints .u64 r5).toArray) 4 0 (r := ⟨g7, 0, ints .u64 (List.replicate 4 (0 : Int))⟩) (ints .u64 r5) (ints .u64 r5) rfl (n := 4) (by kernel_rfl) rfl rfl rfl ((ints_length _ _).trans lr50) (ints_one _ _) hp rfl rfl rfl (Nat.le_of_eq ((Nat.zero_add _).trans ((ints_length _ _).trans List.length_replicate).symm)) (setMany_all _ _ (((ints_length _ _).trans lr50).trans ((ints_length _ _).trans List.length_replicate).symm)) (by decide) ?_; intro w hp
          refine k_storeA (v := .agg (ints .u64 r6).toArray) 5 0 (r := ⟨g8, 0, ints .u64 (List.replicate 4 (0 : Int))⟩) (ints .u64 r6) (ints .u64 r6) rfl (n := 4) (by kernel_rfl) rfl rfl rfl ((ints_length _ _).trans lr60) (ints_one _ _) hp rfl rfl rfl (Nat.le_of_eq ((Nat.zero_add _).trans ((ints_length _ _).trans List.length_replicate).symm)) (setMany_all _ _ (((ints_length _ _).trans lr60).trans ((ints_length _ _).trans List.length_replicate).symm)) (by decide) ?_; intro w hp
          refine k_endI ?_; intro e226 qe226
          exact ⟨g7, g8, lr50, lr60, (congrFun qe226 5).trans s5_e225, (congrFun qe226 6).trans s6_e225, congrFun qe226 7, congrFun qe226 8, hp⟩
        refine k_alloc (ints .u64 (List.replicate 4 (0 : Int))) rfl (by kernel_rfl) hp ?_
        intro g8 w hbg8 hp
        refine k_call [.slice (some ⟨g2, 0 + 0 * 1, none⟩) a1.length (32 - 0)] rfl (by kernel_rfl) (args1 (Eq.trans (b := .slice (some ⟨g2, 0 + 0 * 1, none⟩) (32 - 0) (32 - 0)) rfl (congrArg (fun n => Value.slice (some ⟨g2, 0 + 0 * 1, none⟩) n (32 - 0)) (show (32 - 0) = a1.length from la1.symm)))) (postilionref05_mod_ok k a1 g2 (0 + 0 * 1) ((32 - 0))  _ (hp.toR (fun r hr => by simp only [List.mem_cons, List.not_mem_nil, or_false] at hr; rcases hr with rfl | rfl; exact .inr (List.mem_of_getElem? (i := 0) rfl); exact .inl (List.mem_of_getElem? (i := 1) rfl))) qr6) ?_
        rintro _ w' ⟨_, rfl, rfl, lr60, hpc⟩
        refine ⟨_, rfl, .inr (.of_below hpc.chg.to_below), ?_⟩; have hp := hp.below hpc.chg.to_below; clear hpc
        refine k_storeA (v := .agg (ints .u64 r5).toArray) 4 0 (r := ⟨g7, 0, ints .u64 (List.replicate 4 (0 : Int))⟩) (ints .u64 r5) (ints .u64 r5) rfl (n := 4) (by kernel_rfl) rfl rfl rfl ((ints_length _ _).trans lr50) (ints_one _ _) hp rfl rfl rfl (Nat.le_of_eq ((Nat.zero_add _).trans ((ints_length _ _).trans List.length_replicate).symm)) (setMany_all _ _ (((ints_length _ _).trans lr50).trans ((ints_length _ _).trans List.length_replicate).symm)) (by decide) ?_; intro w hp
        refine k_storeA (v := .agg (ints .u64 r6).toArray) 5 0 (r := ⟨g8, 0, ints .u64 (List.replicate 4 (0 : Int))⟩) (ints .u64 r6) (ints .u64 r6) rfl (n := 4) (by kernel_rfl) rfl rfl rfl ((ints_length _ _).trans lr60) (ints_one _ _) hp rfl rfl rfl (Nat.le_of_eq ((Nat.zero_add _).trans ((ints_length _ _).trans List.length_replicate).symm)) (setMany_all _ _ (((ints_length _ _).trans lr60).trans ((ints_length _ _).trans List.length_replicate).symm)) (by decide) ?_; intro w hp
        refine k_endI ?_; intro e226 qe226
        exact ⟨g7, g8, lr50, lr60, (congrFun qe226 5).trans s5_e225, (congrFun qe226 6).trans s6_e225, congrFun qe226 7, congrFun qe226 8, hp⟩
      refine k_alloc (ints .u64 (List.replicate 4 (0 : Int))) rfl (by kernel_rfl) hp ?_
      intro g8 w hbg8 hp
      refine k_alt ?_ ?_
      ·
        refine k_call [.slice (some ⟨g2, 0 + 0 * 1, none⟩) a1.length (32 - 0)] rfl (by kernel_rfl) (args1 (Eq.trans (b := .slice (some ⟨g2, 0 + 0 * 1, none⟩) (32 - 0) (32 - 0)) rfl (congrArg (fun n => Value.slice (some ⟨g2, 0 + 0 * 1, none⟩) n (32 - 0)) (show (32 - 0) = a1.length from la1.symm)))) (postilionref05_mod_ok k a1 g2 (0 + 0 * 1) ((32 - 0))  _ (hp.toR (fun r hr => by simp only [List.mem_cons, List.not_mem_nil, or_false] at hr; rcases hr with rfl | rfl; exact .inr (List.mem_of_getElem? (i := 0) rfl); exact .inl (List.mem_of_getElem? (i := 1) rfl))) qr6) ?_
        rintro _ w' ⟨_, rfl, rfl, lr60, hpc⟩
        refine ⟨_, rfl, .inr (.of_below hpc.chg.to_below), ?_⟩; have hp := hp.below hpc.chg.to_below; clear hpc
        refine k_alloc (ints .u64 (List.replicate 4 (0 : Int))) rfl (by kernel_rfl) hp ?_
        intro g7 w hbg7 hp
        refine k_storeA (v := .agg (ints .u64 r5).toArray) 5 0 (r := ⟨g7, 0, ints .u64 (List.replicate 4 (0 : Int))⟩) (ints .u64 r5) (ints .u64 r5) rfl (n := 4) (by kernel_rfl) rfl rfl rfl ((ints_length _ _).trans lr50) (ints_one _ _) hp rfl rfl rfl (Nat.le_of_eq ((Nat.zero_add _).trans ((ints_length _ _).trans List.length_replicate).symm)) (setMany_all _ _ (((ints_length _ _).trans lr50).trans ((ints_length _ _).trans List.length_replicate).symm)) (by decide) ?_; intro w hp
        refine k_storeA (v := .agg (ints .u64 r6).toArray) 4 0 (r := ⟨g8, 0, ints .u64 (List.replicate 4 (0 : Int))⟩) (ints .u64 r6) (ints .u64 r6) rfl (n := 4) (by kernel_rfl) rfl rfl rfl ((ints_length _ _).trans lr60) (ints_one _ _) hp rfl rfl rfl (Nat.le_of_eq ((Nat.zero_add _).trans ((ints_length _ _).trans List.length_replicate).symm)) (setMany_all _ _ (((ints_length _ _).trans lr60).trans ((ints_length _ _).trans List.length_replicate).symm)) (by decide) ?_; intro w hp
        refine k_endI ?_; intro e226 qe226
        have hp := hp.swap 4
        exact ⟨g7, g8, lr50, lr60, (congrFun qe226 5).trans s5_e225, (congrFun qe226 6).trans s6_e225, congrFun qe226 7, congrFun qe226 8, hp⟩
      refine k_alloc (ints .u64 (List.replicate 4 (0 : Int))) rfl (by kernel_rfl) hp ?_
      intro g7 w hbg7 hp
      refine k_call [.slice (some ⟨g2, 0 + 0 * 1, none⟩) a1.length (32 - 0)] rfl (by kernel_rfl) (args1 (Eq.trans (b := .slice (some ⟨g2, 0 + 0 * 1, none⟩) (32 - 0) (32 - 0)) rfl (congrArg (fun n => Value.slice (some ⟨g2, 0 + 0 * 1, none⟩) n (32 - 0)) (show (32 - 0) = a1.length from la1.symm)))) (postilionref05_mod_ok k a1 g2 (0 + 0 * 1) ((32 - 0))  _ (hp.toR (fun r hr => by simp only [List.mem_cons, List.not_mem_nil, or_false] at hr; rcases hr with rfl | rfl; exact .inr (List.mem_of_getElem? (i := 0) rfl); exact .inl (List.mem_of_getElem? (i := 1) rfl))) qr6) ?_
      rintro _ w' ⟨_, rfl, rfl, lr60, hpc⟩
      refine ⟨_, rfl, .inr (.of_below hpc.chg.to_below), ?_⟩; have hp := hp.below hpc.chg.to_below; clear hpc
      refine k_storeA (v := .agg (ints .u64 r5).toArray) 5 0 (r := ⟨g7, 0, ints .u64 (List.replicate 4 (0 : Int))⟩) (ints .u64 r5) (ints .u64 r5) rfl (n := 4) (by kernel_rfl) rfl rfl rfl ((ints_length _ _).trans lr50) (ints_one _ _) hp rfl rfl rfl (Nat.le_of_eq ((Nat.zero_add _).trans ((ints_length _ _).trans List.length_replicate).symm)) (setMany_all _ _ (((ints_length _ _).trans lr50).trans ((ints_length _ _).trans List.length_replicate).symm)) (by decide) ?_; intro w hp
      refine k_storeA (v := .agg (ints .u64 r6).toArray) 4 0 (r := ⟨g8, 0, ints .u64 (List.replicate 4 (0 : Int))⟩) (ints .u64 r6) (ints .u64 r6) rfl (n := 4) (by kernel_rfl) rfl rfl rfl ((ints_length _ _).trans lr60) (ints_one _ _) hp rfl rfl rfl (Nat.le_of_eq ((Nat.zero_add _).trans ((ints_length _ _).trans List.length_replicate).symm)) (setMany_all _ _ (((ints_length _ _).trans lr60).trans ((ints_length _ _).trans List.length_replicate).symm)) (by decide) ?_; intro w hp
      refine k_endI ?_; intro e226 qe226
      have hp := hp.swap 4
      exact ⟨g7, g8, lr50, lr60, (congrFun qe226 5).trans s5_e225, (congrFun qe226 6).trans s6_e225, congrFun qe226 7, congrFun qe226 8, hp⟩
    refine k_alt ?_ ?_
    ·
      refine k_alloc (ints .u64 (List.replicate 4 (0 : Int))) rfl (by kernel_rfl) hp ?_
      intro g7 w hbg7 hp
      refine k_alt ?_ ?_
      ·
        refine k_call [.slice (some ⟨g1, 0 + 0 * 1, none⟩) a0.length (32 - 0)] rfl (by kernel_rfl) (args1 (Eq.trans (b := .slice (some ⟨g1, 0 + 0 * 1, none⟩) (32 - 0) (32 - 0)) rfl (congrArg (fun n => Value.slice (some ⟨g1, 0 + 0 * 1, none⟩) n (32 - 0)) (show (32 - 0) = a0.length from la0.symm)))) (postilionref05_mod_ok k a0 g1 (0 + 0 * 1) ((32 - 0))  _ (hp.toR (fun r hr => by simp only [List.mem_cons, List.not_mem_nil, or_false] at hr; rcases hr with rfl | rfl; exact .inr (List.mem_of_getElem? (i := 0) rfl); exact .inl (List.mem_of_getElem? (i := 0) rfl))) qr5) ?_
        rintro _ w' ⟨_, rfl, rfl, lr50, hpc⟩
        refine ⟨_, rfl, .inr (.of_below hpc.chg.to_below), ?_⟩; have hp := hp.below hpc.chg.to_below; clear hpc
        refine k_alt ?_ ?_
        ·
          refine k_call [.slice (some ⟨g2, 0 + 0 * 1, none⟩) a1.length (32 - 0)] rfl (by kernel_rfl) (args1 (Eq.trans (b := .slice (some ⟨g2, 0 + 0 * 1, none⟩) (32 - 0) (32 - 0)) rfl (congrArg (fun n => Value.slice (some ⟨g2, 0 + 0 * 1, none⟩) n (32 - 0)) (show (32 - 0) = a1.length from la1.symm)))) (postilionref05_mod_ok k a1 g2 (0 + 0 * 1) ((32 - 0))  _ (hp.toR (fun r hr => by simp only [List.mem_cons, List.not_mem_nil, or_false] at hr; rcases hr with rfl | rfl; exact .inr (List.mem_of_getElem? (i := 0) rfl); exact .inl (List.mem_of_getElem? (i := 1) rfl))) qr6) ?_
          rintro _ w' ⟨_, rfl, rfl, lr60, hpc⟩
          refine ⟨_, rfl, .inr (.of_below hpc.chg.to_below), ?_⟩; have hp := hp.below hpc.chg.to_below; clear hpc
          refine k_alloc (ints .u64 (List.replicate 4 (0 : Int))) rfl (by kernel_rfl) hp ?_
          intro g8 w hbg8 hp
          refine k_storeA (v := .agg (ints .u64 r5).toArray) 4 0 (r := ⟨g7, 0, ints .u64 (List.replicate 4 (0 : Int))⟩) (ints .u64 r5) (ints .u64 r5) rfl (n := 4) (by kernel_rfl) rfl rfl rfl ((ints_length _ _).trans lr50) (ints_one _ _) hp rfl rfl rfl (Nat.le_of_eq ((Nat.zero_add _).trans ((ints_length _ _).trans List.length_replicate).symm)) (setMany_all _ _ (((ints_length _ _).trans lr50).trans ((ints_length _ _).trans List.length_replicate).symm)) (by decide) ?_; intro w hp
          refine k_storeA (v := .agg (ints .u64 r6).toArray) 5 0 (r := ⟨g8, 0, ints .u64 (List.replicate 4 (0 : Int))⟩) (ints .u64 r6) (ints .u64 r6) rfl (n := 4) (by kernel_rfl) rfl rfl rfl ((ints_length _ _).trans lr60) (ints_one _ _) hp rfl rfl rfl (Nat.le_of_eq ((Nat.zero_add _).trans ((ints_length _ _).trans List.length_replicate).symm)) (setMany_all _ _ (((ints_length _ _).trans lr60).trans ((ints_length _ _).trans List.length_replicate).symm)) (by decide) ?_; intro w hp
          refine k_endI ?_; intro e226 qe226
          exact ⟨g7, g8, lr50, lr60, (congrFun qe226 5).trans s5_e225, (congrFun qe226 6).trans s6_e225, congrFun qe226 7, congrFun qe226 8, hp⟩
        refine k_alloc (ints .u64 (List.replicate 4 (0 : Int))) rfl (by kernel_rfl) hp ?_
        intro g8 w hbg8 hp
        refine k_call [.slice (some ⟨g2, 0 + 0 * 1, none⟩) a1.length (32 - 0)] rfl (by kernel_rfl) (args1 (Eq.trans (b := .slice (some ⟨g2, 0 + 0 * 1, none⟩) (32 - 0) (32 - 0)) rfl (congrArg (fun n => Value.slice (some ⟨g2, 0 + 0 * 1, none⟩) n (32 - 0)) (show (32 - 0) = a1.length from la1.symm)))) (postilionref05_mod_ok k a1 g2 (0 + 0 * 1) ((32 - 0))  _ (hp.toR (fun r hr => by simp only [List.mem_cons, List.not_mem_nil, or_false] at hr; rcases hr with rfl | rfl; exact .inr (List.mem_of_getElem? (i := 0) rfl); exact .inl (List.mem_of_getElem? (i := 1) rfl))) qr6) ?_
        rintro _ w' ⟨_, rfl, rfl, lr60, hpc⟩
        refine ⟨_, rfl, .inr (.of_below hpc.chg.to_below), ?_⟩; have hp := hp.below hpc.chg.to_below; clear hpc
        refine k_storeA (v := .agg (ints .u64 r5).toArray) 4 0 (r := ⟨g7, 0, ints .u64 (List.replicate 4 (0 : Int))⟩) (ints .u64 r5) (ints .u64 r5) rfl (n := 4) (by kernel_rfl) rfl rfl rfl ((ints_length _ _).trans lr50) (ints_one _ _) hp rfl rfl rfl (Nat.le_of_eq ((Nat.zero_add _).trans ((ints_length _ _).trans List.length_replicate).symm)) (setMany_all _ _ (((ints_length _ _).trans lr50).trans ((ints_length _ _).trans List.length_replicate).symm)) (by decide) ?_; intro w hp
        refine k_storeA (v := .agg (ints .u64 r6).toArray) 5 0 (r := ⟨g8, 0, ints .u64 (List.replicate 4 (0 : Int))⟩) (ints .u64 r6) (ints .u64 r6) rfl (n := 4) (by kernel_rfl) rfl rfl rfl ((ints_length _ _).trans lr60) (ints_one _ _) hp rfl rfl rfl (Nat.le_of_eq ((Nat.zero_add _).trans ((ints_length _ _).trans List.length_replicate).symm)) (setMany_all _ _ (((ints_length _ _).trans lr60).trans ((ints_length _ _).trans List.length_replicate).symm)) (by decide) ?_; intro w hp
        refine k_endI ?_; intro e226 qe226
        exact ⟨g7, g8, lr50, lr60, (congrFun qe226 5).trans s5_e225, (congrFun qe226 6).trans s6_e225, congrFun qe226 7, congrFun qe226 8, hp⟩
      refine k_alloc (ints .u64 (List.replicate 4 (0 : Int))) rfl (by kernel_rfl) hp ?_
      intro g8 w hbg8 hp
      refine k_call [.slice (some ⟨g1, 0 + 0 * 1, none⟩) a0.length (32 - 0)] rfl (by kernel_rfl) (args1 (Eq.trans (b := .slice (some ⟨g1, 0 + 0 * 1, none⟩) (32 - 0) (32 - 0)) rfl (congrArg (fun n => Value.slice (some ⟨g1, 0 + 0 * 1, none⟩) n (32 - 0)) (show (32 - 0) = a0.length from la0.symm)))) (postilionref05_mod_ok k a0 g1 (0 + 0 * 1) ((32 - 0))  _ (hp.toR (fun r hr => by simp only [List.mem_cons, List.not_mem_nil, or_false] at hr; rcases hr with rfl | rfl; exact .inr (List.mem_of_getElem? (i := 0) rfl); exact .inl (List.mem_of_getElem? (i := 0) rfl))) qr5) ?_
      rintro _ w' ⟨_, rfl, rfl, lr50, hpc⟩
      refine ⟨_, rfl, .inr (.of_below hpc.chg.to_below), ?_⟩; have hp := hp.below hpc.chg.to_below; clear hpc
      refine k_call [.slice (some ⟨g2, 0 + 0 * 1, none⟩) a1.length (32 - 0)] rfl (by kernel_rfl) (args1 (Eq.trans (b := .slice (some ⟨g2, 0 + 0 * 1, none⟩) (32 - 0) (32 - 0)) rfl (congrArg (fun n => Value.slice (some ⟨g2, 0 + 0 * 1, none⟩) n (32 - 0)) (show (32 - 0) = a1.length from la1.symm)))) (postilionref05_mod_ok k a1 g2 (0 + 0 * 1) ((32 - 0))  _ (hp.toR (fun r hr => by simp only [List.mem_cons, List.not_mem_nil, or_false] at hr; rcases hr with rfl | rfl; exact .inr (List.mem_of_getElem? (i := 0) rfl); exact .inl (List.mem_of_getElem? (i := 1) rfl))) qr6) ?_
      rintro _ w' ⟨_, rfl, rfl, lr60, hpc⟩
      refine ⟨_, rfl, .inr (.of_below hpc.chg.to_below), ?_⟩; have hp := hp.below hpc.chg.to_below; clear hpc
      refine k_storeA (v := .agg (ints .u64 r5).toArray) 4 0 (r := ⟨g7, 0, ints .u64 (List.replicate 4 (0 : Int))⟩) (ints .u64 r5) (ints .u64 r5) rfl (n := 4) (by kernel_rfl) rfl rfl rfl ((ints_length _ _).trans lr50) (ints_one _ _) hp rfl rfl rfl (Nat.le_of_eq ((Nat.zero_add _).trans ((ints_length _ _).trans List.length_replicate).symm)) (setMany_all _ _ (((ints_length _ _).trans lr50).trans ((ints_length _ _).trans List.length_replicate).symm)) (by decide) ?_; intro w hp
      refine k_storeA (v := .agg (ints .u64 r6).toArray) 5 0 (r := ⟨g8, 0, ints .u64 (List.replicate 4 (0 : Int))⟩) (ints .u64 r6) (ints .u64 r6) rfl (n := 4) (by kernel_rfl) rfl rfl rfl ((ints_length _ _).trans lr60) (ints_one _ _) hp rfl rfl rfl (Nat.le_of_eq ((Nat.zero_add _).trans ((ints_length _ _).trans List.length_replicate).symm)) (setMany_all _ _ (((ints_length _ _).trans lr60).trans ((ints_length _ _).trans List.length_replicate).symm)) (by decide) ?_; intro w hp
      refine k_endI ?_; intro e226 qe226
      exact ⟨g7, g8, lr50, lr60, (congrFun qe226 5).trans s5_e225, (congrFun qe226 6).trans s6_e225, congrFun qe226 7, congrFun qe226 8, hp⟩
    refine k_alloc (ints .u64 (List.replicate 4 (0 : Int))) rfl (by kernel_rfl) hp ?_
    intro g8 w hbg8 hp
    refine k_alt ?_ ?_
    ·
      refine k_call [.slice (some ⟨g1, 0 + 0 * 1, none⟩) a0.length (32 - 0)] rfl (by kernel_rfl) (args1 (Eq.trans (b := .slice (some ⟨g1, 0 + 0 * 1, none⟩) (32 - 0) (32 - 0)) rfl (congrArg (fun n => Value.slice (some ⟨g1, 0 + 0 * 1, none⟩) n (32 - 0)) (show (32 - 0) = a0.length from la0.symm)))) (postilionref05_mod_ok k a0 g1 (0 + 0 * 1) ((32 - 0))  _ (hp.toR (fun r hr => by simp only [List.mem_cons, List.not_mem_nil, or_false] at hr; rcases hr with rfl | rfl; exact .inr (List.mem_of_getElem? (i := 0) rfl); exact .inl (List.mem_of_getElem? (i := 0) rfl))) qr5) ?_
      rintro _ w' ⟨_, rfl, rfl, lr50, hpc⟩
      refine ⟨_, rfl, .inr (.of_below hpc.chg.to_below), ?_⟩; have hp := hp.below hpc.chg.to_below; clear hpc
      refine k_alt ?_ ?_
      ·
        refine k_call [.slice (some ⟨g2, 0 + 0 * 1, none⟩) a1.length (32 - 0)] rfl (by kernel_rfl) (args1 (Eq.trans (b := .slice (some ⟨g2, 0 + 0 * 1, none⟩) (32 - 0) (32 - 0)) rfl (congrArg (fun n => Value.slice (some ⟨g2, 0 + 0 * 1, none⟩) n (32 - 0)) (show (32 - 0) = a1.length from la1.symm)))) (postilionref05_mod_ok k a1 g2 (0 + 0 * 1) ((32 - 0))  _ (hp.toR (fun r hr => by simp only [List.mem_cons, List.not_mem_nil, or_false] at hr; rcases hr with rfl | rfl; exact .inr (List.mem_of_getElem? (i := 0) rfl); exact .inl (List.mem_of_getElem? (i := 1) rfl))) qr6) ?_
        rintro _ w' ⟨_, rfl, rfl, lr60, hpc⟩
        refine ⟨_, rfl, .inr (.of_below hpc.chg.to_below), ?_⟩; have hp := hp.below hpc.chg.to_below; clear hpc
        refine k_alloc (ints .u64 (List.replicate 4 (0 : Int))) rfl (by kernel_rfl) hp ?_
        intro g7 w hbg7 hp
        refine k_storeA (v := .agg (ints .u64 r5).toArray) 5 0 (r := ⟨g7, 0, ints .u64 (List.replicate 4 (0 : Int))⟩) (ints .u64 r5) (ints .u64 r5) rfl (n := 4) (by kernel_rfl) rfl rfl rfl ((ints_length _ _).trans lr50) (ints_one _ _) hp rfl rfl rfl (Nat.le_of_eq ((Nat.zero_add _).trans ((ints_length _ _).trans List.length_replicate).symm)) (setMany_all _ _ (((ints_length _ _).trans lr50).trans ((ints_length _ _).trans List.length_replicate).symm)) (by decide) ?_; intro w hp
        refine k_storeA (v := .agg (ints .u64 r6).toArray) 4 0 (r := ⟨g8, 0, ints .u64 (List.replicate 4 (0 : Int))⟩) (ints .u64 r6) (ints .u64 r6) rfl (n := 4) (by kernel_rfl) rfl rfl rfl ((ints_length _ _).trans lr60) (ints_one _ _) hp rfl rfl rfl (Nat.le_of_eq ((Nat.zero_add _).trans ((ints_length _ _).trans List.length_replicate).symm)) (setMany_all _ _ (((ints_length _ _).trans lr60).trans ((ints_length _ _).trans List.length_replicate).symm)) (by decide) ?_; intro w hp
        refine k_endI ?_; intro e226 qe226
        have hp := hp.swap 4
        exact ⟨g7, g8, lr50, lr60, (congrFun qe226 5).trans s5_e225, (congrFun qe226 6).trans s6_e225, congrFun qe226 7, congrFun qe226 8, hp⟩
      refine k_alloc (ints .u64 (List.replicate 4 (0 : Int))) rfl (by kernel_rfl) hp ?_
      intro g7 w hbg7 hp
      refine k_call [.slice (some ⟨g2, 0 + 0 * 1, none⟩) a1.length (32 - 0)] rfl (by kernel_rfl) (args1 (Eq.trans (b := .slice (some ⟨g2, 0 + 0 * 1, none⟩) (32 - 0) (32 - 0)) rfl (congrArg (fun n => Value.slice (some ⟨g2, 0 + 0 * 1, none⟩) n (32 - 0)) (show (32 - 0) = a1.length from la1.symm)))) (postilionref05_mod_ok k a1 g2 (0 + 0 * 1) ((32 - 0))  _ (hp.toR (fun r hr => by simp only [List.mem_cons, List.not_mem_nil, or_false] at hr; rcases hr with rfl | rfl; exact .inr (List.mem_of_getElem? (i := 0) rfl); exact .inl (List.mem_of_getElem? (i := 1) rfl))) qr6) ?_
      rintro _ w' ⟨_, rfl, rfl, lr60, hpc⟩
      refine ⟨_, rfl, .inr (.of_below hpc.chg.to_below), ?_⟩; have hp := hp.below hpc.chg.to_below; clear hpc
      refine k_storeA (v := .agg (ints .u64 r5).toArray) 5 0 (r := ⟨g7, 0, ints .u64 (List.replicate 4 (0 : Int))⟩) (ints .u64 r5) (ints .u64 r5) rfl (n := 4) (by kernel_rfl) rfl rfl rfl ((ints_length _ _).trans lr50) (ints_one _ _) hp rfl rfl rfl (Nat.le_of_eq ((Nat.zero_add _).trans ((ints_length _ _).trans List.length_replicate).symm)) (setMany_all _ _ (((ints_length _ _).trans lr50).trans ((ints_length _ _).trans List.length_replicate).symm)) (by decide) ?_; intro w hp
      refine k_storeA (v := .agg (ints .u64 r6).toArray) 4 0 (r := ⟨g8, 0, ints .u64 (List.replicate 4 (0 : Int))⟩) (ints .u64 r6) (ints .u64 r6) rfl (n := 4) (by kernel_rfl) rfl rfl rfl ((ints_length _ _).trans lr60) (ints_one _ _) hp rfl rfl rfl (Nat.le_of_eq ((Nat.zero_add _).trans ((ints_length _ _).trans List.length_replicate).symm)) (setMany_all _ _ (((ints_length _ _).trans lr60).trans ((ints_length _ _).trans List.length_replicate).symm)) (by decide) ?_; intro w hp
      refine k_endI ?_; intro e226 qe226
      have hp := hp.swap 4
      exact ⟨g7, g8, lr50, lr60, (congrFun qe226 5).trans s5_e225, (congrFun qe226 6).trans s6_e225, congrFun qe226 7, congrFun qe226 8, hp⟩
    refine k_alloc (ints .u64 (List.replicate 4 (0 : Int))) rfl (by kernel_rfl) hp ?_
    intro g7 w hbg7 hp
    refine k_call [.slice (some ⟨g1, 0 + 0 * 1, none⟩) a0.length (32 - 0)] rfl (by kernel_rfl) (args1 (Eq.trans (b := .slice (some ⟨g1, 0 + 0 * 1, none⟩) (32 - 0) (32 - 0)) rfl (congrArg (fun n => Value.slice (some ⟨g1, 0 + 0 * 1, none⟩) n (32 - 0)) (show (32 - 0) = a0.length from la0.symm)))) (postilionref05_mod_ok k a0 g1 (0 + 0 * 1) ((32 - 0))  _ (hp.toR (fun r hr => by simp only [List.mem_cons, List.not_mem_nil, or_false] at hr; rcases hr with rfl | rfl; exact .inr (List.mem_of_getElem? (i := 0) rfl); exact .inl (List.mem_of_getElem? (i := 0) rfl))) qr5) ?_
    rintro _ w' ⟨_, rfl, rfl, lr50, hpc⟩
    refine ⟨_, rfl, .inr (.of_below hpc.chg.to_below), ?_⟩; have hp := hp.below hpc.chg.to_below; clear hpc
    refine k_call [.slice (some ⟨g2, 0 + 0 * 1, none⟩) a1.length (32 - 0)] rfl (by kernel_rfl) (args1 (Eq.trans (b := .slice (some ⟨g2, 0 + 0 * 1, none⟩) (32 - 0) (32 - 0)) rfl (congrArg (fun n => Value.slice (some ⟨g2, 0 + 0 * 1, none⟩) n (32 - 0)) (show (32 - 0) = a1.length from la1.symm)))) (postilionref05_mod_ok k a1 g2 (0 + 0 * 1) ((32 - 0))  _ (hp.toR (fun r hr => by simp only [List.mem_cons, List.not_mem_nil, or_false] at hr; rcases hr with rfl | rfl; exact .inr (List.mem_of_getElem? (i := 0) rfl); exact .inl (List.mem_of_getElem? (i := 1) rfl))) qr6) ?_
    rintro _ w' ⟨_, rfl, rfl, lr60, hpc⟩
    refine ⟨_, rfl, .inr (.of_below hpc.chg.to_below), ?_⟩; have hp := hp.below hpc.chg.to_below; clear hpc
    refine k_storeA (v := .agg (ints .u64 r5).toArray) 5 0 (r := ⟨g7, 0, ints .u64 (List.replicate 4 (0 : Int))⟩) (ints .u64 r5) (ints .u64 r5) rfl (n := 4) (by kernel_rfl) rfl rfl rfl ((ints_length _ _).trans lr50) (ints_one _ _) hp rfl rfl rfl (Nat.le_of_eq ((Nat.zero_add _).trans ((ints_length _ _).trans List.length_replicate).symm)) (setMany_all _ _ (((ints_length _ _).trans lr50).trans ((ints_length _ _).trans List.length_replicate).symm)) (by decide) ?_; intro w hp
    refine k_storeA (v := .agg (ints .u64 r6).toArray) 4 0 (r := ⟨g8, 0, ints .u64 (List.replicate 4 (0 : Int))⟩) (ints .u64 r6) (ints .u64 r6) rfl (n := 4) (by kernel_rfl) rfl rfl rfl ((ints_length _ _).trans lr60) (ints_one _ _) hp rfl rfl rfl (Nat.le_of_eq ((Nat.zero_add _).trans ((ints_length _ _).trans List.length_replicate).symm)) (setMany_all _ _ (((ints_length _ _).trans lr60).trans ((ints_length _ _).trans List.length_replicate).symm)) (by decide) ?_; intro w hp
    refine k_endI ?_; intro e226 qe226
    have hp := hp.swap 4
    exact ⟨g7, g8, lr50, lr60, (congrFun qe226 5).trans s5_e225, (congrFun qe226 6).trans s6_e225, congrFun qe226 7, congrFun qe226 8, hp⟩
  rintro e226 w ⟨g7, g8, lr50, lr60, s5_e226, s6_e226, s7_e226, s8_e226, hp⟩
  refine wseq rfl ?_
  refine wregion (.ef 0 (.done)) [] rfl (by kernel_rfl) (by kernel_rfl) ?_
  refine k_alloc (ints .u64 (List.replicate 4 (0 : Int))) rfl (by kernel_rfl) hp ?_
  intro g9 w hbg9 hp
  refine k_end ?_; intro e227 qe227
  have s5_e227 : e227 5 = .pointer (some ⟨g3, 0, none⟩) := (congrFun qe227 5).trans s5_e226
  have s6_e227 : e227 6 = .pointer (some ⟨g4, 0, none⟩) := (congrFun qe227 6).trans s6_e226
  have s7_e227 : e227 7 = .pointer (some ⟨g7, 0, none⟩) := (congrFun qe227 7).trans s7_e226
  have s8_e227 : e227 8 = .pointer (some ⟨g8, 0, none⟩) := (congrFun qe227 8).trans s8_e226
  have s9_e227 : e227 9 = .pointer (some ⟨g9, 0, none⟩) := congrFun qe227 9
  clear qe227
  refine wseq rfl ?_
  refine wseq rfl ?_
  refine wregion (.tp 0 (.done)) [] rfl (by kernel_rfl) (by kernel_rfl) ?_
  refine k_assign (v := .int .i64 255) rfl rfl ?_
  refine k_end ?_; intro e228 qe228
  have s5_e228 : e228 5 = .pointer (some ⟨g3, 0, none⟩) := (congrFun qe228 5).trans s5_e227
  have s6_e228 : e228 6 = .pointer (some ⟨g4, 0, none⟩) := (congrFun qe228 6).trans s6_e227
  have s7_e228 : e228 7 = .pointer (some ⟨g7, 0, none⟩) := (congrFun qe228 7).trans s7_e227
  have s8_e228 : e228 8 = .pointer (some ⟨g8, 0, none⟩) := (congrFun qe228 8).trans s8_e227
  have s9_e228 : e228 9 = .pointer (some ⟨g9, 0, none⟩) := (congrFun qe228 9).trans s9_e227
  have s10_e228 : e228 10 = .int .i64 255 := congrFun qe228 10
  clear qe228
  refine wblock rfl ?_
  obtain ⟨r22, qr22, h⟩ := bd_e h
  refine wloop k rfl (postilionref05_MulAdd.p1_ok g1 g2 g3 g4 g7 g8 g9 a0 a1 a2 r5 r6 la0 la1 la2 lr50 lr60 ?hq0 k (List.replicate 4 (0 : Int)) 255 e228 _ List.length_replicate s5_e228 s6_e228 s7_e228 s8_e228 s9_e228 s10_e228 hp qr22)
  case hq0 =>
    intro e236 w m23 lm23 s5_e236 s6_e236 s9_e236 hp qq
    rw [qq] at h; clear qq
    refine wseq rfl ?_
    refine wregion_d (.tk 0 (.tp 1 (.ef 2 (.ef 3 (.ef 4 (.ef 5 (.done))))))) [5] rfl (by kernel_rfl) (by kernel_rfl) (Nat.le_of_ble_eq_true (by kernel_rfl)) (by kernel_rfl) ?_
    have hp := hp.drew
    refine k_loadA (n := 4) (xs := ints .u64 m23) 0 rfl (by kernel_rfl) (by kernel_rfl) s9_e236 (hp.get (j := 6) rfl) rfl rfl ((ints_length _ _).trans lm23) (fun m v hm => by rw [Nat.zero_add]; exact hm) ?_
    refine k_sliceA (n := 32) (s := 1) (l := 0) (h' := 32) rfl Tryd.underlying22 (by kernel_rfl) s5_e236 rfl rfl (by decide) ?_
    obtain ⟨r24, qr24, h⟩ := bd_e h
    refine k_call [.slice (some ⟨g3, 0 + 0 * 1, none⟩) a2.length (32 - 0)] rfl (by kernel_rfl) (args1 (Eq.trans (b := .slice (some ⟨g3, 0 + 0 * 1, none⟩) (32 - 0) (32 - 0)) rfl (congrArg (fun n => Value.slice (some ⟨g3, 0 + 0 * 1, none⟩) n (32 - 0)) (show (32 - 0) = a2.length from la2.symm)))) (postilionref05_mod_ok k a2 g3 (0 + 0 * 1) ((32 - 0))  _ (hp.toR (fun r hr => by simp only [List.mem_cons, List.not_mem_nil, or_false] at hr; rcases hr with rfl | rfl; exact .inr (List.mem_of_getElem? (i := 0) rfl); exact .inl (List.mem_of_getElem? (i := 2) rfl))) qr24) ?_
    rintro _ w' ⟨_, rfl, rfl, lr240, hpc⟩
    refine ⟨_, rfl, .inr (.of_below hpc.chg.to_below), ?_⟩; have hp := hp.below hpc.chg.to_below; clear hpc
    obtain ⟨r25, qr25, h⟩ := bd_e h
    refine k_call [.agg (ints .u64 m23).toArray, .agg (ints .u64 r24).toArray] rfl (by kernel_rfl) (args2 rfl rfl) (postilionref05_plus_ok k m23 r24 lm23 lr240 _ (hp.toR (fun r hr => by rw [List.mem_singleton] at hr; subst hr; exact .inr (List.mem_of_getElem? (i := 0) rfl))) qr25) ?_
    rintro _ w' ⟨_, rfl, rfl, lr250, hpc⟩
    refine ⟨_, rfl, .inr (.of_below hpc.chg.to_below), ?_⟩; have hp := hp.below hpc.chg.to_below; clear hpc
    obtain ⟨r26, qr26, h⟩ := bd_e h
    refine k_call [.agg (ints .u64 r25).toArray] rfl (by kernel_rfl) (args1 rfl) (postilionref05_bytesOf_ok k r25 lr250 _ (hp.toR (fun r hr => by rw [List.mem_singleton] at hr; subst hr; exact .inr (List.mem_of_getElem? (i := 0) rfl))) qr26) ?_
    rintro _ w' ⟨_, rfl, rfl, lr260, hpc⟩
    refine ⟨_, rfl, .inr (.of_below hpc.chg.to_below), ?_⟩; have hp := hp.below hpc.chg.to_below; clear hpc
    refine k_storeA (v := .agg (ints .u8 r26).toArray) 3 0 (r := ⟨g4, 0, ints .u8 (List.replicate 32 (0 : Int))⟩) (ints .u8 r26) (ints .u8 r26) rfl (n := 32) (by kernel_rfl) s6_e236 rfl rfl ((ints_length _ _).trans lr260) (ints_one _ _) hp rfl rfl rfl (Nat.le_of_eq ((Nat.zero_add _).trans ((ints_length _ _).trans List.length_replicate).symm)) (setMany_all _ _ (((ints_length _ _).trans lr260).trans ((ints_length _ _).trans List.length_replicate).symm)) (by decide) ?_; intro w hp
    refine k_end ?_; intro e237 qe237
    have s6_e237 : e237 6 = .pointer (some ⟨g4, 0, none⟩) := (congrFun qe237 6).trans s6_e236
    clear qe237
    refine wret rfl ?_
    have hr : r = r26 := (Option.some.inj h).symm
    show RetP _ _ _ _ _
    rw [hr]
    exact ret_i [.agg (ints .u8 r26).toArray] (res_cell s6_e237 (loadVar_agg (by kernel_rfl) (by kernel_rfl) ((ints_length _ _).trans lr260) (hp.get (j := 3) rfl) rfl rfl rfl) res_nil) ⟨rfl, lr260, hp.none⟩
/-! 6 postilion/postilionlaw05.ScalarAll -/
theorem postilionlaw05_ScalarAll.p1_ok {w0 : World} {Ws : List Wr} {Q : Exit → Env → World → Prop} (k : Nat) (g1 g2 g3 g4 : Nat) (a0 : List Int) (a1 : List Int) (a2 : List Int) (a3 : List Int) (l_a0 : a0.length = 32) (l_a1 : a1.length = 32) (l_a2 : a2.length = 32) (l_a3 : a3.length = 64) {r : Bool} (hQ0 : ∀ (e' : Env) (w' : World) (z0 : Bool), e' 8 = .bool z0 → Hp w0 Ws w' [⟨g1, 0, ints .u8 a0⟩, ⟨g2, 0, ints .u8 a1⟩, ⟨g3, 0, ints .u8 a2⟩, ⟨g4, 0, ints .u8 a3⟩] [⟨0, 0, ints .u64 [6346243789798364141, 1503914060200516822, 0, 1152921504606846976]⟩] → r = (z0) → Q .normal e' w') (e : Env) (w : World) (s4_e : e 4 = .pointer (some ⟨g1, 0, none⟩)) (s5_e : e 5 = .pointer (some ⟨g2, 0, none⟩)) (s6_e : e 6 = .pointer (some ⟨g3, 0, none⟩)) (s7_e : e 7 = .pointer (some ⟨g4, 0, none⟩)) (hp : Hp w0 Ws w [⟨g1, 0, ints .u8 a0⟩, ⟨g2, 0, ints .u8 a1⟩, ⟨g3, 0, ints .u8 a2⟩, ⟨g4, 0, ints .u8 a3⟩] [⟨0, 0, ints .u64 [6346243789798364141, 1503914060200516822, 0, 1152921504606846976]⟩]) (h : postilionlaw05_ScalarAll.p1 k a0 a1 a2 a3 = some r) : Wp Tryd.prog Tryd.f6.ntmps (at_ (fbody Tryd.f6) [1, 1, 0]) Q e w := by
  unfold postilionlaw05_ScalarAll.p1 at h
  refine wregion_d (.tk 0 (.tk 2 (.ef 1 (.ef 3 (.tp 4 (.tp 5 (.tk 6 (.tk 8 (.ef 7 (.ef 9 (.tp 10 (.tp 11 (.tp 12 (.tk 13 (.tk 14 (.tk 16 (.tk 17 (.ef 15 (.ef 18 (.tp 19 (.tp 20 (.tp 21 (.tk 22 (.tk 24 (.ef 23 (.ef 25 (.tp 26 (.tp 27 (.tp 28 (.tk 29 (.tk 30 (.tk 31 (.tk 33 (.tk 34 (.tk 35 (.ef 32 (.ef 36 (.tp 37 (.tp 38 (.tp 39 (.done))))))))))))))))))))))))))))))))))))))))) [] rfl (by kernel_rfl) (by kernel_rfl) (Nat.le_of_ble_eq_true (by kernel_rfl)) (by kernel_rfl) ?_
  have hp := hp.drew
  refine k_loadA (n := 32) (xs := ints .u8 a0) 0 rfl (by kernel_rfl) (by kernel_rfl) s4_e (hp.get (j := 0) rfl) rfl rfl ((ints_length _ _).trans l_a0) (fun m v hm => by rw [Nat.zero_add]; exact hm) ?_
  refine k_loadA (n := 32) (xs := ints .u8 a0) 0 rfl (by kernel_rfl) (by kernel_rfl) s4_e (hp.get (j := 0) rfl) rfl rfl ((ints_length _ _).trans l_a0) (fun m v hm => by rw [Nat.zero_add]; exact hm) ?_
  obtain ⟨r6, qr6, h⟩ := bd_e h
  refine k_call [.agg (ints .u8 a0).toArray] rfl (by kernel_rfl) (args1 rfl) (scalar_Canonical_ok k a0 l_a0 _ (hp.toR (fun r hr => by rw [List.mem_singleton] at hr; subst hr; exact .inr (List.mem_of_getElem? (i := 0) rfl))) qr6) ?_
  rintro _ w' ⟨_, rfl, rfl, hpc⟩
  refine ⟨_, rfl, .inr (.of_below hpc.chg.to_below), ?_⟩; have hp := hp.below hpc.chg.to_below; clear hpc
  obtain ⟨r7, qr7, h⟩ := bd_e h
  refine k_call [.agg (ints .u8 a0).toArray] rfl (by kernel_rfl) (args1 rfl) (postilionref05_Canonical_ok k a0 l_a0 _ (hp.toR (fun r hr => by rw [List.mem_singleton] at hr; subst hr; exact .inr (List.mem_of_getElem? (i := 0) rfl))) qr7) ?_
  rintro _ w' ⟨_, rfl, rfl, hpc⟩
  refine ⟨_, rfl, .inr (.of_below hpc.chg.to_below), ?_⟩; have hp := hp.below hpc.chg.to_below; clear hpc
  refine k_eqB (a := r6) (b := r7) rfl Tryd.underlying4 rfl rfl ?_
  rcases Bool.eq_false_or_eq_true (r6 == r7) with hb | hb
  · replace h := br_t hb h
    refine k_move (v := .bool true) rfl (Eq.trans (b := .bool (r6 == r7)) rfl (congrArg Value.bool hb)) ?_
    refine k_loadA (n := 64) (xs := ints .u8 a3) 0 rfl (by kernel_rfl) (by kernel_rfl) s7_e (hp.get (j := 3) rfl) rfl rfl ((ints_length _ _).trans l_a3) (fun m v hm => by rw [Nat.zero_add]; exact hm) ?_
    refine k_loadA (n := 64) (xs := ints .u8 a3) 0 rfl (by kernel_rfl) (by kernel_rfl) s7_e (hp.get (j := 3) rfl) rfl rfl ((ints_length _ _).trans l_a3) (fun m v hm => by rw [Nat.zero_add]; exact hm) ?_
    obtain ⟨r8, qr8, h⟩ := bd_e h
    refine k_call [.agg (ints .u8 a3).toArray] rfl (by kernel_rfl) (args1 rfl) (scalar_Reduce_ok k a3 l_a3 _ (hp.toR (fun r hr => by rw [List.mem_singleton] at hr; subst hr; exact .inr (List.mem_of_getElem? (i := 0) rfl))) qr8) ?_
    rintro _ w' ⟨_, rfl, rfl, lr80, hpc⟩
    refine ⟨_, rfl, .inr (.of_below hpc.chg.to_below), ?_⟩; have hp := hp.below hpc.chg.to_below; clear hpc
    obtain ⟨r9, qr9, h⟩ := bd_e h
    refine k_call [.agg (ints .u8 a3).toArray] rfl (by kernel_rfl) (args1 rfl) (postilionref05_Reduce_ok k a3 l_a3 _ (hp.toR (fun r hr => by rw [List.mem_singleton] at hr; subst hr; exact .inr (List.mem_of_getElem? (i := 0) rfl))) qr9) ?_
    rintro _ w' ⟨_, rfl, rfl, lr90, hpc⟩
    refine ⟨_, rfl, .inr (.of_below hpc.chg.to_below), ?_⟩; have hp := hp.below hpc.chg.to_below; clear hpc
    refine k_eqI (k := .u8) (l := r8) (l' := r9) rfl Tryd.underlying22 Tryd.underlying5 (by kernel_rfl) (by kernel_rfl) rfl rfl lr80 lr90 ?_
    refine k_pick (b := true) (v := .bool (r8 == r9)) rfl rfl rfl rfl rfl ?_
    rcases Bool.eq_false_or_eq_true (r8 == r9) with hb | hb
    · replace h := br_t hb h
      refine k_move (v := .bool true) rfl (Eq.trans (b := .bool (r8 == r9)) rfl (congrArg Value.bool hb)) ?_
      refine k_loadA (n := 32) (xs := ints .u8 a0) 0 rfl (by kernel_rfl) (by kernel_rfl) s4_e (hp.get (j := 0) rfl) rfl rfl ((ints_length _ _).trans l_a0) (fun m v hm => by rw [Nat.zero_add]; exact hm) ?_
      refine k_loadA (n := 32) (xs := ints .u8 a1) 0 rfl (by kernel_rfl) (by kernel_rfl) s5_e (hp.get (j := 1) rfl) rfl rfl ((ints_length _ _).trans l_a1) (fun m v hm => by rw [Nat.zero_add]; exact hm) ?_
      refine k_loadA (n := 32) (xs := ints .u8 a0) 0 rfl (by kernel_rfl) (by kernel_rfl) s4_e (hp.get (j := 0) rfl) rfl rfl ((ints_length _ _).trans l_a0) (fun m v hm => by rw [Nat.zero_add]; exact hm) ?_
      refine k_loadA (n := 32) (xs := ints .u8 a1) 0 rfl (by kernel_rfl) (by kernel_rfl) s5_e (hp.get (j := 1) rfl) rfl rfl ((ints_length _ _).trans l_a1) (fun m v hm => by rw [Nat.zero_add]; exact hm) ?_
      obtain ⟨r10, qr10, h⟩ := bd_e h
      refine k_call [.agg (ints .u8 a0).toArray, .agg (ints .u8 a1).toArray] rfl (by kernel_rfl) (args2 rfl rfl) (scalar_Add_ok k a0 a1 l_a0 l_a1 _ (hp.toR (fun r hr => by rw [List.mem_singleton] at hr; subst hr; exact .inr (List.mem_of_getElem? (i := 0) rfl))) qr10) ?_
      rintro _ w' ⟨_, rfl, rfl, lr100, hpc⟩
      refine ⟨_, rfl, .inr (.of_below hpc.chg.to_below), ?_⟩; have hp := hp.below hpc.chg.to_below; clear hpc
      obtain ⟨r11, qr11, h⟩ := bd_e h
      refine k_call [.agg (ints .u8 a0).toArray, .agg (ints .u8 a1).toArray] rfl (by kernel_rfl) (args2 rfl rfl) (postilionref05_Add_ok k a0 a1 l_a0 l_a1 _ (hp.toR (fun r hr => by rw [List.mem_singleton] at hr; subst hr; exact .inr (List.mem_of_getElem? (i := 0) rfl))) qr11) ?_
      rintro _ w' ⟨_, rfl, rfl, lr110, hpc⟩
      refine ⟨_, rfl, .inr (.of_below hpc.chg.to_below), ?_⟩; have hp := hp.below hpc.chg.to_below; clear hpc
      refine k_eqI (k := .u8) (l := r10) (l' := r11) rfl Tryd.underlying22 Tryd.underlying5 (by kernel_rfl) (by kernel_rfl) rfl rfl lr100 lr110 ?_
      refine k_pick (b := true) (v := .bool (r10 == r11)) rfl rfl rfl rfl rfl ?_
      rcases Bool.eq_false_or_eq_true (r10 == r11) with hb | hb
      · replace h := br_t hb h
        refine k_move (v := .bool true) rfl (Eq.trans (b := .bool (r10 == r11)) rfl (congrArg Value.bool hb)) ?_
        refine k_loadA (n := 32) (xs := ints .u8 a0) 0 rfl (by kernel_rfl) (by kernel_rfl) s4_e (hp.get (j := 0) rfl) rfl rfl ((ints_length _ _).trans l_a0) (fun m v hm => by rw [Nat.zero_add]; exact hm) ?_
        refine k_loadA (n := 32) (xs := ints .u8 a0) 0 rfl (by kernel_rfl) (by kernel_rfl) s4_e (hp.get (j := 0) rfl) rfl rfl ((ints_length _ _).trans l_a0) (fun m v hm => by rw [Nat.zero_add]; exact hm) ?_
        obtain ⟨r12, qr12, h⟩ := bd_e h
        refine k_call [.agg (ints .u8 a0).toArray] rfl (by kernel_rfl) (args1 rfl) (scalar_Neg_ok k a0 l_a0 _ (hp.toR (fun r hr => by rw [List.mem_singleton] at hr; subst hr; exact .inr (List.mem_of_getElem? (i := 0) rfl))) qr12) ?_
        rintro _ w' ⟨_, rfl, rfl, lr120, hpc⟩
        refine ⟨_, rfl, .inr (.of_below hpc.chg.to_below), ?_⟩; have hp := hp.below hpc.chg.to_below; clear hpc
        obtain ⟨r13, qr13, h⟩ := bd_e h
        refine k_call [.agg (ints .u8 a0).toArray] rfl (by kernel_rfl) (args1 rfl) (postilionref05_Neg_ok k a0 l_a0 _ (hp.toR (fun r hr => by rw [List.mem_singleton] at hr; subst hr; exact .inr (List.mem_of_getElem? (i := 0) rfl))) qr13) ?_
        rintro _ w' ⟨_, rfl, rfl, lr130, hpc⟩
        refine ⟨_, rfl, .inr (.of_below hpc.chg.to_below), ?_⟩; have hp := hp.below hpc.chg.to_below; clear hpc
        refine k_eqI (k := .u8) (l := r12) (l' := r13) rfl Tryd.underlying22 Tryd.underlying5 (by kernel_rfl) (by kernel_rfl) rfl rfl lr120 lr130 ?_
        refine k_pick (b := true) (v := .bool (r12 == r13)) rfl rfl rfl rfl rfl ?_
        rcases Bool.eq_false_or_eq_true (r12 == r13) with hb | hb
        · replace h := br_t hb h
          refine k_move (v := .bool true) rfl (Eq.trans (b := .bool (r12 == r13)) rfl (congrArg Value.bool hb)) ?_
          refine k_loadA (n := 32) (xs := ints .u8 a0) 0 rfl (by kernel_rfl) (by kernel_rfl) s4_e (hp.get (j := 0) rfl) rfl rfl ((ints_length _ _).trans l_a0) (fun m v hm => by rw [Nat.zero_add]; exact hm) ?_
          refine k_loadA (n := 32) (xs := ints .u8 a1) 0 rfl (by kernel_rfl) (by kernel_rfl) s5_e (hp.get (j := 1) rfl) rfl rfl ((ints_length _ _).trans l_a1) (fun m v hm => by rw [Nat.zero_add]; exact hm) ?_
          refine k_loadA (n := 32) (xs := ints .u8 a2) 0 rfl (by kernel_rfl) (by kernel_rfl) s6_e (hp.get (j := 2) rfl) rfl rfl ((ints_length _ _).trans l_a2) (fun m v hm => by rw [Nat.zero_add]; exact hm) ?_
          refine k_loadA (n := 32) (xs := ints .u8 a0) 0 rfl (by kernel_rfl) (by kernel_rfl) s4_e (hp.get (j := 0) rfl) rfl rfl ((ints_length _ _).trans l_a0) (fun m v hm => by rw [Nat.zero_add]; exact hm) ?_
          refine k_loadA (n := 32) (xs := ints .u8 a1) 0 rfl (by kernel_rfl) (by kernel_rfl) s5_e (hp.get (j := 1) rfl) rfl rfl ((ints_length _ _).trans l_a1) (fun m v hm => by rw [Nat.zero_add]; exact hm) ?_
          refine k_loadA (n := 32) (xs := ints .u8 a2) 0 rfl (by kernel_rfl) (by kernel_rfl) s6_e (hp.get (j := 2) rfl) rfl rfl ((ints_length _ _).trans l_a2) (fun m v hm => by rw [Nat.zero_add]; exact hm) ?_
          obtain ⟨r14, qr14, h⟩ := bd_e h
          refine k_call [.agg (ints .u8 a0).toArray, .agg (ints .u8 a1).toArray, .agg (ints .u8 a2).toArray] rfl (by kernel_rfl) (args3 rfl rfl rfl) (scalar_MulAdd_ok k a0 a1 a2 l_a0 l_a1 l_a2 _ (hp.toR (fun r hr => by rw [List.mem_singleton] at hr; subst hr; exact .inr (List.mem_of_getElem? (i := 0) rfl))) qr14) ?_
          rintro _ w' ⟨_, rfl, rfl, lr140, hpc⟩
          refine ⟨_, rfl, .inr (.of_below hpc.chg.to_below), ?_⟩; have hp := hp.below hpc.chg.to_below; clear hpc
          obtain ⟨r15, qr15, h⟩ := bd_e h
          refine k_call [.agg (ints .u8 a0).toArray, .agg (ints .u8 a1).toArray, .agg (ints .u8 a2).toArray] rfl (by kernel_rfl) (args3 rfl rfl rfl) (postilionref05_MulAdd_ok k a0 a1 a2 l_a0 l_a1 l_a2 _ (hp.toR (fun r hr => by rw [List.mem_singleton] at hr; subst hr; exact .inr (List.mem_of_getElem? (i := 0) rfl))) qr15) ?_
          rintro _ w' ⟨_, rfl, rfl, lr150, hpc⟩
          refine ⟨_, rfl, .inr (.of_below hpc.chg.to_below), ?_⟩; have hp := hp.below hpc.chg.to_below; clear hpc
          refine k_eqI (k := .u8) (l := r14) (l' := r15) rfl Tryd.underlying22 Tryd.underlying5 (by kernel_rfl) (by kernel_rfl) rfl rfl lr140 lr150 ?_
          refine k_pick (b := true) (v := .bool (r14 == r15)) rfl rfl rfl rfl rfl ?_
          refine k_assign (v := .bool (r14 == r15)) rfl rfl ?_
          refine k_end ?_; intro e241 qe241
          have s8_e241 : e241 8 = .bool (r14 == r15) := congrFun qe241 8
          clear qe241
          exact hQ0 _ _ (r14 == r15)  s8_e241 (hp.drop (L' := [⟨g1, 0, ints .u8 a0⟩, ⟨g2, 0, ints .u8 a1⟩, ⟨g3, 0, ints .u8 a2⟩, ⟨g4, 0, ints .u8 a3⟩]) (List.Sublist.refl _)) (Option.some.inj h).symm
        · replace h := br_f hb h
          refine k_move (v := .bool false) rfl (Eq.trans (b := .bool (r12 == r13)) rfl (congrArg Value.bool hb)) ?_
          refine k_skip_tk rfl ?_
          refine k_skip_tk rfl ?_
          refine k_skip_tk rfl ?_
          refine k_skip_tk rfl ?_
          refine k_skip_tk rfl ?_
          refine k_skip_tk rfl ?_
          refine k_skip_ef rfl ?_
          refine k_skip_ef rfl ?_
          refine k_skip rfl ?_
          refine k_pick (b := false) (v := .bool false) rfl rfl rfl rfl rfl ?_
          refine k_assign (v := .bool false) rfl rfl ?_
          refine k_end ?_; intro e242 qe242
          have s8_e242 : e242 8 = .bool false := congrFun qe242 8
          clear qe242
          exact hQ0 _ _ false  s8_e242 (hp.drop (L' := [⟨g1, 0, ints .u8 a0⟩, ⟨g2, 0, ints .u8 a1⟩, ⟨g3, 0, ints .u8 a2⟩, ⟨g4, 0, ints .u8 a3⟩]) (List.Sublist.refl _)) (Option.some.inj h).symm
      · replace h := br_f hb h
        refine k_move (v := .bool false) rfl (Eq.trans (b := .bool (r10 == r11)) rfl (congrArg Value.bool hb)) ?_
        refine k_skip_tk rfl ?_
        refine k_skip_tk rfl ?_
        refine k_skip_ef rfl ?_
        refine k_skip_ef rfl ?_
        refine k_skip rfl ?_
        refine k_pick (b := false) (v := .bool false) rfl rfl rfl rfl rfl ?_
        refine k_move (v := .bool false) rfl rfl ?_
        refine k_skip_tk rfl ?_
        refine k_skip_tk rfl ?_
        refine k_skip_tk rfl ?_
        refine k_skip_tk rfl ?_
        refine k_skip_tk rfl ?_
        refine k_skip_tk rfl ?_
        refine k_skip_ef rfl ?_
        refine k_skip_ef rfl ?_
        refine k_skip rfl ?_
        refine k_pick (b := false) (v := .bool false) rfl rfl rfl rfl rfl ?_
        refine k_assign (v := .bool false) rfl rfl ?_
        refine k_end ?_; intro e243 qe243
        have s8_e243 : e243 8 = .bool false := congrFun qe243 8
        clear qe243
        exact hQ0 _ _ false  s8_e243 (hp.drop (L' := [⟨g1, 0, ints .u8 a0⟩, ⟨g2, 0, ints .u8 a1⟩, ⟨g3, 0, ints .u8 a2⟩, ⟨g4, 0, ints .u8 a3⟩]) (List.Sublist.refl _)) (Option.some.inj h).symm
    · replace h := br_f hb h
      refine k_move (v := .bool false) rfl (Eq.trans (b := .bool (r8 == r9)) rfl (congrArg Value.bool hb)) ?_
      refine k_skip_tk rfl ?_
      refine k_skip_tk rfl ?_
      refine k_skip_tk rfl ?_
      refine k_skip_tk rfl ?_
      refine k_skip_ef rfl ?_
      refine k_skip_ef rfl ?_
      refine k_skip rfl ?_
      refine k_pick (b := false) (v := .bool false) rfl rfl rfl rfl rfl ?_
      refine k_move (v := .bool false) rfl rfl ?_
      refine k_skip_tk rfl ?_
      refine k_skip_tk rfl ?_
      refine k_skip_ef rfl ?_
      refine k_skip_ef rfl ?_
      refine k_skip rfl ?_
      refine k_pick (b := false) (v := .bool false) rfl rfl rfl rfl rfl ?_
      refine k_move (v := .bool false) rfl rfl ?_
      refine k_skip_tk rfl ?_
      refine k_skip_tk rfl ?_
      refine k_skip_tk rfl ?_
      refine k_skip_tk rfl ?_
      refine k_skip_tk rfl ?_
      refine k_skip_tk rfl ?_
      refine k_skip_ef rfl ?_
      refine k_skip_ef rfl ?_
      refine k_skip rfl ?_
      refine k_pick (b := false) (v := .bool false) rfl rfl rfl rfl rfl ?_
      refine k_assign (v := .bool false) rfl rfl ?_
      refine k_end ?_; intro e244 qe244
      have s8_e244 : e244 8 = .bool false := congrFun qe244 8
      clear qe244
      exact hQ0 _ _ false  s8_e244 (hp.drop (L' := [⟨g1, 0, ints .u8 a0⟩, ⟨g2, 0, ints .u8 a1⟩, ⟨g3, 0, ints .u8 a2⟩, ⟨g4, 0, ints .u8 a3⟩]) (List.Sublist.refl _)) (Option.some.inj h).symm
  · replace h := br_f hb h
    refine k_move (v := .bool false) rfl (Eq.trans (b := .bool (r6 == r7)) rfl (congrArg Value.bool hb)) ?_
    refine k_skip_tk rfl ?_
    refine k_skip_tk rfl ?_
    refine k_skip_ef rfl ?_
    refine k_skip_ef rfl ?_
    refine k_skip rfl ?_
    refine k_pick (b := false) (v := .bool false) rfl rfl rfl rfl rfl ?_
    refine k_move (v := .bool false) rfl rfl ?_
    refine k_skip_tk rfl ?_
    refine k_skip_tk rfl ?_
    refine k_skip_tk rfl ?_
    refine k_skip_tk rfl ?_
    refine k_skip_ef rfl ?_
    refine k_skip_ef rfl ?_
    refine k_skip rfl ?_
    refine k_pick (b := false) (v := .bool false) rfl rfl rfl rfl rfl ?_
    refine k_move (v := .bool false) rfl rfl ?_
    refine k_skip_tk rfl ?_
    refine k_skip_tk rfl ?_
    refine k_skip_ef rfl ?_
    refine k_skip_ef rfl ?_
    refine k_skip rfl ?_
    refine k_pick (b := false) (v := .bool false) rfl rfl rfl rfl rfl ?_
    refine k_move (v := .bool false) rfl rfl ?_
    refine k_skip_tk rfl ?_
    refine k_skip_tk rfl ?_
    refine k_skip_tk rfl ?_
    refine k_skip_tk rfl ?_
    refine k_skip_tk rfl ?_
    refine k_skip_tk rfl ?_
    refine k_skip_ef rfl ?_
    refine k_skip_ef rfl ?_
    refine k_skip rfl ?_
    refine k_pick (b := false) (v := .bool false) rfl rfl rfl rfl rfl ?_
    refine k_assign (v := .bool false) rfl rfl ?_
    refine k_end ?_; intro e245 qe245
    have s8_e245 : e245 8 = .bool false := congrFun qe245 8
    clear qe245
    exact hQ0 _ _ false  s8_e245 (hp.drop (L' := [⟨g1, 0, ints .u8 a0⟩, ⟨g2, 0, ints .u8 a1⟩, ⟨g3, 0, ints .u8 a2⟩, ⟨g4, 0, ints .u8 a3⟩]) (List.Sublist.refl _)) (Option.some.inj h).symm
theorem postilionlaw05_ScalarAll_ok (k : Nat) (a0 : List Int) (a1 : List Int) (a2 : List Int) (a3 : List Int) (la0 : a0.length = 32) (la1 : a1.length = 32) (la2 : a2.length = 32) (la3 : a3.length = 64) (w0 : World) (hp : Hp w0 [] w0 [] [⟨0, 0, ints .u64 [6346243789798364141, 1503914060200516822, 0, 1152921504606846976]⟩]) {r : Bool} (h : postilionlaw05_ScalarAll.f k a0 a1 a2 a3 = some r) :
    Calls Tryd.prog 6 [.agg (ints .u8 a0).toArray, .agg (ints .u8 a1).toArray, .agg (ints .u8 a2).toArray, .agg (ints .u8 a3).toArray].toArray w0 fun x w' => ∃ v, x = .returned v ∧ v = .bool r ∧ Hp w0 [] w' [] [⟨0, 0, ints .u64 [6346243789798364141, 1503914060200516822, 0, 1152921504606846976]⟩] := by
  refine calls_in Tryd.func6 rfl (Nat.le_of_ble_eq_true (by kernel_rfl)) (by kernel_rfl) ?_
  intro e0 qe0
  have s0_e0 : e0 0 = .agg (ints .u8 a0).toArray := congrFun qe0 0
  have s1_e0 : e0 1 = .agg (ints .u8 a1).toArray := congrFun qe0 1
  have s2_e0 : e0 2 = .agg (ints .u8 a2).toArray := congrFun qe0 2
  have s3_e0 : e0 3 = .agg (ints .u8 a3).toArray := congrFun qe0 3
  clear qe0
  unfold postilionlaw05_ScalarAll.f at h
  refine wseq rfl ?_
  refine wregion (.ef 0 (.ef 1 (.ef 2 (.ef 3 (.tp 4 (.done)))))) [] rfl (by kernel_rfl) (by kernel_rfl) ?_
  refine k_box (v := .agg (ints .u8 a0).toArray) (ints .u8 a0) rfl s0_e0 rfl hp ?_
  intro g1 w hbg1 hp
  refine k_box (v := .agg (ints .u8 a1).toArray) (ints .u8 a1) rfl s1_e0 rfl hp ?_
  intro g2 w hbg2 hp
  refine k_box (v := .agg (ints .u8 a2).toArray) (ints .u8 a2) rfl s2_e0 rfl hp ?_
  intro g3 w hbg3 hp
  refine k_box (v := .agg (ints .u8 a3).toArray) (ints .u8 a3) rfl s3_e0 rfl hp ?_
  intro g4 w hbg4 hp
  refine k_assign (v := .bool false) rfl rfl ?_
  refine k_end ?_; intro e238 qe238
  have s4_e238 : e238 4 = .pointer (some ⟨g1, 0, none⟩) := congrFun qe238 4
  have s5_e238 : e238 5 = .pointer (some ⟨g2, 0, none⟩) := congrFun qe238 5
  have s6_e238 : e238 6 = .pointer (some ⟨g3, 0, none⟩) := congrFun qe238 6
  have s7_e238 : e238 7 = .pointer (some ⟨g4, 0, none⟩) := congrFun qe238 7
  clear qe238
  refine wseq rfl ?_
  refine wseq rfl ?_
  refine wregion (.ef 0 (.tp 1 (.done))) [] rfl (by kernel_rfl) (by kernel_rfl) ?_
  obtain ⟨r5, qr5, h⟩ := bd_e h
  refine k_call [] rfl (by kernel_rfl) (args0 ) (postilionlaw05_awake_ok k   _ (hp.toR (fun r hr => by rw [List.mem_singleton] at hr; subst hr; exact .inr (List.mem_of_getElem? (i := 0) rfl))) qr5) ?_
  rintro _ w' ⟨_, rfl, rfl, hpc⟩
  refine ⟨_, rfl, .inr (.of_below hpc.chg.to_below), ?_⟩; have hp := hp.below hpc.chg.to_below; clear hpc
  refine k_not (b := r5) rfl rfl ?_
  refine k_end ?_; intro e239 qe239
  have s4_e239 : e239 4 = .pointer (some ⟨g1, 0, none⟩) := (congrFun qe239 4).trans s4_e238
  have s5_e239 : e239 5 = .pointer (some ⟨g2, 0, none⟩) := (congrFun qe239 5).trans s5_e238
  have s6_e239 : e239 6 = .pointer (some ⟨g3, 0, none⟩) := (congrFun qe239 6).trans s6_e238
  have s7_e239 : e239 7 = .pointer (some ⟨g4, 0, none⟩) := (congrFun qe239 7).trans s7_e238
  have s10_e239 : e239 10 = .bool (!r5) := congrFun qe239 10
  clear qe239
  refine wcond (t := (!r5)) rfl (by decide) s10_e239 (fun hb => ?_) (fun hb => ?_)
  · replace h := br_t hb h
    refine wseq rfl ?_
    refine wregion (.tp 0 (.done)) [] rfl (by kernel_rfl) (by kernel_rfl) ?_
    refine k_assign (v := .bool false) rfl rfl ?_
    refine k_end ?_; intro e240 qe240
    have s8_e240 : e240 8 = .bool false := congrFun qe240 8
    clear qe240
    refine wret rfl ?_
    have hr : r = false := (Option.some.inj h).symm
    show RetP _ _ _ _ _
    rw [hr]
    exact ret_i [.bool false] (res_tmp s8_e240 res_nil) ⟨rfl, hp.none⟩
  · replace h := br_f hb h
    refine wskip rfl ?_
    refine wseq rfl ?_
    obtain ⟨r16, qr16, h⟩ := bd_e h
    refine postilionlaw05_ScalarAll.p1_ok k g1 g2 g3 g4 a0 a1 a2 a3 la0 la1 la2 la3 ?hq0 e239 _ s4_e239 s5_e239 s6_e239 s7_e239 hp qr16
    case hq0 =>
      intro e246 w m17  s8_e246 hp qq
      rw [qq] at h; clear qq
      refine wret rfl ?_
      have hr : r = m17 := (Option.some.inj h).symm
      show RetP _ _ _ _ _
      rw [hr]
      exact ret_i [.bool m17] (res_tmp s8_e246 res_nil) ⟨rfl, hp.none⟩
end Go.Proofs.YtpnkcajlgaokiaaDoor
