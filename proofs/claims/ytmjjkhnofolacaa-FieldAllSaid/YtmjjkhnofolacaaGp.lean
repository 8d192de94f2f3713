/-
  What the functions that a law reaches compute, as plain definitions. Printed by my own program.
  Conditions: none; every function is taken as the given program's form has it.
-/
import Derived.Test.YtmjjkhnofolacaaGx
namespace Go.Proofs.Ytmjjkhnofolacaa
open Go Go.Gx Go.RowKit
set_option linter.unusedVariables false
set_option maxRecDepth 100000
/-! 39 postilion/field.Of$1 -/
def field_Of_1.p1 : Nat → Int → List Int → Int → Int → Option (Int)
  | 0, _, _, _, _ => none
  | k + 1, a0, a1, y1, y2 =>
    br (decide (y2 ≥ 0)) (
      chk (0 ≤ (IntKind.i64.wrap (a0 + y2)) ∧ (IntKind.i64.wrap (a0 + y2)) < 32) <|
      lt (bits .or .u64 (IntKind.u64.wrap (y1 * 2 ^ 8)) (IntKind.u64.wrap (a1.getD ((IntKind.i64.wrap (a0 + y2)) : Int).toNat 0))) fun x4 =>
      lt (IntKind.i64.wrap (y2 - 1)) fun x5 =>
      field_Of_1.p1 k a0 a1 x4 x5
    ) (
      some (y1)
    )
def field_Of_1.f (k : Nat) (a0 : Int) (a1 : List Int) : Option (Int) :=
  bd (field_Of_1.p1 k a0 a1 0 7) fun m7 =>
  some (m7)

/-! 21 postilion/field.Of -/
def field_Of.f (k : Nat) (a0 : List Int) : Option (List Int) :=
  bd (field_Of_1.f k 0 a0) fun r3 =>
  bd (field_Of_1.f k 6 a0) fun r4 =>
  bd (field_Of_1.f k 12 a0) fun r5 =>
  bd (field_Of_1.f k 19 a0) fun r6 =>
  bd (field_Of_1.f k 24 a0) fun r7 =>
  some (([(bits .and .u64 r3 2251799813685247), (bits .and .u64 (Int.fdiv r4 (2 ^ 3)) 2251799813685247), (bits .and .u64 (Int.fdiv r5 (2 ^ 6)) 2251799813685247), (bits .and .u64 (Int.fdiv r6 (2 ^ 1)) 2251799813685247), (bits .and .u64 (Int.fdiv r7 (2 ^ 12)) 2251799813685247)].set 0 (IntKind.u64.wrap (([(bits .and .u64 r3 2251799813685247), (bits .and .u64 (Int.fdiv r4 (2 ^ 3)) 2251799813685247), (bits .and .u64 (Int.fdiv r5 (2 ^ 6)) 2251799813685247), (bits .and .u64 (Int.fdiv r6 (2 ^ 1)) 2251799813685247), (bits .and .u64 (Int.fdiv r7 (2 ^ 12)) 2251799813685247)].getD 0 0) + (IntKind.u64.wrap (19 * (IntKind.u64.wrap (Int.fdiv (a0.getD 31 0) (2 ^ 7)))))))))

/-! 56 math/bits.Mul64 -/
def math_bits_Mul64.f (a0 : Int) (a1 : Int) : Option (Int × Int) :=
  lt (bits .and .u64 a0 4294967295) fun x1 =>
  lt (Int.fdiv a0 (2 ^ 32)) fun x2 =>
  lt (bits .and .u64 a1 4294967295) fun x3 =>
  lt (Int.fdiv a1 (2 ^ 32)) fun x4 =>
  lt (IntKind.u64.wrap (x1 * x3)) fun x5 =>
  lt (IntKind.u64.wrap ((IntKind.u64.wrap (x2 * x3)) + (Int.fdiv x5 (2 ^ 32)))) fun x6 =>
  lt (bits .and .u64 x6 4294967295) fun x7 =>
  lt (Int.fdiv x6 (2 ^ 32)) fun x8 =>
  lt (IntKind.u64.wrap (x7 + (IntKind.u64.wrap (x1 * x4)))) fun x9 =>
  lt (IntKind.u64.wrap ((IntKind.u64.wrap ((IntKind.u64.wrap (x2 * x4)) + x8)) + (Int.fdiv x9 (2 ^ 32)))) fun x10 =>
  lt (IntKind.u64.wrap (a0 * a1)) fun x11 =>
  some (x10, x11)

/-! 41 (postilion/field.wide).add -/
def field_wide_add.f (a0 : List Int) (a1 : Int) (a2 : Int) : Option (List Int) :=
  bd (math_bits_Mul64.f a1 a2) fun r3 =>
  lt r3.1 fun x4 =>
  lt r3.2 fun x5 =>
  chk (0 ≤ x5 ∧ 0 ≤ (a0.getD 1 0) ∧ 0 ≤ (0 : Int) ∧ (0 : Int) ≤ 1) <|
  lt ((x5 + (a0.getD 1 0) + 0) % 18446744073709551616) fun x7 =>
  lt ((x5 + (a0.getD 1 0) + 0) / 18446744073709551616) fun x8 =>
  some ([(IntKind.u64.wrap ((IntKind.u64.wrap ((a0.getD 0 0) + x4)) + x8)), x7])

/-! 42 (postilion/field.wide).shifted -/
def field_wide_shifted.f (a0 : List Int) : Option (Int) :=
  lt (bits .or .u64 (IntKind.u64.wrap ((a0.getD 0 0) * 2 ^ 13)) (Int.fdiv (a0.getD 1 0) (2 ^ 51))) fun x2 =>
  some (x2)

/-! 40 (postilion/field.Element).carried -/
def field_Element_carried.f (a0 : List Int) : Option (List Int) :=
  some ([(IntKind.u64.wrap ((bits .and .u64 (a0.getD 0 0) 2251799813685247) + (IntKind.u64.wrap (19 * ([(Int.fdiv (a0.getD 0 0) (2 ^ 51)), (Int.fdiv (a0.getD 1 0) (2 ^ 51)), (Int.fdiv (a0.getD 2 0) (2 ^ 51)), (Int.fdiv (a0.getD 3 0) (2 ^ 51)), (Int.fdiv (a0.getD 4 0) (2 ^ 51))].getD 4 0))))), (IntKind.u64.wrap ((bits .and .u64 (a0.getD 1 0) 2251799813685247) + ([(Int.fdiv (a0.getD 0 0) (2 ^ 51)), (Int.fdiv (a0.getD 1 0) (2 ^ 51)), (Int.fdiv (a0.getD 2 0) (2 ^ 51)), (Int.fdiv (a0.getD 3 0) (2 ^ 51)), (Int.fdiv (a0.getD 4 0) (2 ^ 51))].getD 0 0))), (IntKind.u64.wrap ((bits .and .u64 (a0.getD 2 0) 2251799813685247) + ([(Int.fdiv (a0.getD 0 0) (2 ^ 51)), (Int.fdiv (a0.getD 1 0) (2 ^ 51)), (Int.fdiv (a0.getD 2 0) (2 ^ 51)), (Int.fdiv (a0.getD 3 0) (2 ^ 51)), (Int.fdiv (a0.getD 4 0) (2 ^ 51))].getD 1 0))), (IntKind.u64.wrap ((bits .and .u64 (a0.getD 3 0) 2251799813685247) + ([(Int.fdiv (a0.getD 0 0) (2 ^ 51)), (Int.fdiv (a0.getD 1 0) (2 ^ 51)), (Int.fdiv (a0.getD 2 0) (2 ^ 51)), (Int.fdiv (a0.getD 3 0) (2 ^ 51)), (Int.fdiv (a0.getD 4 0) (2 ^ 51))].getD 2 0))), (IntKind.u64.wrap ((bits .and .u64 (a0.getD 4 0) 2251799813685247) + ([(Int.fdiv (a0.getD 0 0) (2 ^ 51)), (Int.fdiv (a0.getD 1 0) (2 ^ 51)), (Int.fdiv (a0.getD 2 0) (2 ^ 51)), (Int.fdiv (a0.getD 3 0) (2 ^ 51)), (Int.fdiv (a0.getD 4 0) (2 ^ 51))].getD 3 0)))])

/-! 24 (postilion/field.Element).Times -/
def field_Element_Times.f (a0 : List Int) (a1 : List Int) : Option (List Int) :=
  bd (field_wide_add.f (List.replicate 2 (0 : Int)) (a0.getD 0 0) (a1.getD 0 0)) fun r5 =>
  bd (field_wide_add.f r5 (a0.getD 1 0) ([0, (IntKind.u64.wrap (19 * (a1.getD 1 0))), (IntKind.u64.wrap (19 * (a1.getD 2 0))), (IntKind.u64.wrap (19 * (a1.getD 3 0))), (IntKind.u64.wrap (19 * (a1.getD 4 0)))].getD 4 0)) fun r6 =>
  bd (field_wide_add.f r6 (a0.getD 2 0) ([0, (IntKind.u64.wrap (19 * (a1.getD 1 0))), (IntKind.u64.wrap (19 * (a1.getD 2 0))), (IntKind.u64.wrap (19 * (a1.getD 3 0))), (IntKind.u64.wrap (19 * (a1.getD 4 0)))].getD 3 0)) fun r7 =>
  bd (field_wide_add.f r7 (a0.getD 3 0) ([0, (IntKind.u64.wrap (19 * (a1.getD 1 0))), (IntKind.u64.wrap (19 * (a1.getD 2 0))), (IntKind.u64.wrap (19 * (a1.getD 3 0))), (IntKind.u64.wrap (19 * (a1.getD 4 0)))].getD 2 0)) fun r8 =>
  bd (field_wide_add.f r8 (a0.getD 4 0) ([0, (IntKind.u64.wrap (19 * (a1.getD 1 0))), (IntKind.u64.wrap (19 * (a1.getD 2 0))), (IntKind.u64.wrap (19 * (a1.getD 3 0))), (IntKind.u64.wrap (19 * (a1.getD 4 0)))].getD 1 0)) fun r9 =>
  bd (field_wide_add.f (List.replicate 2 (0 : Int)) (a0.getD 0 0) (a1.getD 1 0)) fun r10 =>
  bd (field_wide_add.f r10 (a0.getD 1 0) (a1.getD 0 0)) fun r11 =>
  bd (field_wide_add.f r11 (a0.getD 2 0) ([0, (IntKind.u64.wrap (19 * (a1.getD 1 0))), (IntKind.u64.wrap (19 * (a1.getD 2 0))), (IntKind.u64.wrap (19 * (a1.getD 3 0))), (IntKind.u64.wrap (19 * (a1.getD 4 0)))].getD 4 0)) fun r12 =>
  bd (field_wide_add.f r12 (a0.getD 3 0) ([0, (IntKind.u64.wrap (19 * (a1.getD 1 0))), (IntKind.u64.wrap (19 * (a1.getD 2 0))), (IntKind.u64.wrap (19 * (a1.getD 3 0))), (IntKind.u64.wrap (19 * (a1.getD 4 0)))].getD 3 0)) fun r13 =>
  bd (field_wide_add.f r13 (a0.getD 4 0) ([0, (IntKind.u64.wrap (19 * (a1.getD 1 0))), (IntKind.u64.wrap (19 * (a1.getD 2 0))), (IntKind.u64.wrap (19 * (a1.getD 3 0))), (IntKind.u64.wrap (19 * (a1.getD 4 0)))].getD 2 0)) fun r14 =>
  bd (field_wide_add.f (List.replicate 2 (0 : Int)) (a0.getD 0 0) (a1.getD 2 0)) fun r15 =>
  bd (field_wide_add.f r15 (a0.getD 1 0) (a1.getD 1 0)) fun r16 =>
  bd (field_wide_add.f r16 (a0.getD 2 0) (a1.getD 0 0)) fun r17 =>
  bd (field_wide_add.f r17 (a0.getD 3 0) ([0, (IntKind.u64.wrap (19 * (a1.getD 1 0))), (IntKind.u64.wrap (19 * (a1.getD 2 0))), (IntKind.u64.wrap (19 * (a1.getD 3 0))), (IntKind.u64.wrap (19 * (a1.getD 4 0)))].getD 4 0)) fun r18 =>
  bd (field_wide_add.f r18 (a0.getD 4 0) ([0, (IntKind.u64.wrap (19 * (a1.getD 1 0))), (IntKind.u64.wrap (19 * (a1.getD 2 0))), (IntKind.u64.wrap (19 * (a1.getD 3 0))), (IntKind.u64.wrap (19 * (a1.getD 4 0)))].getD 3 0)) fun r19 =>
  bd (field_wide_add.f (List.replicate 2 (0 : Int)) (a0.getD 0 0) (a1.getD 3 0)) fun r20 =>
  bd (field_wide_add.f r20 (a0.getD 1 0) (a1.getD 2 0)) fun r21 =>
  bd (field_wide_add.f r21 (a0.getD 2 0) (a1.getD 1 0)) fun r22 =>
  bd (field_wide_add.f r22 (a0.getD 3 0) (a1.getD 0 0)) fun r23 =>
  bd (field_wide_add.f r23 (a0.getD 4 0) ([0, (IntKind.u64.wrap (19 * (a1.getD 1 0))), (IntKind.u64.wrap (19 * (a1.getD 2 0))), (IntKind.u64.wrap (19 * (a1.getD 3 0))), (IntKind.u64.wrap (19 * (a1.getD 4 0)))].getD 4 0)) fun r24 =>
  bd (field_wide_add.f (List.replicate 2 (0 : Int)) (a0.getD 0 0) (a1.getD 4 0)) fun r25 =>
  bd (field_wide_add.f r25 (a0.getD 1 0) (a1.getD 3 0)) fun r26 =>
  bd (field_wide_add.f r26 (a0.getD 2 0) (a1.getD 2 0)) fun r27 =>
  bd (field_wide_add.f r27 (a0.getD 3 0) (a1.getD 1 0)) fun r28 =>
  bd (field_wide_add.f r28 (a0.getD 4 0) (a1.getD 0 0)) fun r29 =>
  bd (field_wide_shifted.f (((r9 ++ r14 ++ r19 ++ r24 ++ r29).drop 8).take 2)) fun r31 =>
  bd (field_wide_shifted.f (((r9 ++ r14 ++ r19 ++ r24 ++ r29).drop 0).take 2)) fun r32 =>
  bd (field_wide_shifted.f (((r9 ++ r14 ++ r19 ++ r24 ++ r29).drop 2).take 2)) fun r33 =>
  bd (field_wide_shifted.f (((r9 ++ r14 ++ r19 ++ r24 ++ r29).drop 4).take 2)) fun r34 =>
  bd (field_wide_shifted.f (((r9 ++ r14 ++ r19 ++ r24 ++ r29).drop 6).take 2)) fun r35 =>
  bd (field_Element_carried.f [(IntKind.u64.wrap ((bits .and .u64 ((r9 ++ r14 ++ r19 ++ r24 ++ r29).getD 1 0) 2251799813685247) + (IntKind.u64.wrap (19 * r31)))), (IntKind.u64.wrap ((bits .and .u64 ((r9 ++ r14 ++ r19 ++ r24 ++ r29).getD 3 0) 2251799813685247) + r32)), (IntKind.u64.wrap ((bits .and .u64 ((r9 ++ r14 ++ r19 ++ r24 ++ r29).getD 5 0) 2251799813685247) + r33)), (IntKind.u64.wrap ((bits .and .u64 ((r9 ++ r14 ++ r19 ++ r24 ++ r29).getD 7 0) 2251799813685247) + r34)), (IntKind.u64.wrap ((bits .and .u64 ((r9 ++ r14 ++ r19 ++ r24 ++ r29).getD 9 0) 2251799813685247) + r35))]) fun r36 =>
  some (r36)

/-! 23 (postilion/field.Element).Bytes -/
def field_Element_Bytes.p1 : Nat → Int → List Int → Int → Int → Option (Int)
  | 0, _, _, _, _ => none
  | k + 1, x6, r4, y7, y8 =>
    br (decide (y8 < x6)) (
      chk (0 ≤ y8 ∧ y8 < (5 - 1)) <|
      lt (r4.getD (1 + (y8 : Int).toNat * 1) 0) fun x10 =>
      lt (Int.fdiv (IntKind.u64.wrap (x10 + y7)) (2 ^ 51)) fun x11 =>
      lt (IntKind.i64.wrap (y8 + 1)) fun x12 =>
      field_Element_Bytes.p1 k x6 r4 x11 x12
    ) (
      some (y7)
    )
def field_Element_Bytes.p2 : Nat → List Int → Int → Option (List Int)
  | 0, _, _ => none
  | k + 1, y15, y16 =>
    br (decide (y16 < 4)) (
      chk (0 ≤ (IntKind.i64.wrap (y16 + 1)) ∧ (IntKind.i64.wrap (y16 + 1)) < 5) <|
      chk (0 ≤ y16 ∧ y16 < 5) <|
      lt (IntKind.i64.wrap (y16 + 1)) fun x19 =>
      field_Element_Bytes.p2 k ((y15.set ((IntKind.i64.wrap (y16 + 1)) : Int).toNat (IntKind.u64.wrap ((y15.getD ((IntKind.i64.wrap (y16 + 1)) : Int).toNat 0) + (Int.fdiv (y15.getD (y16 : Int).toNat 0) (2 ^ 51))))).set (y16 : Int).toNat (bits .and .u64 ((y15.set ((IntKind.i64.wrap (y16 + 1)) : Int).toNat (IntKind.u64.wrap ((y15.getD ((IntKind.i64.wrap (y16 + 1)) : Int).toNat 0) + (Int.fdiv (y15.getD (y16 : Int).toNat 0) (2 ^ 51))))).getD (y16 : Int).toNat 0) 2251799813685247)) x19
    ) (
      some (y15)
    )
def field_Element_Bytes.p4 : Nat → Int → Int → List Int → Int → Option (List Int)
  | 0, _, _, _, _ => none
  | k + 1, y24, x26, y27, y28 =>
    br (decide (y28 < 8)) (
      chk (0 ≤ (IntKind.i64.wrap (8 * y28))) <|
      chk (0 ≤ (IntKind.i64.wrap ((IntKind.i64.wrap (8 * y24)) + y28)) ∧ (IntKind.i64.wrap ((IntKind.i64.wrap (8 * y24)) + y28)) < 32) <|
      lt (IntKind.i64.wrap (y28 + 1)) fun x31 =>
      field_Element_Bytes.p4 k y24 x26 (y27.set ((IntKind.i64.wrap ((IntKind.i64.wrap (8 * y24)) + y28)) : Int).toNat (IntKind.u8.wrap (Int.fdiv x26 (2 ^ (min ((IntKind.i64.wrap (8 * y28)) : Int).toNat (IntKind.u64).bits))))) x31
    ) (
      some (y27)
    )
def field_Element_Bytes.p3 : Nat → List Int → List Int → Int → Option (List Int)
  | 0, _, _, _ => none
  | k + 1, m21, y23, y24 =>
    br (decide (y24 < 4)) (
      chk (0 ≤ y24 ∧ y24 < 4) <|
      lt ([(bits .or .u64 ((m21.set 4 (bits .and .u64 (m21.getD 4 0) 2251799813685247)).getD 0 0) (IntKind.u64.wrap (((m21.set 4 (bits .and .u64 (m21.getD 4 0) 2251799813685247)).getD 1 0) * 2 ^ 51))), (bits .or .u64 (Int.fdiv ((m21.set 4 (bits .and .u64 (m21.getD 4 0) 2251799813685247)).getD 1 0) (2 ^ 13)) (IntKind.u64.wrap (((m21.set 4 (bits .and .u64 (m21.getD 4 0) 2251799813685247)).getD 2 0) * 2 ^ 38))), (bits .or .u64 (Int.fdiv ((m21.set 4 (bits .and .u64 (m21.getD 4 0) 2251799813685247)).getD 2 0) (2 ^ 26)) (IntKind.u64.wrap (((m21.set 4 (bits .and .u64 (m21.getD 4 0) 2251799813685247)).getD 3 0) * 2 ^ 25))), (bits .or .u64 (Int.fdiv ((m21.set 4 (bits .and .u64 (m21.getD 4 0) 2251799813685247)).getD 3 0) (2 ^ 39)) (IntKind.u64.wrap (((m21.set 4 (bits .and .u64 (m21.getD 4 0) 2251799813685247)).getD 4 0) * 2 ^ 12)))].getD (y24 : Int).toNat 0) fun x26 =>
      bd (field_Element_Bytes.p4 k y24 x26 y23 0) fun m33 =>
      lt (IntKind.i64.wrap (y24 + 1)) fun x34 =>
      field_Element_Bytes.p3 k m21 m33 x34
    ) (
      some (y23)
    )
def field_Element_Bytes.f (k : Nat) (a0 : List Int) : Option (List Int) :=
  bd (field_Element_carried.f a0) fun r3 =>
  bd (field_Element_carried.f r3) fun r4 =>
  lt (Int.fdiv (IntKind.u64.wrap ((r4.getD 0 0) + 19)) (2 ^ 51)) fun x5 =>
  lt (((5 - 1) : Nat) : Int) fun x6 =>
  bd (field_Element_Bytes.p1 k x6 r4 x5 0) fun m14 =>
  bd (field_Element_Bytes.p2 k (r4.set 0 (IntKind.u64.wrap ((r4.getD 0 0) + (IntKind.u64.wrap (19 * m14))))) 0) fun m21 =>
  bd (field_Element_Bytes.p3 k m21 (List.replicate 32 (0 : Int)) 0) fun m36 =>
  some (m36)

/-! 10 postilion/field.Mul -/
def field_Mul.f (k : Nat) (a0 : List Int) (a1 : List Int) : Option (List Int) :=
  bd (field_Of.f k a0) fun r4 =>
  bd (field_Of.f k a1) fun r5 =>
  bd (field_Element_Times.f r4 r5) fun r6 =>
  bd (field_Element_Bytes.f k r6) fun r7 =>
  some (r7)

/-! 13 postilion/field.Canonical -/
def field_Canonical.f (k : Nat) (a0 : List Int) : Option (Bool) :=
  bd (field_Of.f k a0) fun r2 =>
  bd (field_Element_Bytes.f k r2) fun r3 =>
  some ((r3 == a0))

/-! 8 postilion/postilionlaw04.awake -/
def postilionlaw04_awake.p1 (k : Nat)  : Option (Bool) :=
  bd (field_Mul.f k ((List.replicate 32 (0 : Int)).set 0 2) ((List.replicate 32 (0 : Int)).set 0 3)) fun r1 =>
  br (r1 == ((List.replicate 32 (0 : Int)).set 0 6)) (
    bd (field_Canonical.f k ((List.replicate 32 (0 : Int)).set 0 1)) fun r2 =>
    some (r2)
  ) (
    some (false)
  )
def postilionlaw04_awake.f (k : Nat)  : Option (Bool) :=
  bd (postilionlaw04_awake.p1 k ) fun m4 =>
  some (m4)

/-! 22 (postilion/field.Element).Plus -/
def field_Element_Plus.p1 : Nat → List Int → List Int → Int → Option (List Int)
  | 0, _, _, _ => none
  | k + 1, a1, y4, y5 =>
    br (decide (y5 < 5)) (
      chk (0 ≤ y5 ∧ y5 < 5) <|
      lt (IntKind.i64.wrap (y5 + 1)) fun x7 =>
      field_Element_Plus.p1 k a1 (y4.set (y5 : Int).toNat (IntKind.u64.wrap ((y4.getD (y5 : Int).toNat 0) + (a1.getD (y5 : Int).toNat 0)))) x7
    ) (
      some (y4)
    )
def field_Element_Plus.f (k : Nat) (a0 : List Int) (a1 : List Int) : Option (List Int) :=
  bd (field_Element_Plus.p1 k a1 a0 0) fun m9 =>
  bd (field_Element_carried.f m9) fun r10 =>
  some (r10)

/-! 9 postilion/field.Add -/
def field_Add.f (k : Nat) (a0 : List Int) (a1 : List Int) : Option (List Int) :=
  bd (field_Of.f k a0) fun r4 =>
  bd (field_Of.f k a1) fun r5 =>
  bd (field_Element_Plus.f k r4 r5) fun r6 =>
  bd (field_Element_Bytes.f k r6) fun r7 =>
  some (r7)

/-! 25 (postilion/field.Element).Minus -/
def field_Element_Minus.f (a0 : List Int) (a1 : List Int) : Option (List Int) :=
  bd (field_Element_carried.f [(IntKind.u64.wrap ((IntKind.u64.wrap ((a0.getD 0 0) + 4503599627370458)) - (a1.getD 0 0))), (IntKind.u64.wrap ((IntKind.u64.wrap ((a0.getD 1 0) + 4503599627370494)) - (a1.getD 1 0))), (IntKind.u64.wrap ((IntKind.u64.wrap ((a0.getD 2 0) + 4503599627370494)) - (a1.getD 2 0))), (IntKind.u64.wrap ((IntKind.u64.wrap ((a0.getD 3 0) + 4503599627370494)) - (a1.getD 3 0))), (IntKind.u64.wrap ((IntKind.u64.wrap ((a0.getD 4 0) + 4503599627370494)) - (a1.getD 4 0)))]) fun r4 =>
  some (r4)

/-! 11 postilion/field.Sub -/
def field_Sub.f (k : Nat) (a0 : List Int) (a1 : List Int) : Option (List Int) :=
  bd (field_Of.f k a0) fun r4 =>
  bd (field_Of.f k a1) fun r5 =>
  bd (field_Element_Minus.f r4 r5) fun r6 =>
  bd (field_Element_Bytes.f k r6) fun r7 =>
  some (r7)

/-! 3 postilion/postilionlaw04.FieldRing -/
def postilionlaw04_FieldRing.p1 (k : Nat) (a0 : List Int) (a1 : List Int) : Option (Bool) :=
  bd (field_Add.f k a0 a1) fun r5 =>
  bd (field_Add.f k a1 a0) fun r6 =>
  br (!(r5 == r6)) (
    some (true)
  ) (
    bd (field_Mul.f k a0 a1) fun r7 =>
    bd (field_Mul.f k a1 a0) fun r8 =>
    br (!(r7 == r8)) (
      some (true)
    ) (
      bd (field_Add.f k a0 a1) fun r9 =>
      bd (field_Sub.f k r9 a1) fun r10 =>
      bd (field_Add.f k a0 (List.replicate 32 (0 : Int))) fun r11 =>
      some ((!(r10 == r11)))
    )
  )
def postilionlaw04_FieldRing.p2 (k : Nat) (a0 : List Int) (a1 : List Int) (a2 : List Int) : Option (Bool) :=
  bd (field_Add.f k a1 a2) fun r14 =>
  bd (field_Mul.f k a0 r14) fun r15 =>
  bd (field_Mul.f k a0 a1) fun r16 =>
  bd (field_Mul.f k a0 a2) fun r17 =>
  bd (field_Add.f k r16 r17) fun r18 =>
  br (r15 == r18) (
    bd (field_Mul.f k a0 a1) fun r19 =>
    bd (field_Mul.f k r19 a2) fun r20 =>
    bd (field_Mul.f k a1 a2) fun r21 =>
    bd (field_Mul.f k a0 r21) fun r22 =>
    br (r20 == r22) (
      bd (field_Mul.f k a0 ((List.replicate 32 (0 : Int)).set 0 1)) fun r23 =>
      bd (field_Add.f k a0 (List.replicate 32 (0 : Int))) fun r24 =>
      some ((r23 == r24))
    ) (
      some (false)
    )
  ) (
    some (false)
  )
def postilionlaw04_FieldRing.f (k : Nat) (a0 : List Int) (a1 : List Int) (a2 : List Int) : Option (Bool) :=
  bd (postilionlaw04_awake.f k ) fun r4 =>
  br (!r4) (
    some (false)
  ) (
    bd (postilionlaw04_FieldRing.p1 k a0 a1) fun m13 =>
    br m13 (
      some (false)
    ) (
      bd (postilionlaw04_FieldRing.p2 k a0 a1 a2) fun m26 =>
      some (m26)
    )
  )

/-! 44 (postilion/field.Element).squared -/
def field_Element_squared.p1 : Nat → Int → List Int → Int → Option (List Int)
  | 0, _, _, _ => none
  | k + 1, a1, y3, y4 =>
    br (decide (y4 < a1)) (
      bd (field_Element_Times.f y3 y3) fun r5 =>
      lt (IntKind.i64.wrap (y4 + 1)) fun x6 =>
      field_Element_squared.p1 k a1 r5 x6
    ) (
      some (y3)
    )
def field_Element_squared.f (k : Nat) (a0 : List Int) (a1 : Int) : Option (List Int) :=
  bd (field_Element_squared.p1 k a1 a0 0) fun m8 =>
  some (m8)

/-! 43 (postilion/field.Element).chain -/
def field_Element_chain.f (k : Nat) (a0 : List Int) : Option (List Int × List Int) :=
  bd (field_Element_squared.f k a0 1) fun r4 =>
  bd (field_Element_squared.f k r4 2) fun r6 =>
  bd (field_Element_Times.f r6 a0) fun r7 =>
  bd (field_Element_Times.f r7 r4) fun r9 =>
  bd (field_Element_squared.f k r9 1) fun r11 =>
  bd (field_Element_Times.f r11 r7) fun r12 =>
  bd (field_Element_squared.f k r12 5) fun r14 =>
  bd (field_Element_Times.f r14 r12) fun r15 =>
  bd (field_Element_squared.f k r15 10) fun r17 =>
  bd (field_Element_Times.f r17 r15) fun r18 =>
  bd (field_Element_squared.f k r18 20) fun r20 =>
  bd (field_Element_Times.f r20 r18) fun r21 =>
  bd (field_Element_squared.f k r21 10) fun r23 =>
  bd (field_Element_Times.f r23 r15) fun r24 =>
  bd (field_Element_squared.f k r24 50) fun r26 =>
  bd (field_Element_Times.f r26 r24) fun r27 =>
  bd (field_Element_squared.f k r27 100) fun r29 =>
  bd (field_Element_Times.f r29 r27) fun r30 =>
  bd (field_Element_squared.f k r30 50) fun r32 =>
  bd (field_Element_Times.f r32 r24) fun r33 =>
  some (r33, r9)

/-! 26 (postilion/field.Element).Inverse -/
def field_Element_Inverse.f (k : Nat) (a0 : List Int) : Option (List Int) :=
  bd (field_Element_chain.f k a0) fun r3 =>
  bd (field_Element_squared.f k r3.1 5) fun r6 =>
  bd (field_Element_Times.f r6 r3.2) fun r7 =>
  some (r7)

/-! 12 postilion/field.Inv -/
def field_Inv.f (k : Nat) (a0 : List Int) : Option (List Int) :=
  bd (field_Of.f k a0) fun r3 =>
  bd (field_Element_Inverse.f k r3) fun r4 =>
  bd (field_Element_Bytes.f k r4) fun r5 =>
  some (r5)

/-! 4 postilion/postilionlaw04.FieldInverses -/
def postilionlaw04_FieldInverses.p1 (k : Nat) (a0 : List Int) : Option (Bool) :=
  bd (field_Inv.f k a0) fun r5 =>
  bd (field_Mul.f k a0 r5) fun r6 =>
  br (r6 == ((List.replicate 32 (0 : Int)).set 0 1)) (
    bd (field_Inv.f k a0) fun r7 =>
    bd (field_Inv.f k r7) fun r8 =>
    bd (field_Add.f k a0 (List.replicate 32 (0 : Int))) fun r9 =>
    some ((r8 == r9))
  ) (
    some (false)
  )
def postilionlaw04_FieldInverses.f (k : Nat) (a0 : List Int) : Option (Bool) :=
  bd (postilionlaw04_awake.f k ) fun r2 =>
  br (!r2) (
    some (false)
  ) (
    bd (field_Add.f k a0 (List.replicate 32 (0 : Int))) fun r3 =>
    br (r3 == (List.replicate 32 (0 : Int))) (
      bd (field_Inv.f k a0) fun r4 =>
      some ((r4 == (List.replicate 32 (0 : Int))))
    ) (
      bd (postilionlaw04_FieldInverses.p1 k a0) fun m11 =>
      some (m11)
    )
  )

/-! 5 postilion/postilionlaw04.FieldCanonical -/
def postilionlaw04_FieldCanonical.p1 (k : Nat) (r4 : List Int) (a0 : List Int) (a1 : List Int) : Option (Bool) :=
  bd (field_Add.f k a0 a1) fun r5 =>
  bd (field_Canonical.f k r5) fun r6 =>
  br r6 (
    bd (field_Mul.f k a0 a1) fun r7 =>
    bd (field_Canonical.f k r7) fun r8 =>
    br r8 (
      bd (field_Sub.f k a0 a1) fun r9 =>
      bd (field_Canonical.f k r9) fun r10 =>
      br r10 (
        bd (field_Inv.f k a0) fun r11 =>
        bd (field_Canonical.f k r11) fun r12 =>
        br r12 (
          bd (field_Canonical.f k a0) fun r13 =>
          some ((r13 == (r4 == a0)))
        ) (
          some (false)
        )
      ) (
        some (false)
      )
    ) (
      some (false)
    )
  ) (
    some (false)
  )
def postilionlaw04_FieldCanonical.f (k : Nat) (a0 : List Int) (a1 : List Int) : Option (Bool) :=
  bd (postilionlaw04_awake.f k ) fun r3 =>
  br (!r3) (
    some (false)
  ) (
    bd (field_Add.f k a0 (List.replicate 32 (0 : Int))) fun r4 =>
    bd (postilionlaw04_FieldCanonical.p1 k r4 a0 a1) fun m15 =>
    some (m15)
  )

/-! 28 postilion/field.One -/
def field_One.f  : Option (List Int) :=
  some (((List.replicate 5 (0 : Int)).set 0 1))

/-! 45 (postilion/field.Element).Power58 -/
def field_Element_Power58.f (k : Nat) (a0 : List Int) : Option (List Int) :=
  bd (field_Element_chain.f k a0) fun r3 =>
  bd (field_Element_squared.f k r3.1 2) fun r6 =>
  bd (field_Element_Times.f r6 a0) fun r7 =>
  some (r7)

/-! 46 (postilion/field.Element).Is -/
def field_Element_Is.f (k : Nat) (a0 : List Int) (a1 : List Int) : Option (Bool) :=
  bd (field_Element_Bytes.f k a0) fun r3 =>
  bd (field_Element_Bytes.f k a1) fun r4 =>
  some ((r3 == r4))

/-! 47 postilion/field.RootOfMinusOne -/
def field_RootOfMinusOne.f  : Option (List Int) :=
  some ([1718705420411056, 234908883556509, 2233514472574048, 2117202627021982, 765476049583133])

/-! 48 (postilion/field.Element).Odd -/
def field_Element_Odd.f (k : Nat) (a0 : List Int) : Option (Bool) :=
  bd (field_Element_Bytes.f k a0) fun r2 =>
  some (((bits .and .u8 (r2.getD 0 0) 1) == 1))

/-! 27 postilion/field.Ratio -/
def field_Ratio.p1 (k : Nat) (r17 : Bool) (a1 : List Int) (r12 : List Int) (r15 : List Int) : Option (List Int × List Int) :=
  br (!r17) (
    bd (field_RootOfMinusOne.f ) fun r18 =>
    bd (field_Element_Times.f r12 r18) fun r19 =>
    bd (field_Element_squared.f k r19 1) fun r20 =>
    bd (field_Element_Times.f a1 r20) fun r21 =>
    some (r19, r21)
  ) (
    some (r12, r15)
  )
def field_Ratio.p2 (r25 : Bool) (m23 : List Int) : Option (List Int) :=
  br r25 (
    bd (field_Element_Minus.f (List.replicate 5 (0 : Int)) m23) fun r26 =>
    some (r26)
  ) (
    some (m23)
  )
def field_Ratio.f (k : Nat) (a0 : List Int) (a1 : List Int) : Option (List Int × Bool) :=
  bd (field_Element_squared.f k a1 1) fun r4 =>
  bd (field_Element_Times.f r4 a1) fun r5 =>
  bd (field_Element_Times.f a0 r5) fun r7 =>
  bd (field_Element_squared.f k r5 1) fun r8 =>
  bd (field_Element_Times.f a0 r8) fun r9 =>
  bd (field_Element_Times.f r9 a1) fun r10 =>
  bd (field_Element_Power58.f k r10) fun r11 =>
  bd (field_Element_Times.f r7 r11) fun r12 =>
  bd (field_Element_squared.f k r12 1) fun r14 =>
  bd (field_Element_Times.f a1 r14) fun r15 =>
  bd (field_Element_Is.f k r15 a0) fun r17 =>
  bd (field_Ratio.p1 k r17 a1 r12 r15) fun (m23, m24) =>
  bd (field_Element_Odd.f k m23) fun r25 =>
  bd (field_Ratio.p2 r25 m23) fun m28 =>
  bd (field_Element_Is.f k m24 a0) fun r29 =>
  some (m28, r29)

/-! 14 postilion/field.Sqrt -/
def field_Sqrt.f (k : Nat) (a0 : List Int) : Option (List Int × Int) :=
  bd (field_Of.f k a0) fun r3 =>
  bd (field_One.f ) fun r4 =>
  bd (field_Ratio.f k r3 r4) fun r5 =>
  br (!r5.2) (
    some ((List.replicate 32 (0 : Int)), 3)
  ) (
    bd (field_Element_Bytes.f k r5.1) fun r7 =>
    some (r7, 0)
  )

/-! 6 postilion/postilionlaw04.FieldRoots -/
def postilionlaw04_FieldRoots.p1 (k : Nat) (x7 : Int) (a0 : List Int) (r3 : List Int) (r5 : List Int × Int) : Option (Bool) :=
  br (x7 != 0) (
    some (true)
  ) (
    br ((Int.tmod (r5.1.getD 0 0) 2) != 0) (
      some (true)
    ) (
      bd (field_Mul.f k r5.1 r5.1) fun r8 =>
      br (!(r8 == r3)) (
        some (true)
      ) (
        bd (field_Add.f k a0 (List.replicate 32 (0 : Int))) fun r9 =>
        br (!(r5.1 == r9)) (
          bd (field_Sub.f k (List.replicate 32 (0 : Int)) a0) fun r10 =>
          some ((!(r5.1 == r10)))
        ) (
          some (false)
        )
      )
    )
  )
def postilionlaw04_FieldRoots.p2 (x15 : Int) (r13 : List Int × Int) : Option (Bool) :=
  br (x15 == 3) (
    some ((r13.1 == (List.replicate 32 (0 : Int))))
  ) (
    some (false)
  )
def postilionlaw04_FieldRoots.p3 (k : Nat) (a0 : List Int) (r13 : List Int × Int) : Option (Bool) :=
  bd (field_Mul.f k r13.1 r13.1) fun r18 =>
  bd (field_Add.f k a0 (List.replicate 32 (0 : Int))) fun r19 =>
  br (r18 == r19) (
    some (((Int.tmod (r13.1.getD 0 0) 2) == 0))
  ) (
    some (false)
  )
def postilionlaw04_FieldRoots.f (k : Nat) (a0 : List Int) : Option (Bool) :=
  bd (postilionlaw04_awake.f k ) fun r2 =>
  br (!r2) (
    some (false)
  ) (
    bd (field_Mul.f k a0 a0) fun r3 =>
    bd (field_Sqrt.f k r3) fun r5 =>
    lt r5.2 fun x7 =>
    bd (postilionlaw04_FieldRoots.p1 k x7 a0 r3 r5) fun m12 =>
    br m12 (
      some (false)
    ) (
      bd (field_Sqrt.f k a0) fun r13 =>
      lt r13.2 fun x15 =>
      br (x15 != 0) (
        bd (postilionlaw04_FieldRoots.p2 x15 r13) fun m17 =>
        some (m17)
      ) (
        bd (postilionlaw04_FieldRoots.p3 k a0 r13) fun m21 =>
        some (m21)
      )
    )
  )

/-! 30 postilion/postilionref04.From -/
def postilionref04_From.p1 : Nat → List Int → List Int → Int → Option (List Int)
  | 0, _, _, _ => none
  | k + 1, a0, y4, y5 =>
    br (decide (y5 < 32)) (
      chk (0 ≤ (IntKind.i64.wrap (Int.tdiv y5 8)) ∧ (IntKind.i64.wrap (Int.tdiv y5 8)) < 4) <|
      chk (0 ≤ y5 ∧ y5 < 32) <|
      chk (0 ≤ (IntKind.u64.wrap (IntKind.i64.wrap (8 * (Int.tmod y5 8))))) <|
      lt (IntKind.i64.wrap (y5 + 1)) fun x9 =>
      postilionref04_From.p1 k a0 (y4.set ((IntKind.i64.wrap (Int.tdiv y5 8)) : Int).toNat (bits .or .u64 (y4.getD ((IntKind.i64.wrap (Int.tdiv y5 8)) : Int).toNat 0) (IntKind.u64.wrap ((IntKind.u64.wrap (a0.getD (y5 : Int).toNat 0)) * 2 ^ (min ((IntKind.u64.wrap (IntKind.i64.wrap (8 * (Int.tmod y5 8)))) : Int).toNat (IntKind.u64).bits))))) x9
    ) (
      some (y4)
    )
def postilionref04_From.f (k : Nat) (a0 : List Int) : Option (List Int) :=
  bd (postilionref04_From.p1 k a0 (List.replicate 4 (0 : Int)) 0) fun m11 =>
  some (m11)

/-! 32 postilion/postilionref04.Small -/
def postilionref04_Small.f (a0 : Int) : Option (List Int) :=
  some ([a0, 0, 0, 0])

/-! 55 postilion/postilionref04.fold -/
def postilionref04_fold.p1 : Nat → List Int → Int → Option (List Int)
  | 0, _, _ => none
  | k + 1, y3, y4 =>
    br (y4 != 0) (
      bd (math_bits_Mul64.f y4 38) fun r5 =>
      lt r5.1 fun x6 =>
      lt r5.2 fun x7 =>
      chk (0 ≤ (y3.getD 0 0) ∧ 0 ≤ x7 ∧ 0 ≤ (0 : Int) ∧ (0 : Int) ≤ 1) <|
      lt (((y3.getD 0 0) + x7 + 0) / 18446744073709551616) fun x9 =>
      chk (0 ≤ ((y3.set 0 (((y3.getD 0 0) + x7 + 0) % 18446744073709551616)).getD 1 0) ∧ 0 ≤ x6 ∧ 0 ≤ x9 ∧ x9 ≤ 1) <|
      lt ((((y3.set 0 (((y3.getD 0 0) + x7 + 0) % 18446744073709551616)).getD 1 0) + x6 + x9) / 18446744073709551616) fun x11 =>
      chk (0 ≤ (((y3.set 0 (((y3.getD 0 0) + x7 + 0) % 18446744073709551616)).set 1 ((((y3.set 0 (((y3.getD 0 0) + x7 + 0) % 18446744073709551616)).getD 1 0) + x6 + x9) % 18446744073709551616)).getD 2 0) ∧ 0 ≤ (0 : Int) ∧ 0 ≤ x11 ∧ x11 ≤ 1) <|
      lt (((((y3.set 0 (((y3.getD 0 0) + x7 + 0) % 18446744073709551616)).set 1 ((((y3.set 0 (((y3.getD 0 0) + x7 + 0) % 18446744073709551616)).getD 1 0) + x6 + x9) % 18446744073709551616)).getD 2 0) + 0 + x11) / 18446744073709551616) fun x13 =>
      chk (0 ≤ ((((y3.set 0 (((y3.getD 0 0) + x7 + 0) % 18446744073709551616)).set 1 ((((y3.set 0 (((y3.getD 0 0) + x7 + 0) % 18446744073709551616)).getD 1 0) + x6 + x9) % 18446744073709551616)).set 2 (((((y3.set 0 (((y3.getD 0 0) + x7 + 0) % 18446744073709551616)).set 1 ((((y3.set 0 (((y3.getD 0 0) + x7 + 0) % 18446744073709551616)).getD 1 0) + x6 + x9) % 18446744073709551616)).getD 2 0) + 0 + x11) % 18446744073709551616)).getD 3 0) ∧ 0 ≤ (0 : Int) ∧ 0 ≤ x13 ∧ x13 ≤ 1) <|
      lt ((((((y3.set 0 (((y3.getD 0 0) + x7 + 0) % 18446744073709551616)).set 1 ((((y3.set 0 (((y3.getD 0 0) + x7 + 0) % 18446744073709551616)).getD 1 0) + x6 + x9) % 18446744073709551616)).set 2 (((((y3.set 0 (((y3.getD 0 0) + x7 + 0) % 18446744073709551616)).set 1 ((((y3.set 0 (((y3.getD 0 0) + x7 + 0) % 18446744073709551616)).getD 1 0) + x6 + x9) % 18446744073709551616)).getD 2 0) + 0 + x11) % 18446744073709551616)).getD 3 0) + 0 + x13) / 18446744073709551616) fun x15 =>
      postilionref04_fold.p1 k ((((y3.set 0 (((y3.getD 0 0) + x7 + 0) % 18446744073709551616)).set 1 ((((y3.set 0 (((y3.getD 0 0) + x7 + 0) % 18446744073709551616)).getD 1 0) + x6 + x9) % 18446744073709551616)).set 2 (((((y3.set 0 (((y3.getD 0 0) + x7 + 0) % 18446744073709551616)).set 1 ((((y3.set 0 (((y3.getD 0 0) + x7 + 0) % 18446744073709551616)).getD 1 0) + x6 + x9) % 18446744073709551616)).getD 2 0) + 0 + x11) % 18446744073709551616)).set 3 ((((((y3.set 0 (((y3.getD 0 0) + x7 + 0) % 18446744073709551616)).set 1 ((((y3.set 0 (((y3.getD 0 0) + x7 + 0) % 18446744073709551616)).getD 1 0) + x6 + x9) % 18446744073709551616)).set 2 (((((y3.set 0 (((y3.getD 0 0) + x7 + 0) % 18446744073709551616)).set 1 ((((y3.set 0 (((y3.getD 0 0) + x7 + 0) % 18446744073709551616)).getD 1 0) + x6 + x9) % 18446744073709551616)).getD 2 0) + 0 + x11) % 18446744073709551616)).getD 3 0) + 0 + x13) % 18446744073709551616)) x15
    ) (
      some (y3)
    )
def postilionref04_fold.f (k : Nat) (a0 : List Int) (a1 : Int) : Option (List Int) :=
  bd (postilionref04_fold.p1 k a0 a1) fun m17 =>
  some (m17)

/-! 37 postilion/postilionref04.Times -/
def postilionref04_Times.p2 : Nat → Int → List Int → List Int → List Int → Int → Int → Option (Int × List Int)
  | 0, _, _, _, _, _, _ => none
  | k + 1, y6, a0, a1, y7, y8, y9 =>
    br (decide (y9 < 4)) (
      chk (0 ≤ y6 ∧ y6 < 4) <|
      chk (0 ≤ y9 ∧ y9 < 4) <|
      bd (math_bits_Mul64.f (a0.getD (y6 : Int).toNat 0) (a1.getD (y9 : Int).toNat 0)) fun r12 =>
      lt r12.1 fun x13 =>
      lt r12.2 fun x14 =>
      chk (0 ≤ (IntKind.i64.wrap (y6 + y9)) ∧ (IntKind.i64.wrap (y6 + y9)) < 8) <|
      chk (0 ≤ x14 ∧ 0 ≤ (y7.getD ((IntKind.i64.wrap (y6 + y9)) : Int).toNat 0) ∧ 0 ≤ (0 : Int) ∧ (0 : Int) ≤ 1) <|
      lt ((x14 + (y7.getD ((IntKind.i64.wrap (y6 + y9)) : Int).toNat 0) + 0) % 18446744073709551616) fun x17 =>
      lt ((x14 + (y7.getD ((IntKind.i64.wrap (y6 + y9)) : Int).toNat 0) + 0) / 18446744073709551616) fun x18 =>
      lt (IntKind.u64.wrap (x13 + x18)) fun x19 =>
      chk (0 ≤ x17 ∧ 0 ≤ y8 ∧ 0 ≤ (0 : Int) ∧ (0 : Int) ≤ 1) <|
      lt ((x17 + y8 + 0) % 18446744073709551616) fun x21 =>
      lt ((x17 + y8 + 0) / 18446744073709551616) fun x22 =>
      lt (IntKind.u64.wrap (x19 + x22)) fun x23 =>
      lt (IntKind.i64.wrap (y9 + 1)) fun x24 =>
      postilionref04_Times.p2 k y6 a0 a1 (y7.set ((IntKind.i64.wrap (y6 + y9)) : Int).toNat x21) x23 x24
    ) (
      some (y8, y7)
    )
def postilionref04_Times.p1 : Nat → List Int → List Int → List Int → Int → Option (List Int)
  | 0, _, _, _, _ => none
  | k + 1, a0, a1, y5, y6 =>
    br (decide (y6 < 4)) (
      bd (postilionref04_Times.p2 k y6 a0 a1 y5 0 0) fun (m26, m27) =>
      chk (0 ≤ (IntKind.i64.wrap (y6 + 4)) ∧ (IntKind.i64.wrap (y6 + 4)) < 8) <|
      lt (IntKind.i64.wrap (y6 + 1)) fun x29 =>
      postilionref04_Times.p1 k a0 a1 (m27.set ((IntKind.i64.wrap (y6 + 4)) : Int).toNat m26) x29
    ) (
      some (y5)
    )
def postilionref04_Times.p3 : Nat → List Int → List Int → Int → Int → Int → Option (Int × Int × List Int)
  | 0, _, _, _, _, _ => none
  | k + 1, m31, y33, y34, y35, y36 =>
    br (decide (y36 < 4)) (
      chk (0 ≤ (IntKind.i64.wrap (y36 + 4)) ∧ (IntKind.i64.wrap (y36 + 4)) < 8) <|
      bd (math_bits_Mul64.f (m31.getD ((IntKind.i64.wrap (y36 + 4)) : Int).toNat 0) 38) fun r38 =>
      lt r38.1 fun x39 =>
      lt r38.2 fun x40 =>
      chk (0 ≤ x40 ∧ 0 ≤ y34 ∧ 0 ≤ (0 : Int) ∧ (0 : Int) ≤ 1) <|
      lt ((x40 + y34 + 0) % 18446744073709551616) fun x42 =>
      lt ((x40 + y34 + 0) / 18446744073709551616) fun x43 =>
      lt (IntKind.u64.wrap (x39 + x43)) fun x44 =>
      chk (0 ≤ y36 ∧ y36 < 4) <|
      chk (0 ≤ (y33.getD (y36 : Int).toNat 0) ∧ 0 ≤ x42 ∧ 0 ≤ y35 ∧ y35 ≤ 1) <|
      lt (((y33.getD (y36 : Int).toNat 0) + x42 + y35) / 18446744073709551616) fun x47 =>
      lt (IntKind.i64.wrap (y36 + 1)) fun x48 =>
      postilionref04_Times.p3 k m31 (y33.set (y36 : Int).toNat (((y33.getD (y36 : Int).toNat 0) + x42 + y35) % 18446744073709551616)) x44 x47 x48
    ) (
      some (y34, y35, y33)
    )
def postilionref04_Times.f (k : Nat) (a0 : List Int) (a1 : List Int) : Option (List Int) :=
  bd (postilionref04_Times.p1 k a0 a1 (List.replicate 8 (0 : Int)) 0) fun m31 =>
  bd (postilionref04_Times.p3 k m31 ([(m31.getD 0 0), (m31.getD 1 0), (m31.getD 2 0), (m31.getD 3 0)]) 0 0 0) fun (m50, m51, m52) =>
  bd (postilionref04_fold.f k m52 (IntKind.u64.wrap (m50 + m51))) fun r53 =>
  some (r53)

/-! 49 postilion/postilionref04.Power -/
def postilionref04_Power.p3 (k : Nat) (t11 : Bool) (a0 : List Int) (r8 : List Int) : Option (List Int) :=
  br t11 (
    bd (postilionref04_Times.f k r8 a0) fun r12 =>
    some (r12)
  ) (
    some (r8)
  )
def postilionref04_Power.p2 (k : Nat) (y7 : Int) (a0 : List Int) (a1 : List Int) (y6 : List Int) : Option (List Int) :=
  bd (postilionref04_Times.f k y6 y6) fun r8 =>
  chk (0 ≤ (IntKind.i64.wrap (Int.tdiv y7 64)) ∧ (IntKind.i64.wrap (Int.tdiv y7 64)) < 4) <|
  chk (0 ≤ (IntKind.u64.wrap (Int.tmod y7 64))) <|
  lt ((bits .and .u64 (Int.fdiv (a1.getD ((IntKind.i64.wrap (Int.tdiv y7 64)) : Int).toNat 0) (2 ^ (min ((IntKind.u64.wrap (Int.tmod y7 64)) : Int).toNat (IntKind.u64).bits))) 1) == 1) fun t11 =>
  bd (postilionref04_Power.p3 k t11 a0 r8) fun m14 =>
  some (m14)
def postilionref04_Power.p1 : Nat → List Int → List Int → List Int → Int → Option (List Int)
  | 0, _, _, _, _ => none
  | k + 1, a0, a1, y6, y7 =>
    br (decide (y7 ≥ 0)) (
      bd (postilionref04_Power.p2 k y7 a0 a1 y6) fun m16 =>
      lt (IntKind.i64.wrap (y7 - 1)) fun x17 =>
      postilionref04_Power.p1 k a0 a1 m16 x17
    ) (
      some (y6)
    )
def postilionref04_Power.f (k : Nat) (a0 : List Int) (a1 : List Int) : Option (List Int) :=
  bd (postilionref04_Small.f 1) fun r4 =>
  bd (postilionref04_Power.p1 k a0 a1 r4 255) fun m19 =>
  some (m19)

/-! 35 postilion/postilionref04.p -/
def postilionref04_p.f  : Option (List Int) :=
  some ([18446744073709551597, 18446744073709551615, 18446744073709551615, 9223372036854775807])

/-! 34 postilion/postilionref04.below -/
def postilionref04_below.p1 : Nat → List Int → List Int → Int → Option ((Unit) ⊕ (Bool))
  | 0, _, _, _ => none
  | k + 1, a0, a1, y3 =>
    br (decide (y3 ≥ 0)) (
      chk (0 ≤ y3 ∧ y3 < 4) <|
      lt ((a0.getD (y3 : Int).toNat 0) != (a1.getD (y3 : Int).toNat 0)) fun t5 =>
      br t5 (
        lt (decide ((a0.getD (y3 : Int).toNat 0) < (a1.getD (y3 : Int).toNat 0))) fun t6 =>
        some (.inr (t6))
      ) (
        lt (IntKind.i64.wrap (y3 - 1)) fun x7 =>
        postilionref04_below.p1 k a0 a1 x7
      )
    ) (
      some (.inl ())
    )
def postilionref04_below.f (k : Nat) (a0 : List Int) (a1 : List Int) : Option (Bool) :=
  bd (postilionref04_below.p1 k a0 a1 3) fun r8 => match r8 with
    | (.inl _) => some (false)
    | (.inr m9) => some (m9)

/-! 53 postilion/postilionref04.less -/
def postilionref04_less.p1 : Nat → List Int → List Int → List Int → Int → Int → Option (List Int)
  | 0, _, _, _, _, _ => none
  | k + 1, a0, a1, y5, y6, y7 =>
    br (decide (y7 < 4)) (
      chk (0 ≤ y7 ∧ y7 < 4) <|
      chk (0 ≤ (a0.getD (y7 : Int).toNat 0) ∧ (0 ≤ (a1.getD (y7 : Int).toNat 0) ∧ (a1.getD (y7 : Int).toNat 0) < 18446744073709551616) ∧ 0 ≤ y6 ∧ y6 ≤ 1) <|
      lt (if (a0.getD (y7 : Int).toNat 0) < (a1.getD (y7 : Int).toNat 0) + y6 then 1 else 0) fun x10 =>
      lt (IntKind.i64.wrap (y7 + 1)) fun x11 =>
      postilionref04_less.p1 k a0 a1 (y5.set (y7 : Int).toNat (((a0.getD (y7 : Int).toNat 0) - (a1.getD (y7 : Int).toNat 0) - y6) % 18446744073709551616)) x10 x11
    ) (
      some (y5)
    )
def postilionref04_less.f (k : Nat) (a0 : List Int) (a1 : List Int) : Option (List Int) :=
  bd (postilionref04_less.p1 k a0 a1 (List.replicate 4 (0 : Int)) 0 0) fun m13 =>
  some (m13)

/-! 52 postilion/postilionref04.Least -/
def postilionref04_Least.p1 : Nat → List Int → Option (List Int)
  | 0, _ => none
  | k + 1, y3 =>
    bd (postilionref04_p.f ) fun r4 =>
    bd (postilionref04_below.f k y3 r4) fun r5 =>
    br (!r5) (
      bd (postilionref04_p.f ) fun r6 =>
      bd (postilionref04_less.f k y3 r6) fun r7 =>
      postilionref04_Least.p1 k r7
    ) (
      some (y3)
    )
def postilionref04_Least.f (k : Nat) (a0 : List Int) : Option (List Int) :=
  bd (postilionref04_Least.p1 k a0) fun m9 =>
  some (m9)

/-! 50 postilion/postilionref04.Same -/
def postilionref04_Same.f (k : Nat) (a0 : List Int) (a1 : List Int) : Option (Bool) :=
  bd (postilionref04_Least.f k a0) fun r3 =>
  bd (postilionref04_Least.f k a1) fun r4 =>
  some ((r3 == r4))

/-! 51 postilion/postilionref04.I -/
def postilionref04_I.f  : Option (List Int) :=
  some ([14190309331451158704, 3405592160176694392, 3120150775007532967, 3135389899092516619])

/-! 29 postilion/postilionref04.Root -/
def postilionref04_Root.p1 (k : Nat) (r6 : Bool) (r3 : List Int) : Option (List Int) :=
  br (!r6) (
    bd (postilionref04_I.f ) fun r7 =>
    bd (postilionref04_Times.f k r3 r7) fun r8 =>
    some (r8)
  ) (
    some (r3)
  )
def postilionref04_Root.f (k : Nat) (a0 : List Int) : Option (List Int × Bool) :=
  bd (postilionref04_Power.f k a0 [18446744073709551614, 18446744073709551615, 18446744073709551615, 1152921504606846975]) fun r3 =>
  bd (postilionref04_Times.f k r3 r3) fun r5 =>
  bd (postilionref04_Same.f k r5 a0) fun r6 =>
  bd (postilionref04_Root.p1 k r6 r3) fun m10 =>
  bd (postilionref04_Least.f k m10) fun r11 =>
  bd (postilionref04_Times.f k m10 m10) fun r12 =>
  bd (postilionref04_Same.f k r12 a0) fun r13 =>
  some (r11, r13)

/-! 36 postilion/postilionref04.Plus -/
def postilionref04_Plus.p1 : Nat → List Int → List Int → List Int → Int → Int → Option (Int × List Int)
  | 0, _, _, _, _, _ => none
  | k + 1, a0, a1, y5, y6, y7 =>
    br (decide (y7 < 4)) (
      chk (0 ≤ y7 ∧ y7 < 4) <|
      chk (0 ≤ (a0.getD (y7 : Int).toNat 0) ∧ 0 ≤ (a1.getD (y7 : Int).toNat 0) ∧ 0 ≤ y6 ∧ y6 ≤ 1) <|
      lt (((a0.getD (y7 : Int).toNat 0) + (a1.getD (y7 : Int).toNat 0) + y6) / 18446744073709551616) fun x10 =>
      lt (IntKind.i64.wrap (y7 + 1)) fun x11 =>
      postilionref04_Plus.p1 k a0 a1 (y5.set (y7 : Int).toNat (((a0.getD (y7 : Int).toNat 0) + (a1.getD (y7 : Int).toNat 0) + y6) % 18446744073709551616)) x10 x11
    ) (
      some (y6, y5)
    )
def postilionref04_Plus.f (k : Nat) (a0 : List Int) (a1 : List Int) : Option (List Int) :=
  bd (postilionref04_Plus.p1 k a0 a1 (List.replicate 4 (0 : Int)) 0 0) fun (m13, m14) =>
  bd (postilionref04_fold.f k m14 m13) fun r15 =>
  some (r15)

/-! 31 postilion/postilionref04.Minus -/
def postilionref04_Minus.f (k : Nat) (a0 : List Int) (a1 : List Int) : Option (List Int) :=
  bd (postilionref04_p.f ) fun r4 =>
  bd (postilionref04_Least.f k a1) fun r5 =>
  bd (postilionref04_less.f k r4 r5) fun r6 =>
  bd (postilionref04_Plus.f k a0 r6) fun r7 =>
  some (r7)

/-! 33 postilion/postilionref04.Bytes -/
def postilionref04_Bytes.p1 : Nat → List Int → List Int → Int → Option (List Int)
  | 0, _, _, _ => none
  | k + 1, r3, y5, y6 =>
    br (decide (y6 < 32)) (
      chk (0 ≤ (IntKind.i64.wrap (Int.tdiv y6 8)) ∧ (IntKind.i64.wrap (Int.tdiv y6 8)) < 4) <|
      chk (0 ≤ (IntKind.u64.wrap (IntKind.i64.wrap (8 * (Int.tmod y6 8))))) <|
      chk (0 ≤ y6 ∧ y6 < 32) <|
      lt (IntKind.i64.wrap (y6 + 1)) fun x10 =>
      postilionref04_Bytes.p1 k r3 (y5.set (y6 : Int).toNat (IntKind.u8.wrap (Int.fdiv (r3.getD ((IntKind.i64.wrap (Int.tdiv y6 8)) : Int).toNat 0) (2 ^ (min ((IntKind.u64.wrap (IntKind.i64.wrap (8 * (Int.tmod y6 8)))) : Int).toNat (IntKind.u64).bits))))) x10
    ) (
      some (y5)
    )
def postilionref04_Bytes.f (k : Nat) (a0 : List Int) : Option (List Int) :=
  bd (postilionref04_Least.f k a0) fun r3 =>
  bd (postilionref04_Bytes.p1 k r3 (List.replicate 32 (0 : Int)) 0) fun m12 =>
  some (m12)

/-! 15 postilion/postilionref04.Sqrt -/
def postilionref04_Sqrt.p1 (k : Nat) (r4 : List Int × Bool) : Option (List Int) :=
  br ((Int.tmod (r4.1.getD 0 0) 2) == 1) (
    bd (postilionref04_Small.f 0) fun r6 =>
    bd (postilionref04_Minus.f k r6 r4.1) fun r7 =>
    some (r7)
  ) (
    some (r4.1)
  )
def postilionref04_Sqrt.f (k : Nat) (a0 : List Int) : Option (List Int × Int) :=
  bd (postilionref04_From.f k a0) fun r3 =>
  bd (postilionref04_Root.f k r3) fun r4 =>
  br (!r4.2) (
    some ((List.replicate 32 (0 : Int)), 3)
  ) (
    bd (postilionref04_Sqrt.p1 k r4) fun m9 =>
    bd (postilionref04_Bytes.f k m9) fun r10 =>
    some (r10, 0)
  )

/-! 16 postilion/postilionref04.Canonical -/
def postilionref04_Canonical.f (k : Nat) (a0 : List Int) : Option (Bool) :=
  bd (postilionref04_From.f k a0) fun r2 =>
  bd (postilionref04_p.f ) fun r3 =>
  bd (postilionref04_below.f k r2 r3) fun r4 =>
  some (r4)

/-! 17 postilion/postilionref04.Add -/
def postilionref04_Add.f (k : Nat) (a0 : List Int) (a1 : List Int) : Option (List Int) :=
  bd (postilionref04_From.f k a0) fun r4 =>
  bd (postilionref04_From.f k a1) fun r5 =>
  bd (postilionref04_Plus.f k r4 r5) fun r6 =>
  bd (postilionref04_Bytes.f k r6) fun r7 =>
  some (r7)

/-! 18 postilion/postilionref04.Sub -/
def postilionref04_Sub.f (k : Nat) (a0 : List Int) (a1 : List Int) : Option (List Int) :=
  bd (postilionref04_From.f k a0) fun r4 =>
  bd (postilionref04_From.f k a1) fun r5 =>
  bd (postilionref04_Minus.f k r4 r5) fun r6 =>
  bd (postilionref04_Bytes.f k r6) fun r7 =>
  some (r7)

/-! 19 postilion/postilionref04.Mul -/
def postilionref04_Mul.f (k : Nat) (a0 : List Int) (a1 : List Int) : Option (List Int) :=
  bd (postilionref04_From.f k a0) fun r4 =>
  bd (postilionref04_From.f k a1) fun r5 =>
  bd (postilionref04_Times.f k r4 r5) fun r6 =>
  bd (postilionref04_Bytes.f k r6) fun r7 =>
  some (r7)

/-! 38 postilion/postilionref04.Inverse -/
def postilionref04_Inverse.f (k : Nat) (a0 : List Int) : Option (List Int) :=
  bd (postilionref04_p.f ) fun r3 =>
  bd (postilionref04_Power.f k a0 (r3.set 0 (IntKind.u64.wrap ((r3.getD 0 0) - 2)))) fun r5 =>
  some (r5)

/-! 20 postilion/postilionref04.Inv -/
def postilionref04_Inv.f (k : Nat) (a0 : List Int) : Option (List Int) :=
  bd (postilionref04_From.f k a0) fun r3 =>
  bd (postilionref04_Inverse.f k r3) fun r4 =>
  bd (postilionref04_Bytes.f k r4) fun r5 =>
  some (r5)

/-! 7 postilion/postilionlaw04.FieldAll -/
def postilionlaw04_FieldAll.p1 (k : Nat) (x6 : Int) (x9 : Int) (a0 : List Int) (a1 : List Int) (r4 : List Int × Int) (r7 : List Int × Int) : Option (Bool) :=
  bd (field_Canonical.f k a0) fun r10 =>
  bd (postilionref04_Canonical.f k a0) fun r11 =>
  br (r10 == r11) (
    bd (field_Add.f k a0 a1) fun r12 =>
    bd (postilionref04_Add.f k a0 a1) fun r13 =>
    br (r12 == r13) (
      bd (field_Sub.f k a0 a1) fun r14 =>
      bd (postilionref04_Sub.f k a0 a1) fun r15 =>
      br (r14 == r15) (
        bd (field_Mul.f k a0 a1) fun r16 =>
        bd (postilionref04_Mul.f k a0 a1) fun r17 =>
        br (r16 == r17) (
          bd (field_Inv.f k a0) fun r18 =>
          bd (postilionref04_Inv.f k a0) fun r19 =>
          br (r18 == r19) (
            br (r4.1 == r7.1) (
              some ((x6 == x9))
            ) (
              some (false)
            )
          ) (
            some (false)
          )
        ) (
          some (false)
        )
      ) (
        some (false)
      )
    ) (
      some (false)
    )
  ) (
    some (false)
  )
def postilionlaw04_FieldAll.f (k : Nat) (a0 : List Int) (a1 : List Int) : Option (Bool) :=
  bd (postilionlaw04_awake.f k ) fun r3 =>
  br (!r3) (
    some (false)
  ) (
    bd (field_Sqrt.f k a0) fun r4 =>
    lt r4.2 fun x6 =>
    bd (postilionref04_Sqrt.f k a0) fun r7 =>
    lt r7.2 fun x9 =>
    bd (postilionlaw04_FieldAll.p1 k x6 x9 a0 a1 r4 r7) fun m21 =>
    some (m21)
  )
end Go.Proofs.Ytmjjkhnofolacaa
