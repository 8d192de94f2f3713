/-
  What the functions that a law reaches compute, as plain definitions. Printed by my own program.
  Conditions: none; every function is taken as the given program's form has it.
-/
import Derived.Test.YtalnjdcidmkajaaGx
namespace Go.Proofs.Ytalnjdcidmkajaa
open Go Go.Gx Go.RowKit
set_option linter.unusedVariables false
set_option maxRecDepth 100000
/-! 51 postilion/field.One -/
def field_One.f  : Option (List Int) :=
  some (((List.replicate 5 (0 : Int)).set 0 1))

/-! 88 math/bits.Mul64 -/
def math_bits_Mul64.f (a0 : Int) (a1 : Int) : Option (Int × Int) :=
  lt (bits .and .u64 a0 4294967295) fun x1 =>
  lt (Int.fdiv a0 (2 ^ 32)) fun x2 =>
  lt (bits .and .u64 a1 4294967295) fun x3 =>
  lt (Int.fdiv a1 (2 ^ 32)) fun x4 =>
  lt (IntKind.u64.wrap (x1 * x3)) fun x5 =>
  lt (IntKind.u64.wrap ((IntKind.u64.wrap (x2 * x3)) + (Int.fdiv x5 (2 ^ 32)))) fun x6 =>
  lt (bits .and .u64 x6 4294967295) fun x7 =>
  lt (Int.fdiv x6 (2 ^ 32)) fun x8 =>
  lt (IntKind.u64.wrap (x7 + (IntKind.u64.wrap (x1 * x4)))) fun x9 =>
  lt (IntKind.u64.wrap ((IntKind.u64.wrap ((IntKind.u64.wrap (x2 * x4)) + x8)) + (Int.fdiv x9 (2 ^ 32)))) fun x10 =>
  lt (IntKind.u64.wrap (a0 * a1)) fun x11 =>
  some (x10, x11)

/-! 78 (postilion/field.wide).add -/
def field_wide_add.f (a0 : List Int) (a1 : Int) (a2 : Int) : Option (List Int) :=
  bd (math_bits_Mul64.f a1 a2) fun r3 =>
  lt r3.1 fun x4 =>
  lt r3.2 fun x5 =>
  chk (0 ≤ x5 ∧ 0 ≤ (a0.getD 1 0) ∧ 0 ≤ (0 : Int) ∧ (0 : Int) ≤ 1) <|
  lt ((x5 + (a0.getD 1 0) + 0) % 18446744073709551616) fun x7 =>
  lt ((x5 + (a0.getD 1 0) + 0) / 18446744073709551616) fun x8 =>
  lt [(IntKind.u64.wrap ((IntKind.u64.wrap ((a0.getD 0 0) + x4)) + x8)), x7] fun x9 =>
  some (x9)

/-! 79 (postilion/field.wide).shifted -/
def field_wide_shifted.f (a0 : List Int) : Option (Int) :=
  lt (bits .or .u64 (IntKind.u64.wrap ((a0.getD 0 0) * 2 ^ 13)) (Int.fdiv (a0.getD 1 0) (2 ^ 51))) fun x2 =>
  some (x2)

/-! 80 (postilion/field.Element).carried -/
def field_Element_carried.f (a0 : List Int) : Option (List Int) :=
  lt [(Int.fdiv (a0.getD 0 0) (2 ^ 51)), (Int.fdiv (a0.getD 1 0) (2 ^ 51)), (Int.fdiv (a0.getD 2 0) (2 ^ 51)), (Int.fdiv (a0.getD 3 0) (2 ^ 51)), (Int.fdiv (a0.getD 4 0) (2 ^ 51))] fun x4 =>
  lt [(IntKind.u64.wrap ((bits .and .u64 (a0.getD 0 0) 2251799813685247) + (IntKind.u64.wrap (19 * (x4.getD 4 0))))), (IntKind.u64.wrap ((bits .and .u64 (a0.getD 1 0) 2251799813685247) + (x4.getD 0 0))), (IntKind.u64.wrap ((bits .and .u64 (a0.getD 2 0) 2251799813685247) + (x4.getD 1 0))), (IntKind.u64.wrap ((bits .and .u64 (a0.getD 3 0) 2251799813685247) + (x4.getD 2 0))), (IntKind.u64.wrap ((bits .and .u64 (a0.getD 4 0) 2251799813685247) + (x4.getD 3 0)))] fun x5 =>
  some (x5)

/-! 48 (postilion/field.Element).Times -/
def field_Element_Times.f (a0 : List Int) (a1 : List Int) : Option (List Int) :=
  lt [0, (IntKind.u64.wrap (19 * (a1.getD 1 0))), (IntKind.u64.wrap (19 * (a1.getD 2 0))), (IntKind.u64.wrap (19 * (a1.getD 3 0))), (IntKind.u64.wrap (19 * (a1.getD 4 0)))] fun x5 =>
  bd (field_wide_add.f (List.replicate 2 (0 : Int)) (a0.getD 0 0) (a1.getD 0 0)) fun r6 =>
  bd (field_wide_add.f r6 (a0.getD 1 0) (x5.getD 4 0)) fun r7 =>
  bd (field_wide_add.f r7 (a0.getD 2 0) (x5.getD 3 0)) fun r8 =>
  bd (field_wide_add.f r8 (a0.getD 3 0) (x5.getD 2 0)) fun r9 =>
  bd (field_wide_add.f r9 (a0.getD 4 0) (x5.getD 1 0)) fun r10 =>
  bd (field_wide_add.f (List.replicate 2 (0 : Int)) (a0.getD 0 0) (a1.getD 1 0)) fun r11 =>
  bd (field_wide_add.f r11 (a0.getD 1 0) (a1.getD 0 0)) fun r12 =>
  bd (field_wide_add.f r12 (a0.getD 2 0) (x5.getD 4 0)) fun r13 =>
  bd (field_wide_add.f r13 (a0.getD 3 0) (x5.getD 3 0)) fun r14 =>
  bd (field_wide_add.f r14 (a0.getD 4 0) (x5.getD 2 0)) fun r15 =>
  bd (field_wide_add.f (List.replicate 2 (0 : Int)) (a0.getD 0 0) (a1.getD 2 0)) fun r16 =>
  bd (field_wide_add.f r16 (a0.getD 1 0) (a1.getD 1 0)) fun r17 =>
  bd (field_wide_add.f r17 (a0.getD 2 0) (a1.getD 0 0)) fun r18 =>
  bd (field_wide_add.f r18 (a0.getD 3 0) (x5.getD 4 0)) fun r19 =>
  bd (field_wide_add.f r19 (a0.getD 4 0) (x5.getD 3 0)) fun r20 =>
  bd (field_wide_add.f (List.replicate 2 (0 : Int)) (a0.getD 0 0) (a1.getD 3 0)) fun r21 =>
  bd (field_wide_add.f r21 (a0.getD 1 0) (a1.getD 2 0)) fun r22 =>
  bd (field_wide_add.f r22 (a0.getD 2 0) (a1.getD 1 0)) fun r23 =>
  bd (field_wide_add.f r23 (a0.getD 3 0) (a1.getD 0 0)) fun r24 =>
  bd (field_wide_add.f r24 (a0.getD 4 0) (x5.getD 4 0)) fun r25 =>
  bd (field_wide_add.f (List.replicate 2 (0 : Int)) (a0.getD 0 0) (a1.getD 4 0)) fun r26 =>
  bd (field_wide_add.f r26 (a0.getD 1 0) (a1.getD 3 0)) fun r27 =>
  bd (field_wide_add.f r27 (a0.getD 2 0) (a1.getD 2 0)) fun r28 =>
  bd (field_wide_add.f r28 (a0.getD 3 0) (a1.getD 1 0)) fun r29 =>
  bd (field_wide_add.f r29 (a0.getD 4 0) (a1.getD 0 0)) fun r30 =>
  bd (field_wide_shifted.f (((r10 ++ r15 ++ r20 ++ r25 ++ r30).drop 8).take 2)) fun r32 =>
  bd (field_wide_shifted.f (((r10 ++ r15 ++ r20 ++ r25 ++ r30).drop 0).take 2)) fun r33 =>
  bd (field_wide_shifted.f (((r10 ++ r15 ++ r20 ++ r25 ++ r30).drop 2).take 2)) fun r34 =>
  bd (field_wide_shifted.f (((r10 ++ r15 ++ r20 ++ r25 ++ r30).drop 4).take 2)) fun r35 =>
  bd (field_wide_shifted.f (((r10 ++ r15 ++ r20 ++ r25 ++ r30).drop 6).take 2)) fun r36 =>
  bd (field_Element_carried.f [(IntKind.u64.wrap ((bits .and .u64 ((r10 ++ r15 ++ r20 ++ r25 ++ r30).getD 1 0) 2251799813685247) + (IntKind.u64.wrap (19 * r32)))), (IntKind.u64.wrap ((bits .and .u64 ((r10 ++ r15 ++ r20 ++ r25 ++ r30).getD 3 0) 2251799813685247) + r33)), (IntKind.u64.wrap ((bits .and .u64 ((r10 ++ r15 ++ r20 ++ r25 ++ r30).getD 5 0) 2251799813685247) + r34)), (IntKind.u64.wrap ((bits .and .u64 ((r10 ++ r15 ++ r20 ++ r25 ++ r30).getD 7 0) 2251799813685247) + r35)), (IntKind.u64.wrap ((bits .and .u64 ((r10 ++ r15 ++ r20 ++ r25 ++ r30).getD 9 0) 2251799813685247) + r36))]) fun r37 =>
  some (r37)

/-! 33 postilion/point.B -/
def point_B.f  : Option (List Int) :=
  lt [1738742601995546, 1146398526822698, 2070867633025821, 562264141797630, 587772402128613] fun x3 =>
  lt [1801439850948184, 1351079888211148, 450359962737049, 900719925474099, 1801439850948198] fun x5 =>
  bd (field_One.f ) fun r6 =>
  bd (field_Element_Times.f x3 x5) fun r7 =>
  some ((x3 ++ x5 ++ r6 ++ r7))

/-! 81 (postilion/field.Element).squared -/
def field_Element_squared.p1 : Nat → Int → List Int → Int → Option (List Int)
  | 0, _, _, _ => none
  | k + 1, a1, y3, y4 =>
    br (decide (y4 < a1)) (
      bd (field_Element_Times.f y3 y3) fun r5 =>
      lt (IntKind.i64.wrap (y4 + 1)) fun x6 =>
      field_Element_squared.p1 k a1 r5 x6
    ) (
      some (y3)
    )
def field_Element_squared.f (k : Nat) (a0 : List Int) (a1 : Int) : Option (List Int) :=
  bd (field_Element_squared.p1 k a1 a0 0) fun m8 =>
  some (m8)

/-! 84 (postilion/field.Element).chain -/
def field_Element_chain.f (k : Nat) (a0 : List Int) : Option (List Int × List Int) :=
  bd (field_Element_squared.f k a0 1) fun r4 =>
  bd (field_Element_squared.f k r4 2) fun r6 =>
  bd (field_Element_Times.f r6 a0) fun r7 =>
  bd (field_Element_Times.f r7 r4) fun r9 =>
  bd (field_Element_squared.f k r9 1) fun r11 =>
  bd (field_Element_Times.f r11 r7) fun r12 =>
  bd (field_Element_squared.f k r12 5) fun r14 =>
  bd (field_Element_Times.f r14 r12) fun r15 =>
  bd (field_Element_squared.f k r15 10) fun r17 =>
  bd (field_Element_Times.f r17 r15) fun r18 =>
  bd (field_Element_squared.f k r18 20) fun r20 =>
  bd (field_Element_Times.f r20 r18) fun r21 =>
  bd (field_Element_squared.f k r21 10) fun r23 =>
  bd (field_Element_Times.f r23 r15) fun r24 =>
  bd (field_Element_squared.f k r24 50) fun r26 =>
  bd (field_Element_Times.f r26 r24) fun r27 =>
  bd (field_Element_squared.f k r27 100) fun r29 =>
  bd (field_Element_Times.f r29 r27) fun r30 =>
  bd (field_Element_squared.f k r30 50) fun r32 =>
  bd (field_Element_Times.f r32 r24) fun r33 =>
  some (r33, r9)

/-! 55 (postilion/field.Element).Inverse -/
def field_Element_Inverse.f (k : Nat) (a0 : List Int) : Option (List Int) :=
  bd (field_Element_chain.f k a0) fun r3 =>
  bd (field_Element_squared.f k r3.1 5) fun r6 =>
  bd (field_Element_Times.f r6 r3.2) fun r7 =>
  some (r7)

/-! 56 (postilion/field.Element).Bytes -/
def field_Element_Bytes.p1 : Nat → Int → List Int → Int → Int → Option (Int)
  | 0, _, _, _, _ => none
  | k + 1, x6, r4, y7, y8 =>
    br (decide (y8 < x6)) (
      chk (0 ≤ y8 ∧ y8 < (5 - 1)) <|
      lt (r4.getD (1 + (y8 : Int).toNat * 1) 0) fun x10 =>
      lt (Int.fdiv (IntKind.u64.wrap (x10 + y7)) (2 ^ 51)) fun x11 =>
      lt (IntKind.i64.wrap (y8 + 1)) fun x12 =>
      field_Element_Bytes.p1 k x6 r4 x11 x12
    ) (
      some (y7)
    )
def field_Element_Bytes.p2 : Nat → List Int → Int → Option (List Int)
  | 0, _, _ => none
  | k + 1, y16, y17 =>
    br (decide (y17 < 4)) (
      chk (0 ≤ (IntKind.i64.wrap (y17 + 1)) ∧ (IntKind.i64.wrap (y17 + 1)) < 5) <|
      chk (0 ≤ y17 ∧ y17 < 5) <|
      lt (y16.set ((IntKind.i64.wrap (y17 + 1)) : Int).toNat (IntKind.u64.wrap ((y16.getD ((IntKind.i64.wrap (y17 + 1)) : Int).toNat 0) + (Int.fdiv (y16.getD (y17 : Int).toNat 0) (2 ^ 51))))) fun x20 =>
      lt (x20.set (y17 : Int).toNat (bits .and .u64 (x20.getD (y17 : Int).toNat 0) 2251799813685247)) fun x21 =>
      lt (IntKind.i64.wrap (y17 + 1)) fun x22 =>
      field_Element_Bytes.p2 k x21 x22
    ) (
      some (y16)
    )
def field_Element_Bytes.p4 : Nat → Int → Int → List Int → Int → Option (List Int)
  | 0, _, _, _, _ => none
  | k + 1, y28, x30, y31, y32 =>
    br (decide (y32 < 8)) (
      chk (0 ≤ (IntKind.i64.wrap (8 * y32))) <|
      chk (0 ≤ (IntKind.i64.wrap ((IntKind.i64.wrap (8 * y28)) + y32)) ∧ (IntKind.i64.wrap ((IntKind.i64.wrap (8 * y28)) + y32)) < 32) <|
      lt (y31.set ((IntKind.i64.wrap ((IntKind.i64.wrap (8 * y28)) + y32)) : Int).toNat (IntKind.u8.wrap (Int.fdiv x30 (2 ^ (min ((IntKind.i64.wrap (8 * y32)) : Int).toNat (IntKind.u64).bits))))) fun x35 =>
      lt (IntKind.i64.wrap (y32 + 1)) fun x36 =>
      field_Element_Bytes.p4 k y28 x30 x35 x36
    ) (
      some (y31)
    )
def field_Element_Bytes.p3 : Nat → List Int → List Int → Int → Option (List Int)
  | 0, _, _, _ => none
  | k + 1, x26, y27, y28 =>
    br (decide (y28 < 4)) (
      chk (0 ≤ y28 ∧ y28 < 4) <|
      lt (x26.getD (y28 : Int).toNat 0) fun x30 =>
      bd (field_Element_Bytes.p4 k y28 x30 y27 0) fun m38 =>
      lt (IntKind.i64.wrap (y28 + 1)) fun x39 =>
      field_Element_Bytes.p3 k x26 m38 x39
    ) (
      some (y27)
    )
def field_Element_Bytes.f (k : Nat) (a0 : List Int) : Option (List Int) :=
  bd (field_Element_carried.f a0) fun r3 =>
  bd (field_Element_carried.f r3) fun r4 =>
  lt (Int.fdiv (IntKind.u64.wrap ((r4.getD 0 0) + 19)) (2 ^ 51)) fun x5 =>
  lt (((5 - 1) : Nat) : Int) fun x6 =>
  bd (field_Element_Bytes.p1 k x6 r4 x5 0) fun m14 =>
  lt (r4.set 0 (IntKind.u64.wrap ((r4.getD 0 0) + (IntKind.u64.wrap (19 * m14))))) fun x15 =>
  bd (field_Element_Bytes.p2 k x15 0) fun m24 =>
  lt [(bits .or .u64 ((m24.set 4 (bits .and .u64 (m24.getD 4 0) 2251799813685247)).getD 0 0) (IntKind.u64.wrap (((m24.set 4 (bits .and .u64 (m24.getD 4 0) 2251799813685247)).getD 1 0) * 2 ^ 51))), (bits .or .u64 (Int.fdiv ((m24.set 4 (bits .and .u64 (m24.getD 4 0) 2251799813685247)).getD 1 0) (2 ^ 13)) (IntKind.u64.wrap (((m24.set 4 (bits .and .u64 (m24.getD 4 0) 2251799813685247)).getD 2 0) * 2 ^ 38))), (bits .or .u64 (Int.fdiv ((m24.set 4 (bits .and .u64 (m24.getD 4 0) 2251799813685247)).getD 2 0) (2 ^ 26)) (IntKind.u64.wrap (((m24.set 4 (bits .and .u64 (m24.getD 4 0) 2251799813685247)).getD 3 0) * 2 ^ 25))), (bits .or .u64 (Int.fdiv ((m24.set 4 (bits .and .u64 (m24.getD 4 0) 2251799813685247)).getD 3 0) (2 ^ 39)) (IntKind.u64.wrap (((m24.set 4 (bits .and .u64 (m24.getD 4 0) 2251799813685247)).getD 4 0) * 2 ^ 12)))] fun x26 =>
  bd (field_Element_Bytes.p3 k x26 (List.replicate 32 (0 : Int)) 0) fun m41 =>
  some (m41)

/-! 57 (postilion/field.Element).Odd -/
def field_Element_Odd.f (k : Nat) (a0 : List Int) : Option (Bool) :=
  bd (field_Element_Bytes.f k a0) fun r2 =>
  some (((bits .and .u8 (r2.getD 0 0) 1) == 1))

/-! 32 (postilion/point.Point).Bytes -/
def point_Point_Bytes.p1 (r9 : Bool) (r6 : List Int) : Option (List Int) :=
  br r9 (
    some ((r6.set 31 (bits .or .u8 (r6.getD 31 0) 128)))
  ) (
    some (r6)
  )
def point_Point_Bytes.f (k : Nat) (a0 : List Int) : Option (List Int) :=
  bd (field_Element_Inverse.f k ((a0.drop 10).take 5)) fun r3 =>
  bd (field_Element_Times.f ((a0.drop 5).take 5) r3) fun r5 =>
  bd (field_Element_Bytes.f k r5) fun r6 =>
  bd (field_Element_Times.f ((a0.drop 0).take 5) r3) fun r8 =>
  bd (field_Element_Odd.f k r8) fun r9 =>
  bd (point_Point_Bytes.p1 r9 r6) fun m11 =>
  some (m11)

/-! 10 postilion/point.Generator -/
def point_Generator.f (k : Nat)  : Option (List Int) :=
  bd (point_B.f ) fun r2 =>
  bd (point_Point_Bytes.f k r2) fun r3 =>
  some (r3)

/-! 77 postilion/field.Of$1 -/
def field_Of_1.p1 : Nat → Int → List Int → Int → Int → Option (Int)
  | 0, _, _, _, _ => none
  | k + 1, a0, a1, y1, y2 =>
    br (decide (y2 ≥ 0)) (
      chk (0 ≤ (IntKind.i64.wrap (a0 + y2)) ∧ (IntKind.i64.wrap (a0 + y2)) < 32) <|
      lt (bits .or .u64 (IntKind.u64.wrap (y1 * 2 ^ 8)) (IntKind.u64.wrap (a1.getD ((IntKind.i64.wrap (a0 + y2)) : Int).toNat 0))) fun x4 =>
      lt (IntKind.i64.wrap (y2 - 1)) fun x5 =>
      field_Of_1.p1 k a0 a1 x4 x5
    ) (
      some (y1)
    )
def field_Of_1.f (k : Nat) (a0 : Int) (a1 : List Int) : Option (Int) :=
  bd (field_Of_1.p1 k a0 a1 0 7) fun m7 =>
  some (m7)

/-! 47 postilion/field.Of -/
def field_Of.f (k : Nat) (a0 : List Int) : Option (List Int) :=
  bd (field_Of_1.f k 0 a0) fun r3 =>
  bd (field_Of_1.f k 6 a0) fun r4 =>
  bd (field_Of_1.f k 12 a0) fun r5 =>
  bd (field_Of_1.f k 19 a0) fun r6 =>
  bd (field_Of_1.f k 24 a0) fun r7 =>
  lt [(bits .and .u64 r3 2251799813685247), (bits .and .u64 (Int.fdiv r4 (2 ^ 3)) 2251799813685247), (bits .and .u64 (Int.fdiv r5 (2 ^ 6)) 2251799813685247), (bits .and .u64 (Int.fdiv r6 (2 ^ 1)) 2251799813685247), (bits .and .u64 (Int.fdiv r7 (2 ^ 12)) 2251799813685247)] fun x9 =>
  lt (x9.set 0 (IntKind.u64.wrap ((x9.getD 0 0) + (IntKind.u64.wrap (19 * (IntKind.u64.wrap (Int.fdiv (a0.getD 31 0) (2 ^ 7)))))))) fun x10 =>
  some (x10)

/-! 46 postilion/field.Canonical -/
def field_Canonical.f (k : Nat) (a0 : List Int) : Option (Bool) :=
  bd (field_Of.f k a0) fun r2 =>
  bd (field_Element_Bytes.f k r2) fun r3 =>
  some ((r3 == a0))

/-! 50 (postilion/field.Element).Minus -/
def field_Element_Minus.f (a0 : List Int) (a1 : List Int) : Option (List Int) :=
  bd (field_Element_carried.f [(IntKind.u64.wrap ((IntKind.u64.wrap ((a0.getD 0 0) + 4503599627370458)) - (a1.getD 0 0))), (IntKind.u64.wrap ((IntKind.u64.wrap ((a0.getD 1 0) + 4503599627370494)) - (a1.getD 1 0))), (IntKind.u64.wrap ((IntKind.u64.wrap ((a0.getD 2 0) + 4503599627370494)) - (a1.getD 2 0))), (IntKind.u64.wrap ((IntKind.u64.wrap ((a0.getD 3 0) + 4503599627370494)) - (a1.getD 3 0))), (IntKind.u64.wrap ((IntKind.u64.wrap ((a0.getD 4 0) + 4503599627370494)) - (a1.getD 4 0)))]) fun r4 =>
  some (r4)

/-! 52 postilion/point.curve -/
def point_curve.f  : Option (List Int) :=
  lt [929955233495203, 466365720129213, 1662059464998953, 2033849074728123, 1442794654840575] fun x2 =>
  some (x2)

/-! 53 (postilion/field.Element).Plus -/
def field_Element_Plus.p1 : Nat → List Int → List Int → Int → Option (List Int)
  | 0, _, _, _ => none
  | k + 1, a1, y4, y5 =>
    br (decide (y5 < 5)) (
      chk (0 ≤ y5 ∧ y5 < 5) <|
      lt (y4.set (y5 : Int).toNat (IntKind.u64.wrap ((y4.getD (y5 : Int).toNat 0) + (a1.getD (y5 : Int).toNat 0)))) fun x7 =>
      lt (IntKind.i64.wrap (y5 + 1)) fun x8 =>
      field_Element_Plus.p1 k a1 x7 x8
    ) (
      some (y4)
    )
def field_Element_Plus.f (k : Nat) (a0 : List Int) (a1 : List Int) : Option (List Int) :=
  bd (field_Element_Plus.p1 k a1 a0 0) fun m10 =>
  bd (field_Element_carried.f m10) fun r11 =>
  some (r11)

/-! 82 (postilion/field.Element).Power58 -/
def field_Element_Power58.f (k : Nat) (a0 : List Int) : Option (List Int) :=
  bd (field_Element_chain.f k a0) fun r3 =>
  bd (field_Element_squared.f k r3.1 2) fun r6 =>
  bd (field_Element_Times.f r6 a0) fun r7 =>
  some (r7)

/-! 54 (postilion/field.Element).Is -/
def field_Element_Is.f (k : Nat) (a0 : List Int) (a1 : List Int) : Option (Bool) :=
  bd (field_Element_Bytes.f k a0) fun r3 =>
  bd (field_Element_Bytes.f k a1) fun r4 =>
  some ((r3 == r4))

/-! 83 postilion/field.RootOfMinusOne -/
def field_RootOfMinusOne.f  : Option (List Int) :=
  lt [1718705420411056, 234908883556509, 2233514472574048, 2117202627021982, 765476049583133] fun x2 =>
  some (x2)

/-! 49 postilion/field.Ratio -/
def field_Ratio.p1 (k : Nat) (r17 : Bool) (a1 : List Int) (r12 : List Int) (r15 : List Int) : Option (List Int × List Int) :=
  br (!r17) (
    bd (field_RootOfMinusOne.f ) fun r18 =>
    bd (field_Element_Times.f r12 r18) fun r19 =>
    bd (field_Element_squared.f k r19 1) fun r20 =>
    bd (field_Element_Times.f a1 r20) fun r21 =>
    some (r19, r21)
  ) (
    some (r12, r15)
  )
def field_Ratio.p2 (r25 : Bool) (m23 : List Int) : Option (List Int) :=
  br r25 (
    bd (field_Element_Minus.f (List.replicate 5 (0 : Int)) m23) fun r26 =>
    some (r26)
  ) (
    some (m23)
  )
def field_Ratio.f (k : Nat) (a0 : List Int) (a1 : List Int) : Option (List Int × Bool) :=
  bd (field_Element_squared.f k a1 1) fun r4 =>
  bd (field_Element_Times.f r4 a1) fun r5 =>
  bd (field_Element_Times.f a0 r5) fun r7 =>
  bd (field_Element_squared.f k r5 1) fun r8 =>
  bd (field_Element_Times.f a0 r8) fun r9 =>
  bd (field_Element_Times.f r9 a1) fun r10 =>
  bd (field_Element_Power58.f k r10) fun r11 =>
  bd (field_Element_Times.f r7 r11) fun r12 =>
  bd (field_Element_squared.f k r12 1) fun r14 =>
  bd (field_Element_Times.f a1 r14) fun r15 =>
  bd (field_Element_Is.f k r15 a0) fun r17 =>
  bd (field_Ratio.p1 k r17 a1 r12 r15) fun (m23, m24) =>
  bd (field_Element_Odd.f k m23) fun r25 =>
  bd (field_Ratio.p2 r25 m23) fun m28 =>
  bd (field_Element_Is.f k m24 a0) fun r29 =>
  some (m28, r29)

/-! 30 postilion/point.Of -/
def point_Of.p1 (k : Nat) (a0 : List Int) (r14 : List Int × Bool) : Option (Bool) :=
  br (!r14.2) (
    some (true)
  ) (
    br ((Int.fdiv (a0.getD 31 0) (2 ^ 7)) == 1) (
      bd (field_Element_Is.f k r14.1 (List.replicate 5 (0 : Int))) fun r17 =>
      some (r17)
    ) (
      some (false)
    )
  )
def point_Of.p2 (a0 : List Int) (r14 : List Int × Bool) : Option (List Int) :=
  br ((Int.fdiv (a0.getD 31 0) (2 ^ 7)) == 1) (
    bd (field_Element_Minus.f (List.replicate 5 (0 : Int)) r14.1) fun r20 =>
    some (r20)
  ) (
    some (r14.1)
  )
def point_Of.f (k : Nat) (a0 : List Int) : Option (List Int × Bool) :=
  bd (field_Canonical.f k (a0.set 31 (bits .and .u8 (a0.getD 31 0) 127))) fun r3 =>
  br (!r3) (
    some ((List.replicate 20 (0 : Int)), false)
  ) (
    bd (field_Of.f k (a0.set 31 (bits .and .u8 (a0.getD 31 0) 127))) fun r4 =>
    bd (field_Element_Times.f r4 r4) fun r6 =>
    bd (field_One.f ) fun r8 =>
    bd (field_Element_Minus.f r6 r8) fun r9 =>
    bd (point_curve.f ) fun r10 =>
    bd (field_Element_Times.f r6 r10) fun r11 =>
    bd (field_One.f ) fun r12 =>
    bd (field_Element_Plus.f k r11 r12) fun r13 =>
    bd (field_Ratio.f k r9 r13) fun r14 =>
    bd (point_Of.p1 k a0 r14) fun m19 =>
    br m19 (
      some ((List.replicate 20 (0 : Int)), false)
    ) (
      bd (point_Of.p2 a0 r14) fun m22 =>
      bd (field_One.f ) fun r23 =>
      bd (field_Element_Times.f m22 r4) fun r24 =>
      some ((m22 ++ r4 ++ r23 ++ r24), true)
    )
  )

/-! 31 (postilion/point.Point).Minus -/
def point_Point_Minus.f (a0 : List Int) : Option (List Int) :=
  bd (field_Element_Minus.f (List.replicate 5 (0 : Int)) ((a0.drop 0).take 5)) fun r4 =>
  bd (field_Element_Minus.f (List.replicate 5 (0 : Int)) ((a0.drop 15).take 5)) fun r5 =>
  some ((r4 ++ ((a0.drop 5).take 5) ++ ((a0.drop 10).take 5) ++ r5))

/-! 9 postilion/point.Neg -/
def point_Neg.f (k : Nat) (a0 : List Int) : Option (List Int × Int) :=
  bd (point_Of.f k a0) fun r3 =>
  br (!r3.2) (
    some ((List.replicate 32 (0 : Int)), 2)
  ) (
    bd (point_Point_Minus.f r3.1) fun r5 =>
    bd (point_Point_Bytes.f k r5) fun r6 =>
    some (r6, 0)
  )

/-! 15 postilion/point.Check -/
def point_Check.f (k : Nat) (a0 : List Int) : Option (Int) :=
  bd (point_Of.f k a0) fun r2 =>
  br (!r2.2) (
    some (2)
  ) (
    some (0)
  )

/-! 11 postilion/postilionlaw06.awake -/
def postilionlaw06_awake.p1 (k : Nat) (r1 : List Int) : Option (Bool) :=
  br ((r1.getD 0 0) == 88) (
    br ((r1.getD 31 0) == 102) (
      bd (point_Check.f k r1) fun r3 =>
      some ((r3 == 0))
    ) (
      some (false)
    )
  ) (
    some (false)
  )
def postilionlaw06_awake.f (k : Nat)  : Option (Bool) :=
  bd (point_Generator.f k ) fun r1 =>
  bd (postilionlaw06_awake.p1 k r1) fun m5 =>
  some (m5)

/-! 58 postilion/point.Origin -/
def point_Origin.f  : Option (List Int) :=
  bd (field_One.f ) fun r2 =>
  bd (field_One.f ) fun r3 =>
  lt ((List.replicate 5 (0 : Int)) ++ r2 ++ r3 ++ (List.replicate 5 (0 : Int))) fun x4 =>
  some (x4)

/-! 60 postilion/point.twice -/
def point_twice.f  : Option (List Int) :=
  lt [1859910466990425, 932731440258426, 1072319116312658, 1815898335770999, 633789495995903] fun x2 =>
  some (x2)

/-! 35 (postilion/point.Point).Plus -/
def point_Point_Plus.f (k : Nat) (a0 : List Int) (a1 : List Int) : Option (List Int) :=
  bd (field_Element_Minus.f ((a0.drop 5).take 5) ((a0.drop 0).take 5)) fun r4 =>
  bd (field_Element_Minus.f ((a1.drop 5).take 5) ((a1.drop 0).take 5)) fun r5 =>
  bd (field_Element_Times.f r4 r5) fun r6 =>
  bd (field_Element_Plus.f k ((a0.drop 5).take 5) ((a0.drop 0).take 5)) fun r8 =>
  bd (field_Element_Plus.f k ((a1.drop 5).take 5) ((a1.drop 0).take 5)) fun r9 =>
  bd (field_Element_Times.f r8 r9) fun r10 =>
  bd (point_twice.f ) fun r12 =>
  bd (field_Element_Times.f ((a0.drop 15).take 5) r12) fun r13 =>
  bd (field_Element_Times.f r13 ((a1.drop 15).take 5)) fun r14 =>
  bd (field_Element_Times.f ((a0.drop 10).take 5) ((a1.drop 10).take 5)) fun r16 =>
  bd (field_Element_Plus.f k r16 r16) fun r18 =>
  bd (field_Element_Minus.f r10 r6) fun r19 =>
  bd (field_Element_Minus.f r18 r14) fun r20 =>
  bd (field_Element_Plus.f k r18 r14) fun r21 =>
  bd (field_Element_Plus.f k r10 r6) fun r22 =>
  bd (field_Element_Times.f r19 r20) fun r27 =>
  bd (field_Element_Times.f r21 r22) fun r28 =>
  bd (field_Element_Times.f r20 r21) fun r29 =>
  bd (field_Element_Times.f r19 r22) fun r30 =>
  some ((r27 ++ r28 ++ r29 ++ r30))

/-! 59 (postilion/point.Point).Double -/
def point_Point_Double.f (k : Nat) (a0 : List Int) : Option (List Int) :=
  bd (field_Element_Times.f ((a0.drop 0).take 5) ((a0.drop 0).take 5)) fun r3 =>
  bd (field_Element_Times.f ((a0.drop 5).take 5) ((a0.drop 5).take 5)) fun r4 =>
  bd (field_Element_Times.f ((a0.drop 10).take 5) ((a0.drop 10).take 5)) fun r7 =>
  bd (field_Element_Plus.f k r7 r7) fun r9 =>
  bd (field_Element_Plus.f k ((a0.drop 0).take 5) ((a0.drop 5).take 5)) fun r10 =>
  bd (field_Element_Plus.f k r3 r4) fun r12 =>
  bd (field_Element_Times.f r10 r10) fun r14 =>
  bd (field_Element_Minus.f r12 r14) fun r15 =>
  bd (field_Element_Minus.f r3 r4) fun r17 =>
  bd (field_Element_Plus.f k r9 r17) fun r19 =>
  bd (field_Element_Times.f r15 r19) fun r21 =>
  bd (field_Element_Times.f r17 r12) fun r22 =>
  bd (field_Element_Times.f r19 r17) fun r23 =>
  bd (field_Element_Times.f r15 r12) fun r24 =>
  some ((r21 ++ r22 ++ r23 ++ r24))

/-! 34 (postilion/point.Point).Times -/
def point_Point_Times.p1 : Nat → List Int → List Int → Int → Option (List Int)
  | 0, _, _, _ => none
  | k + 1, a0, y6, y7 =>
    br (decide (y7 < 16)) (
      chk (0 ≤ (IntKind.i64.wrap (y7 - 1)) ∧ (IntKind.i64.wrap (y7 - 1)) < 16) <|
      bd (point_Point_Plus.f k ((y6.drop (((IntKind.i64.wrap (y7 - 1)) : Int).toNat * 20)).take 20) a0) fun r9 =>
      chk (0 ≤ y7 ∧ y7 < 16) <|
      lt (IntKind.i64.wrap (y7 + 1)) fun x11 =>
      point_Point_Times.p1 k a0 (setInts y6 ((y7 : Int).toNat * 20) r9) x11
    ) (
      some (y6)
    )
def point_Point_Times.p3 : Nat → List Int → List Int → List Int → Int → Option (List Int)
  | 0, _, _, _, _ => none
  | k + 1, x19, m13, y20, y21 =>
    br (decide (y21 < 2)) (
      chk (0 ≤ y21 ∧ y21 < 2) <|
      lt (x19.getD (y21 : Int).toNat 0) fun x23 =>
      chk (0 ≤ x23 ∧ x23 < 16) <|
      bd (point_Point_Double.f k y20) fun r25 =>
      bd (point_Point_Double.f k r25) fun r26 =>
      bd (point_Point_Double.f k r26) fun r27 =>
      bd (point_Point_Double.f k r27) fun r28 =>
      bd (point_Point_Plus.f k r28 ((m13.drop ((x23 : Int).toNat * 20)).take 20)) fun r29 =>
      lt (IntKind.i64.wrap (y21 + 1)) fun x30 =>
      point_Point_Times.p3 k x19 m13 r29 x30
    ) (
      some (y20)
    )
def point_Point_Times.p2 : Nat → List Int → List Int → List Int → Int → Option (List Int)
  | 0, _, _, _, _ => none
  | k + 1, a1, m13, y16, y17 =>
    br (decide (y17 ≥ 0)) (
      chk (0 ≤ y17 ∧ y17 < 32) <|
      lt [(Int.fdiv (a1.getD (y17 : Int).toNat 0) (2 ^ 4)), (bits .and .u8 (a1.getD (y17 : Int).toNat 0) 15)] fun x19 =>
      bd (point_Point_Times.p3 k x19 m13 y16 0) fun m32 =>
      lt (IntKind.i64.wrap (y17 - 1)) fun x33 =>
      point_Point_Times.p2 k a1 m13 m32 x33
    ) (
      some (y16)
    )
def point_Point_Times.f (k : Nat) (a0 : List Int) (a1 : List Int) : Option (List Int) :=
  bd (point_Origin.f ) fun r4 =>
  bd (point_Point_Times.p1 k a0 (r4 ++ a0 ++ (List.replicate 280 (0 : Int))) 2) fun m13 =>
  bd (point_Origin.f ) fun r14 =>
  bd (point_Point_Times.p2 k a1 m13 r14 31) fun m35 =>
  some (m35)

/-! 12 postilion/point.Base -/
def point_Base.f (k : Nat) (a0 : List Int) : Option (List Int) :=
  bd (point_B.f ) fun r3 =>
  bd (point_Point_Times.f k r3 a0) fun r4 =>
  bd (point_Point_Bytes.f k r4) fun r5 =>
  some (r5)

/-! 13 postilion/point.Zero -/
def point_Zero.f  : Option (List Int) :=
  some (((List.replicate 32 (0 : Int)).set 0 1))

/-! 3 postilion/postilionlaw06.PointOrder -/
def postilionlaw06_PointOrder.p1 (k : Nat) (x7 : Int) (x2 : List Int) (r5 : List Int × Int) : Option (Bool) :=
  bd (postilionlaw06_awake.f k ) fun r8 =>
  br r8 (
    bd (point_Base.f k x2) fun r9 =>
    bd (point_Zero.f ) fun r10 =>
    br (r9 == r10) (
      br (x7 == 0) (
        bd (point_Base.f k (x2.set 0 (IntKind.u8.wrap ((x2.getD 0 0) - 1)))) fun r11 =>
        br (r11 == r5.1) (
          bd (point_Base.f k ((List.replicate 32 (0 : Int)).set 0 1)) fun r12 =>
          bd (point_Generator.f k ) fun r13 =>
          some ((r12 == r13))
        ) (
          some (false)
        )
      ) (
        some (false)
      )
    ) (
      some (false)
    )
  ) (
    some (false)
  )
def postilionlaw06_PointOrder.f (k : Nat)  : Option (Bool) :=
  lt [237, 211, 245, 92, 26, 99, 18, 88, 214, 156, 247, 162, 222, 249, 222, 20, 0, 0, 0, 0, 0, 0, 0, 0, 0, 0, 0, 0, 0, 0, 0, 16] fun x2 =>
  bd (point_Generator.f k ) fun r4 =>
  bd (point_Neg.f k r4) fun r5 =>
  lt r5.2 fun x7 =>
  bd (postilionlaw06_PointOrder.p1 k x7 x2 r5) fun m15 =>
  some (m15)

/-! 14 postilion/point.Add -/
def point_Add.p1 (r4 : List Int × Bool) (r6 : List Int × Bool) : Option (Bool) :=
  br (!r4.2) (
    some (true)
  ) (
    some ((!r6.2))
  )
def point_Add.f (k : Nat) (a0 : List Int) (a1 : List Int) : Option (List Int × Int) :=
  bd (point_Of.f k a0) fun r4 =>
  bd (point_Of.f k a1) fun r6 =>
  bd (point_Add.p1 r4 r6) fun m9 =>
  br m9 (
    some ((List.replicate 32 (0 : Int)), 2)
  ) (
    bd (point_Point_Plus.f k r4.1 r6.1) fun r10 =>
    bd (point_Point_Bytes.f k r10) fun r11 =>
    some (r11, 0)
  )

/-! 16 postilion/point.Mul -/
def point_Mul.f (k : Nat) (a0 : List Int) (a1 : List Int) : Option (List Int × Int) :=
  bd (point_Of.f k a1) fun r4 =>
  br (!r4.2) (
    some ((List.replicate 32 (0 : Int)), 2)
  ) (
    bd (point_Point_Times.f k r4.1 a0) fun r6 =>
    bd (point_Point_Bytes.f k r6) fun r7 =>
    some (r7, 0)
  )

/-! 4 postilion/postilionlaw06.PointBytes -/
def postilionlaw06_PointBytes.p1 (x6 : Int) (r4 : List Int × Int) : Option (Bool) :=
  br (x6 == 2) (
    some ((r4.1 == (List.replicate 32 (0 : Int))))
  ) (
    some (false)
  )
def postilionlaw06_PointBytes.p2 (x6 : Int) (x12 : Int) (x15 : Int) (a0 : List Int) (r4 : List Int × Int) (r10 : List Int × Int) (r13 : List Int × Int) : Option (Bool) :=
  br (x6 == 0) (
    br (r4.1 == a0) (
      br (x12 == 0) (
        br (x15 == 0) (
          some ((r10.1 == r13.1))
        ) (
          some (false)
        )
      ) (
        some (false)
      )
    ) (
      some (false)
    )
  ) (
    some (false)
  )
def postilionlaw06_PointBytes.f (k : Nat) (a0 : List Int) : Option (Bool) :=
  bd (postilionlaw06_awake.f k ) fun r2 =>
  br (!r2) (
    some (false)
  ) (
    bd (point_Zero.f ) fun r3 =>
    bd (point_Add.f k a0 r3) fun r4 =>
    lt r4.2 fun x6 =>
    bd (point_Check.f k a0) fun r7 =>
    br (r7 != 0) (
      bd (postilionlaw06_PointBytes.p1 x6 r4) fun m9 =>
      some (m9)
    ) (
      bd (point_Add.f k a0 a0) fun r10 =>
      lt r10.2 fun x12 =>
      bd (point_Mul.f k ((List.replicate 32 (0 : Int)).set 0 2) a0) fun r13 =>
      lt r13.2 fun x15 =>
      bd (postilionlaw06_PointBytes.p2 x6 x12 x15 a0 r4 r10 r13) fun m17 =>
      some (m17)
    )
  )

/-! 5 postilion/postilionlaw06.PointGroup -/
def postilionlaw06_PointGroup.p1 (x13 : Int) (x16 : Int) (x19 : Int) (x22 : Int) (x25 : Int) (x28 : Int) (x31 : Int) (x35 : Int) : Option (Bool) :=
  br (x13 != 0) (
    some (true)
  ) (
    br (x16 != 0) (
      some (true)
    ) (
      br (x19 != 0) (
        some (true)
      ) (
        br (x22 != 0) (
          some (true)
        ) (
          br (x25 != 0) (
            some (true)
          ) (
            br (x28 != 0) (
              some (true)
            ) (
              br (x31 != 0) (
                some (true)
              ) (
                some ((x35 != 0))
              )
            )
          )
        )
      )
    )
  )
def postilionlaw06_PointGroup.p2 (r5 : List Int) (r11 : List Int × Int) (r14 : List Int × Int) (r17 : List Int × Int) (r23 : List Int × Int) (r29 : List Int × Int) (r33 : List Int × Int) : Option (Bool) :=
  br (r11.1 == r14.1) (
    br (r17.1 == r23.1) (
      bd (point_Zero.f ) fun r38 =>
      br (r29.1 == r38) (
        some ((r33.1 == r5))
      ) (
        some (false)
      )
    ) (
      some (false)
    )
  ) (
    some (false)
  )
def postilionlaw06_PointGroup.f (k : Nat) (a0 : List Int) (a1 : List Int) (a2 : List Int) : Option (Bool) :=
  bd (postilionlaw06_awake.f k ) fun r4 =>
  br (!r4) (
    some (false)
  ) (
    bd (point_Base.f k a0) fun r5 =>
    bd (point_Base.f k a1) fun r6 =>
    bd (point_Base.f k a2) fun r7 =>
    bd (point_Add.f k r5 r6) fun r11 =>
    lt r11.2 fun x13 =>
    bd (point_Add.f k r6 r5) fun r14 =>
    lt r14.2 fun x16 =>
    bd (point_Add.f k r11.1 r7) fun r17 =>
    lt r17.2 fun x19 =>
    bd (point_Add.f k r6 r7) fun r20 =>
    lt r20.2 fun x22 =>
    bd (point_Add.f k r5 r20.1) fun r23 =>
    lt r23.2 fun x25 =>
    bd (point_Neg.f k r5) fun r26 =>
    lt r26.2 fun x28 =>
    bd (point_Add.f k r5 r26.1) fun r29 =>
    lt r29.2 fun x31 =>
    bd (point_Zero.f ) fun r32 =>
    bd (point_Add.f k r5 r32) fun r33 =>
    lt r33.2 fun x35 =>
    bd (postilionlaw06_PointGroup.p1 x13 x16 x19 x22 x25 x28 x31 x35) fun m37 =>
    br m37 (
      some (false)
    ) (
      bd (postilionlaw06_PointGroup.p2 r5 r11 r14 r17 r23 r29 r33) fun m40 =>
      some (m40)
    )
  )

/-! 63 postilion/postilionref05.order -/
def postilionref05_order.f  : Option (List Int) :=
  lt [6346243789798364141, 1503914060200516822, 0, 1152921504606846976] fun x2 =>
  some (x2)

/-! 62 postilion/postilionref05.below -/
def postilionref05_below.p1 : Nat → List Int → List Int → Int → Option ((Unit) ⊕ (Bool))
  | 0, _, _, _ => none
  | k + 1, a0, a1, y3 =>
    br (decide (y3 ≥ 0)) (
      chk (0 ≤ y3 ∧ y3 < 4) <|
      lt ((a0.getD (y3 : Int).toNat 0) != (a1.getD (y3 : Int).toNat 0)) fun t5 =>
      br t5 (
        lt (decide ((a0.getD (y3 : Int).toNat 0) < (a1.getD (y3 : Int).toNat 0))) fun t6 =>
        some (.inr (t6))
      ) (
        lt (IntKind.i64.wrap (y3 - 1)) fun x7 =>
        postilionref05_below.p1 k a0 a1 x7
      )
    ) (
      some (.inl ())
    )
def postilionref05_below.f (k : Nat) (a0 : List Int) (a1 : List Int) : Option (Bool) :=
  bd (postilionref05_below.p1 k a0 a1 3) fun r8 => match r8 with
    | (.inl _) => some (false)
    | (.inr m9) => some (m9)

/-! 64 postilion/postilionref05.less -/
def postilionref05_less.p1 : Nat → List Int → List Int → List Int → Int → Int → Option (List Int)
  | 0, _, _, _, _, _ => none
  | k + 1, a0, a1, y5, y6, y7 =>
    br (decide (y7 < 4)) (
      chk (0 ≤ y7 ∧ y7 < 4) <|
      chk (0 ≤ (a0.getD (y7 : Int).toNat 0) ∧ (0 ≤ (a1.getD (y7 : Int).toNat 0) ∧ (a1.getD (y7 : Int).toNat 0) < 18446744073709551616) ∧ 0 ≤ y6 ∧ y6 ≤ 1) <|
      lt (if (a0.getD (y7 : Int).toNat 0) < (a1.getD (y7 : Int).toNat 0) + y6 then 1 else 0) fun x10 =>
      lt (y5.set (y7 : Int).toNat (((a0.getD (y7 : Int).toNat 0) - (a1.getD (y7 : Int).toNat 0) - y6) % 18446744073709551616)) fun x11 =>
      lt (IntKind.i64.wrap (y7 + 1)) fun x12 =>
      postilionref05_less.p1 k a0 a1 x11 x10 x12
    ) (
      some (y5)
    )
def postilionref05_less.f (k : Nat) (a0 : List Int) (a1 : List Int) : Option (List Int) :=
  bd (postilionref05_less.p1 k a0 a1 (List.replicate 4 (0 : Int)) 0 0) fun m14 =>
  some (m14)

/-! 37 postilion/postilionref05.plus -/
def postilionref05_plus.p1 : Nat → List Int → List Int → List Int → Int → Int → Option (List Int)
  | 0, _, _, _, _, _ => none
  | k + 1, a0, a1, y5, y6, y7 =>
    br (decide (y7 < 4)) (
      chk (0 ≤ y7 ∧ y7 < 4) <|
      chk (0 ≤ (a0.getD (y7 : Int).toNat 0) ∧ 0 ≤ (a1.getD (y7 : Int).toNat 0) ∧ 0 ≤ y6 ∧ y6 ≤ 1) <|
      lt (((a0.getD (y7 : Int).toNat 0) + (a1.getD (y7 : Int).toNat 0) + y6) / 18446744073709551616) fun x10 =>
      lt (y5.set (y7 : Int).toNat (((a0.getD (y7 : Int).toNat 0) + (a1.getD (y7 : Int).toNat 0) + y6) % 18446744073709551616)) fun x11 =>
      lt (IntKind.i64.wrap (y7 + 1)) fun x12 =>
      postilionref05_plus.p1 k a0 a1 x11 x10 x12
    ) (
      some (y5)
    )
def postilionref05_plus.p2 (k : Nat) (r16 : Bool) (m14 : List Int) : Option (List Int) :=
  br (!r16) (
    bd (postilionref05_order.f ) fun r17 =>
    bd (postilionref05_less.f k m14 r17) fun r18 =>
    some (r18)
  ) (
    some (m14)
  )
def postilionref05_plus.f (k : Nat) (a0 : List Int) (a1 : List Int) : Option (List Int) :=
  bd (postilionref05_plus.p1 k a0 a1 (List.replicate 4 (0 : Int)) 0 0) fun m14 =>
  bd (postilionref05_order.f ) fun r15 =>
  bd (postilionref05_below.f k m14 r15) fun r16 =>
  bd (postilionref05_plus.p2 k r16 m14) fun m20 =>
  some (m20)

/-! 38 postilion/postilionref05.mod -/
def postilionref05_mod.p3 (k : Nat) (t9 : Bool) (r6 : List Int) : Option (List Int) :=
  br t9 (
    bd (postilionref05_plus.f k r6 [1, 0, 0, 0]) fun r10 =>
    some (r10)
  ) (
    some (r6)
  )
def postilionref05_mod.p2 (k : Nat) (a0 : List Int) (y5 : Int) (y4 : List Int) : Option (List Int) :=
  bd (postilionref05_plus.f k y4 y4) fun r6 =>
  chk (0 ≤ (IntKind.i64.wrap (Int.tdiv y5 8)) ∧ (IntKind.i64.wrap (Int.tdiv y5 8)) < a0.length) <|
  chk (0 ≤ (IntKind.u64.wrap (Int.tmod y5 8))) <|
  lt ((bits .and .u8 (Int.fdiv (a0.getD ((IntKind.i64.wrap (Int.tdiv y5 8)) : Int).toNat 0) (2 ^ (min ((IntKind.u64.wrap (Int.tmod y5 8)) : Int).toNat (IntKind.u8).bits))) 1) == 1) fun t9 =>
  bd (postilionref05_mod.p3 k t9 r6) fun m12 =>
  some (m12)
def postilionref05_mod.p1 : Nat → List Int → List Int → Int → Option (List Int)
  | 0, _, _, _ => none
  | k + 1, a0, y4, y5 =>
    br (decide (y5 ≥ 0)) (
      bd (postilionref05_mod.p2 k a0 y5 y4) fun m14 =>
      lt (IntKind.i64.wrap (y5 - 1)) fun x15 =>
      postilionref05_mod.p1 k a0 m14 x15
    ) (
      some (y4)
    )
def postilionref05_mod.f (k : Nat) (a0 : List Int) : Option (List Int) :=
  lt (IntKind.i64.wrap ((IntKind.i64.wrap (8 * ((a0.length : Nat) : Int))) - 1)) fun x3 =>
  bd (postilionref05_mod.p1 k a0 (List.replicate 4 (0 : Int)) x3) fun m17 =>
  some (m17)

/-! 36 postilion/postilionref05.bytesOf -/
def postilionref05_bytesOf.p1 : Nat → List Int → List Int → Int → Option (List Int)
  | 0, _, _, _ => none
  | k + 1, a0, y4, y5 =>
    br (decide (y5 < 32)) (
      chk (0 ≤ (IntKind.i64.wrap (Int.tdiv y5 8)) ∧ (IntKind.i64.wrap (Int.tdiv y5 8)) < 4) <|
      chk (0 ≤ (IntKind.u64.wrap (IntKind.i64.wrap (8 * (Int.tmod y5 8))))) <|
      chk (0 ≤ y5 ∧ y5 < 32) <|
      lt (y4.set (y5 : Int).toNat (IntKind.u8.wrap (Int.fdiv (a0.getD ((IntKind.i64.wrap (Int.tdiv y5 8)) : Int).toNat 0) (2 ^ (min ((IntKind.u64.wrap (IntKind.i64.wrap (8 * (Int.tmod y5 8)))) : Int).toNat (IntKind.u64).bits))))) fun x9 =>
      lt (IntKind.i64.wrap (y5 + 1)) fun x10 =>
      postilionref05_bytesOf.p1 k a0 x9 x10
    ) (
      some (y4)
    )
def postilionref05_bytesOf.f (k : Nat) (a0 : List Int) : Option (List Int) :=
  bd (postilionref05_bytesOf.p1 k a0 (List.replicate 32 (0 : Int)) 0) fun m12 =>
  some (m12)

/-! 17 postilion/postilionref05.Add -/
def postilionref05_Add.f (k : Nat) (a0 : List Int) (a1 : List Int) : Option (List Int) :=
  bd (postilionref05_mod.f k a0) fun r4 =>
  bd (postilionref05_mod.f k a1) fun r5 =>
  bd (postilionref05_plus.f k r4 r5) fun r6 =>
  bd (postilionref05_bytesOf.f k r6) fun r7 =>
  some (r7)

/-! 18 postilion/postilionref05.MulAdd -/
def postilionref05_MulAdd.p3 (k : Nat) (t15 : Bool) (r6 : List Int) (r12 : List Int) : Option (List Int) :=
  br t15 (
    bd (postilionref05_plus.f k r12 r6) fun r16 =>
    some (r16)
  ) (
    some (r12)
  )
def postilionref05_MulAdd.p2 (k : Nat) (y11 : Int) (r5 : List Int) (r6 : List Int) (y10 : List Int) : Option (List Int) :=
  bd (postilionref05_plus.f k y10 y10) fun r12 =>
  chk (0 ≤ (IntKind.i64.wrap (Int.tdiv y11 64)) ∧ (IntKind.i64.wrap (Int.tdiv y11 64)) < 4) <|
  chk (0 ≤ (IntKind.u64.wrap (Int.tmod y11 64))) <|
  lt ((bits .and .u64 (Int.fdiv (r5.getD ((IntKind.i64.wrap (Int.tdiv y11 64)) : Int).toNat 0) (2 ^ (min ((IntKind.u64.wrap (Int.tmod y11 64)) : Int).toNat (IntKind.u64).bits))) 1) == 1) fun t15 =>
  bd (postilionref05_MulAdd.p3 k t15 r6 r12) fun m18 =>
  some (m18)
def postilionref05_MulAdd.p1 : Nat → List Int → List Int → List Int → Int → Option (List Int)
  | 0, _, _, _, _ => none
  | k + 1, r5, r6, y10, y11 =>
    br (decide (y11 ≥ 0)) (
      bd (postilionref05_MulAdd.p2 k y11 r5 r6 y10) fun m20 =>
      lt (IntKind.i64.wrap (y11 - 1)) fun x21 =>
      postilionref05_MulAdd.p1 k r5 r6 m20 x21
    ) (
      some (y10)
    )
def postilionref05_MulAdd.f (k : Nat) (a0 : List Int) (a1 : List Int) (a2 : List Int) : Option (List Int) :=
  bd (postilionref05_mod.f k a0) fun r5 =>
  bd (postilionref05_mod.f k a1) fun r6 =>
  bd (postilionref05_MulAdd.p1 k r5 r6 (List.replicate 4 (0 : Int)) 255) fun m23 =>
  bd (postilionref05_mod.f k a2) fun r24 =>
  bd (postilionref05_plus.f k m23 r24) fun r25 =>
  bd (postilionref05_bytesOf.f k r25) fun r26 =>
  some (r26)

/-! 6 postilion/postilionlaw06.PointOften -/
def postilionlaw06_PointOften.p1 (k : Nat) (x8 : Int) (x12 : Int) (a0 : List Int) (a1 : List Int) (r6 : List Int × Int) (r10 : List Int × Int) : Option (Bool) :=
  br (x8 == 0) (
    br (x12 == 0) (
      bd (postilionref05_Add.f k a0 a1) fun r13 =>
      bd (point_Base.f k r13) fun r14 =>
      br (r6.1 == r14) (
        bd (postilionref05_MulAdd.f k a0 a1 (List.replicate 32 (0 : Int))) fun r15 =>
        bd (point_Base.f k r15) fun r16 =>
        some ((r10.1 == r16))
      ) (
        some (false)
      )
    ) (
      some (false)
    )
  ) (
    some (false)
  )
def postilionlaw06_PointOften.f (k : Nat) (a0 : List Int) (a1 : List Int) : Option (Bool) :=
  bd (postilionlaw06_awake.f k ) fun r3 =>
  br (!r3) (
    some (false)
  ) (
    bd (point_Base.f k a0) fun r4 =>
    bd (point_Base.f k a1) fun r5 =>
    bd (point_Add.f k r4 r5) fun r6 =>
    lt r6.2 fun x8 =>
    bd (point_Base.f k a1) fun r9 =>
    bd (point_Mul.f k a0 r9) fun r10 =>
    lt r10.2 fun x12 =>
    bd (postilionlaw06_PointOften.p1 k x8 x12 a0 a1 r6 r10) fun m18 =>
    some (m18)
  )

/-! 39 (postilion/point.Point).Cleared -/
def point_Point_Cleared.f (k : Nat) (a0 : List Int) : Option (List Int) :=
  bd (point_Point_Double.f k a0) fun r3 =>
  bd (point_Point_Double.f k r3) fun r4 =>
  bd (point_Point_Double.f k r4) fun r5 =>
  some (r5)

/-! 19 postilion/point.Clear -/
def point_Clear.f (k : Nat) (a0 : List Int) : Option (List Int × Int) :=
  bd (point_Of.f k a0) fun r3 =>
  br (!r3.2) (
    some ((List.replicate 32 (0 : Int)), 2)
  ) (
    bd (point_Point_Cleared.f k r3.1) fun r5 =>
    bd (point_Point_Bytes.f k r5) fun r6 =>
    some (r6, 0)
  )

/-! 40 (postilion/point.Point).IsOrigin -/
def point_Point_IsOrigin.f (k : Nat) (a0 : List Int) : Option (Bool) :=
  bd (point_Point_Bytes.f k a0) fun r2 =>
  bd (point_Zero.f ) fun r3 =>
  some ((r2 == r3))

/-! 20 postilion/point.Small -/
def point_Small.f (k : Nat) (a0 : List Int) : Option (Bool × Int) :=
  bd (point_Of.f k a0) fun r2 =>
  br (!r2.2) (
    some (false, 2)
  ) (
    bd (point_Point_Cleared.f k r2.1) fun r4 =>
    bd (point_Point_IsOrigin.f k r4) fun r5 =>
    some (r5, 0)
  )

/-! 7 postilion/postilionlaw06.PointEight -/
def postilionlaw06_PointEight.p1 (x7 : Int) (x10 : Int) (r11 : Bool × Int) (x12 : Int) (r3 : List Int) (r5 : List Int × Int) (r8 : List Int × Int) : Option (Bool) :=
  br (x7 == 0) (
    br (x10 == 0) (
      br (x12 == 0) (
        br (r5.1 == r8.1) (
          bd (point_Zero.f ) fun r13 =>
          some ((r11.1 == (r3 == r13)))
        ) (
          some (false)
        )
      ) (
        some (false)
      )
    ) (
      some (false)
    )
  ) (
    some (false)
  )
def postilionlaw06_PointEight.f (k : Nat) (a0 : List Int) : Option (Bool) :=
  bd (postilionlaw06_awake.f k ) fun r2 =>
  br (!r2) (
    some (false)
  ) (
    bd (point_Base.f k a0) fun r3 =>
    bd (point_Clear.f k r3) fun r5 =>
    lt r5.2 fun x7 =>
    bd (point_Mul.f k ((List.replicate 32 (0 : Int)).set 0 8) r3) fun r8 =>
    lt r8.2 fun x10 =>
    bd (point_Small.f k r3) fun r11 =>
    lt r11.2 fun x12 =>
    bd (postilionlaw06_PointEight.p1 x7 x10 r11 x12 r3 r5 r8) fun m15 =>
    some (m15)
  )

/-! 66 postilion/postilionref04.From -/
def postilionref04_From.p1 : Nat → List Int → List Int → Int → Option (List Int)
  | 0, _, _, _ => none
  | k + 1, a0, y4, y5 =>
    br (decide (y5 < 32)) (
      chk (0 ≤ (IntKind.i64.wrap (Int.tdiv y5 8)) ∧ (IntKind.i64.wrap (Int.tdiv y5 8)) < 4) <|
      chk (0 ≤ y5 ∧ y5 < 32) <|
      chk (0 ≤ (IntKind.u64.wrap (IntKind.i64.wrap (8 * (Int.tmod y5 8))))) <|
      lt (y4.set ((IntKind.i64.wrap (Int.tdiv y5 8)) : Int).toNat (bits .or .u64 (y4.getD ((IntKind.i64.wrap (Int.tdiv y5 8)) : Int).toNat 0) (IntKind.u64.wrap ((IntKind.u64.wrap (a0.getD (y5 : Int).toNat 0)) * 2 ^ (min ((IntKind.u64.wrap (IntKind.i64.wrap (8 * (Int.tmod y5 8)))) : Int).toNat (IntKind.u64).bits))))) fun x9 =>
      lt (IntKind.i64.wrap (y5 + 1)) fun x10 =>
      postilionref04_From.p1 k a0 x9 x10
    ) (
      some (y4)
    )
def postilionref04_From.f (k : Nat) (a0 : List Int) : Option (List Int) :=
  bd (postilionref04_From.p1 k a0 (List.replicate 4 (0 : Int)) 0) fun m12 =>
  some (m12)

/-! 87 postilion/postilionref04.p -/
def postilionref04_p.f  : Option (List Int) :=
  lt [18446744073709551597, 18446744073709551615, 18446744073709551615, 9223372036854775807] fun x2 =>
  some (x2)

/-! 86 postilion/postilionref04.below -/
def postilionref04_below.p1 : Nat → List Int → List Int → Int → Option ((Unit) ⊕ (Bool))
  | 0, _, _, _ => none
  | k + 1, a0, a1, y3 =>
    br (decide (y3 ≥ 0)) (
      chk (0 ≤ y3 ∧ y3 < 4) <|
      lt ((a0.getD (y3 : Int).toNat 0) != (a1.getD (y3 : Int).toNat 0)) fun t5 =>
      br t5 (
        lt (decide ((a0.getD (y3 : Int).toNat 0) < (a1.getD (y3 : Int).toNat 0))) fun t6 =>
        some (.inr (t6))
      ) (
        lt (IntKind.i64.wrap (y3 - 1)) fun x7 =>
        postilionref04_below.p1 k a0 a1 x7
      )
    ) (
      some (.inl ())
    )
def postilionref04_below.f (k : Nat) (a0 : List Int) (a1 : List Int) : Option (Bool) :=
  bd (postilionref04_below.p1 k a0 a1 3) fun r8 => match r8 with
    | (.inl _) => some (false)
    | (.inr m9) => some (m9)

/-! 65 postilion/postilionref04.Canonical -/
def postilionref04_Canonical.f (k : Nat) (a0 : List Int) : Option (Bool) :=
  bd (postilionref04_From.f k a0) fun r2 =>
  bd (postilionref04_p.f ) fun r3 =>
  bd (postilionref04_below.f k r2 r3) fun r4 =>
  some (r4)

/-! 89 postilion/postilionref04.fold -/
def postilionref04_fold.p1 : Nat → List Int → Int → Option (List Int)
  | 0, _, _ => none
  | k + 1, y3, y4 =>
    br (y4 != 0) (
      bd (math_bits_Mul64.f y4 38) fun r5 =>
      lt r5.1 fun x6 =>
      lt r5.2 fun x7 =>
      chk (0 ≤ (y3.getD 0 0) ∧ 0 ≤ x7 ∧ 0 ≤ (0 : Int) ∧ (0 : Int) ≤ 1) <|
      lt (((y3.getD 0 0) + x7 + 0) / 18446744073709551616) fun x9 =>
      chk (0 ≤ ((y3.set 0 (((y3.getD 0 0) + x7 + 0) % 18446744073709551616)).getD 1 0) ∧ 0 ≤ x6 ∧ 0 ≤ x9 ∧ x9 ≤ 1) <|
      lt ((((y3.set 0 (((y3.getD 0 0) + x7 + 0) % 18446744073709551616)).getD 1 0) + x6 + x9) / 18446744073709551616) fun x11 =>
      lt ((y3.set 0 (((y3.getD 0 0) + x7 + 0) % 18446744073709551616)).set 1 ((((y3.set 0 (((y3.getD 0 0) + x7 + 0) % 18446744073709551616)).getD 1 0) + x6 + x9) % 18446744073709551616)) fun x12 =>
      chk (0 ≤ (x12.getD 2 0) ∧ 0 ≤ (0 : Int) ∧ 0 ≤ x11 ∧ x11 ≤ 1) <|
      lt (((x12.getD 2 0) + 0 + x11) / 18446744073709551616) fun x14 =>
      lt (x12.set 2 (((x12.getD 2 0) + 0 + x11) % 18446744073709551616)) fun x15 =>
      chk (0 ≤ (x15.getD 3 0) ∧ 0 ≤ (0 : Int) ∧ 0 ≤ x14 ∧ x14 ≤ 1) <|
      lt (((x15.getD 3 0) + 0 + x14) / 18446744073709551616) fun x17 =>
      lt (x15.set 3 (((x15.getD 3 0) + 0 + x14) % 18446744073709551616)) fun x18 =>
      postilionref04_fold.p1 k x18 x17
    ) (
      some (y3)
    )
def postilionref04_fold.f (k : Nat) (a0 : List Int) (a1 : Int) : Option (List Int) :=
  bd (postilionref04_fold.p1 k a0 a1) fun m20 =>
  some (m20)

/-! 67 postilion/postilionref04.Times -/
def postilionref04_Times.p2 : Nat → Int → List Int → List Int → List Int → Int → Int → Option (Int × List Int)
  | 0, _, _, _, _, _, _ => none
  | k + 1, y6, a0, a1, y7, y8, y9 =>
    br (decide (y9 < 4)) (
      chk (0 ≤ y6 ∧ y6 < 4) <|
      chk (0 ≤ y9 ∧ y9 < 4) <|
      bd (math_bits_Mul64.f (a0.getD (y6 : Int).toNat 0) (a1.getD (y9 : Int).toNat 0)) fun r12 =>
      lt r12.1 fun x13 =>
      lt r12.2 fun x14 =>
      chk (0 ≤ (IntKind.i64.wrap (y6 + y9)) ∧ (IntKind.i64.wrap (y6 + y9)) < 8) <|
      chk (0 ≤ x14 ∧ 0 ≤ (y7.getD ((IntKind.i64.wrap (y6 + y9)) : Int).toNat 0) ∧ 0 ≤ (0 : Int) ∧ (0 : Int) ≤ 1) <|
      lt ((x14 + (y7.getD ((IntKind.i64.wrap (y6 + y9)) : Int).toNat 0) + 0) % 18446744073709551616) fun x17 =>
      lt ((x14 + (y7.getD ((IntKind.i64.wrap (y6 + y9)) : Int).toNat 0) + 0) / 18446744073709551616) fun x18 =>
      lt (IntKind.u64.wrap (x13 + x18)) fun x19 =>
      chk (0 ≤ x17 ∧ 0 ≤ y8 ∧ 0 ≤ (0 : Int) ∧ (0 : Int) ≤ 1) <|
      lt ((x17 + y8 + 0) % 18446744073709551616) fun x21 =>
      lt ((x17 + y8 + 0) / 18446744073709551616) fun x22 =>
      lt (IntKind.u64.wrap (x19 + x22)) fun x23 =>
      lt (IntKind.i64.wrap (y9 + 1)) fun x24 =>
      postilionref04_Times.p2 k y6 a0 a1 (y7.set ((IntKind.i64.wrap (y6 + y9)) : Int).toNat x21) x23 x24
    ) (
      some (y8, y7)
    )
def postilionref04_Times.p1 : Nat → List Int → List Int → List Int → Int → Option (List Int)
  | 0, _, _, _, _ => none
  | k + 1, a0, a1, y5, y6 =>
    br (decide (y6 < 4)) (
      bd (postilionref04_Times.p2 k y6 a0 a1 y5 0 0) fun (m26, m27) =>
      chk (0 ≤ (IntKind.i64.wrap (y6 + 4)) ∧ (IntKind.i64.wrap (y6 + 4)) < 8) <|
      lt (IntKind.i64.wrap (y6 + 1)) fun x29 =>
      postilionref04_Times.p1 k a0 a1 (m27.set ((IntKind.i64.wrap (y6 + 4)) : Int).toNat m26) x29
    ) (
      some (y5)
    )
def postilionref04_Times.p3 : Nat → List Int → List Int → Int → Int → Int → Option (Int × Int × List Int)
  | 0, _, _, _, _, _ => none
  | k + 1, m31, y34, y35, y36, y37 =>
    br (decide (y37 < 4)) (
      chk (0 ≤ (IntKind.i64.wrap (y37 + 4)) ∧ (IntKind.i64.wrap (y37 + 4)) < 8) <|
      bd (math_bits_Mul64.f (m31.getD ((IntKind.i64.wrap (y37 + 4)) : Int).toNat 0) 38) fun r39 =>
      lt r39.1 fun x40 =>
      lt r39.2 fun x41 =>
      chk (0 ≤ x41 ∧ 0 ≤ y35 ∧ 0 ≤ (0 : Int) ∧ (0 : Int) ≤ 1) <|
      lt ((x41 + y35 + 0) % 18446744073709551616) fun x43 =>
      lt ((x41 + y35 + 0) / 18446744073709551616) fun x44 =>
      lt (IntKind.u64.wrap (x40 + x44)) fun x45 =>
      chk (0 ≤ y37 ∧ y37 < 4) <|
      chk (0 ≤ (y34.getD (y37 : Int).toNat 0) ∧ 0 ≤ x43 ∧ 0 ≤ y36 ∧ y36 ≤ 1) <|
      lt (((y34.getD (y37 : Int).toNat 0) + x43 + y36) / 18446744073709551616) fun x48 =>
      lt (y34.set (y37 : Int).toNat (((y34.getD (y37 : Int).toNat 0) + x43 + y36) % 18446744073709551616)) fun x49 =>
      lt (IntKind.i64.wrap (y37 + 1)) fun x50 =>
      postilionref04_Times.p3 k m31 x49 x45 x48 x50
    ) (
      some (y35, y36, y34)
    )
def postilionref04_Times.f (k : Nat) (a0 : List Int) (a1 : List Int) : Option (List Int) :=
  bd (postilionref04_Times.p1 k a0 a1 (List.replicate 8 (0 : Int)) 0) fun m31 =>
  lt [(m31.getD 0 0), (m31.getD 1 0), (m31.getD 2 0), (m31.getD 3 0)] fun x33 =>
  bd (postilionref04_Times.p3 k m31 x33 0 0 0) fun (m52, m53, m54) =>
  bd (postilionref04_fold.f k m54 (IntKind.u64.wrap (m52 + m53))) fun r55 =>
  some (r55)

/-! 70 postilion/postilionref04.Small -/
def postilionref04_Small.f (a0 : Int) : Option (List Int) :=
  some ([a0, 0, 0, 0])

/-! 93 postilion/postilionref04.less -/
def postilionref04_less.p1 : Nat → List Int → List Int → List Int → Int → Int → Option (List Int)
  | 0, _, _, _, _, _ => none
  | k + 1, a0, a1, y5, y6, y7 =>
    br (decide (y7 < 4)) (
      chk (0 ≤ y7 ∧ y7 < 4) <|
      chk (0 ≤ (a0.getD (y7 : Int).toNat 0) ∧ (0 ≤ (a1.getD (y7 : Int).toNat 0) ∧ (a1.getD (y7 : Int).toNat 0) < 18446744073709551616) ∧ 0 ≤ y6 ∧ y6 ≤ 1) <|
      lt (if (a0.getD (y7 : Int).toNat 0) < (a1.getD (y7 : Int).toNat 0) + y6 then 1 else 0) fun x10 =>
      lt (y5.set (y7 : Int).toNat (((a0.getD (y7 : Int).toNat 0) - (a1.getD (y7 : Int).toNat 0) - y6) % 18446744073709551616)) fun x11 =>
      lt (IntKind.i64.wrap (y7 + 1)) fun x12 =>
      postilionref04_less.p1 k a0 a1 x11 x10 x12
    ) (
      some (y5)
    )
def postilionref04_less.f (k : Nat) (a0 : List Int) (a1 : List Int) : Option (List Int) :=
  bd (postilionref04_less.p1 k a0 a1 (List.replicate 4 (0 : Int)) 0 0) fun m14 =>
  some (m14)

/-! 74 postilion/postilionref04.Least -/
def postilionref04_Least.p1 : Nat → List Int → Option (List Int)
  | 0, _ => none
  | k + 1, y3 =>
    bd (postilionref04_p.f ) fun r4 =>
    bd (postilionref04_below.f k y3 r4) fun r5 =>
    br (!r5) (
      bd (postilionref04_p.f ) fun r6 =>
      bd (postilionref04_less.f k y3 r6) fun r7 =>
      postilionref04_Least.p1 k r7
    ) (
      some (y3)
    )
def postilionref04_Least.f (k : Nat) (a0 : List Int) : Option (List Int) :=
  bd (postilionref04_Least.p1 k a0) fun m9 =>
  some (m9)

/-! 72 postilion/postilionref04.Plus -/
def postilionref04_Plus.p1 : Nat → List Int → List Int → List Int → Int → Int → Option (Int × List Int)
  | 0, _, _, _, _, _ => none
  | k + 1, a0, a1, y5, y6, y7 =>
    br (decide (y7 < 4)) (
      chk (0 ≤ y7 ∧ y7 < 4) <|
      chk (0 ≤ (a0.getD (y7 : Int).toNat 0) ∧ 0 ≤ (a1.getD (y7 : Int).toNat 0) ∧ 0 ≤ y6 ∧ y6 ≤ 1) <|
      lt (((a0.getD (y7 : Int).toNat 0) + (a1.getD (y7 : Int).toNat 0) + y6) / 18446744073709551616) fun x10 =>
      lt (y5.set (y7 : Int).toNat (((a0.getD (y7 : Int).toNat 0) + (a1.getD (y7 : Int).toNat 0) + y6) % 18446744073709551616)) fun x11 =>
      lt (IntKind.i64.wrap (y7 + 1)) fun x12 =>
      postilionref04_Plus.p1 k a0 a1 x11 x10 x12
    ) (
      some (y6, y5)
    )
def postilionref04_Plus.f (k : Nat) (a0 : List Int) (a1 : List Int) : Option (List Int) :=
  bd (postilionref04_Plus.p1 k a0 a1 (List.replicate 4 (0 : Int)) 0 0) fun (m14, m15) =>
  bd (postilionref04_fold.f k m15 m14) fun r16 =>
  some (r16)

/-! 69 postilion/postilionref04.Minus -/
def postilionref04_Minus.f (k : Nat) (a0 : List Int) (a1 : List Int) : Option (List Int) :=
  bd (postilionref04_p.f ) fun r4 =>
  bd (postilionref04_Least.f k a1) fun r5 =>
  bd (postilionref04_less.f k r4 r5) fun r6 =>
  bd (postilionref04_Plus.f k a0 r6) fun r7 =>
  some (r7)

/-! 73 postilion/postilionref04.D -/
def postilionref04_D.f  : Option (List Int) :=
  lt [8496970652267935907, 31536524315187371, 10144147576115030168, 5909686906226998899] fun x2 =>
  some (x2)

/-! 90 postilion/postilionref04.Power -/
def postilionref04_Power.p3 (k : Nat) (t11 : Bool) (a0 : List Int) (r8 : List Int) : Option (List Int) :=
  br t11 (
    bd (postilionref04_Times.f k r8 a0) fun r12 =>
    some (r12)
  ) (
    some (r8)
  )
def postilionref04_Power.p2 (k : Nat) (y7 : Int) (a0 : List Int) (a1 : List Int) (y6 : List Int) : Option (List Int) :=
  bd (postilionref04_Times.f k y6 y6) fun r8 =>
  chk (0 ≤ (IntKind.i64.wrap (Int.tdiv y7 64)) ∧ (IntKind.i64.wrap (Int.tdiv y7 64)) < 4) <|
  chk (0 ≤ (IntKind.u64.wrap (Int.tmod y7 64))) <|
  lt ((bits .and .u64 (Int.fdiv (a1.getD ((IntKind.i64.wrap (Int.tdiv y7 64)) : Int).toNat 0) (2 ^ (min ((IntKind.u64.wrap (Int.tmod y7 64)) : Int).toNat (IntKind.u64).bits))) 1) == 1) fun t11 =>
  bd (postilionref04_Power.p3 k t11 a0 r8) fun m14 =>
  some (m14)
def postilionref04_Power.p1 : Nat → List Int → List Int → List Int → Int → Option (List Int)
  | 0, _, _, _, _ => none
  | k + 1, a0, a1, y6, y7 =>
    br (decide (y7 ≥ 0)) (
      bd (postilionref04_Power.p2 k y7 a0 a1 y6) fun m16 =>
      lt (IntKind.i64.wrap (y7 - 1)) fun x17 =>
      postilionref04_Power.p1 k a0 a1 m16 x17
    ) (
      some (y6)
    )
def postilionref04_Power.f (k : Nat) (a0 : List Int) (a1 : List Int) : Option (List Int) :=
  bd (postilionref04_Small.f 1) fun r4 =>
  bd (postilionref04_Power.p1 k a0 a1 r4 255) fun m19 =>
  some (m19)

/-! 71 postilion/postilionref04.Inverse -/
def postilionref04_Inverse.f (k : Nat) (a0 : List Int) : Option (List Int) :=
  bd (postilionref04_p.f ) fun r3 =>
  bd (postilionref04_Power.f k a0 (r3.set 0 (IntKind.u64.wrap ((r3.getD 0 0) - 2)))) fun r5 =>
  some (r5)

/-! 91 postilion/postilionref04.Same -/
def postilionref04_Same.f (k : Nat) (a0 : List Int) (a1 : List Int) : Option (Bool) :=
  bd (postilionref04_Least.f k a0) fun r3 =>
  bd (postilionref04_Least.f k a1) fun r4 =>
  some ((r3 == r4))

/-! 92 postilion/postilionref04.I -/
def postilionref04_I.f  : Option (List Int) :=
  lt [14190309331451158704, 3405592160176694392, 3120150775007532967, 3135389899092516619] fun x2 =>
  some (x2)

/-! 68 postilion/postilionref04.Root -/
def postilionref04_Root.p1 (k : Nat) (r6 : Bool) (r3 : List Int) : Option (List Int) :=
  br (!r6) (
    bd (postilionref04_I.f ) fun r7 =>
    bd (postilionref04_Times.f k r3 r7) fun r8 =>
    some (r8)
  ) (
    some (r3)
  )
def postilionref04_Root.f (k : Nat) (a0 : List Int) : Option (List Int × Bool) :=
  bd (postilionref04_Power.f k a0 [18446744073709551614, 18446744073709551615, 18446744073709551615, 1152921504606846975]) fun r3 =>
  bd (postilionref04_Times.f k r3 r3) fun r5 =>
  bd (postilionref04_Same.f k r5 a0) fun r6 =>
  bd (postilionref04_Root.p1 k r6 r3) fun m10 =>
  bd (postilionref04_Least.f k m10) fun r11 =>
  bd (postilionref04_Times.f k m10 m10) fun r12 =>
  bd (postilionref04_Same.f k r12 a0) fun r13 =>
  some (r11, r13)

/-! 41 postilion/postilionref06.Decode -/
def postilionref06_Decode.p1 (x3 : Int) (r17 : List Int × Bool) : Option (Bool) :=
  bd (postilionref04_Small.f 0) fun r19 =>
  br (r17.1 == r19) (
    some ((x3 == 1))
  ) (
    some (false)
  )
def postilionref06_Decode.p2 (k : Nat) (t22 : Bool) (r17 : List Int × Bool) : Option (List Int) :=
  br t22 (
    bd (postilionref04_Small.f 0) fun r23 =>
    bd (postilionref04_Minus.f k r23 r17.1) fun r24 =>
    bd (postilionref04_Least.f k r24) fun r25 =>
    some (r25)
  ) (
    some (r17.1)
  )
def postilionref06_Decode.f (k : Nat) (a0 : List Int) : Option (List Int × Bool) :=
  lt (Int.fdiv (a0.getD 31 0) (2 ^ 7)) fun x3 =>
  bd (postilionref04_Canonical.f k (a0.set 31 (bits .and .u8 (a0.getD 31 0) 127))) fun r4 =>
  br (!r4) (
    some ((List.replicate 16 (0 : Int)), false)
  ) (
    bd (postilionref04_From.f k (a0.set 31 (bits .and .u8 (a0.getD 31 0) 127))) fun r5 =>
    bd (postilionref04_Times.f k r5 r5) fun r7 =>
    bd (postilionref04_Small.f 1) fun r9 =>
    bd (postilionref04_Minus.f k r7 r9) fun r10 =>
    bd (postilionref04_D.f ) fun r11 =>
    bd (postilionref04_Times.f k r11 r7) fun r12 =>
    bd (postilionref04_Small.f 1) fun r13 =>
    bd (postilionref04_Plus.f k r12 r13) fun r14 =>
    bd (postilionref04_Inverse.f k r14) fun r15 =>
    bd (postilionref04_Times.f k r10 r15) fun r16 =>
    bd (postilionref04_Root.f k r16) fun r17 =>
    br (!r17.2) (
      some ((List.replicate 16 (0 : Int)), false)
    ) (
      bd (postilionref06_Decode.p1 x3 r17) fun m21 =>
      br m21 (
        some ((List.replicate 16 (0 : Int)), false)
      ) (
        lt ((IntKind.u8.wrap (Int.tmod (r17.1.getD 0 0) 2)) != x3) fun t22 =>
        bd (postilionref06_Decode.p2 k t22 r17) fun m27 =>
        bd (postilionref04_Small.f 1) fun r28 =>
        bd (postilionref04_Times.f k m27 r5) fun r29 =>
        some ((m27 ++ r5 ++ r28 ++ r29), true)
      )
    )
  )

/-! 43 postilion/postilionref06.Sum -/
def postilionref06_Sum.f (k : Nat) (a0 : List Int) (a1 : List Int) : Option (List Int) :=
  bd (postilionref04_Minus.f k ((a0.drop 4).take 4) ((a0.drop 0).take 4)) fun r4 =>
  bd (postilionref04_Minus.f k ((a1.drop 4).take 4) ((a1.drop 0).take 4)) fun r5 =>
  bd (postilionref04_Times.f k r4 r5) fun r6 =>
  bd (postilionref04_Plus.f k ((a0.drop 4).take 4) ((a0.drop 0).take 4)) fun r8 =>
  bd (postilionref04_Plus.f k ((a1.drop 4).take 4) ((a1.drop 0).take 4)) fun r9 =>
  bd (postilionref04_Times.f k r8 r9) fun r10 =>
  bd (postilionref04_Times.f k ((a0.drop 12).take 4) ((a1.drop 12).take 4)) fun r12 =>
  bd (postilionref04_D.f ) fun r13 =>
  bd (postilionref04_D.f ) fun r14 =>
  bd (postilionref04_Plus.f k r13 r14) fun r15 =>
  bd (postilionref04_Times.f k r12 r15) fun r16 =>
  bd (postilionref04_Plus.f k ((a0.drop 8).take 4) ((a0.drop 8).take 4)) fun r18 =>
  bd (postilionref04_Times.f k r18 ((a1.drop 8).take 4)) fun r19 =>
  bd (postilionref04_Minus.f k r10 r6) fun r21 =>
  bd (postilionref04_Minus.f k r19 r16) fun r22 =>
  bd (postilionref04_Plus.f k r19 r16) fun r23 =>
  bd (postilionref04_Plus.f k r10 r6) fun r24 =>
  bd (postilionref04_Times.f k r21 r22) fun r29 =>
  bd (postilionref04_Times.f k r23 r24) fun r30 =>
  bd (postilionref04_Times.f k r22 r23) fun r31 =>
  bd (postilionref04_Times.f k r21 r24) fun r32 =>
  some ((r29 ++ r30 ++ r31 ++ r32))

/-! 75 postilion/postilionref04.Bytes -/
def postilionref04_Bytes.p1 : Nat → List Int → List Int → Int → Option (List Int)
  | 0, _, _, _ => none
  | k + 1, r3, y5, y6 =>
    br (decide (y6 < 32)) (
      chk (0 ≤ (IntKind.i64.wrap (Int.tdiv y6 8)) ∧ (IntKind.i64.wrap (Int.tdiv y6 8)) < 4) <|
      chk (0 ≤ (IntKind.u64.wrap (IntKind.i64.wrap (8 * (Int.tmod y6 8))))) <|
      chk (0 ≤ y6 ∧ y6 < 32) <|
      lt (y5.set (y6 : Int).toNat (IntKind.u8.wrap (Int.fdiv (r3.getD ((IntKind.i64.wrap (Int.tdiv y6 8)) : Int).toNat 0) (2 ^ (min ((IntKind.u64.wrap (IntKind.i64.wrap (8 * (Int.tmod y6 8)))) : Int).toNat (IntKind.u64).bits))))) fun x10 =>
      lt (IntKind.i64.wrap (y6 + 1)) fun x11 =>
      postilionref04_Bytes.p1 k r3 x10 x11
    ) (
      some (y5)
    )
def postilionref04_Bytes.f (k : Nat) (a0 : List Int) : Option (List Int) :=
  bd (postilionref04_Least.f k a0) fun r3 =>
  bd (postilionref04_Bytes.p1 k r3 (List.replicate 32 (0 : Int)) 0) fun m13 =>
  some (m13)

/-! 42 postilion/postilionref06.Encode -/
def postilionref06_Encode.f (k : Nat) (a0 : List Int) : Option (List Int) :=
  bd (postilionref04_Inverse.f k ((a0.drop 8).take 4)) fun r3 =>
  bd (postilionref04_Times.f k ((a0.drop 0).take 4) r3) fun r5 =>
  bd (postilionref04_Least.f k r5) fun r6 =>
  bd (postilionref04_Times.f k ((a0.drop 4).take 4) r3) fun r7 =>
  bd (postilionref04_Bytes.f k r7) fun r8 =>
  lt (r8.set 31 (bits .or .u8 (r8.getD 31 0) (IntKind.u8.wrap ((IntKind.u8.wrap (Int.tmod (r6.getD 0 0) 2)) * 2 ^ 7)))) fun x11 =>
  some (x11)

/-! 21 postilion/postilionref06.Add -/
def postilionref06_Add.p1 (r4 : List Int × Bool) (r6 : List Int × Bool) : Option (Bool) :=
  br (!r4.2) (
    some (true)
  ) (
    some ((!r6.2))
  )
def postilionref06_Add.f (k : Nat) (a0 : List Int) (a1 : List Int) : Option (List Int × Int) :=
  bd (postilionref06_Decode.f k a0) fun r4 =>
  bd (postilionref06_Decode.f k a1) fun r6 =>
  bd (postilionref06_Add.p1 r4 r6) fun m9 =>
  br m9 (
    some ((List.replicate 32 (0 : Int)), 2)
  ) (
    bd (postilionref06_Sum.f k r4.1 r6.1) fun r10 =>
    bd (postilionref06_Encode.f k r10) fun r11 =>
    some (r11, 0)
  )

/-! 44 postilion/postilionref06.Minus -/
def postilionref06_Minus.f (k : Nat) (a0 : List Int) : Option (List Int) :=
  bd (postilionref04_Small.f 0) fun r3 =>
  bd (postilionref04_Minus.f k r3 ((a0.drop 0).take 4)) fun r4 =>
  bd (postilionref04_Small.f 0) fun r5 =>
  bd (postilionref04_Minus.f k r5 ((a0.drop 12).take 4)) fun r6 =>
  some ((r4 ++ ((a0.drop 4).take 4) ++ ((a0.drop 8).take 4) ++ r6))

/-! 22 postilion/postilionref06.Neg -/
def postilionref06_Neg.f (k : Nat) (a0 : List Int) : Option (List Int × Int) :=
  bd (postilionref06_Decode.f k a0) fun r3 =>
  br (!r3.2) (
    some ((List.replicate 32 (0 : Int)), 2)
  ) (
    bd (postilionref06_Minus.f k r3.1) fun r5 =>
    bd (postilionref06_Encode.f k r5) fun r6 =>
    some (r6, 0)
  )

/-! 76 postilion/postilionref06.Neutral -/
def postilionref06_Neutral.f  : Option (List Int) :=
  bd (postilionref04_Small.f 0) fun r2 =>
  bd (postilionref04_Small.f 1) fun r3 =>
  bd (postilionref04_Small.f 1) fun r4 =>
  bd (postilionref04_Small.f 0) fun r5 =>
  some ((r2 ++ r3 ++ r4 ++ r5))

/-! 45 postilion/postilionref06.Often -/
def postilionref06_Often.p3 (k : Nat) (t11 : Bool) (a1 : List Int) (r8 : List Int) : Option (List Int) :=
  br t11 (
    bd (postilionref06_Sum.f k r8 a1) fun r12 =>
    some (r12)
  ) (
    some (r8)
  )
def postilionref06_Often.p2 (k : Nat) (y7 : Int) (a0 : List Int) (a1 : List Int) (y6 : List Int) : Option (List Int) :=
  bd (postilionref06_Sum.f k y6 y6) fun r8 =>
  chk (0 ≤ (IntKind.i64.wrap (Int.tdiv y7 8)) ∧ (IntKind.i64.wrap (Int.tdiv y7 8)) < 32) <|
  chk (0 ≤ (IntKind.u64.wrap (Int.tmod y7 8))) <|
  lt ((bits .and .u8 (Int.fdiv (a0.getD ((IntKind.i64.wrap (Int.tdiv y7 8)) : Int).toNat 0) (2 ^ (min ((IntKind.u64.wrap (Int.tmod y7 8)) : Int).toNat (IntKind.u8).bits))) 1) == 1) fun t11 =>
  bd (postilionref06_Often.p3 k t11 a1 r8) fun m14 =>
  some (m14)
def postilionref06_Often.p1 : Nat → List Int → List Int → List Int → Int → Option (List Int)
  | 0, _, _, _, _ => none
  | k + 1, a0, a1, y6, y7 =>
    br (decide (y7 ≥ 0)) (
      bd (postilionref06_Often.p2 k y7 a0 a1 y6) fun m16 =>
      lt (IntKind.i64.wrap (y7 - 1)) fun x17 =>
      postilionref06_Often.p1 k a0 a1 m16 x17
    ) (
      some (y6)
    )
def postilionref06_Often.f (k : Nat) (a0 : List Int) (a1 : List Int) : Option (List Int) :=
  bd (postilionref06_Neutral.f ) fun r4 =>
  bd (postilionref06_Often.p1 k a0 a1 r4 255) fun m19 =>
  some (m19)

/-! 23 postilion/postilionref06.Mul -/
def postilionref06_Mul.f (k : Nat) (a0 : List Int) (a1 : List Int) : Option (List Int × Int) :=
  bd (postilionref06_Decode.f k a1) fun r4 =>
  br (!r4.2) (
    some ((List.replicate 32 (0 : Int)), 2)
  ) (
    bd (postilionref06_Often.f k a0 r4.1) fun r6 =>
    bd (postilionref06_Encode.f k r6) fun r7 =>
    some (r7, 0)
  )

/-! 24 postilion/postilionref06.Clear -/
def postilionref06_Clear.f (k : Nat) (a0 : List Int) : Option (List Int × Int) :=
  bd (postilionref06_Mul.f k ((List.replicate 32 (0 : Int)).set 0 8) a0) fun r3 =>
  lt r3.2 fun x4 =>
  some (r3.1, x4)

/-! 28 postilion/postilionref06.Zero -/
def postilionref06_Zero.f  : Option (List Int) :=
  some (((List.replicate 32 (0 : Int)).set 0 1))

/-! 25 postilion/postilionref06.Small -/
def postilionref06_Small.p1 (x4 : Int) (r2 : List Int × Int) : Option (Bool × Int) :=
  br (x4 == 0) (
    bd (postilionref06_Zero.f ) fun r5 =>
    some ((r2.1 == r5), x4)
  ) (
    some (false, x4)
  )
def postilionref06_Small.f (k : Nat) (a0 : List Int) : Option (Bool × Int) :=
  bd (postilionref06_Clear.f k a0) fun r2 =>
  lt r2.2 fun x4 =>
  bd (postilionref06_Small.p1 x4 r2) fun (m7, m8) =>
  some (m7, m8)

/-! 26 postilion/postilionref06.Check -/
def postilionref06_Check.f (k : Nat) (a0 : List Int) : Option (Int) :=
  bd (postilionref06_Decode.f k a0) fun r2 =>
  br (!r2.2) (
    some (2)
  ) (
    some (0)
  )

/-! 29 postilion/postilionref06.Generator -/
def postilionref06_Generator.p1 : Nat → List Int → Int → Option (List Int)
  | 0, _, _ => none
  | k + 1, y3, y4 =>
    br (decide (y4 < 32)) (
      chk (0 ≤ y4 ∧ y4 < 32) <|
      lt (IntKind.i64.wrap (y4 + 1)) fun x6 =>
      postilionref06_Generator.p1 k (y3.set (y4 : Int).toNat 102) x6
    ) (
      some (y3)
    )
def postilionref06_Generator.f (k : Nat)  : Option (List Int) :=
  bd (postilionref06_Generator.p1 k (List.replicate 32 (0 : Int)) 0) fun m8 =>
  some ((m8.set 0 88))

/-! 27 postilion/postilionref06.Base -/
def postilionref06_Base.f (k : Nat) (a0 : List Int) : Option (List Int) :=
  bd (postilionref06_Generator.f k ) fun r3 =>
  bd (postilionref06_Decode.f k r3) fun r4 =>
  bd (postilionref06_Often.f k a0 r4.1) fun r6 =>
  bd (postilionref06_Encode.f k r6) fun r7 =>
  some (r7)

/-! 8 postilion/postilionlaw06.PointAll -/
def postilionlaw06_PointAll.p1 (k : Nat) (x7 : Int) (x10 : Int) (x13 : Int) (x16 : Int) (x18 : Int) (x21 : Int) (x24 : Int) (x27 : Int) (x30 : Int) (x32 : Int) (a0 : List Int) : Option (Bool) :=
  br (x7 != x21) (
    some (true)
  ) (
    br (x10 != x24) (
      some (true)
    ) (
      br (x13 != x27) (
        some (true)
      ) (
        br (x16 != x30) (
          some (true)
        ) (
          br (x18 != x32) (
            some (true)
          ) (
            bd (point_Check.f k a0) fun r33 =>
            bd (postilionref06_Check.f k a0) fun r34 =>
            some ((r33 != r34))
          )
        )
      )
    )
  )
def postilionlaw06_PointAll.p2 (k : Nat) (r17 : Bool × Int) (r31 : Bool × Int) (a2 : List Int) (r5 : List Int × Int) (r8 : List Int × Int) (r11 : List Int × Int) (r14 : List Int × Int) (r19 : List Int × Int) (r22 : List Int × Int) (r25 : List Int × Int) (r28 : List Int × Int) : Option (Bool) :=
  br (r5.1 == r19.1) (
    br (r8.1 == r22.1) (
      br (r11.1 == r25.1) (
        br (r14.1 == r28.1) (
          br (r17.1 == r31.1) (
            bd (point_Base.f k a2) fun r37 =>
            bd (postilionref06_Base.f k a2) fun r38 =>
            br (r37 == r38) (
              bd (point_Zero.f ) fun r39 =>
              bd (postilionref06_Zero.f ) fun r40 =>
              br (r39 == r40) (
                bd (point_Generator.f k ) fun r41 =>
                bd (postilionref06_Generator.f k ) fun r42 =>
                some ((r41 == r42))
              ) (
                some (false)
              )
            ) (
              some (false)
            )
          ) (
            some (false)
          )
        ) (
          some (false)
        )
      ) (
        some (false)
      )
    ) (
      some (false)
    )
  ) (
    some (false)
  )
def postilionlaw06_PointAll.f (k : Nat) (a0 : List Int) (a1 : List Int) (a2 : List Int) : Option (Bool) :=
  bd (postilionlaw06_awake.f k ) fun r4 =>
  br (!r4) (
    some (false)
  ) (
    bd (point_Add.f k a0 a1) fun r5 =>
    lt r5.2 fun x7 =>
    bd (point_Neg.f k a0) fun r8 =>
    lt r8.2 fun x10 =>
    bd (point_Mul.f k a2 a0) fun r11 =>
    lt r11.2 fun x13 =>
    bd (point_Clear.f k a0) fun r14 =>
    lt r14.2 fun x16 =>
    bd (point_Small.f k a0) fun r17 =>
    lt r17.2 fun x18 =>
    bd (postilionref06_Add.f k a0 a1) fun r19 =>
    lt r19.2 fun x21 =>
    bd (postilionref06_Neg.f k a0) fun r22 =>
    lt r22.2 fun x24 =>
    bd (postilionref06_Mul.f k a2 a0) fun r25 =>
    lt r25.2 fun x27 =>
    bd (postilionref06_Clear.f k a0) fun r28 =>
    lt r28.2 fun x30 =>
    bd (postilionref06_Small.f k a0) fun r31 =>
    lt r31.2 fun x32 =>
    bd (postilionlaw06_PointAll.p1 k x7 x10 x13 x16 x18 x21 x24 x27 x30 x32 a0) fun m36 =>
    br m36 (
      some (false)
    ) (
      bd (postilionlaw06_PointAll.p2 k r17 r31 a2 r5 r8 r11 r14 r19 r22 r25 r28) fun m44 =>
      some (m44)
    )
  )
end Go.Proofs.Ytalnjdcidmkajaa
