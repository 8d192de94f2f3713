/-
  What the functions that a law reaches compute, as plain definitions. Printed by my own program.
  Conditions: none; every function is taken as the given program's form has it.
-/
import Derived.Test.YtigbkodgnikigaaGx
namespace Go.Proofs.Ytigbkodgnikigaa
open Go Go.Gx Go.RowKit
set_option linter.unusedVariables false
set_option maxRecDepth 100000
/-! 36 postilion/field.Of$1 -/
def field_Of_1.p1 : Nat → Int → List Int → Int → Int → Option (Int)
  | 0, _, _, _, _ => none
  | k + 1, a0, a1, y1, y2 =>
    br (decide (y2 ≥ 0)) (
      chk (0 ≤ (IntKind.i64.wrap (a0 + y2)) ∧ (IntKind.i64.wrap (a0 + y2)) < 32) <|
      lt (bits .or .u64 (IntKind.u64.wrap (y1 * 2 ^ 8)) (IntKind.u64.wrap (a1.getD ((IntKind.i64.wrap (a0 + y2)) : Int).toNat 0))) fun x4 =>
      lt (IntKind.i64.wrap (y2 - 1)) fun x5 =>
      field_Of_1.p1 k a0 a1 x4 x5
    ) (
      some (y1)
    )
def field_Of_1.f (k : Nat) (a0 : Int) (a1 : List Int) : Option (Int) :=
  bd (field_Of_1.p1 k a0 a1 0 7) fun m7 =>
  some (m7)

/-! 18 postilion/field.Of -/
def field_Of.f (k : Nat) (a0 : List Int) : Option (List Int) :=
  bd (field_Of_1.f k 0 a0) fun r3 =>
  bd (field_Of_1.f k 6 a0) fun r4 =>
  bd (field_Of_1.f k 12 a0) fun r5 =>
  bd (field_Of_1.f k 19 a0) fun r6 =>
  bd (field_Of_1.f k 24 a0) fun r7 =>
  lt [(bits .and .u64 r3 2251799813685247), (bits .and .u64 (Int.fdiv r4 (2 ^ 3)) 2251799813685247), (bits .and .u64 (Int.fdiv r5 (2 ^ 6)) 2251799813685247), (bits .and .u64 (Int.fdiv r6 (2 ^ 1)) 2251799813685247), (bits .and .u64 (Int.fdiv r7 (2 ^ 12)) 2251799813685247)] fun x9 =>
  lt (x9.set 0 (IntKind.u64.wrap ((x9.getD 0 0) + (IntKind.u64.wrap (19 * (IntKind.u64.wrap (Int.fdiv (a0.getD 31 0) (2 ^ 7)))))))) fun x10 =>
  some (x10)

/-! 19 postilion/xdh.number -/
def xdh_number.f (k : Nat) (a0 : Int) : Option (List Int) :=
  bd (field_Of.f k (((((List.replicate 32 (0 : Int)).set 0 (IntKind.u8.wrap a0)).set 1 (IntKind.u8.wrap (Int.fdiv a0 (2 ^ 8)))).set 2 (IntKind.u8.wrap (Int.fdiv a0 (2 ^ 16)))).set 3 (IntKind.u8.wrap (Int.fdiv a0 (2 ^ 24))))) fun r2 =>
  some (r2)

/-! 20 postilion/field.One -/
def field_One.f  : Option (List Int) :=
  some (((List.replicate 5 (0 : Int)).set 0 1))

/-! 21 postilion/xdh.swap -/
def xdh_swap.p1 : Nat → Int → List Int → List Int → Int → Option (List Int × List Int)
  | 0, _, _, _, _ => none
  | k + 1, a0, y1, y2, y3 =>
    br (decide (y3 < 5)) (
      chk (0 ≤ y3 ∧ y3 < 5) <|
      lt (bits .and .u64 (IntKind.u64.wrap (0 - a0)) (bits .xor .u64 (y1.getD (y3 : Int).toNat 0) (y2.getD (y3 : Int).toNat 0))) fun x5 =>
      lt (y1.set (y3 : Int).toNat (bits .xor .u64 (y1.getD (y3 : Int).toNat 0) x5)) fun x6 =>
      lt (y2.set (y3 : Int).toNat (bits .xor .u64 (y2.getD (y3 : Int).toNat 0) x5)) fun x7 =>
      lt (IntKind.i64.wrap (y3 + 1)) fun x8 =>
      xdh_swap.p1 k a0 x6 x7 x8
    ) (
      some (y1, y2)
    )
def xdh_swap.f (k : Nat) (a0 : Int) (a1 : List Int) (a2 : List Int) : Option (List Int × List Int) :=
  bd (xdh_swap.p1 k a0 a1 a2 0) fun (m10, m11) =>
  some (m10, m11)

/-! 37 (postilion/field.Element).carried -/
def field_Element_carried.f (a0 : List Int) : Option (List Int) :=
  lt [(Int.fdiv (a0.getD 0 0) (2 ^ 51)), (Int.fdiv (a0.getD 1 0) (2 ^ 51)), (Int.fdiv (a0.getD 2 0) (2 ^ 51)), (Int.fdiv (a0.getD 3 0) (2 ^ 51)), (Int.fdiv (a0.getD 4 0) (2 ^ 51))] fun x4 =>
  lt [(IntKind.u64.wrap ((bits .and .u64 (a0.getD 0 0) 2251799813685247) + (IntKind.u64.wrap (19 * (x4.getD 4 0))))), (IntKind.u64.wrap ((bits .and .u64 (a0.getD 1 0) 2251799813685247) + (x4.getD 0 0))), (IntKind.u64.wrap ((bits .and .u64 (a0.getD 2 0) 2251799813685247) + (x4.getD 1 0))), (IntKind.u64.wrap ((bits .and .u64 (a0.getD 3 0) 2251799813685247) + (x4.getD 2 0))), (IntKind.u64.wrap ((bits .and .u64 (a0.getD 4 0) 2251799813685247) + (x4.getD 3 0)))] fun x5 =>
  some (x5)

/-! 22 (postilion/field.Element).Plus -/
def field_Element_Plus.p1 : Nat → List Int → List Int → Int → Option (List Int)
  | 0, _, _, _ => none
  | k + 1, a1, y4, y5 =>
    br (decide (y5 < 5)) (
      chk (0 ≤ y5 ∧ y5 < 5) <|
      lt (y4.set (y5 : Int).toNat (IntKind.u64.wrap ((y4.getD (y5 : Int).toNat 0) + (a1.getD (y5 : Int).toNat 0)))) fun x7 =>
      lt (IntKind.i64.wrap (y5 + 1)) fun x8 =>
      field_Element_Plus.p1 k a1 x7 x8
    ) (
      some (y4)
    )
def field_Element_Plus.f (k : Nat) (a0 : List Int) (a1 : List Int) : Option (List Int) :=
  bd (field_Element_Plus.p1 k a1 a0 0) fun m10 =>
  bd (field_Element_carried.f m10) fun r11 =>
  some (r11)

/-! 23 (postilion/field.Element).Minus -/
def field_Element_Minus.f (a0 : List Int) (a1 : List Int) : Option (List Int) :=
  bd (field_Element_carried.f [(IntKind.u64.wrap ((IntKind.u64.wrap ((a0.getD 0 0) + 4503599627370458)) - (a1.getD 0 0))), (IntKind.u64.wrap ((IntKind.u64.wrap ((a0.getD 1 0) + 4503599627370494)) - (a1.getD 1 0))), (IntKind.u64.wrap ((IntKind.u64.wrap ((a0.getD 2 0) + 4503599627370494)) - (a1.getD 2 0))), (IntKind.u64.wrap ((IntKind.u64.wrap ((a0.getD 3 0) + 4503599627370494)) - (a1.getD 3 0))), (IntKind.u64.wrap ((IntKind.u64.wrap ((a0.getD 4 0) + 4503599627370494)) - (a1.getD 4 0)))]) fun r4 =>
  some (r4)

/-! 46 math/bits.Mul64 -/
def math_bits_Mul64.f (a0 : Int) (a1 : Int) : Option (Int × Int) :=
  lt (bits .and .u64 a0 4294967295) fun x1 =>
  lt (Int.fdiv a0 (2 ^ 32)) fun x2 =>
  lt (bits .and .u64 a1 4294967295) fun x3 =>
  lt (Int.fdiv a1 (2 ^ 32)) fun x4 =>
  lt (IntKind.u64.wrap (x1 * x3)) fun x5 =>
  lt (IntKind.u64.wrap ((IntKind.u64.wrap (x2 * x3)) + (Int.fdiv x5 (2 ^ 32)))) fun x6 =>
  lt (bits .and .u64 x6 4294967295) fun x7 =>
  lt (Int.fdiv x6 (2 ^ 32)) fun x8 =>
  lt (IntKind.u64.wrap (x7 + (IntKind.u64.wrap (x1 * x4)))) fun x9 =>
  lt (IntKind.u64.wrap ((IntKind.u64.wrap ((IntKind.u64.wrap (x2 * x4)) + x8)) + (Int.fdiv x9 (2 ^ 32)))) fun x10 =>
  lt (IntKind.u64.wrap (a0 * a1)) fun x11 =>
  some (x10, x11)

/-! 38 (postilion/field.wide).add -/
def field_wide_add.f (a0 : List Int) (a1 : Int) (a2 : Int) : Option (List Int) :=
  bd (math_bits_Mul64.f a1 a2) fun r3 =>
  lt r3.1 fun x4 =>
  lt r3.2 fun x5 =>
  chk (0 ≤ x5 ∧ 0 ≤ (a0.getD 1 0) ∧ 0 ≤ (0 : Int) ∧ (0 : Int) ≤ 1) <|
  lt ((x5 + (a0.getD 1 0) + 0) % 18446744073709551616) fun x7 =>
  lt ((x5 + (a0.getD 1 0) + 0) / 18446744073709551616) fun x8 =>
  lt [(IntKind.u64.wrap ((IntKind.u64.wrap ((a0.getD 0 0) + x4)) + x8)), x7] fun x9 =>
  some (x9)

/-! 39 (postilion/field.wide).shifted -/
def field_wide_shifted.f (a0 : List Int) : Option (Int) :=
  lt (bits .or .u64 (IntKind.u64.wrap ((a0.getD 0 0) * 2 ^ 13)) (Int.fdiv (a0.getD 1 0) (2 ^ 51))) fun x2 =>
  some (x2)

/-! 24 (postilion/field.Element).Times -/
def field_Element_Times.f (a0 : List Int) (a1 : List Int) : Option (List Int) :=
  lt [0, (IntKind.u64.wrap (19 * (a1.getD 1 0))), (IntKind.u64.wrap (19 * (a1.getD 2 0))), (IntKind.u64.wrap (19 * (a1.getD 3 0))), (IntKind.u64.wrap (19 * (a1.getD 4 0)))] fun x5 =>
  bd (field_wide_add.f (List.replicate 2 (0 : Int)) (a0.getD 0 0) (a1.getD 0 0)) fun r6 =>
  bd (field_wide_add.f r6 (a0.getD 1 0) (x5.getD 4 0)) fun r7 =>
  bd (field_wide_add.f r7 (a0.getD 2 0) (x5.getD 3 0)) fun r8 =>
  bd (field_wide_add.f r8 (a0.getD 3 0) (x5.getD 2 0)) fun r9 =>
  bd (field_wide_add.f r9 (a0.getD 4 0) (x5.getD 1 0)) fun r10 =>
  bd (field_wide_add.f (List.replicate 2 (0 : Int)) (a0.getD 0 0) (a1.getD 1 0)) fun r11 =>
  bd (field_wide_add.f r11 (a0.getD 1 0) (a1.getD 0 0)) fun r12 =>
  bd (field_wide_add.f r12 (a0.getD 2 0) (x5.getD 4 0)) fun r13 =>
  bd (field_wide_add.f r13 (a0.getD 3 0) (x5.getD 3 0)) fun r14 =>
  bd (field_wide_add.f r14 (a0.getD 4 0) (x5.getD 2 0)) fun r15 =>
  bd (field_wide_add.f (List.replicate 2 (0 : Int)) (a0.getD 0 0) (a1.getD 2 0)) fun r16 =>
  bd (field_wide_add.f r16 (a0.getD 1 0) (a1.getD 1 0)) fun r17 =>
  bd (field_wide_add.f r17 (a0.getD 2 0) (a1.getD 0 0)) fun r18 =>
  bd (field_wide_add.f r18 (a0.getD 3 0) (x5.getD 4 0)) fun r19 =>
  bd (field_wide_add.f r19 (a0.getD 4 0) (x5.getD 3 0)) fun r20 =>
  bd (field_wide_add.f (List.replicate 2 (0 : Int)) (a0.getD 0 0) (a1.getD 3 0)) fun r21 =>
  bd (field_wide_add.f r21 (a0.getD 1 0) (a1.getD 2 0)) fun r22 =>
  bd (field_wide_add.f r22 (a0.getD 2 0) (a1.getD 1 0)) fun r23 =>
  bd (field_wide_add.f r23 (a0.getD 3 0) (a1.getD 0 0)) fun r24 =>
  bd (field_wide_add.f r24 (a0.getD 4 0) (x5.getD 4 0)) fun r25 =>
  bd (field_wide_add.f (List.replicate 2 (0 : Int)) (a0.getD 0 0) (a1.getD 4 0)) fun r26 =>
  bd (field_wide_add.f r26 (a0.getD 1 0) (a1.getD 3 0)) fun r27 =>
  bd (field_wide_add.f r27 (a0.getD 2 0) (a1.getD 2 0)) fun r28 =>
  bd (field_wide_add.f r28 (a0.getD 3 0) (a1.getD 1 0)) fun r29 =>
  bd (field_wide_add.f r29 (a0.getD 4 0) (a1.getD 0 0)) fun r30 =>
  bd (field_wide_shifted.f (((r10 ++ r15 ++ r20 ++ r25 ++ r30).drop 8).take 2)) fun r32 =>
  bd (field_wide_shifted.f (((r10 ++ r15 ++ r20 ++ r25 ++ r30).drop 0).take 2)) fun r33 =>
  bd (field_wide_shifted.f (((r10 ++ r15 ++ r20 ++ r25 ++ r30).drop 2).take 2)) fun r34 =>
  bd (field_wide_shifted.f (((r10 ++ r15 ++ r20 ++ r25 ++ r30).drop 4).take 2)) fun r35 =>
  bd (field_wide_shifted.f (((r10 ++ r15 ++ r20 ++ r25 ++ r30).drop 6).take 2)) fun r36 =>
  bd (field_Element_carried.f [(IntKind.u64.wrap ((bits .and .u64 ((r10 ++ r15 ++ r20 ++ r25 ++ r30).getD 1 0) 2251799813685247) + (IntKind.u64.wrap (19 * r32)))), (IntKind.u64.wrap ((bits .and .u64 ((r10 ++ r15 ++ r20 ++ r25 ++ r30).getD 3 0) 2251799813685247) + r33)), (IntKind.u64.wrap ((bits .and .u64 ((r10 ++ r15 ++ r20 ++ r25 ++ r30).getD 5 0) 2251799813685247) + r34)), (IntKind.u64.wrap ((bits .and .u64 ((r10 ++ r15 ++ r20 ++ r25 ++ r30).getD 7 0) 2251799813685247) + r35)), (IntKind.u64.wrap ((bits .and .u64 ((r10 ++ r15 ++ r20 ++ r25 ++ r30).getD 9 0) 2251799813685247) + r36))]) fun r37 =>
  some (r37)

/-! 41 (postilion/field.Element).squared -/
def field_Element_squared.p1 : Nat → Int → List Int → Int → Option (List Int)
  | 0, _, _, _ => none
  | k + 1, a1, y3, y4 =>
    br (decide (y4 < a1)) (
      bd (field_Element_Times.f y3 y3) fun r5 =>
      lt (IntKind.i64.wrap (y4 + 1)) fun x6 =>
      field_Element_squared.p1 k a1 r5 x6
    ) (
      some (y3)
    )
def field_Element_squared.f (k : Nat) (a0 : List Int) (a1 : Int) : Option (List Int) :=
  bd (field_Element_squared.p1 k a1 a0 0) fun m8 =>
  some (m8)

/-! 40 (postilion/field.Element).chain -/
def field_Element_chain.f (k : Nat) (a0 : List Int) : Option (List Int × List Int) :=
  bd (field_Element_squared.f k a0 1) fun r4 =>
  bd (field_Element_squared.f k r4 2) fun r6 =>
  bd (field_Element_Times.f r6 a0) fun r7 =>
  bd (field_Element_Times.f r7 r4) fun r9 =>
  bd (field_Element_squared.f k r9 1) fun r11 =>
  bd (field_Element_Times.f r11 r7) fun r12 =>
  bd (field_Element_squared.f k r12 5) fun r14 =>
  bd (field_Element_Times.f r14 r12) fun r15 =>
  bd (field_Element_squared.f k r15 10) fun r17 =>
  bd (field_Element_Times.f r17 r15) fun r18 =>
  bd (field_Element_squared.f k r18 20) fun r20 =>
  bd (field_Element_Times.f r20 r18) fun r21 =>
  bd (field_Element_squared.f k r21 10) fun r23 =>
  bd (field_Element_Times.f r23 r15) fun r24 =>
  bd (field_Element_squared.f k r24 50) fun r26 =>
  bd (field_Element_Times.f r26 r24) fun r27 =>
  bd (field_Element_squared.f k r27 100) fun r29 =>
  bd (field_Element_Times.f r29 r27) fun r30 =>
  bd (field_Element_squared.f k r30 50) fun r32 =>
  bd (field_Element_Times.f r32 r24) fun r33 =>
  some (r33, r9)

/-! 25 (postilion/field.Element).Inverse -/
def field_Element_Inverse.f (k : Nat) (a0 : List Int) : Option (List Int) :=
  bd (field_Element_chain.f k a0) fun r3 =>
  bd (field_Element_squared.f k r3.1 5) fun r6 =>
  bd (field_Element_Times.f r6 r3.2) fun r7 =>
  some (r7)

/-! 26 (postilion/field.Element).Bytes -/
def field_Element_Bytes.p1 : Nat → Int → List Int → Int → Int → Option (Int)
  | 0, _, _, _, _ => none
  | k + 1, x6, r4, y7, y8 =>
    br (decide (y8 < x6)) (
      chk (0 ≤ y8 ∧ y8 < (5 - 1)) <|
      lt (r4.getD (1 + (y8 : Int).toNat * 1) 0) fun x10 =>
      lt (Int.fdiv (IntKind.u64.wrap (x10 + y7)) (2 ^ 51)) fun x11 =>
      lt (IntKind.i64.wrap (y8 + 1)) fun x12 =>
      field_Element_Bytes.p1 k x6 r4 x11 x12
    ) (
      some (y7)
    )
def field_Element_Bytes.p2 : Nat → List Int → Int → Option (List Int)
  | 0, _, _ => none
  | k + 1, y16, y17 =>
    br (decide (y17 < 4)) (
      chk (0 ≤ (IntKind.i64.wrap (y17 + 1)) ∧ (IntKind.i64.wrap (y17 + 1)) < 5) <|
      chk (0 ≤ y17 ∧ y17 < 5) <|
      lt (y16.set ((IntKind.i64.wrap (y17 + 1)) : Int).toNat (IntKind.u64.wrap ((y16.getD ((IntKind.i64.wrap (y17 + 1)) : Int).toNat 0) + (Int.fdiv (y16.getD (y17 : Int).toNat 0) (2 ^ 51))))) fun x20 =>
      lt (x20.set (y17 : Int).toNat (bits .and .u64 (x20.getD (y17 : Int).toNat 0) 2251799813685247)) fun x21 =>
      lt (IntKind.i64.wrap (y17 + 1)) fun x22 =>
      field_Element_Bytes.p2 k x21 x22
    ) (
      some (y16)
    )
def field_Element_Bytes.p4 : Nat → Int → Int → List Int → Int → Option (List Int)
  | 0, _, _, _, _ => none
  | k + 1, y28, x30, y31, y32 =>
    br (decide (y32 < 8)) (
      chk (0 ≤ (IntKind.i64.wrap (8 * y32))) <|
      chk (0 ≤ (IntKind.i64.wrap ((IntKind.i64.wrap (8 * y28)) + y32)) ∧ (IntKind.i64.wrap ((IntKind.i64.wrap (8 * y28)) + y32)) < 32) <|
      lt (y31.set ((IntKind.i64.wrap ((IntKind.i64.wrap (8 * y28)) + y32)) : Int).toNat (IntKind.u8.wrap (Int.fdiv x30 (2 ^ (min ((IntKind.i64.wrap (8 * y32)) : Int).toNat (IntKind.u64).bits))))) fun x35 =>
      lt (IntKind.i64.wrap (y32 + 1)) fun x36 =>
      field_Element_Bytes.p4 k y28 x30 x35 x36
    ) (
      some (y31)
    )
def field_Element_Bytes.p3 : Nat → List Int → List Int → Int → Option (List Int)
  | 0, _, _, _ => none
  | k + 1, x26, y27, y28 =>
    br (decide (y28 < 4)) (
      chk (0 ≤ y28 ∧ y28 < 4) <|
      lt (x26.getD (y28 : Int).toNat 0) fun x30 =>
      bd (field_Element_Bytes.p4 k y28 x30 y27 0) fun m38 =>
      lt (IntKind.i64.wrap (y28 + 1)) fun x39 =>
      field_Element_Bytes.p3 k x26 m38 x39
    ) (
      some (y27)
    )
def field_Element_Bytes.f (k : Nat) (a0 : List Int) : Option (List Int) :=
  bd (field_Element_carried.f a0) fun r3 =>
  bd (field_Element_carried.f r3) fun r4 =>
  lt (Int.fdiv (IntKind.u64.wrap ((r4.getD 0 0) + 19)) (2 ^ 51)) fun x5 =>
  lt (((5 - 1) : Nat) : Int) fun x6 =>
  bd (field_Element_Bytes.p1 k x6 r4 x5 0) fun m14 =>
  lt (r4.set 0 (IntKind.u64.wrap ((r4.getD 0 0) + (IntKind.u64.wrap (19 * m14))))) fun x15 =>
  bd (field_Element_Bytes.p2 k x15 0) fun m24 =>
  lt [(bits .or .u64 ((m24.set 4 (bits .and .u64 (m24.getD 4 0) 2251799813685247)).getD 0 0) (IntKind.u64.wrap (((m24.set 4 (bits .and .u64 (m24.getD 4 0) 2251799813685247)).getD 1 0) * 2 ^ 51))), (bits .or .u64 (Int.fdiv ((m24.set 4 (bits .and .u64 (m24.getD 4 0) 2251799813685247)).getD 1 0) (2 ^ 13)) (IntKind.u64.wrap (((m24.set 4 (bits .and .u64 (m24.getD 4 0) 2251799813685247)).getD 2 0) * 2 ^ 38))), (bits .or .u64 (Int.fdiv ((m24.set 4 (bits .and .u64 (m24.getD 4 0) 2251799813685247)).getD 2 0) (2 ^ 26)) (IntKind.u64.wrap (((m24.set 4 (bits .and .u64 (m24.getD 4 0) 2251799813685247)).getD 3 0) * 2 ^ 25))), (bits .or .u64 (Int.fdiv ((m24.set 4 (bits .and .u64 (m24.getD 4 0) 2251799813685247)).getD 3 0) (2 ^ 39)) (IntKind.u64.wrap (((m24.set 4 (bits .and .u64 (m24.getD 4 0) 2251799813685247)).getD 4 0) * 2 ^ 12)))] fun x26 =>
  bd (field_Element_Bytes.p3 k x26 (List.replicate 32 (0 : Int)) 0) fun m41 =>
  some (m41)

/-! 9 postilion/xdh.Mul -/
def xdh_Mul.p1 : Nat → List Int → List Int → List Int → List Int → List Int → List Int → List Int → Int → Int → Option (Int × List Int × List Int × List Int × List Int)
  | 0, _, _, _, _, _, _, _, _, _ => none
  | k + 1, x4, r5, r6, y15, y16, y17, y18, y19, y20 =>
    br (decide (y20 ≥ 0)) (
      chk (0 ≤ (IntKind.i64.wrap (Int.tdiv y20 8)) ∧ (IntKind.i64.wrap (Int.tdiv y20 8)) < 32) <|
      chk (0 ≤ (IntKind.u64.wrap (Int.tmod y20 8))) <|
      lt (IntKind.u64.wrap (bits .and .u8 (Int.fdiv (x4.getD ((IntKind.i64.wrap (Int.tdiv y20 8)) : Int).toNat 0) (2 ^ (min ((IntKind.u64.wrap (Int.tmod y20 8)) : Int).toNat (IntKind.u8).bits))) 1)) fun x23 =>
      bd (xdh_swap.f k (bits .xor .u64 x23 y19) y15 y17) fun r24 =>
      bd (xdh_swap.f k (bits .xor .u64 x23 y19) y16 y18) fun r25 =>
      bd (field_Element_Plus.f k r24.1 r25.1) fun r26 =>
      bd (field_Element_Minus.f r24.1 r25.1) fun r27 =>
      bd (field_Element_Times.f r26 r26) fun r30 =>
      bd (field_Element_Times.f r27 r27) fun r31 =>
      bd (field_Element_Minus.f r30 r31) fun r34 =>
      bd (field_Element_Minus.f r24.2 r25.2) fun r36 =>
      bd (field_Element_Times.f r36 r26) fun r37 =>
      bd (field_Element_Plus.f k r24.2 r25.2) fun r38 =>
      bd (field_Element_Times.f r38 r27) fun r39 =>
      bd (field_Element_Plus.f k r37 r39) fun r42 =>
      bd (field_Element_Minus.f r37 r39) fun r43 =>
      bd (field_Element_Times.f r42 r42) fun r46 =>
      bd (field_Element_Times.f r43 r43) fun r47 =>
      bd (field_Element_Times.f r47 r5) fun r48 =>
      bd (field_Element_Times.f r30 r31) fun r49 =>
      bd (field_Element_Times.f r6 r34) fun r50 =>
      bd (field_Element_Plus.f k r30 r50) fun r51 =>
      bd (field_Element_Times.f r34 r51) fun r52 =>
      lt (IntKind.i64.wrap (y20 - 1)) fun x53 =>
      xdh_Mul.p1 k x4 r5 r6 r49 r52 r46 r48 x23 x53
    ) (
      some (y19, y15, y16, y17, y18)
    )
def xdh_Mul.f (k : Nat) (a0 : List Int) (a1 : List Int) : Option (List Int) :=
  lt ((a0.set 0 (bits .and .u8 (a0.getD 0 0) 248)).set 31 (bits .or .u8 (bits .and .u8 ((a0.set 0 (bits .and .u8 (a0.getD 0 0) 248)).getD 31 0) 127) 64)) fun x4 =>
  bd (field_Of.f k (a1.set 31 (bits .and .u8 (a1.getD 31 0) 127))) fun r5 =>
  bd (xdh_number.f k 121665) fun r6 =>
  bd (field_One.f ) fun r9 =>
  bd (field_One.f ) fun r10 =>
  bd (xdh_Mul.p1 k x4 r5 r6 r9 (List.replicate 5 (0 : Int)) r5 r10 0 254) fun (m55, m56, m57, m58, m59) =>
  bd (xdh_swap.f k m55 m56 m58) fun r60 =>
  bd (xdh_swap.f k m55 m57 m59) fun r61 =>
  bd (field_Element_Inverse.f k r61.1) fun r62 =>
  bd (field_Element_Times.f r60.1 r62) fun r63 =>
  bd (field_Element_Bytes.f k r63) fun r64 =>
  some (r64)

/-! 13 postilion/xdh.Public -/
def xdh_Public.f (k : Nat) (a0 : List Int) : Option (List Int) :=
  bd (xdh_Mul.f k a0 ((List.replicate 32 (0 : Int)).set 0 9)) fun r3 =>
  some (r3)

/-! 8 postilion/postilionlaw08.awake -/
def postilionlaw08_awake.f (k : Nat)  : Option (Bool) :=
  bd (xdh_Public.f k ((List.replicate 32 (0 : Int)).set 0 1)) fun r1 =>
  some ((!(r1 == (List.replicate 32 (0 : Int)))))

/-! 3 postilion/postilionlaw08.XdhThree -/
def postilionlaw08_XdhThree.f (k : Nat) (a0 : List Int) (a1 : List Int) (a2 : List Int) : Option (Bool) :=
  bd (postilionlaw08_awake.f k ) fun r4 =>
  br (!r4) (
    some (false)
  ) (
    bd (xdh_Mul.f k a1 a2) fun r5 =>
    bd (xdh_Mul.f k a0 r5) fun r6 =>
    bd (xdh_Mul.f k a0 a2) fun r7 =>
    bd (xdh_Mul.f k a1 r7) fun r8 =>
    some ((r6 == r8))
  )

/-! 29 postilion/postilionref04.From -/
def postilionref04_From.p1 : Nat → List Int → List Int → Int → Option (List Int)
  | 0, _, _, _ => none
  | k + 1, a0, y4, y5 =>
    br (decide (y5 < 32)) (
      chk (0 ≤ (IntKind.i64.wrap (Int.tdiv y5 8)) ∧ (IntKind.i64.wrap (Int.tdiv y5 8)) < 4) <|
      chk (0 ≤ y5 ∧ y5 < 32) <|
      chk (0 ≤ (IntKind.u64.wrap (IntKind.i64.wrap (8 * (Int.tmod y5 8))))) <|
      lt (y4.set ((IntKind.i64.wrap (Int.tdiv y5 8)) : Int).toNat (bits .or .u64 (y4.getD ((IntKind.i64.wrap (Int.tdiv y5 8)) : Int).toNat 0) (IntKind.u64.wrap ((IntKind.u64.wrap (a0.getD (y5 : Int).toNat 0)) * 2 ^ (min ((IntKind.u64.wrap (IntKind.i64.wrap (8 * (Int.tmod y5 8)))) : Int).toNat (IntKind.u64).bits))))) fun x9 =>
      lt (IntKind.i64.wrap (y5 + 1)) fun x10 =>
      postilionref04_From.p1 k a0 x9 x10
    ) (
      some (y4)
    )
def postilionref04_From.f (k : Nat) (a0 : List Int) : Option (List Int) :=
  bd (postilionref04_From.p1 k a0 (List.replicate 4 (0 : Int)) 0) fun m12 =>
  some (m12)

/-! 44 postilion/postilionref04.fold -/
def postilionref04_fold.p1 : Nat → List Int → Int → Option (List Int)
  | 0, _, _ => none
  | k + 1, y3, y4 =>
    br (y4 != 0) (
      bd (math_bits_Mul64.f y4 38) fun r5 =>
      lt r5.1 fun x6 =>
      lt r5.2 fun x7 =>
      chk (0 ≤ (y3.getD 0 0) ∧ 0 ≤ x7 ∧ 0 ≤ (0 : Int) ∧ (0 : Int) ≤ 1) <|
      lt (((y3.getD 0 0) + x7 + 0) / 18446744073709551616) fun x9 =>
      chk (0 ≤ ((y3.set 0 (((y3.getD 0 0) + x7 + 0) % 18446744073709551616)).getD 1 0) ∧ 0 ≤ x6 ∧ 0 ≤ x9 ∧ x9 ≤ 1) <|
      lt ((((y3.set 0 (((y3.getD 0 0) + x7 + 0) % 18446744073709551616)).getD 1 0) + x6 + x9) / 18446744073709551616) fun x11 =>
      lt ((y3.set 0 (((y3.getD 0 0) + x7 + 0) % 18446744073709551616)).set 1 ((((y3.set 0 (((y3.getD 0 0) + x7 + 0) % 18446744073709551616)).getD 1 0) + x6 + x9) % 18446744073709551616)) fun x12 =>
      chk (0 ≤ (x12.getD 2 0) ∧ 0 ≤ (0 : Int) ∧ 0 ≤ x11 ∧ x11 ≤ 1) <|
      lt (((x12.getD 2 0) + 0 + x11) / 18446744073709551616) fun x14 =>
      lt (x12.set 2 (((x12.getD 2 0) + 0 + x11) % 18446744073709551616)) fun x15 =>
      chk (0 ≤ (x15.getD 3 0) ∧ 0 ≤ (0 : Int) ∧ 0 ≤ x14 ∧ x14 ≤ 1) <|
      lt (((x15.getD 3 0) + 0 + x14) / 18446744073709551616) fun x17 =>
      lt (x15.set 3 (((x15.getD 3 0) + 0 + x14) % 18446744073709551616)) fun x18 =>
      postilionref04_fold.p1 k x18 x17
    ) (
      some (y3)
    )
def postilionref04_fold.f (k : Nat) (a0 : List Int) (a1 : Int) : Option (List Int) :=
  bd (postilionref04_fold.p1 k a0 a1) fun m20 =>
  some (m20)

/-! 28 postilion/postilionref04.Plus -/
def postilionref04_Plus.p1 : Nat → List Int → List Int → List Int → Int → Int → Option (Int × List Int)
  | 0, _, _, _, _, _ => none
  | k + 1, a0, a1, y5, y6, y7 =>
    br (decide (y7 < 4)) (
      chk (0 ≤ y7 ∧ y7 < 4) <|
      chk (0 ≤ (a0.getD (y7 : Int).toNat 0) ∧ 0 ≤ (a1.getD (y7 : Int).toNat 0) ∧ 0 ≤ y6 ∧ y6 ≤ 1) <|
      lt (((a0.getD (y7 : Int).toNat 0) + (a1.getD (y7 : Int).toNat 0) + y6) / 18446744073709551616) fun x10 =>
      lt (y5.set (y7 : Int).toNat (((a0.getD (y7 : Int).toNat 0) + (a1.getD (y7 : Int).toNat 0) + y6) % 18446744073709551616)) fun x11 =>
      lt (IntKind.i64.wrap (y7 + 1)) fun x12 =>
      postilionref04_Plus.p1 k a0 a1 x11 x10 x12
    ) (
      some (y6, y5)
    )
def postilionref04_Plus.f (k : Nat) (a0 : List Int) (a1 : List Int) : Option (List Int) :=
  bd (postilionref04_Plus.p1 k a0 a1 (List.replicate 4 (0 : Int)) 0 0) fun (m14, m15) =>
  bd (postilionref04_fold.f k m15 m14) fun r16 =>
  some (r16)

/-! 31 postilion/postilionref04.p -/
def postilionref04_p.f  : Option (List Int) :=
  lt [18446744073709551597, 18446744073709551615, 18446744073709551615, 9223372036854775807] fun x2 =>
  some (x2)

/-! 30 postilion/postilionref04.below -/
def postilionref04_below.p1 : Nat → List Int → List Int → Int → Option ((Unit) ⊕ (Bool))
  | 0, _, _, _ => none
  | k + 1, a0, a1, y3 =>
    br (decide (y3 ≥ 0)) (
      chk (0 ≤ y3 ∧ y3 < 4) <|
      lt ((a0.getD (y3 : Int).toNat 0) != (a1.getD (y3 : Int).toNat 0)) fun t5 =>
      br t5 (
        lt (decide ((a0.getD (y3 : Int).toNat 0) < (a1.getD (y3 : Int).toNat 0))) fun t6 =>
        some (.inr (t6))
      ) (
        lt (IntKind.i64.wrap (y3 - 1)) fun x7 =>
        postilionref04_below.p1 k a0 a1 x7
      )
    ) (
      some (.inl ())
    )
def postilionref04_below.f (k : Nat) (a0 : List Int) (a1 : List Int) : Option (Bool) :=
  bd (postilionref04_below.p1 k a0 a1 3) fun r8 => match r8 with
    | (.inl _) => some (false)
    | (.inr m9) => some (m9)

/-! 45 postilion/postilionref04.less -/
def postilionref04_less.p1 : Nat → List Int → List Int → List Int → Int → Int → Option (List Int)
  | 0, _, _, _, _, _ => none
  | k + 1, a0, a1, y5, y6, y7 =>
    br (decide (y7 < 4)) (
      chk (0 ≤ y7 ∧ y7 < 4) <|
      chk (0 ≤ (a0.getD (y7 : Int).toNat 0) ∧ (0 ≤ (a1.getD (y7 : Int).toNat 0) ∧ (a1.getD (y7 : Int).toNat 0) < 18446744073709551616) ∧ 0 ≤ y6 ∧ y6 ≤ 1) <|
      lt (if (a0.getD (y7 : Int).toNat 0) < (a1.getD (y7 : Int).toNat 0) + y6 then 1 else 0) fun x10 =>
      lt (y5.set (y7 : Int).toNat (((a0.getD (y7 : Int).toNat 0) - (a1.getD (y7 : Int).toNat 0) - y6) % 18446744073709551616)) fun x11 =>
      lt (IntKind.i64.wrap (y7 + 1)) fun x12 =>
      postilionref04_less.p1 k a0 a1 x11 x10 x12
    ) (
      some (y5)
    )
def postilionref04_less.f (k : Nat) (a0 : List Int) (a1 : List Int) : Option (List Int) :=
  bd (postilionref04_less.p1 k a0 a1 (List.replicate 4 (0 : Int)) 0 0) fun m14 =>
  some (m14)

/-! 42 postilion/postilionref04.Least -/
def postilionref04_Least.p1 : Nat → List Int → Option (List Int)
  | 0, _ => none
  | k + 1, y3 =>
    bd (postilionref04_p.f ) fun r4 =>
    bd (postilionref04_below.f k y3 r4) fun r5 =>
    br (!r5) (
      bd (postilionref04_p.f ) fun r6 =>
      bd (postilionref04_less.f k y3 r6) fun r7 =>
      postilionref04_Least.p1 k r7
    ) (
      some (y3)
    )
def postilionref04_Least.f (k : Nat) (a0 : List Int) : Option (List Int) :=
  bd (postilionref04_Least.p1 k a0) fun m9 =>
  some (m9)

/-! 27 postilion/postilionref04.Bytes -/
def postilionref04_Bytes.p1 : Nat → List Int → List Int → Int → Option (List Int)
  | 0, _, _, _ => none
  | k + 1, r3, y5, y6 =>
    br (decide (y6 < 32)) (
      chk (0 ≤ (IntKind.i64.wrap (Int.tdiv y6 8)) ∧ (IntKind.i64.wrap (Int.tdiv y6 8)) < 4) <|
      chk (0 ≤ (IntKind.u64.wrap (IntKind.i64.wrap (8 * (Int.tmod y6 8))))) <|
      chk (0 ≤ y6 ∧ y6 < 32) <|
      lt (y5.set (y6 : Int).toNat (IntKind.u8.wrap (Int.fdiv (r3.getD ((IntKind.i64.wrap (Int.tdiv y6 8)) : Int).toNat 0) (2 ^ (min ((IntKind.u64.wrap (IntKind.i64.wrap (8 * (Int.tmod y6 8)))) : Int).toNat (IntKind.u64).bits))))) fun x10 =>
      lt (IntKind.i64.wrap (y6 + 1)) fun x11 =>
      postilionref04_Bytes.p1 k r3 x10 x11
    ) (
      some (y5)
    )
def postilionref04_Bytes.f (k : Nat) (a0 : List Int) : Option (List Int) :=
  bd (postilionref04_Least.f k a0) fun r3 =>
  bd (postilionref04_Bytes.p1 k r3 (List.replicate 32 (0 : Int)) 0) fun m13 =>
  some (m13)

/-! 10 postilion/postilionref04.Add -/
def postilionref04_Add.f (k : Nat) (a0 : List Int) (a1 : List Int) : Option (List Int) :=
  bd (postilionref04_From.f k a0) fun r4 =>
  bd (postilionref04_From.f k a1) fun r5 =>
  bd (postilionref04_Plus.f k r4 r5) fun r6 =>
  bd (postilionref04_Bytes.f k r6) fun r7 =>
  some (r7)

/-! 11 postilion/postilionref04.Canonical -/
def postilionref04_Canonical.f (k : Nat) (a0 : List Int) : Option (Bool) :=
  bd (postilionref04_From.f k a0) fun r2 =>
  bd (postilionref04_p.f ) fun r3 =>
  bd (postilionref04_below.f k r2 r3) fun r4 =>
  some (r4)

/-! 4 postilion/postilionlaw08.XdhBits -/
def postilionlaw08_XdhBits.p1 (k : Nat) (a0 : List Int) (a1 : List Int) (x7 : List Int) (r8 : List Int) (r10 : List Int) : Option (Bool) :=
  bd (xdh_Mul.f k x7 (a1.set 31 (bits .xor .u8 (a1.getD 31 0) 128))) fun r12 =>
  br (r8 == r12) (
    bd (xdh_Mul.f k a0 r10) fun r13 =>
    br (r8 == r13) (
      bd (postilionref04_Canonical.f k r8) fun r14 =>
      some (r14)
    ) (
      some (false)
    )
  ) (
    some (false)
  )
def postilionlaw08_XdhBits.f (k : Nat) (a0 : List Int) (a1 : List Int) (a2 : Int) (a3 : Int) : Option (Bool) :=
  bd (postilionlaw08_awake.f k ) fun r3 =>
  br (!r3) (
    some (false)
  ) (
    lt (a0.set 0 (bits .xor .u8 (a0.getD 0 0) (bits .and .u8 a2 7))) fun x6 =>
    lt (x6.set 31 (bits .xor .u8 (x6.getD 31 0) (bits .and .u8 a3 192))) fun x7 =>
    bd (xdh_Mul.f k a0 a1) fun r8 =>
    bd (postilionref04_Add.f k (a1.set 31 (bits .and .u8 (a1.getD 31 0) 127)) (List.replicate 32 (0 : Int))) fun r10 =>
    bd (postilionlaw08_XdhBits.p1 k a0 a1 x7 r8 r10) fun m16 =>
    some (m16)
  )

/-! 12 postilion/xdh.Shared -/
def xdh_Shared.f (k : Nat) (a0 : List Int) (a1 : List Int) : Option (List Int × Int) :=
  bd (xdh_Mul.f k a0 a1) fun r4 =>
  br (r4 == (List.replicate 32 (0 : Int))) (
    some (r4, 2)
  ) (
    some (r4, 0)
  )

/-! 5 postilion/postilionlaw08.XdhAgree -/
def postilionlaw08_XdhAgree.p1 (x7 : Int) (x11 : Int) (r5 : List Int × Int) (r9 : List Int × Int) : Option (Bool) :=
  br (x7 == 0) (
    br (x11 == 0) (
      some ((r5.1 == r9.1))
    ) (
      some (false)
    )
  ) (
    some (false)
  )
def postilionlaw08_XdhAgree.f (k : Nat) (a0 : List Int) (a1 : List Int) : Option (Bool) :=
  bd (postilionlaw08_awake.f k ) fun r3 =>
  br (!r3) (
    some (false)
  ) (
    bd (xdh_Public.f k a1) fun r4 =>
    bd (xdh_Shared.f k a0 r4) fun r5 =>
    lt r5.2 fun x7 =>
    bd (xdh_Public.f k a0) fun r8 =>
    bd (xdh_Shared.f k a1 r8) fun r9 =>
    lt r9.2 fun x11 =>
    bd (postilionlaw08_XdhAgree.p1 x7 x11 r5 r9) fun m13 =>
    some (m13)
  )

/-! 32 postilion/postilionref04.Small -/
def postilionref04_Small.f (a0 : Int) : Option (List Int) :=
  some ([a0, 0, 0, 0])

/-! 33 postilion/postilionref04.Minus -/
def postilionref04_Minus.f (k : Nat) (a0 : List Int) (a1 : List Int) : Option (List Int) :=
  bd (postilionref04_p.f ) fun r4 =>
  bd (postilionref04_Least.f k a1) fun r5 =>
  bd (postilionref04_less.f k r4 r5) fun r6 =>
  bd (postilionref04_Plus.f k a0 r6) fun r7 =>
  some (r7)

/-! 34 postilion/postilionref04.Times -/
def postilionref04_Times.p2 : Nat → Int → List Int → List Int → List Int → Int → Int → Option (Int × List Int)
  | 0, _, _, _, _, _, _ => none
  | k + 1, y6, a0, a1, y7, y8, y9 =>
    br (decide (y9 < 4)) (
      chk (0 ≤ y6 ∧ y6 < 4) <|
      chk (0 ≤ y9 ∧ y9 < 4) <|
      bd (math_bits_Mul64.f (a0.getD (y6 : Int).toNat 0) (a1.getD (y9 : Int).toNat 0)) fun r12 =>
      lt r12.1 fun x13 =>
      lt r12.2 fun x14 =>
      chk (0 ≤ (IntKind.i64.wrap (y6 + y9)) ∧ (IntKind.i64.wrap (y6 + y9)) < 8) <|
      chk (0 ≤ x14 ∧ 0 ≤ (y7.getD ((IntKind.i64.wrap (y6 + y9)) : Int).toNat 0) ∧ 0 ≤ (0 : Int) ∧ (0 : Int) ≤ 1) <|
      lt ((x14 + (y7.getD ((IntKind.i64.wrap (y6 + y9)) : Int).toNat 0) + 0) % 18446744073709551616) fun x17 =>
      lt ((x14 + (y7.getD ((IntKind.i64.wrap (y6 + y9)) : Int).toNat 0) + 0) / 18446744073709551616) fun x18 =>
      lt (IntKind.u64.wrap (x13 + x18)) fun x19 =>
      chk (0 ≤ x17 ∧ 0 ≤ y8 ∧ 0 ≤ (0 : Int) ∧ (0 : Int) ≤ 1) <|
      lt ((x17 + y8 + 0) % 18446744073709551616) fun x21 =>
      lt ((x17 + y8 + 0) / 18446744073709551616) fun x22 =>
      lt (IntKind.u64.wrap (x19 + x22)) fun x23 =>
      lt (IntKind.i64.wrap (y9 + 1)) fun x24 =>
      postilionref04_Times.p2 k y6 a0 a1 (y7.set ((IntKind.i64.wrap (y6 + y9)) : Int).toNat x21) x23 x24
    ) (
      some (y8, y7)
    )
def postilionref04_Times.p1 : Nat → List Int → List Int → List Int → Int → Option (List Int)
  | 0, _, _, _, _ => none
  | k + 1, a0, a1, y5, y6 =>
    br (decide (y6 < 4)) (
      bd (postilionref04_Times.p2 k y6 a0 a1 y5 0 0) fun (m26, m27) =>
      chk (0 ≤ (IntKind.i64.wrap (y6 + 4)) ∧ (IntKind.i64.wrap (y6 + 4)) < 8) <|
      lt (IntKind.i64.wrap (y6 + 1)) fun x29 =>
      postilionref04_Times.p1 k a0 a1 (m27.set ((IntKind.i64.wrap (y6 + 4)) : Int).toNat m26) x29
    ) (
      some (y5)
    )
def postilionref04_Times.p3 : Nat → List Int → List Int → Int → Int → Int → Option (Int × Int × List Int)
  | 0, _, _, _, _, _ => none
  | k + 1, m31, y34, y35, y36, y37 =>
    br (decide (y37 < 4)) (
      chk (0 ≤ (IntKind.i64.wrap (y37 + 4)) ∧ (IntKind.i64.wrap (y37 + 4)) < 8) <|
      bd (math_bits_Mul64.f (m31.getD ((IntKind.i64.wrap (y37 + 4)) : Int).toNat 0) 38) fun r39 =>
      lt r39.1 fun x40 =>
      lt r39.2 fun x41 =>
      chk (0 ≤ x41 ∧ 0 ≤ y35 ∧ 0 ≤ (0 : Int) ∧ (0 : Int) ≤ 1) <|
      lt ((x41 + y35 + 0) % 18446744073709551616) fun x43 =>
      lt ((x41 + y35 + 0) / 18446744073709551616) fun x44 =>
      lt (IntKind.u64.wrap (x40 + x44)) fun x45 =>
      chk (0 ≤ y37 ∧ y37 < 4) <|
      chk (0 ≤ (y34.getD (y37 : Int).toNat 0) ∧ 0 ≤ x43 ∧ 0 ≤ y36 ∧ y36 ≤ 1) <|
      lt (((y34.getD (y37 : Int).toNat 0) + x43 + y36) / 18446744073709551616) fun x48 =>
      lt (y34.set (y37 : Int).toNat (((y34.getD (y37 : Int).toNat 0) + x43 + y36) % 18446744073709551616)) fun x49 =>
      lt (IntKind.i64.wrap (y37 + 1)) fun x50 =>
      postilionref04_Times.p3 k m31 x49 x45 x48 x50
    ) (
      some (y35, y36, y34)
    )
def postilionref04_Times.f (k : Nat) (a0 : List Int) (a1 : List Int) : Option (List Int) :=
  bd (postilionref04_Times.p1 k a0 a1 (List.replicate 8 (0 : Int)) 0) fun m31 =>
  lt [(m31.getD 0 0), (m31.getD 1 0), (m31.getD 2 0), (m31.getD 3 0)] fun x33 =>
  bd (postilionref04_Times.p3 k m31 x33 0 0 0) fun (m52, m53, m54) =>
  bd (postilionref04_fold.f k m54 (IntKind.u64.wrap (m52 + m53))) fun r55 =>
  some (r55)

/-! 47 postilion/postilionref04.Power -/
def postilionref04_Power.p3 (k : Nat) (t11 : Bool) (a0 : List Int) (r8 : List Int) : Option (List Int) :=
  br t11 (
    bd (postilionref04_Times.f k r8 a0) fun r12 =>
    some (r12)
  ) (
    some (r8)
  )
def postilionref04_Power.p2 (k : Nat) (y7 : Int) (a0 : List Int) (a1 : List Int) (y6 : List Int) : Option (List Int) :=
  bd (postilionref04_Times.f k y6 y6) fun r8 =>
  chk (0 ≤ (IntKind.i64.wrap (Int.tdiv y7 64)) ∧ (IntKind.i64.wrap (Int.tdiv y7 64)) < 4) <|
  chk (0 ≤ (IntKind.u64.wrap (Int.tmod y7 64))) <|
  lt ((bits .and .u64 (Int.fdiv (a1.getD ((IntKind.i64.wrap (Int.tdiv y7 64)) : Int).toNat 0) (2 ^ (min ((IntKind.u64.wrap (Int.tmod y7 64)) : Int).toNat (IntKind.u64).bits))) 1) == 1) fun t11 =>
  bd (postilionref04_Power.p3 k t11 a0 r8) fun m14 =>
  some (m14)
def postilionref04_Power.p1 : Nat → List Int → List Int → List Int → Int → Option (List Int)
  | 0, _, _, _, _ => none
  | k + 1, a0, a1, y6, y7 =>
    br (decide (y7 ≥ 0)) (
      bd (postilionref04_Power.p2 k y7 a0 a1 y6) fun m16 =>
      lt (IntKind.i64.wrap (y7 - 1)) fun x17 =>
      postilionref04_Power.p1 k a0 a1 m16 x17
    ) (
      some (y6)
    )
def postilionref04_Power.f (k : Nat) (a0 : List Int) (a1 : List Int) : Option (List Int) :=
  bd (postilionref04_Small.f 1) fun r4 =>
  bd (postilionref04_Power.p1 k a0 a1 r4 255) fun m19 =>
  some (m19)

/-! 35 postilion/postilionref04.Inverse -/
def postilionref04_Inverse.f (k : Nat) (a0 : List Int) : Option (List Int) :=
  bd (postilionref04_p.f ) fun r3 =>
  bd (postilionref04_Power.f k a0 (r3.set 0 (IntKind.u64.wrap ((r3.getD 0 0) - 2)))) fun r5 =>
  some (r5)

/-! 15 postilion/postilionref03.Mul -/
def postilionref03_Mul.p3 (x21 : Int) (y14 : List Int) (y15 : List Int) (y16 : List Int) (y17 : List Int) : Option (List Int × List Int × List Int × List Int) :=
  br (x21 == 1) (
    some (y16, y17, y14, y15)
  ) (
    some (y14, y15, y16, y17)
  )
def postilionref03_Mul.p4 (x21 : Int) (r50 : List Int) (r54 : List Int) (r45 : List Int) (r49 : List Int) : Option (List Int × List Int × List Int × List Int) :=
  br (x21 == 1) (
    some (r45, r49, r50, r54)
  ) (
    some (r50, r54, r45, r49)
  )
def postilionref03_Mul.p2 (k : Nat) (y18 : Int) (x4 : List Int) (r5 : List Int) (y14 : List Int) (y15 : List Int) (y16 : List Int) (y17 : List Int) : Option (List Int × List Int × List Int × List Int) :=
  chk (0 ≤ (IntKind.i64.wrap (Int.tdiv y18 8)) ∧ (IntKind.i64.wrap (Int.tdiv y18 8)) < 32) <|
  chk (0 ≤ (Int.tmod y18 8)) <|
  lt (bits .and .u8 (Int.fdiv (x4.getD ((IntKind.i64.wrap (Int.tdiv y18 8)) : Int).toNat 0) (2 ^ (min ((Int.tmod y18 8) : Int).toNat (IntKind.u8).bits))) 1) fun x21 =>
  bd (postilionref03_Mul.p3 x21 y14 y15 y16 y17) fun (m23, m24, m25, m26) =>
  bd (postilionref04_Plus.f k m23 m24) fun r27 =>
  bd (postilionref04_Minus.f k m23 m24) fun r28 =>
  bd (postilionref04_Times.f k r27 r27) fun r31 =>
  bd (postilionref04_Times.f k r28 r28) fun r32 =>
  bd (postilionref04_Minus.f k r31 r32) fun r35 =>
  bd (postilionref04_Plus.f k m25 m26) fun r37 =>
  bd (postilionref04_Times.f k r28 r37) fun r38 =>
  bd (postilionref04_Minus.f k m25 m26) fun r39 =>
  bd (postilionref04_Times.f k r27 r39) fun r40 =>
  bd (postilionref04_Plus.f k r38 r40) fun r43 =>
  bd (postilionref04_Plus.f k r38 r40) fun r44 =>
  bd (postilionref04_Times.f k r43 r44) fun r45 =>
  bd (postilionref04_Minus.f k r38 r40) fun r46 =>
  bd (postilionref04_Minus.f k r38 r40) fun r47 =>
  bd (postilionref04_Times.f k r46 r47) fun r48 =>
  bd (postilionref04_Times.f k r5 r48) fun r49 =>
  bd (postilionref04_Times.f k r31 r32) fun r50 =>
  bd (postilionref04_Small.f 121665) fun r51 =>
  bd (postilionref04_Times.f k r51 r35) fun r52 =>
  bd (postilionref04_Plus.f k r31 r52) fun r53 =>
  bd (postilionref04_Times.f k r35 r53) fun r54 =>
  bd (postilionref03_Mul.p4 x21 r50 r54 r45 r49) fun (m56, m57, m58, m59) =>
  some (m56, m57, m58, m59)
def postilionref03_Mul.p1 : Nat → List Int → List Int → List Int → List Int → List Int → List Int → Int → Option (List Int × List Int × List Int × List Int)
  | 0, _, _, _, _, _, _, _ => none
  | k + 1, x4, r5, y14, y15, y16, y17, y18 =>
    br (decide (y18 ≥ 0)) (
      bd (postilionref03_Mul.p2 k y18 x4 r5 y14 y15 y16 y17) fun (m61, m62, m63, m64) =>
      lt (IntKind.i64.wrap (y18 - 1)) fun x65 =>
      postilionref03_Mul.p1 k x4 r5 m61 m62 m63 m64 x65
    ) (
      some (y14, y15, y16, y17)
    )
def postilionref03_Mul.f (k : Nat) (a0 : List Int) (a1 : List Int) : Option (List Int) :=
  lt ((a0.set 0 (bits .and .u8 (a0.getD 0 0) 248)).set 31 (bits .or .u8 (bits .and .u8 ((a0.set 0 (bits .and .u8 (a0.getD 0 0) 248)).getD 31 0) 127) 64)) fun x4 =>
  bd (postilionref04_From.f k (a1.set 31 (bits .and .u8 (a1.getD 31 0) 127))) fun r5 =>
  bd (postilionref04_Small.f 1) fun r7 =>
  bd (postilionref04_Small.f 0) fun r8 =>
  bd (postilionref04_Small.f 1) fun r9 =>
  bd (postilionref03_Mul.p1 k x4 r5 r7 r8 r5 r9 254) fun (m67, m68, m69, m70) =>
  bd (postilionref04_Inverse.f k m68) fun r71 =>
  bd (postilionref04_Times.f k m67 r71) fun r72 =>
  bd (postilionref04_Bytes.f k r72) fun r73 =>
  some (r73)

/-! 14 postilion/postilionref03.Shared -/
def postilionref03_Shared.f (k : Nat) (a0 : List Int) (a1 : List Int) : Option (List Int × Int) :=
  bd (postilionref03_Mul.f k a0 a1) fun r4 =>
  br (r4 == (List.replicate 32 (0 : Int))) (
    some (r4, 2)
  ) (
    some (r4, 0)
  )

/-! 16 postilion/postilionref03.Public -/
def postilionref03_Public.f (k : Nat) (a0 : List Int) : Option (List Int) :=
  bd (postilionref03_Mul.f k a0 ((List.replicate 32 (0 : Int)).set 0 9)) fun r3 =>
  some (r3)

/-! 6 postilion/postilionlaw08.XdhMuls -/
def postilionlaw08_XdhMuls.p1 (k : Nat) (x6 : Int) (x9 : Int) (a0 : List Int) (a1 : List Int) (r4 : List Int × Int) (r7 : List Int × Int) : Option (Bool) :=
  bd (xdh_Mul.f k a0 a1) fun r10 =>
  bd (postilionref03_Mul.f k a0 a1) fun r11 =>
  br (r10 == r11) (
    bd (xdh_Public.f k a0) fun r12 =>
    bd (postilionref03_Public.f k a0) fun r13 =>
    br (r12 == r13) (
      br (r4.1 == r7.1) (
        some ((x6 == x9))
      ) (
        some (false)
      )
    ) (
      some (false)
    )
  ) (
    some (false)
  )
def postilionlaw08_XdhMuls.f (k : Nat) (a0 : List Int) (a1 : List Int) : Option (Bool) :=
  bd (postilionlaw08_awake.f k ) fun r3 =>
  br (!r3) (
    some (false)
  ) (
    bd (xdh_Shared.f k a0 a1) fun r4 =>
    lt r4.2 fun x6 =>
    bd (postilionref03_Shared.f k a0 a1) fun r7 =>
    lt r7.2 fun x9 =>
    bd (postilionlaw08_XdhMuls.p1 k x6 x9 a0 a1 r4 r7) fun m15 =>
    some (m15)
  )

/-! 17 postilion/postilionref04.Sub -/
def postilionref04_Sub.f (k : Nat) (a0 : List Int) (a1 : List Int) : Option (List Int) :=
  bd (postilionref04_From.f k a0) fun r4 =>
  bd (postilionref04_From.f k a1) fun r5 =>
  bd (postilionref04_Minus.f k r4 r5) fun r6 =>
  bd (postilionref04_Bytes.f k r6) fun r7 =>
  some (r7)

/-! 7 postilion/postilionlaw08.XdhSmall -/
def postilionlaw08_XdhSmall.p1 (k : Nat) (a1 : Int) : Option (List Int) :=
  br ((Int.tmod a1 3) == 2) (
    bd (postilionref04_Sub.f k (List.replicate 32 (0 : Int)) ((List.replicate 32 (0 : Int)).set 0 1)) fun r4 =>
    some (r4)
  ) (
    some (((List.replicate 32 (0 : Int)).set 0 (Int.tmod a1 2)))
  )
def postilionlaw08_XdhSmall.p2 (x9 : Int) (r7 : List Int × Int) : Option (Bool) :=
  br (x9 == 2) (
    some ((r7.1 == (List.replicate 32 (0 : Int))))
  ) (
    some (false)
  )
def postilionlaw08_XdhSmall.f (k : Nat) (a0 : List Int) (a1 : Int) : Option (Bool) :=
  bd (postilionlaw08_awake.f k ) fun r2 =>
  br (!r2) (
    some (false)
  ) (
    bd (postilionlaw08_XdhSmall.p1 k a1) fun m6 =>
    bd (xdh_Shared.f k a0 m6) fun r7 =>
    lt r7.2 fun x9 =>
    bd (postilionlaw08_XdhSmall.p2 x9 r7) fun m11 =>
    some (m11)
  )
end Go.Proofs.Ytigbkodgnikigaa
