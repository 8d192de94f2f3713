/-
  What the functions that a law reaches compute, as plain definitions. Printed by my own program.
  Conditions: none; every function is taken as the given program's form has it.
-/
import Derived.Test.YtpnkcajlgaokiaaDoorGx
namespace Go.Proofs.YtpnkcajlgaokiaaDoor
open Go Go.Gx Go.RowKit
set_option linter.unusedVariables false
set_option maxRecDepth 100000
/-! 20 math/bits.Mul64 -/
def math_bits_Mul64.f (a0 : Int) (a1 : Int) : Option (Int × Int) :=
  lt (bits .and .u64 a0 4294967295) fun x1 =>
  lt (Int.fdiv a0 (2 ^ 32)) fun x2 =>
  lt (bits .and .u64 a1 4294967295) fun x3 =>
  lt (Int.fdiv a1 (2 ^ 32)) fun x4 =>
  lt (IntKind.u64.wrap (x1 * x3)) fun x5 =>
  lt (IntKind.u64.wrap ((IntKind.u64.wrap (x2 * x3)) + (Int.fdiv x5 (2 ^ 32)))) fun x6 =>
  lt (bits .and .u64 x6 4294967295) fun x7 =>
  lt (Int.fdiv x6 (2 ^ 32)) fun x8 =>
  lt (IntKind.u64.wrap (x7 + (IntKind.u64.wrap (x1 * x4)))) fun x9 =>
  lt (IntKind.u64.wrap ((IntKind.u64.wrap ((IntKind.u64.wrap (x2 * x4)) + x8)) + (Int.fdiv x9 (2 ^ 32)))) fun x10 =>
  lt (IntKind.u64.wrap (a0 * a1)) fun x11 =>
  some (x10, x11)

/-! 22 (postilion/scalar.number).add -/
def scalar_number_add.p1 : Nat → List Int → List Int → Int → Int → Option (List Int)
  | 0, _, _, _, _ => none
  | k + 1, a1, y4, y5, y6 =>
    br (decide (y6 < 4)) (
      chk (0 ≤ y6 ∧ y6 < 4) <|
      chk (0 ≤ (y4.getD (y6 : Int).toNat 0) ∧ 0 ≤ (a1.getD (y6 : Int).toNat 0) ∧ 0 ≤ y5 ∧ y5 ≤ 1) <|
      lt (((y4.getD (y6 : Int).toNat 0) + (a1.getD (y6 : Int).toNat 0) + y5) / 18446744073709551616) fun x9 =>
      lt (IntKind.i64.wrap (y6 + 1)) fun x10 =>
      scalar_number_add.p1 k a1 (y4.set (y6 : Int).toNat (((y4.getD (y6 : Int).toNat 0) + (a1.getD (y6 : Int).toNat 0) + y5) % 18446744073709551616)) x9 x10
    ) (
      some (y4)
    )
def scalar_number_add.f (k : Nat) (a0 : List Int) (a1 : List Int) : Option (List Int) :=
  bd (scalar_number_add.p1 k a1 a0 0 0) fun m12 =>
  some (m12)

/-! 24 (postilion/scalar.number).sub -/
def scalar_number_sub.p1 : Nat → List Int → List Int → Int → Int → Option (Int × List Int)
  | 0, _, _, _, _ => none
  | k + 1, a1, y4, y5, y6 =>
    br (decide (y6 < 4)) (
      chk (0 ≤ y6 ∧ y6 < 4) <|
      chk (0 ≤ (y4.getD (y6 : Int).toNat 0) ∧ (0 ≤ (a1.getD (y6 : Int).toNat 0) ∧ (a1.getD (y6 : Int).toNat 0) < 18446744073709551616) ∧ 0 ≤ y5 ∧ y5 ≤ 1) <|
      lt (if (y4.getD (y6 : Int).toNat 0) < (a1.getD (y6 : Int).toNat 0) + y5 then 1 else 0) fun x9 =>
      lt (IntKind.i64.wrap (y6 + 1)) fun x10 =>
      scalar_number_sub.p1 k a1 (y4.set (y6 : Int).toNat (((y4.getD (y6 : Int).toNat 0) - (a1.getD (y6 : Int).toNat 0) - y5) % 18446744073709551616)) x9 x10
    ) (
      some (y5, y4)
    )
def scalar_number_sub.f (k : Nat) (a0 : List Int) (a1 : List Int) : Option (List Int × Int) :=
  bd (scalar_number_sub.p1 k a1 a0 0 0) fun (m12, m13) =>
  some (m13, m12)

/-! 23 (postilion/scalar.number).less -/
def scalar_number_less.f (k : Nat) (a0 : List Int) : Option (List Int) :=
  bd (scalar_number_sub.f k a0 [6346243789798364141, 1503914060200516822, 0, 1152921504606846976]) fun r3 =>
  lt r3.2 fun x5 =>
  br (x5 == 0) (
    some (r3.1)
  ) (
    some (a0)
  )

/-! 32 (postilion/scalar.number).shift -/
def scalar_number_shift.p1 (k : Nat) (x23 : Int) (r21 : List Int × Int) : Option (List Int) :=
  br (x23 != 0) (
    bd (scalar_number_add.f k r21.1 [6346243789798364141, 1503914060200516822, 0, 1152921504606846976]) fun r24 =>
    some (r24)
  ) (
    some (r21.1)
  )
def scalar_number_shift.f (k : Nat) (a0 : List Int) (a1 : Int) : Option (List Int) :=
  lt (bits .or .u64 (Int.fdiv (a0.getD 2 0) (2 ^ 60)) (IntKind.u64.wrap ((a0.getD 3 0) * 2 ^ 4))) fun x3 =>
  lt (Int.fdiv (a0.getD 3 0) (2 ^ 60)) fun x4 =>
  bd (math_bits_Mul64.f x3 6346243789798364141) fun r6 =>
  lt r6.1 fun x7 =>
  lt r6.2 fun x8 =>
  bd (math_bits_Mul64.f x3 1503914060200516822) fun r9 =>
  lt r9.1 fun x10 =>
  lt r9.2 fun x11 =>
  bd (math_bits_Mul64.f x4 6346243789798364141) fun r12 =>
  lt r12.1 fun x13 =>
  lt r12.2 fun x14 =>
  bd (math_bits_Mul64.f x4 1503914060200516822) fun r15 =>
  lt r15.2 fun x16 =>
  bd (scalar_number_add.f k [x8, x7, x10, 0] [0, x11, 0, 0]) fun r18 =>
  bd (scalar_number_add.f k r18 [0, x14, x13, 0]) fun r19 =>
  bd (scalar_number_add.f k r19 [0, 0, x16, 0]) fun r20 =>
  bd (scalar_number_sub.f k [a1, (a0.getD 0 0), (a0.getD 1 0), (bits .and .u64 (a0.getD 2 0) 1152921504606846975)] r20) fun r21 =>
  lt r21.2 fun x23 =>
  bd (scalar_number_shift.p1 k x23 r21) fun m26 =>
  bd (scalar_number_less.f k m26) fun r27 =>
  some (r27)

/-! 18 postilion/scalar.reduce -/
def scalar_reduce.p2 : Nat → List Int → Int → Int → Int → Option (Int)
  | 0, _, _, _, _ => none
  | k + 1, a0, y5, y6, y7 =>
    br (decide (y7 ≥ 0)) (
      chk (0 ≤ (IntKind.i64.wrap (y5 + y7)) ∧ (IntKind.i64.wrap (y5 + y7)) < a0.length) <|
      lt (bits .or .u64 (IntKind.u64.wrap (y6 * 2 ^ 8)) (IntKind.u64.wrap (a0.getD ((IntKind.i64.wrap (y5 + y7)) : Int).toNat 0))) fun x9 =>
      lt (IntKind.i64.wrap (y7 - 1)) fun x10 =>
      scalar_reduce.p2 k a0 y5 x9 x10
    ) (
      some (y6)
    )
def scalar_reduce.p1 : Nat → List Int → List Int → Int → Option (List Int)
  | 0, _, _, _ => none
  | k + 1, a0, y4, y5 =>
    br (decide (y5 ≥ 0)) (
      bd (scalar_reduce.p2 k a0 y5 0 7) fun m12 =>
      bd (scalar_number_shift.f k y4 m12) fun r13 =>
      lt (IntKind.i64.wrap (y5 - 8)) fun x14 =>
      scalar_reduce.p1 k a0 r13 x14
    ) (
      some (y4)
    )
def scalar_reduce.f (k : Nat) (a0 : List Int) : Option (List Int) :=
  lt (IntKind.i64.wrap (((a0.length : Nat) : Int) - 8)) fun x3 =>
  bd (scalar_reduce.p1 k a0 (List.replicate 4 (0 : Int)) x3) fun m16 =>
  some (m16)

/-! 19 (postilion/scalar.number).bytes -/
def scalar_number_bytes.p1 : Nat → List Int → List Int → Int → Option (List Int)
  | 0, _, _, _ => none
  | k + 1, a0, y4, y5 =>
    br (decide (y5 < 32)) (
      chk (0 ≤ (IntKind.i64.wrap (Int.tdiv y5 8)) ∧ (IntKind.i64.wrap (Int.tdiv y5 8)) < 4) <|
      chk (0 ≤ (IntKind.i64.wrap (8 * (Int.tmod y5 8)))) <|
      chk (0 ≤ y5 ∧ y5 < 32) <|
      lt (IntKind.i64.wrap (y5 + 1)) fun x9 =>
      scalar_number_bytes.p1 k a0 (y4.set (y5 : Int).toNat (IntKind.u8.wrap (Int.fdiv (a0.getD ((IntKind.i64.wrap (Int.tdiv y5 8)) : Int).toNat 0) (2 ^ (min ((IntKind.i64.wrap (8 * (Int.tmod y5 8))) : Int).toNat (IntKind.u64).bits))))) x9
    ) (
      some (y4)
    )
def scalar_number_bytes.f (k : Nat) (a0 : List Int) : Option (List Int) :=
  bd (scalar_number_bytes.p1 k a0 (List.replicate 32 (0 : Int)) 0) fun m11 =>
  some (m11)

/-! 9 postilion/scalar.MulAdd -/
def scalar_MulAdd.p2 : Nat → Int → List Int → List Int → List Int → Int → Int → Option (Int × List Int)
  | 0, _, _, _, _, _, _ => none
  | k + 1, y11, r5, r6, y12, y13, y14 =>
    br (decide (y14 < 4)) (
      chk (0 ≤ y11 ∧ y11 < 4) <|
      chk (0 ≤ y14 ∧ y14 < 4) <|
      bd (math_bits_Mul64.f (r5.getD (y11 : Int).toNat 0) (r6.getD (y14 : Int).toNat 0)) fun r17 =>
      lt r17.1 fun x18 =>
      lt r17.2 fun x19 =>
      chk (0 ≤ (IntKind.i64.wrap (y11 + y14)) ∧ (IntKind.i64.wrap (y11 + y14)) < 8) <|
      chk (0 ≤ x19 ∧ 0 ≤ (y12.getD ((IntKind.i64.wrap (y11 + y14)) : Int).toNat 0) ∧ 0 ≤ (0 : Int) ∧ (0 : Int) ≤ 1) <|
      lt ((x19 + (y12.getD ((IntKind.i64.wrap (y11 + y14)) : Int).toNat 0) + 0) % 18446744073709551616) fun x22 =>
      lt ((x19 + (y12.getD ((IntKind.i64.wrap (y11 + y14)) : Int).toNat 0) + 0) / 18446744073709551616) fun x23 =>
      chk (0 ≤ x22 ∧ 0 ≤ y13 ∧ 0 ≤ (0 : Int) ∧ (0 : Int) ≤ 1) <|
      lt ((x22 + y13 + 0) % 18446744073709551616) fun x25 =>
      lt ((x22 + y13 + 0) / 18446744073709551616) fun x26 =>
      lt (IntKind.u64.wrap ((IntKind.u64.wrap (x18 + x23)) + x26)) fun x27 =>
      lt (IntKind.i64.wrap (y14 + 1)) fun x28 =>
      scalar_MulAdd.p2 k y11 r5 r6 (y12.set ((IntKind.i64.wrap (y11 + y14)) : Int).toNat x25) x27 x28
    ) (
      some (y13, y12)
    )
def scalar_MulAdd.p1 : Nat → List Int → List Int → List Int → Int → Option (List Int)
  | 0, _, _, _, _ => none
  | k + 1, r5, r6, y10, y11 =>
    br (decide (y11 < 4)) (
      bd (scalar_MulAdd.p2 k y11 r5 r6 y10 0 0) fun (m30, m31) =>
      chk (0 ≤ (IntKind.i64.wrap (y11 + 4)) ∧ (IntKind.i64.wrap (y11 + 4)) < 8) <|
      lt (IntKind.i64.wrap (y11 + 1)) fun x33 =>
      scalar_MulAdd.p1 k r5 r6 (m31.set ((IntKind.i64.wrap (y11 + 4)) : Int).toNat m30) x33
    ) (
      some (y10)
    )
def scalar_MulAdd.p3 : Nat → List Int → List Int → Int → Option (List Int)
  | 0, _, _, _ => none
  | k + 1, m35, y37, y38 =>
    br (decide (y38 < 64)) (
      chk (0 ≤ (IntKind.i64.wrap (Int.tdiv y38 8)) ∧ (IntKind.i64.wrap (Int.tdiv y38 8)) < 8) <|
      chk (0 ≤ (IntKind.i64.wrap (8 * (Int.tmod y38 8)))) <|
      chk (0 ≤ y38 ∧ y38 < 64) <|
      lt (IntKind.i64.wrap (y38 + 1)) fun x42 =>
      scalar_MulAdd.p3 k m35 (y37.set (y38 : Int).toNat (IntKind.u8.wrap (Int.fdiv (m35.getD ((IntKind.i64.wrap (Int.tdiv y38 8)) : Int).toNat 0) (2 ^ (min ((IntKind.i64.wrap (8 * (Int.tmod y38 8))) : Int).toNat (IntKind.u64).bits))))) x42
    ) (
      some (y37)
    )
def scalar_MulAdd.f (k : Nat) (a0 : List Int) (a1 : List Int) (a2 : List Int) : Option (List Int) :=
  bd (scalar_reduce.f k a0) fun r5 =>
  bd (scalar_reduce.f k a1) fun r6 =>
  bd (scalar_MulAdd.p1 k r5 r6 (List.replicate 8 (0 : Int)) 0) fun m35 =>
  bd (scalar_MulAdd.p3 k m35 (List.replicate 64 (0 : Int)) 0) fun m44 =>
  bd (scalar_reduce.f k m44) fun r45 =>
  bd (scalar_reduce.f k a2) fun r46 =>
  bd (scalar_number_add.f k r45 r46) fun r47 =>
  bd (scalar_number_less.f k r47) fun r48 =>
  bd (scalar_number_bytes.f k r48) fun r49 =>
  some (r49)

/-! 12 postilion/scalar.Canonical -/
def scalar_Canonical.f (k : Nat) (a0 : List Int) : Option (Bool) :=
  bd (scalar_reduce.f k a0) fun r2 =>
  bd (scalar_number_bytes.f k r2) fun r3 =>
  some ((r3 == a0))

/-! 7 postilion/postilionlaw05.awake -/
def postilionlaw05_awake.p1 (k : Nat)  : Option (Bool) :=
  bd (scalar_MulAdd.f k ((List.replicate 32 (0 : Int)).set 0 2) ((List.replicate 32 (0 : Int)).set 0 3) ((List.replicate 32 (0 : Int)).set 0 4)) fun r1 =>
  br (r1 == ((List.replicate 32 (0 : Int)).set 0 10)) (
    bd (scalar_Canonical.f k ((List.replicate 32 (0 : Int)).set 0 1)) fun r2 =>
    some (r2)
  ) (
    some (false)
  )
def postilionlaw05_awake.f (k : Nat)  : Option (Bool) :=
  bd (postilionlaw05_awake.p1 k ) fun m4 =>
  some (m4)

/-! 8 postilion/scalar.Reduce -/
def scalar_Reduce.f (k : Nat) (a0 : List Int) : Option (List Int) :=
  bd (scalar_reduce.f k a0) fun r3 =>
  bd (scalar_number_bytes.f k r3) fun r4 =>
  some (r4)

/-! 3 postilion/postilionlaw05.ScalarReduces -/
def postilionlaw05_ScalarReduces.p1 : Nat → List Int → List Int → List Int → Int → Option (List Int)
  | 0, _, _, _, _ => none
  | k + 1, a0, a1, y6, y7 =>
    br (decide (y7 < 32)) (
      chk (0 ≤ y7 ∧ y7 < 32) <|
      chk (0 ≤ y7 ∧ y7 < 32) <|
      chk (0 ≤ y7 ∧ y7 < 64) <|
      chk (0 ≤ (IntKind.i64.wrap (32 + y7)) ∧ (IntKind.i64.wrap (32 + y7)) < 64) <|
      lt (IntKind.i64.wrap (y7 + 1)) fun x12 =>
      postilionlaw05_ScalarReduces.p1 k a0 a1 ((y6.set (y7 : Int).toNat (a0.getD (y7 : Int).toNat 0)).set ((IntKind.i64.wrap (32 + y7)) : Int).toNat (a1.getD (y7 : Int).toNat 0)) x12
    ) (
      some (y6)
    )
def postilionlaw05_ScalarReduces.f (k : Nat) (a0 : List Int) (a1 : List Int) : Option (Bool) :=
  bd (postilionlaw05_awake.f k ) fun r3 =>
  br (!r3) (
    some (false)
  ) (
    bd (postilionlaw05_ScalarReduces.p1 k a0 a1 (List.replicate 64 (0 : Int)) 0) fun m14 =>
    bd (scalar_Reduce.f k m14) fun r15 =>
    bd (scalar_Reduce.f k ((List.replicate 64 (0 : Int)).set 32 1)) fun r16 =>
    bd (scalar_MulAdd.f k a1 r16 a0) fun r17 =>
    some ((r15 == r17))
  )

/-! 10 postilion/scalar.Add -/
def scalar_Add.f (k : Nat) (a0 : List Int) (a1 : List Int) : Option (List Int) :=
  bd (scalar_reduce.f k a0) fun r4 =>
  bd (scalar_reduce.f k a1) fun r5 =>
  bd (scalar_number_add.f k r4 r5) fun r6 =>
  bd (scalar_number_less.f k r6) fun r7 =>
  bd (scalar_number_bytes.f k r7) fun r8 =>
  some (r8)

/-! 11 postilion/scalar.Neg -/
def scalar_Neg.f (k : Nat) (a0 : List Int) : Option (List Int) :=
  bd (scalar_reduce.f k a0) fun r3 =>
  bd (scalar_number_sub.f k [6346243789798364141, 1503914060200516822, 0, 1152921504606846976] r3) fun r4 =>
  bd (scalar_number_less.f k r4.1) fun r6 =>
  bd (scalar_number_bytes.f k r6) fun r7 =>
  some (r7)

/-! 4 postilion/postilionlaw05.ScalarRing -/
def postilionlaw05_ScalarRing.p1 (k : Nat) (a0 : List Int) (a1 : List Int) (a2 : List Int) : Option (Bool) :=
  bd (scalar_Add.f k a0 a1) fun r6 =>
  bd (scalar_Add.f k a1 a0) fun r7 =>
  br (!(r6 == r7)) (
    some (true)
  ) (
    bd (scalar_Add.f k a0 a1) fun r8 =>
    bd (scalar_Add.f k r8 a2) fun r9 =>
    bd (scalar_Add.f k a1 a2) fun r10 =>
    bd (scalar_Add.f k a0 r10) fun r11 =>
    br (!(r9 == r11)) (
      some (true)
    ) (
      bd (scalar_Neg.f k a0) fun r12 =>
      bd (scalar_Add.f k a0 r12) fun r13 =>
      lt (!(r13 == (List.replicate 32 (0 : Int)))) fun t14 =>
      some (t14)
    )
  )
def postilionlaw05_ScalarRing.p2 (k : Nat) (a0 : List Int) (a1 : List Int) (a2 : List Int) : Option (Bool) :=
  bd (scalar_MulAdd.f k a0 a1 a2) fun r17 =>
  bd (scalar_MulAdd.f k a1 a0 (List.replicate 32 (0 : Int))) fun r18 =>
  bd (scalar_Add.f k r18 a2) fun r19 =>
  br (r17 == r19) (
    bd (scalar_Add.f k a1 a2) fun r20 =>
    bd (scalar_MulAdd.f k a0 r20 (List.replicate 32 (0 : Int))) fun r21 =>
    bd (scalar_MulAdd.f k a0 a1 (List.replicate 32 (0 : Int))) fun r22 =>
    bd (scalar_MulAdd.f k a0 a2 (List.replicate 32 (0 : Int))) fun r23 =>
    bd (scalar_Add.f k r22 r23) fun r24 =>
    some ((r21 == r24))
  ) (
    some (false)
  )
def postilionlaw05_ScalarRing.f (k : Nat) (a0 : List Int) (a1 : List Int) (a2 : List Int) : Option (Bool) :=
  bd (postilionlaw05_awake.f k ) fun r4 =>
  br (!r4) (
    some (false)
  ) (
    bd (postilionlaw05_ScalarRing.p1 k a0 a1 a2) fun m16 =>
    br m16 (
      some (false)
    ) (
      bd (postilionlaw05_ScalarRing.p2 k a0 a1 a2) fun m26 =>
      some (m26)
    )
  )

/-! 5 postilion/postilionlaw05.ScalarCanonical -/
def postilionlaw05_ScalarCanonical.p1 (k : Nat) (r5 : List Int) (a0 : List Int) (a1 : List Int) : Option (Bool) :=
  bd (scalar_Add.f k a0 a1) fun r6 =>
  bd (scalar_Canonical.f k r6) fun r7 =>
  br r7 (
    bd (scalar_Neg.f k a0) fun r8 =>
    bd (scalar_Canonical.f k r8) fun r9 =>
    br r9 (
      bd (scalar_MulAdd.f k a0 a1 a0) fun r10 =>
      bd (scalar_Canonical.f k r10) fun r11 =>
      br r11 (
        bd (scalar_Canonical.f k a0) fun r12 =>
        some ((r12 == (r5 == a0)))
      ) (
        some (false)
      )
    ) (
      some (false)
    )
  ) (
    some (false)
  )
def postilionlaw05_ScalarCanonical.f (k : Nat) (a0 : List Int) (a1 : List Int) : Option (Bool) :=
  bd (postilionlaw05_awake.f k ) fun r3 =>
  br (!r3) (
    some (false)
  ) (
    bd (scalar_Add.f k a0 (List.replicate 32 (0 : Int))) fun r5 =>
    bd (postilionlaw05_ScalarCanonical.p1 k r5 a0 a1) fun m14 =>
    some (m14)
  )

/-! 26 postilion/postilionref05.from -/
def postilionref05_from.p1 : Nat → List Int → Int → List Int → Int → Option (List Int)
  | 0, _, _, _, _ => none
  | k + 1, a0, x3, y4, y5 =>
    br (decide (y5 < x3)) (
      chk (0 ≤ (IntKind.i64.wrap (Int.tdiv y5 8)) ∧ (IntKind.i64.wrap (Int.tdiv y5 8)) < 4) <|
      chk (0 ≤ y5 ∧ y5 < a0.length) <|
      chk (0 ≤ (IntKind.u64.wrap (IntKind.i64.wrap (8 * (Int.tmod y5 8))))) <|
      lt (IntKind.i64.wrap (y5 + 1)) fun x9 =>
      postilionref05_from.p1 k a0 x3 (y4.set ((IntKind.i64.wrap (Int.tdiv y5 8)) : Int).toNat (bits .or .u64 (y4.getD ((IntKind.i64.wrap (Int.tdiv y5 8)) : Int).toNat 0) (IntKind.u64.wrap ((IntKind.u64.wrap (a0.getD (y5 : Int).toNat 0)) * 2 ^ (min ((IntKind.u64.wrap (IntKind.i64.wrap (8 * (Int.tmod y5 8)))) : Int).toNat (IntKind.u64).bits))))) x9
    ) (
      some (y4)
    )
def postilionref05_from.f (k : Nat) (a0 : List Int) : Option (List Int) :=
  lt ((a0.length : Nat) : Int) fun x3 =>
  bd (postilionref05_from.p1 k a0 x3 (List.replicate 4 (0 : Int)) 0) fun m11 =>
  some (m11)

/-! 27 postilion/postilionref05.order -/
def postilionref05_order.f  : Option (List Int) :=
  some ([6346243789798364141, 1503914060200516822, 0, 1152921504606846976])

/-! 25 postilion/postilionref05.below -/
def postilionref05_below.p1 : Nat → List Int → List Int → Int → Option ((Unit) ⊕ (Bool))
  | 0, _, _, _ => none
  | k + 1, a0, a1, y3 =>
    br (decide (y3 ≥ 0)) (
      chk (0 ≤ y3 ∧ y3 < 4) <|
      lt ((a0.getD (y3 : Int).toNat 0) != (a1.getD (y3 : Int).toNat 0)) fun t5 =>
      br t5 (
        lt (decide ((a0.getD (y3 : Int).toNat 0) < (a1.getD (y3 : Int).toNat 0))) fun t6 =>
        some (.inr (t6))
      ) (
        lt (IntKind.i64.wrap (y3 - 1)) fun x7 =>
        postilionref05_below.p1 k a0 a1 x7
      )
    ) (
      some (.inl ())
    )
def postilionref05_below.f (k : Nat) (a0 : List Int) (a1 : List Int) : Option (Bool) :=
  bd (postilionref05_below.p1 k a0 a1 3) fun r8 => match r8 with
    | (.inl _) => some (false)
    | (.inr m9) => some (m9)

/-! 13 postilion/postilionref05.Canonical -/
def postilionref05_Canonical.f (k : Nat) (a0 : List Int) : Option (Bool) :=
  bd (postilionref05_from.f k a0) fun r2 =>
  bd (postilionref05_order.f ) fun r3 =>
  bd (postilionref05_below.f k r2 r3) fun r4 =>
  some (r4)

/-! 31 postilion/postilionref05.less -/
def postilionref05_less.p1 : Nat → List Int → List Int → List Int → Int → Int → Option (List Int)
  | 0, _, _, _, _, _ => none
  | k + 1, a0, a1, y5, y6, y7 =>
    br (decide (y7 < 4)) (
      chk (0 ≤ y7 ∧ y7 < 4) <|
      chk (0 ≤ (a0.getD (y7 : Int).toNat 0) ∧ (0 ≤ (a1.getD (y7 : Int).toNat 0) ∧ (a1.getD (y7 : Int).toNat 0) < 18446744073709551616) ∧ 0 ≤ y6 ∧ y6 ≤ 1) <|
      lt (if (a0.getD (y7 : Int).toNat 0) < (a1.getD (y7 : Int).toNat 0) + y6 then 1 else 0) fun x10 =>
      lt (IntKind.i64.wrap (y7 + 1)) fun x11 =>
      postilionref05_less.p1 k a0 a1 (y5.set (y7 : Int).toNat (((a0.getD (y7 : Int).toNat 0) - (a1.getD (y7 : Int).toNat 0) - y6) % 18446744073709551616)) x10 x11
    ) (
      some (y5)
    )
def postilionref05_less.f (k : Nat) (a0 : List Int) (a1 : List Int) : Option (List Int) :=
  bd (postilionref05_less.p1 k a0 a1 (List.replicate 4 (0 : Int)) 0 0) fun m13 =>
  some (m13)

/-! 30 postilion/postilionref05.plus -/
def postilionref05_plus.p1 : Nat → List Int → List Int → List Int → Int → Int → Option (List Int)
  | 0, _, _, _, _, _ => none
  | k + 1, a0, a1, y5, y6, y7 =>
    br (decide (y7 < 4)) (
      chk (0 ≤ y7 ∧ y7 < 4) <|
      chk (0 ≤ (a0.getD (y7 : Int).toNat 0) ∧ 0 ≤ (a1.getD (y7 : Int).toNat 0) ∧ 0 ≤ y6 ∧ y6 ≤ 1) <|
      lt (((a0.getD (y7 : Int).toNat 0) + (a1.getD (y7 : Int).toNat 0) + y6) / 18446744073709551616) fun x10 =>
      lt (IntKind.i64.wrap (y7 + 1)) fun x11 =>
      postilionref05_plus.p1 k a0 a1 (y5.set (y7 : Int).toNat (((a0.getD (y7 : Int).toNat 0) + (a1.getD (y7 : Int).toNat 0) + y6) % 18446744073709551616)) x10 x11
    ) (
      some (y5)
    )
def postilionref05_plus.p2 (k : Nat) (r15 : Bool) (m13 : List Int) : Option (List Int) :=
  br (!r15) (
    bd (postilionref05_order.f ) fun r16 =>
    bd (postilionref05_less.f k m13 r16) fun r17 =>
    some (r17)
  ) (
    some (m13)
  )
def postilionref05_plus.f (k : Nat) (a0 : List Int) (a1 : List Int) : Option (List Int) :=
  bd (postilionref05_plus.p1 k a0 a1 (List.replicate 4 (0 : Int)) 0 0) fun m13 =>
  bd (postilionref05_order.f ) fun r14 =>
  bd (postilionref05_below.f k m13 r14) fun r15 =>
  bd (postilionref05_plus.p2 k r15 m13) fun m19 =>
  some (m19)

/-! 29 postilion/postilionref05.mod -/
def postilionref05_mod.p3 (k : Nat) (t9 : Bool) (r6 : List Int) : Option (List Int) :=
  br t9 (
    bd (postilionref05_plus.f k r6 [1, 0, 0, 0]) fun r10 =>
    some (r10)
  ) (
    some (r6)
  )
def postilionref05_mod.p2 (k : Nat) (a0 : List Int) (y5 : Int) (y4 : List Int) : Option (List Int) :=
  bd (postilionref05_plus.f k y4 y4) fun r6 =>
  chk (0 ≤ (IntKind.i64.wrap (Int.tdiv y5 8)) ∧ (IntKind.i64.wrap (Int.tdiv y5 8)) < a0.length) <|
  chk (0 ≤ (IntKind.u64.wrap (Int.tmod y5 8))) <|
  lt ((bits .and .u8 (Int.fdiv (a0.getD ((IntKind.i64.wrap (Int.tdiv y5 8)) : Int).toNat 0) (2 ^ (min ((IntKind.u64.wrap (Int.tmod y5 8)) : Int).toNat (IntKind.u8).bits))) 1) == 1) fun t9 =>
  bd (postilionref05_mod.p3 k t9 r6) fun m12 =>
  some (m12)
def postilionref05_mod.p1 : Nat → List Int → List Int → Int → Option (List Int)
  | 0, _, _, _ => none
  | k + 1, a0, y4, y5 =>
    br (decide (y5 ≥ 0)) (
      bd (postilionref05_mod.p2 k a0 y5 y4) fun m14 =>
      lt (IntKind.i64.wrap (y5 - 1)) fun x15 =>
      postilionref05_mod.p1 k a0 m14 x15
    ) (
      some (y4)
    )
def postilionref05_mod.f (k : Nat) (a0 : List Int) : Option (List Int) :=
  lt (IntKind.i64.wrap ((IntKind.i64.wrap (8 * ((a0.length : Nat) : Int))) - 1)) fun x3 =>
  bd (postilionref05_mod.p1 k a0 (List.replicate 4 (0 : Int)) x3) fun m17 =>
  some (m17)

/-! 28 postilion/postilionref05.bytesOf -/
def postilionref05_bytesOf.p1 : Nat → List Int → List Int → Int → Option (List Int)
  | 0, _, _, _ => none
  | k + 1, a0, y4, y5 =>
    br (decide (y5 < 32)) (
      chk (0 ≤ (IntKind.i64.wrap (Int.tdiv y5 8)) ∧ (IntKind.i64.wrap (Int.tdiv y5 8)) < 4) <|
      chk (0 ≤ (IntKind.u64.wrap (IntKind.i64.wrap (8 * (Int.tmod y5 8))))) <|
      chk (0 ≤ y5 ∧ y5 < 32) <|
      lt (IntKind.i64.wrap (y5 + 1)) fun x9 =>
      postilionref05_bytesOf.p1 k a0 (y4.set (y5 : Int).toNat (IntKind.u8.wrap (Int.fdiv (a0.getD ((IntKind.i64.wrap (Int.tdiv y5 8)) : Int).toNat 0) (2 ^ (min ((IntKind.u64.wrap (IntKind.i64.wrap (8 * (Int.tmod y5 8)))) : Int).toNat (IntKind.u64).bits))))) x9
    ) (
      some (y4)
    )
def postilionref05_bytesOf.f (k : Nat) (a0 : List Int) : Option (List Int) :=
  bd (postilionref05_bytesOf.p1 k a0 (List.replicate 32 (0 : Int)) 0) fun m11 =>
  some (m11)

/-! 14 postilion/postilionref05.Reduce -/
def postilionref05_Reduce.f (k : Nat) (a0 : List Int) : Option (List Int) :=
  bd (postilionref05_mod.f k a0) fun r3 =>
  bd (postilionref05_bytesOf.f k r3) fun r4 =>
  some (r4)

/-! 15 postilion/postilionref05.Add -/
def postilionref05_Add.f (k : Nat) (a0 : List Int) (a1 : List Int) : Option (List Int) :=
  bd (postilionref05_mod.f k a0) fun r4 =>
  bd (postilionref05_mod.f k a1) fun r5 =>
  bd (postilionref05_plus.f k r4 r5) fun r6 =>
  bd (postilionref05_bytesOf.f k r6) fun r7 =>
  some (r7)

/-! 16 postilion/postilionref05.Neg -/
def postilionref05_Neg.f (k : Nat) (a0 : List Int) : Option (List Int) :=
  bd (postilionref05_mod.f k a0) fun r3 =>
  br (r3 == (List.replicate 4 (0 : Int))) (
    some ((List.replicate 32 (0 : Int)))
  ) (
    bd (postilionref05_order.f ) fun r5 =>
    bd (postilionref05_less.f k r5 r3) fun r6 =>
    bd (postilionref05_bytesOf.f k r6) fun r7 =>
    some (r7)
  )

/-! 17 postilion/postilionref05.MulAdd -/
def postilionref05_MulAdd.p3 (k : Nat) (t15 : Bool) (r6 : List Int) (r12 : List Int) : Option (List Int) :=
  br t15 (
    bd (postilionref05_plus.f k r12 r6) fun r16 =>
    some (r16)
  ) (
    some (r12)
  )
def postilionref05_MulAdd.p2 (k : Nat) (y11 : Int) (r5 : List Int) (r6 : List Int) (y10 : List Int) : Option (List Int) :=
  bd (postilionref05_plus.f k y10 y10) fun r12 =>
  chk (0 ≤ (IntKind.i64.wrap (Int.tdiv y11 64)) ∧ (IntKind.i64.wrap (Int.tdiv y11 64)) < 4) <|
  chk (0 ≤ (IntKind.u64.wrap (Int.tmod y11 64))) <|
  lt ((bits .and .u64 (Int.fdiv (r5.getD ((IntKind.i64.wrap (Int.tdiv y11 64)) : Int).toNat 0) (2 ^ (min ((IntKind.u64.wrap (Int.tmod y11 64)) : Int).toNat (IntKind.u64).bits))) 1) == 1) fun t15 =>
  bd (postilionref05_MulAdd.p3 k t15 r6 r12) fun m18 =>
  some (m18)
def postilionref05_MulAdd.p1 : Nat → List Int → List Int → List Int → Int → Option (List Int)
  | 0, _, _, _, _ => none
  | k + 1, r5, r6, y10, y11 =>
    br (decide (y11 ≥ 0)) (
      bd (postilionref05_MulAdd.p2 k y11 r5 r6 y10) fun m20 =>
      lt (IntKind.i64.wrap (y11 - 1)) fun x21 =>
      postilionref05_MulAdd.p1 k r5 r6 m20 x21
    ) (
      some (y10)
    )
def postilionref05_MulAdd.f (k : Nat) (a0 : List Int) (a1 : List Int) (a2 : List Int) : Option (List Int) :=
  bd (postilionref05_mod.f k a0) fun r5 =>
  bd (postilionref05_mod.f k a1) fun r6 =>
  bd (postilionref05_MulAdd.p1 k r5 r6 (List.replicate 4 (0 : Int)) 255) fun m23 =>
  bd (postilionref05_mod.f k a2) fun r24 =>
  bd (postilionref05_plus.f k m23 r24) fun r25 =>
  bd (postilionref05_bytesOf.f k r25) fun r26 =>
  some (r26)

/-! 6 postilion/postilionlaw05.ScalarAll -/
def postilionlaw05_ScalarAll.p1 (k : Nat) (a0 : List Int) (a1 : List Int) (a2 : List Int) (a3 : List Int) : Option (Bool) :=
  bd (scalar_Canonical.f k a0) fun r6 =>
  bd (postilionref05_Canonical.f k a0) fun r7 =>
  br (r6 == r7) (
    bd (scalar_Reduce.f k a3) fun r8 =>
    bd (postilionref05_Reduce.f k a3) fun r9 =>
    br (r8 == r9) (
      bd (scalar_Add.f k a0 a1) fun r10 =>
      bd (postilionref05_Add.f k a0 a1) fun r11 =>
      br (r10 == r11) (
        bd (scalar_Neg.f k a0) fun r12 =>
        bd (postilionref05_Neg.f k a0) fun r13 =>
        br (r12 == r13) (
          bd (scalar_MulAdd.f k a0 a1 a2) fun r14 =>
          bd (postilionref05_MulAdd.f k a0 a1 a2) fun r15 =>
          some ((r14 == r15))
        ) (
          some (false)
        )
      ) (
        some (false)
      )
    ) (
      some (false)
    )
  ) (
    some (false)
  )
def postilionlaw05_ScalarAll.f (k : Nat) (a0 : List Int) (a1 : List Int) (a2 : List Int) (a3 : List Int) : Option (Bool) :=
  bd (postilionlaw05_awake.f k ) fun r5 =>
  br (!r5) (
    some (false)
  ) (
    bd (postilionlaw05_ScalarAll.p1 k a0 a1 a2 a3) fun m17 =>
    some (m17)
  )
end Go.Proofs.YtpnkcajlgaokiaaDoor
