/-
  NARROWER THAN 'FOR EVERY INPUT', by the rows' own cells (each row's printed sentence says how): ScalarReduces: laid · ScalarRing: laid · ScalarCanonical: laid · ScalarAll: laid.
  DERIVED. THE GIVEN ROWS OF THIS SEAT. 4 by the template 'for every input the law returns true; each argument reads behind the call as it read before'; 0 by the template 'total and deterministic' (their statements: YtpnkcajlgaokiaaDoorTotals.lean).
  GIVEN WITH THE SEED: the statements are not yours to turn. If you find one false, say at which input.
  Laid BY PROGRAM, IN A SANDBOX (cutbox-rows.mjs): the forced cells as the released guide's own fill.sh prints them over the translation 6f5fac4e275716b4… (all of the seat's roots in one cut). By AI agents, Wed Nov 11 2026. No macro, syntax, notation, axiom, sorry.
-/
import Derived.Test.YtpnkcajlgaokiaaDoorChecked
import GoSem.Claim
import GoSem.ClaimJoined
import GoSem.ClaimMapViews
import Derived.JoinedTies
import Derived.KernelRfl
namespace Go.Proofs.YtpnkcajlgaokiaaDoor
/- THE CELL 'sum', in the pinned program and in every row, IS THE sha256 OF THE DUMP (.gsa) THAT YtpnkcajlgaokiaaDoorProg.lean LOADS. Nothing in Lean hashes anything: it is a label: what it is worth is what the hold of that sum in a sandbox is worth. -/
noncomputable def Tryd.pinned : Pinned := { name := "ytpnkcajlgaokiaadoor", sum := "6f5fac4e275716b413e770e88e0d981bb27378138058cf0c1852d40e5b5a69f7", checked := Tryd.checked }
namespace Rows
def none {H : Type} : Left H := { results := [], args := [] }

/- WHAT THE LISTED PACKAGE-LEVEL VARIABLES READ AS WHEN THE CALL BEGINS. Each datum BY PROGRAM (the guide's laid-datum.mjs) off the statement by which the dump's own 'gosem.cut.vars' lays the variable. In a bare row this is a premise. The card (YtpnkcajlgaokiaaDoorCards.lean) ties it to the program's text. -/
def laid_postilion_scalar_order {H : Type} : DataW H := .agg [.lit (.int .u64 6346243789798364141), .lit (.int .u64 1503914060200516822), .lit (.int .u64 0), .lit (.int .u64 1152921504606846976)]

/-- 'postilionlaw05.ScalarReduces': WHATEVER THE INPUT: true; the input reads as it did. -/
def scalarReducesSpec : ChangeSpec := { name := "scalarReduces", fn := fun _ => fun
  | [d1, d2] => { results := [.lit (.bool true)], args := [d1, d2] }
  | _ => none }
def scalarReducesRow : OpenClaim := { program := "ytpnkcajlgaokiaadoor", sum := "6f5fac4e275716b413e770e88e0d981bb27378138058cf0c1852d40e5b5a69f7", func := "postilion/postilionlaw05.ScalarReduces", spec := "scalarReduces", inPlace := ["math/bits.Add64", "math/bits.Sub64"], named := ["postilion/scalar.order"], apart := false, laid := [("postilion/scalar.order", laid_postilion_scalar_order)] }
def ScalarReducesSaid : Prop := scalarReducesRow.holds Tryd.pinned (OpenSpec.ofChange scalarReducesSpec)

/-- ITS FALSE NEIGHBOUR: 'it returns false'. Refute it at one input. -/
def scalarReducesWrong : ChangeSpec := { name := "scalarReduces", fn := fun _ => fun
  | [d1, d2] => { results := [.lit (.bool false)], args := [d1, d2] }
  | _ => none }
def ScalarReducesWrongFalsely : Prop := scalarReducesRow.holds Tryd.pinned (OpenSpec.ofChange scalarReducesWrong)

/-- 'postilionlaw05.ScalarRing': WHATEVER THE INPUT: true; the input reads as it did. -/
def scalarRingSpec : ChangeSpec := { name := "scalarRing", fn := fun _ => fun
  | [d1, d2, d3] => { results := [.lit (.bool true)], args := [d1, d2, d3] }
  | _ => none }
def scalarRingRow : OpenClaim := { program := "ytpnkcajlgaokiaadoor", sum := "6f5fac4e275716b413e770e88e0d981bb27378138058cf0c1852d40e5b5a69f7", func := "postilion/postilionlaw05.ScalarRing", spec := "scalarRing", inPlace := ["math/bits.Add64", "math/bits.Sub64"], named := ["postilion/scalar.order"], apart := false, laid := [("postilion/scalar.order", laid_postilion_scalar_order)] }
def ScalarRingSaid : Prop := scalarRingRow.holds Tryd.pinned (OpenSpec.ofChange scalarRingSpec)

/-- ITS FALSE NEIGHBOUR: 'it returns false'. Refute it at one input. -/
def scalarRingWrong : ChangeSpec := { name := "scalarRing", fn := fun _ => fun
  | [d1, d2, d3] => { results := [.lit (.bool false)], args := [d1, d2, d3] }
  | _ => none }
def ScalarRingWrongFalsely : Prop := scalarRingRow.holds Tryd.pinned (OpenSpec.ofChange scalarRingWrong)

/-- 'postilionlaw05.ScalarCanonical': WHATEVER THE INPUT: true; the input reads as it did. -/
def scalarCanonicalSpec : ChangeSpec := { name := "scalarCanonical", fn := fun _ => fun
  | [d1, d2] => { results := [.lit (.bool true)], args := [d1, d2] }
  | _ => none }
def scalarCanonicalRow : OpenClaim := { program := "ytpnkcajlgaokiaadoor", sum := "6f5fac4e275716b413e770e88e0d981bb27378138058cf0c1852d40e5b5a69f7", func := "postilion/postilionlaw05.ScalarCanonical", spec := "scalarCanonical", inPlace := ["math/bits.Add64", "math/bits.Sub64"], named := ["postilion/scalar.order"], apart := false, laid := [("postilion/scalar.order", laid_postilion_scalar_order)] }
def ScalarCanonicalSaid : Prop := scalarCanonicalRow.holds Tryd.pinned (OpenSpec.ofChange scalarCanonicalSpec)

/-- ITS FALSE NEIGHBOUR: 'it returns false'. Refute it at one input. -/
def scalarCanonicalWrong : ChangeSpec := { name := "scalarCanonical", fn := fun _ => fun
  | [d1, d2] => { results := [.lit (.bool false)], args := [d1, d2] }
  | _ => none }
def ScalarCanonicalWrongFalsely : Prop := scalarCanonicalRow.holds Tryd.pinned (OpenSpec.ofChange scalarCanonicalWrong)

/-- 'postilionlaw05.ScalarAll': WHATEVER THE INPUT: true; the input reads as it did. -/
def scalarAllSpec : ChangeSpec := { name := "scalarAll", fn := fun _ => fun
  | [d1, d2, d3, d4] => { results := [.lit (.bool true)], args := [d1, d2, d3, d4] }
  | _ => none }
def scalarAllRow : OpenClaim := { program := "ytpnkcajlgaokiaadoor", sum := "6f5fac4e275716b413e770e88e0d981bb27378138058cf0c1852d40e5b5a69f7", func := "postilion/postilionlaw05.ScalarAll", spec := "scalarAll", inPlace := ["math/bits.Add64", "math/bits.Sub64"], named := ["postilion/scalar.order"], apart := false, laid := [("postilion/scalar.order", laid_postilion_scalar_order)] }
def ScalarAllSaid : Prop := scalarAllRow.holds Tryd.pinned (OpenSpec.ofChange scalarAllSpec)

/-- ITS FALSE NEIGHBOUR: 'it returns false'. Refute it at one input. -/
def scalarAllWrong : ChangeSpec := { name := "scalarAll", fn := fun _ => fun
  | [d1, d2, d3, d4] => { results := [.lit (.bool false)], args := [d1, d2, d3, d4] }
  | _ => none }
def ScalarAllWrongFalsely : Prop := scalarAllRow.holds Tryd.pinned (OpenSpec.ofChange scalarAllWrong)

/- THE SECOND FORM. 'bulk': how many values and letters a reading holds, each counted each time it is reached (what is shared counts as often as it is met; a slice's spare places count too). A statement '..UptoSaid' is the law's where the arguments, and the package variables that the reading takes, are together of bulk at most 1048576: NARROWER than '..Said'. Prove '..Said' where nothing that the law and all that it calls make is longer than what came in: it says more and counts as full. Else prove '..UptoSaid'. A law counts once. -/
mutual
def uptoBulk {H : Type} : DataW H → Nat
  | .lit (.string bytes) => bytes.length + 1
  | .lit _ => 1
  | .nil => 1
  | .ptr d => uptoBulk d + 1
  | .slice elems spare => uptoBulkAll elems + uptoBulkAll spare + 1
  | .agg parts => uptoBulkAll parts + 1
  | .iface _ d => uptoBulk d + 1
  | .map entries => uptoBulkEntries entries + 1
  | .held _ => 1
def uptoBulkAll {H : Type} : List (DataW H) → Nat
  | [] => 0
  | d :: r => uptoBulk d + uptoBulkAll r
def uptoBulkEntries {H : Type} : List (Lit × DataW H) → Nat
  | [] => 0
  | x :: r => uptoBulkEntry x + uptoBulkEntries r
def uptoBulkEntry {H : Type} : Lit × DataW H → Nat
  | (.string bytes, d) => bytes.length + uptoBulk d + 1
  | (_, d) => uptoBulk d + 1
 end
def uptoSmall : (H : Type) → List (DataW H) → Bool := fun _ ds => decide (uptoBulkAll ds ≤ 1048576)
def OpenSpec.upto (s : _root_.Go.ChangeSpec) : _root_.Go.OpenSpec := { _root_.Go.OpenSpec.ofChange s with cond := some uptoSmall }

/-- 'postilionlaw05.ScalarReduces', WHERE WHAT IT READS IS OF BULK AT MOST 1048576: true; the input reads as it did. -/
def scalarReducesUptoRow : OpenClaim := { program := "ytpnkcajlgaokiaadoor", sum := "6f5fac4e275716b413e770e88e0d981bb27378138058cf0c1852d40e5b5a69f7", func := "postilion/postilionlaw05.ScalarReduces", spec := "scalarReduces", inPlace := ["math/bits.Add64", "math/bits.Sub64"], named := ["postilion/scalar.order"], apart := false, laid := [("postilion/scalar.order", laid_postilion_scalar_order)], narrowed := true }
def ScalarReducesUptoSaid : Prop := scalarReducesUptoRow.holds Tryd.pinned (OpenSpec.upto scalarReducesSpec)

/-- 'postilionlaw05.ScalarRing', WHERE WHAT IT READS IS OF BULK AT MOST 1048576: true; the input reads as it did. -/
def scalarRingUptoRow : OpenClaim := { program := "ytpnkcajlgaokiaadoor", sum := "6f5fac4e275716b413e770e88e0d981bb27378138058cf0c1852d40e5b5a69f7", func := "postilion/postilionlaw05.ScalarRing", spec := "scalarRing", inPlace := ["math/bits.Add64", "math/bits.Sub64"], named := ["postilion/scalar.order"], apart := false, laid := [("postilion/scalar.order", laid_postilion_scalar_order)], narrowed := true }
def ScalarRingUptoSaid : Prop := scalarRingUptoRow.holds Tryd.pinned (OpenSpec.upto scalarRingSpec)

/-- 'postilionlaw05.ScalarCanonical', WHERE WHAT IT READS IS OF BULK AT MOST 1048576: true; the input reads as it did. -/
def scalarCanonicalUptoRow : OpenClaim := { program := "ytpnkcajlgaokiaadoor", sum := "6f5fac4e275716b413e770e88e0d981bb27378138058cf0c1852d40e5b5a69f7", func := "postilion/postilionlaw05.ScalarCanonical", spec := "scalarCanonical", inPlace := ["math/bits.Add64", "math/bits.Sub64"], named := ["postilion/scalar.order"], apart := false, laid := [("postilion/scalar.order", laid_postilion_scalar_order)], narrowed := true }
def ScalarCanonicalUptoSaid : Prop := scalarCanonicalUptoRow.holds Tryd.pinned (OpenSpec.upto scalarCanonicalSpec)

/-- 'postilionlaw05.ScalarAll', WHERE WHAT IT READS IS OF BULK AT MOST 1048576: true; the input reads as it did. -/
def scalarAllUptoRow : OpenClaim := { program := "ytpnkcajlgaokiaadoor", sum := "6f5fac4e275716b413e770e88e0d981bb27378138058cf0c1852d40e5b5a69f7", func := "postilion/postilionlaw05.ScalarAll", spec := "scalarAll", inPlace := ["math/bits.Add64", "math/bits.Sub64"], named := ["postilion/scalar.order"], apart := false, laid := [("postilion/scalar.order", laid_postilion_scalar_order)], narrowed := true }
def ScalarAllUptoSaid : Prop := scalarAllUptoRow.holds Tryd.pinned (OpenSpec.upto scalarAllSpec)

end Rows
end Go.Proofs.YtpnkcajlgaokiaaDoor
