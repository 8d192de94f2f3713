/-
  No cell of these rows narrows 'for every input' (looked for: loops, veiled, ifaces, maps, wideKeys, modest, calm, conditions, laid).
  DERIVED. THE GIVEN ROWS OF THIS SEAT. 6 by the template 'for every input the law returns true; each argument reads behind the call as it read before'; 0 by the template 'total and deterministic' (their statements: YtalnjdcidmkajaaTotals.lean).
  GIVEN WITH THE SEED: the statements are not yours to turn. If you find one false, say at which input.
  Laid BY PROGRAM, IN A SANDBOX (cutbox-rows.mjs): the forced cells as the released guide's own fill.sh prints them over the translation ceca93b482eb0e9a… (all of the seat's roots in one cut). By AI agents, Wed Nov 11 2026. No macro, syntax, notation, axiom, sorry.
-/
import Derived.Test.YtalnjdcidmkajaaChecked
import GoSem.Claim
import GoSem.ClaimJoined
import GoSem.ClaimMapViews
import Derived.JoinedTies
import Derived.KernelRfl
namespace Go.Proofs.Ytalnjdcidmkajaa
/- THE CELL 'sum', in the pinned program and in every row, IS THE sha256 OF THE DUMP (.gsa) THAT YtalnjdcidmkajaaProg.lean LOADS. Nothing in Lean hashes anything: it is a label: what it is worth is what the hold of that sum in a sandbox is worth. -/
noncomputable def Try.pinned : Pinned := { name := "ytalnjdcidmkajaa", sum := "ceca93b482eb0e9afef0a31e55bf83f9a57d02614dd92f4ebfc83befb7fc910a", checked := Try.checked }
namespace Rows
def none {H : Type} : Left H := { results := [], args := [] }

/-- 'postilionlaw06.PointOrder': WHATEVER THE INPUT: true; the input reads as it did. -/
def pointOrderSpec : ChangeSpec := { name := "pointOrder", fn := fun _ => fun
  | [] => { results := [.lit (.bool true)], args := [] }
  | _ => none }
def pointOrderRow : OpenClaim := { program := "ytalnjdcidmkajaa", sum := "ceca93b482eb0e9afef0a31e55bf83f9a57d02614dd92f4ebfc83befb7fc910a", func := "postilion/postilionlaw06.PointOrder", spec := "pointOrder", inPlace := ["math/bits.Add64"], unfollowed := true, recurses := true, apart := false }
def PointOrderSaid : Prop := pointOrderRow.holds Try.pinned (OpenSpec.ofChange pointOrderSpec)

/-- ITS FALSE NEIGHBOUR: 'it returns false'. Refute it at one input. -/
def pointOrderWrong : ChangeSpec := { name := "pointOrder", fn := fun _ => fun
  | [] => { results := [.lit (.bool false)], args := [] }
  | _ => none }
def PointOrderWrongFalsely : Prop := pointOrderRow.holds Try.pinned (OpenSpec.ofChange pointOrderWrong)

/-- 'postilionlaw06.PointBytes': WHATEVER THE INPUT: true; the input reads as it did. -/
def pointBytesSpec : ChangeSpec := { name := "pointBytes", fn := fun _ => fun
  | [d] => { results := [.lit (.bool true)], args := [d] }
  | _ => none }
def pointBytesRow : OpenClaim := { program := "ytalnjdcidmkajaa", sum := "ceca93b482eb0e9afef0a31e55bf83f9a57d02614dd92f4ebfc83befb7fc910a", func := "postilion/postilionlaw06.PointBytes", spec := "pointBytes", inPlace := ["math/bits.Add64"], unfollowed := true, recurses := true, apart := false }
def PointBytesSaid : Prop := pointBytesRow.holds Try.pinned (OpenSpec.ofChange pointBytesSpec)

/-- ITS FALSE NEIGHBOUR: 'it returns false'. Refute it at one input. -/
def pointBytesWrong : ChangeSpec := { name := "pointBytes", fn := fun _ => fun
  | [d] => { results := [.lit (.bool false)], args := [d] }
  | _ => none }
def PointBytesWrongFalsely : Prop := pointBytesRow.holds Try.pinned (OpenSpec.ofChange pointBytesWrong)

/-- 'postilionlaw06.PointGroup': WHATEVER THE INPUT: true; the input reads as it did. -/
def pointGroupSpec : ChangeSpec := { name := "pointGroup", fn := fun _ => fun
  | [d1, d2, d3] => { results := [.lit (.bool true)], args := [d1, d2, d3] }
  | _ => none }
def pointGroupRow : OpenClaim := { program := "ytalnjdcidmkajaa", sum := "ceca93b482eb0e9afef0a31e55bf83f9a57d02614dd92f4ebfc83befb7fc910a", func := "postilion/postilionlaw06.PointGroup", spec := "pointGroup", inPlace := ["math/bits.Add64"], unfollowed := true, recurses := true, apart := false }
def PointGroupSaid : Prop := pointGroupRow.holds Try.pinned (OpenSpec.ofChange pointGroupSpec)

/-- ITS FALSE NEIGHBOUR: 'it returns false'. Refute it at one input. -/
def pointGroupWrong : ChangeSpec := { name := "pointGroup", fn := fun _ => fun
  | [d1, d2, d3] => { results := [.lit (.bool false)], args := [d1, d2, d3] }
  | _ => none }
def PointGroupWrongFalsely : Prop := pointGroupRow.holds Try.pinned (OpenSpec.ofChange pointGroupWrong)

/-- 'postilionlaw06.PointOften': WHATEVER THE INPUT: true; the input reads as it did. -/
def pointOftenSpec : ChangeSpec := { name := "pointOften", fn := fun _ => fun
  | [d1, d2] => { results := [.lit (.bool true)], args := [d1, d2] }
  | _ => none }
def pointOftenRow : OpenClaim := { program := "ytalnjdcidmkajaa", sum := "ceca93b482eb0e9afef0a31e55bf83f9a57d02614dd92f4ebfc83befb7fc910a", func := "postilion/postilionlaw06.PointOften", spec := "pointOften", inPlace := ["math/bits.Add64", "math/bits.Sub64"], unfollowed := true, recurses := true, apart := false }
def PointOftenSaid : Prop := pointOftenRow.holds Try.pinned (OpenSpec.ofChange pointOftenSpec)

/-- ITS FALSE NEIGHBOUR: 'it returns false'. Refute it at one input. -/
def pointOftenWrong : ChangeSpec := { name := "pointOften", fn := fun _ => fun
  | [d1, d2] => { results := [.lit (.bool false)], args := [d1, d2] }
  | _ => none }
def PointOftenWrongFalsely : Prop := pointOftenRow.holds Try.pinned (OpenSpec.ofChange pointOftenWrong)

/-- 'postilionlaw06.PointEight': WHATEVER THE INPUT: true; the input reads as it did. -/
def pointEightSpec : ChangeSpec := { name := "pointEight", fn := fun _ => fun
  | [d] => { results := [.lit (.bool true)], args := [d] }
  | _ => none }
def pointEightRow : OpenClaim := { program := "ytalnjdcidmkajaa", sum := "ceca93b482eb0e9afef0a31e55bf83f9a57d02614dd92f4ebfc83befb7fc910a", func := "postilion/postilionlaw06.PointEight", spec := "pointEight", inPlace := ["math/bits.Add64"], unfollowed := true, recurses := true, apart := false }
def PointEightSaid : Prop := pointEightRow.holds Try.pinned (OpenSpec.ofChange pointEightSpec)

/-- ITS FALSE NEIGHBOUR: 'it returns false'. Refute it at one input. -/
def pointEightWrong : ChangeSpec := { name := "pointEight", fn := fun _ => fun
  | [d] => { results := [.lit (.bool false)], args := [d] }
  | _ => none }
def PointEightWrongFalsely : Prop := pointEightRow.holds Try.pinned (OpenSpec.ofChange pointEightWrong)

/-- 'postilionlaw06.PointAll': WHATEVER THE INPUT: true; the input reads as it did. -/
def pointAllSpec : ChangeSpec := { name := "pointAll", fn := fun _ => fun
  | [d1, d2, d3] => { results := [.lit (.bool true)], args := [d1, d2, d3] }
  | _ => none }
def pointAllRow : OpenClaim := { program := "ytalnjdcidmkajaa", sum := "ceca93b482eb0e9afef0a31e55bf83f9a57d02614dd92f4ebfc83befb7fc910a", func := "postilion/postilionlaw06.PointAll", spec := "pointAll", inPlace := ["math/bits.Add64", "math/bits.Sub64"], unfollowed := true, recurses := true, apart := false }
def PointAllSaid : Prop := pointAllRow.holds Try.pinned (OpenSpec.ofChange pointAllSpec)

/-- ITS FALSE NEIGHBOUR: 'it returns false'. Refute it at one input. -/
def pointAllWrong : ChangeSpec := { name := "pointAll", fn := fun _ => fun
  | [d1, d2, d3] => { results := [.lit (.bool false)], args := [d1, d2, d3] }
  | _ => none }
def PointAllWrongFalsely : Prop := pointAllRow.holds Try.pinned (OpenSpec.ofChange pointAllWrong)

/- THE SECOND FORM. 'bulk': how many values and letters a reading holds, each counted each time it is reached (what is shared counts as often as it is met; a slice's spare places count too). A statement '..UptoSaid' is the law's where the arguments, and the package variables that the reading takes, are together of bulk at most 1048576: NARROWER than '..Said'. Prove '..Said' where nothing that the law and all that it calls make is longer than what came in: it says more and counts as full. Else prove '..UptoSaid'. A law counts once. -/
mutual
def uptoBulk {H : Type} : DataW H → Nat
  | .lit (.string bytes) => bytes.length + 1
  | .lit _ => 1
  | .nil => 1
  | .ptr d => uptoBulk d + 1
  | .slice elems spare => uptoBulkAll elems + uptoBulkAll spare + 1
  | .agg parts => uptoBulkAll parts + 1
  | .iface _ d => uptoBulk d + 1
  | .map entries => uptoBulkEntries entries + 1
  | .held _ => 1
def uptoBulkAll {H : Type} : List (DataW H) → Nat
  | [] => 0
  | d :: r => uptoBulk d + uptoBulkAll r
def uptoBulkEntries {H : Type} : List (Lit × DataW H) → Nat
  | [] => 0
  | x :: r => uptoBulkEntry x + uptoBulkEntries r
def uptoBulkEntry {H : Type} : Lit × DataW H → Nat
  | (.string bytes, d) => bytes.length + uptoBulk d + 1
  | (_, d) => uptoBulk d + 1
 end
def uptoSmall : (H : Type) → List (DataW H) → Bool := fun _ ds => decide (uptoBulkAll ds ≤ 1048576)
def OpenSpec.upto (s : _root_.Go.ChangeSpec) : _root_.Go.OpenSpec := { _root_.Go.OpenSpec.ofChange s with cond := some uptoSmall }

/-- 'postilionlaw06.PointOrder', WHERE WHAT IT READS IS OF BULK AT MOST 1048576: true; the input reads as it did. -/
def pointOrderUptoRow : OpenClaim := { program := "ytalnjdcidmkajaa", sum := "ceca93b482eb0e9afef0a31e55bf83f9a57d02614dd92f4ebfc83befb7fc910a", func := "postilion/postilionlaw06.PointOrder", spec := "pointOrder", inPlace := ["math/bits.Add64"], unfollowed := true, recurses := true, apart := false, narrowed := true }
def PointOrderUptoSaid : Prop := pointOrderUptoRow.holds Try.pinned (OpenSpec.upto pointOrderSpec)

/-- 'postilionlaw06.PointBytes', WHERE WHAT IT READS IS OF BULK AT MOST 1048576: true; the input reads as it did. -/
def pointBytesUptoRow : OpenClaim := { program := "ytalnjdcidmkajaa", sum := "ceca93b482eb0e9afef0a31e55bf83f9a57d02614dd92f4ebfc83befb7fc910a", func := "postilion/postilionlaw06.PointBytes", spec := "pointBytes", inPlace := ["math/bits.Add64"], unfollowed := true, recurses := true, apart := false, narrowed := true }
def PointBytesUptoSaid : Prop := pointBytesUptoRow.holds Try.pinned (OpenSpec.upto pointBytesSpec)

/-- 'postilionlaw06.PointGroup', WHERE WHAT IT READS IS OF BULK AT MOST 1048576: true; the input reads as it did. -/
def pointGroupUptoRow : OpenClaim := { program := "ytalnjdcidmkajaa", sum := "ceca93b482eb0e9afef0a31e55bf83f9a57d02614dd92f4ebfc83befb7fc910a", func := "postilion/postilionlaw06.PointGroup", spec := "pointGroup", inPlace := ["math/bits.Add64"], unfollowed := true, recurses := true, apart := false, narrowed := true }
def PointGroupUptoSaid : Prop := pointGroupUptoRow.holds Try.pinned (OpenSpec.upto pointGroupSpec)

/-- 'postilionlaw06.PointOften', WHERE WHAT IT READS IS OF BULK AT MOST 1048576: true; the input reads as it did. -/
def pointOftenUptoRow : OpenClaim := { program := "ytalnjdcidmkajaa", sum := "ceca93b482eb0e9afef0a31e55bf83f9a57d02614dd92f4ebfc83befb7fc910a", func := "postilion/postilionlaw06.PointOften", spec := "pointOften", inPlace := ["math/bits.Add64", "math/bits.Sub64"], unfollowed := true, recurses := true, apart := false, narrowed := true }
def PointOftenUptoSaid : Prop := pointOftenUptoRow.holds Try.pinned (OpenSpec.upto pointOftenSpec)

/-- 'postilionlaw06.PointEight', WHERE WHAT IT READS IS OF BULK AT MOST 1048576: true; the input reads as it did. -/
def pointEightUptoRow : OpenClaim := { program := "ytalnjdcidmkajaa", sum := "ceca93b482eb0e9afef0a31e55bf83f9a57d02614dd92f4ebfc83befb7fc910a", func := "postilion/postilionlaw06.PointEight", spec := "pointEight", inPlace := ["math/bits.Add64"], unfollowed := true, recurses := true, apart := false, narrowed := true }
def PointEightUptoSaid : Prop := pointEightUptoRow.holds Try.pinned (OpenSpec.upto pointEightSpec)

/-- 'postilionlaw06.PointAll', WHERE WHAT IT READS IS OF BULK AT MOST 1048576: true; the input reads as it did. -/
def pointAllUptoRow : OpenClaim := { program := "ytalnjdcidmkajaa", sum := "ceca93b482eb0e9afef0a31e55bf83f9a57d02614dd92f4ebfc83befb7fc910a", func := "postilion/postilionlaw06.PointAll", spec := "pointAll", inPlace := ["math/bits.Add64", "math/bits.Sub64"], unfollowed := true, recurses := true, apart := false, narrowed := true }
def PointAllUptoSaid : Prop := pointAllUptoRow.holds Try.pinned (OpenSpec.upto pointAllSpec)

end Rows
end Go.Proofs.Ytalnjdcidmkajaa
