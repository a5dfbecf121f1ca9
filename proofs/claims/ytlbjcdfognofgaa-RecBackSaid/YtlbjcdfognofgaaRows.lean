/-
  No cell of these rows narrows 'for every input' (looked for: loops, veiled, ifaces, maps, wideKeys, modest, calm, conditions, laid).
  DERIVED. THE GIVEN ROWS OF THIS SEAT. 19 by the template 'for every input the law returns true; each argument reads behind the call as it read before'; 0 by the template 'total and deterministic' (their statements: YtlbjcdfognofgaaTotals.lean).
  GIVEN WITH THE SEED: the statements are not yours to turn. If you find one false, say at which input.
  Laid BY PROGRAM, IN A SANDBOX (cutbox-rows.mjs): the forced cells as the released guide's own fill.sh prints them over the translation bcfd4e7598db5b48… (all of the seat's roots in one cut). By AI agents, Wed Nov 11 2026. No macro, syntax, notation, axiom, sorry.
-/
import Derived.Test.YtlbjcdfognofgaaChecked
import GoSem.Claim
import GoSem.ClaimJoined
import GoSem.ClaimMapViews
import Derived.JoinedTies
import Derived.KernelRfl
namespace Go.Proofs.Ytlbjcdfognofgaa
/- THE CELL 'sum', in the pinned program and in every row, IS THE sha256 OF THE DUMP (.gsa) THAT YtlbjcdfognofgaaProg.lean LOADS. Nothing in Lean hashes anything: it is a label: what it is worth is what the hold of that sum in a sandbox is worth. -/
noncomputable def Try.pinned : Pinned := { name := "ytlbjcdfognofgaa", sum := "bcfd4e7598db5b48ecb92d196bcb58eb76e6009766ef3b5a8217b2ffbf902a25", checked := Try.checked }
namespace Rows
def none {H : Type} : Left H := { results := [], args := [] }

/-- 'horologelaw01.PackLays': WHATEVER THE INPUT: true; the input reads as it did. -/
def packLaysSpec : ChangeSpec := { name := "packLays", fn := fun _ => fun
  | [d1, d2] => { results := [.lit (.bool true)], args := [d1, d2] }
  | _ => none }
def packLaysRow : OpenClaim := { program := "ytlbjcdfognofgaa", sum := "bcfd4e7598db5b48ecb92d196bcb58eb76e6009766ef3b5a8217b2ffbf902a25", func := "horologe/horologelaw01.PackLays", spec := "packLays", apart := false }
def PackLaysSaid : Prop := packLaysRow.holds Try.pinned (OpenSpec.ofChange packLaysSpec)

/-- ITS FALSE NEIGHBOUR: 'it returns false'. Refute it at one input. -/
def packLaysWrong : ChangeSpec := { name := "packLays", fn := fun _ => fun
  | [d1, d2] => { results := [.lit (.bool false)], args := [d1, d2] }
  | _ => none }
def PackLaysWrongFalsely : Prop := packLaysRow.holds Try.pinned (OpenSpec.ofChange packLaysWrong)

/-- 'horologelaw01.PackOrders': WHATEVER THE INPUT: true; the input reads as it did. -/
def packOrdersSpec : ChangeSpec := { name := "packOrders", fn := fun _ => fun
  | [d] => { results := [.lit (.bool true)], args := [d] }
  | _ => none }
def packOrdersRow : OpenClaim := { program := "ytlbjcdfognofgaa", sum := "bcfd4e7598db5b48ecb92d196bcb58eb76e6009766ef3b5a8217b2ffbf902a25", func := "horologe/horologelaw01.PackOrders", spec := "packOrders", apart := false }
def PackOrdersSaid : Prop := packOrdersRow.holds Try.pinned (OpenSpec.ofChange packOrdersSpec)

/-- ITS FALSE NEIGHBOUR: 'it returns false'. Refute it at one input. -/
def packOrdersWrong : ChangeSpec := { name := "packOrders", fn := fun _ => fun
  | [d] => { results := [.lit (.bool false)], args := [d] }
  | _ => none }
def PackOrdersWrongFalsely : Prop := packOrdersRow.holds Try.pinned (OpenSpec.ofChange packOrdersWrong)

/-- 'horologelaw01.PackTexts': WHATEVER THE INPUT: true; the input reads as it did. -/
def packTextsSpec : ChangeSpec := { name := "packTexts", fn := fun _ => fun
  | [d1, d2] => { results := [.lit (.bool true)], args := [d1, d2] }
  | _ => none }
def packTextsRow : OpenClaim := { program := "ytlbjcdfognofgaa", sum := "bcfd4e7598db5b48ecb92d196bcb58eb76e6009766ef3b5a8217b2ffbf902a25", func := "horologe/horologelaw01.PackTexts", spec := "packTexts", apart := false }
def PackTextsSaid : Prop := packTextsRow.holds Try.pinned (OpenSpec.ofChange packTextsSpec)

/-- ITS FALSE NEIGHBOUR: 'it returns false'. Refute it at one input. -/
def packTextsWrong : ChangeSpec := { name := "packTexts", fn := fun _ => fun
  | [d1, d2] => { results := [.lit (.bool false)], args := [d1, d2] }
  | _ => none }
def PackTextsWrongFalsely : Prop := packTextsRow.holds Try.pinned (OpenSpec.ofChange packTextsWrong)

/-- 'horologelaw02.StampLater': WHATEVER THE INPUT: true; the input reads as it did. -/
def stampLaterSpec : ChangeSpec := { name := "stampLater", fn := fun _ => fun
  | [d1, d2] => { results := [.lit (.bool true)], args := [d1, d2] }
  | _ => none }
def stampLaterRow : OpenClaim := { program := "ytlbjcdfognofgaa", sum := "bcfd4e7598db5b48ecb92d196bcb58eb76e6009766ef3b5a8217b2ffbf902a25", func := "horologe/horologelaw02.StampLater", spec := "stampLater", inPlace := ["math.Float64bits", "math.Float64frombits"], unfollowed := true, recurses := true, apart := false }
def StampLaterSaid : Prop := stampLaterRow.holds Try.pinned (OpenSpec.ofChange stampLaterSpec)

/-- ITS FALSE NEIGHBOUR: 'it returns false'. Refute it at one input. -/
def stampLaterWrong : ChangeSpec := { name := "stampLater", fn := fun _ => fun
  | [d1, d2] => { results := [.lit (.bool false)], args := [d1, d2] }
  | _ => none }
def StampLaterWrongFalsely : Prop := stampLaterRow.holds Try.pinned (OpenSpec.ofChange stampLaterWrong)

/-- 'horologelaw02.StampCompares': WHATEVER THE INPUT: true; the input reads as it did. -/
def stampComparesSpec : ChangeSpec := { name := "stampCompares", fn := fun _ => fun
  | [d1, d2] => { results := [.lit (.bool true)], args := [d1, d2] }
  | _ => none }
def stampComparesRow : OpenClaim := { program := "ytlbjcdfognofgaa", sum := "bcfd4e7598db5b48ecb92d196bcb58eb76e6009766ef3b5a8217b2ffbf902a25", func := "horologe/horologelaw02.StampCompares", spec := "stampCompares", inPlace := ["math.Float64bits", "math.Float64frombits"], unfollowed := true, recurses := true, apart := false }
def StampComparesSaid : Prop := stampComparesRow.holds Try.pinned (OpenSpec.ofChange stampComparesSpec)

/-- ITS FALSE NEIGHBOUR: 'it returns false'. Refute it at one input. -/
def stampComparesWrong : ChangeSpec := { name := "stampCompares", fn := fun _ => fun
  | [d1, d2] => { results := [.lit (.bool false)], args := [d1, d2] }
  | _ => none }
def StampComparesWrongFalsely : Prop := stampComparesRow.holds Try.pinned (OpenSpec.ofChange stampComparesWrong)

/-- 'horologelaw02.StampOrders': WHATEVER THE INPUT: true; the input reads as it did. -/
def stampOrdersSpec : ChangeSpec := { name := "stampOrders", fn := fun _ => fun
  | [d1, d2, d3] => { results := [.lit (.bool true)], args := [d1, d2, d3] }
  | _ => none }
def stampOrdersRow : OpenClaim := { program := "ytlbjcdfognofgaa", sum := "bcfd4e7598db5b48ecb92d196bcb58eb76e6009766ef3b5a8217b2ffbf902a25", func := "horologe/horologelaw02.StampOrders", spec := "stampOrders", inPlace := ["math.Float64bits", "math.Float64frombits"], unfollowed := true, recurses := true, apart := false }
def StampOrdersSaid : Prop := stampOrdersRow.holds Try.pinned (OpenSpec.ofChange stampOrdersSpec)

/-- ITS FALSE NEIGHBOUR: 'it returns false'. Refute it at one input. -/
def stampOrdersWrong : ChangeSpec := { name := "stampOrders", fn := fun _ => fun
  | [d1, d2, d3] => { results := [.lit (.bool false)], args := [d1, d2, d3] }
  | _ => none }
def StampOrdersWrongFalsely : Prop := stampOrdersRow.holds Try.pinned (OpenSpec.ofChange stampOrdersWrong)

/-- 'horologelaw20.RecStates': WHATEVER THE INPUT: true; the input reads as it did. -/
def recStatesSpec : ChangeSpec := { name := "recStates", fn := fun _ => fun
  | [d1, d2] => { results := [.lit (.bool true)], args := [d1, d2] }
  | _ => none }
def recStatesRow : OpenClaim := { program := "ytlbjcdfognofgaa", sum := "bcfd4e7598db5b48ecb92d196bcb58eb76e6009766ef3b5a8217b2ffbf902a25", func := "horologe/horologelaw20.RecStates", spec := "recStates", inPlace := ["math.Float64bits", "math.Float64frombits"], unfollowed := true, recurses := true, apart := false }
def RecStatesSaid : Prop := recStatesRow.holds Try.pinned (OpenSpec.ofChange recStatesSpec)

/-- ITS FALSE NEIGHBOUR: 'it returns false'. Refute it at one input. -/
def recStatesWrong : ChangeSpec := { name := "recStates", fn := fun _ => fun
  | [d1, d2] => { results := [.lit (.bool false)], args := [d1, d2] }
  | _ => none }
def RecStatesWrongFalsely : Prop := recStatesRow.holds Try.pinned (OpenSpec.ofChange recStatesWrong)

/-- 'horologelaw02.StampGrows': WHATEVER THE INPUT: true; the input reads as it did. -/
def stampGrowsSpec : ChangeSpec := { name := "stampGrows", fn := fun _ => fun
  | [d1, d2, d3] => { results := [.lit (.bool true)], args := [d1, d2, d3] }
  | _ => none }
def stampGrowsRow : OpenClaim := { program := "ytlbjcdfognofgaa", sum := "bcfd4e7598db5b48ecb92d196bcb58eb76e6009766ef3b5a8217b2ffbf902a25", func := "horologe/horologelaw02.StampGrows", spec := "stampGrows", inPlace := ["math.Float64bits", "math.Float64frombits"], unfollowed := true, recurses := true, apart := false }
def StampGrowsSaid : Prop := stampGrowsRow.holds Try.pinned (OpenSpec.ofChange stampGrowsSpec)

/-- ITS FALSE NEIGHBOUR: 'it returns false'. Refute it at one input. -/
def stampGrowsWrong : ChangeSpec := { name := "stampGrows", fn := fun _ => fun
  | [d1, d2, d3] => { results := [.lit (.bool false)], args := [d1, d2, d3] }
  | _ => none }
def StampGrowsWrongFalsely : Prop := stampGrowsRow.holds Try.pinned (OpenSpec.ofChange stampGrowsWrong)

/-- 'horologelaw01.PackReads': WHATEVER THE INPUT: true; the input reads as it did. -/
def packReadsSpec : ChangeSpec := { name := "packReads", fn := fun _ => fun
  | [d1, d2] => { results := [.lit (.bool true)], args := [d1, d2] }
  | _ => none }
def packReadsRow : OpenClaim := { program := "ytlbjcdfognofgaa", sum := "bcfd4e7598db5b48ecb92d196bcb58eb76e6009766ef3b5a8217b2ffbf902a25", func := "horologe/horologelaw01.PackReads", spec := "packReads", apart := false }
def PackReadsSaid : Prop := packReadsRow.holds Try.pinned (OpenSpec.ofChange packReadsSpec)

/-- ITS FALSE NEIGHBOUR: 'it returns false'. Refute it at one input. -/
def packReadsWrong : ChangeSpec := { name := "packReads", fn := fun _ => fun
  | [d1, d2] => { results := [.lit (.bool false)], args := [d1, d2] }
  | _ => none }
def PackReadsWrongFalsely : Prop := packReadsRow.holds Try.pinned (OpenSpec.ofChange packReadsWrong)

/-- 'horologelaw20.RecBack': WHATEVER THE INPUT: true; the input reads as it did. -/
def recBackSpec : ChangeSpec := { name := "recBack", fn := fun _ => fun
  | [d] => { results := [.lit (.bool true)], args := [d] }
  | _ => none }
def recBackRow : OpenClaim := { program := "ytlbjcdfognofgaa", sum := "bcfd4e7598db5b48ecb92d196bcb58eb76e6009766ef3b5a8217b2ffbf902a25", func := "horologe/horologelaw20.RecBack", spec := "recBack", inPlace := ["math.Float64bits", "math.Float64frombits"], unfollowed := true, recurses := true, apart := false }
def RecBackSaid : Prop := recBackRow.holds Try.pinned (OpenSpec.ofChange recBackSpec)

/-- ITS FALSE NEIGHBOUR: 'it returns false'. Refute it at one input. -/
def recBackWrong : ChangeSpec := { name := "recBack", fn := fun _ => fun
  | [d] => { results := [.lit (.bool false)], args := [d] }
  | _ => none }
def RecBackWrongFalsely : Prop := recBackRow.holds Try.pinned (OpenSpec.ofChange recBackWrong)

/-- 'horologelaw02.StampFirst': WHATEVER THE INPUT: true; the input reads as it did. -/
def stampFirstSpec : ChangeSpec := { name := "stampFirst", fn := fun _ => fun
  | [d] => { results := [.lit (.bool true)], args := [d] }
  | _ => none }
def stampFirstRow : OpenClaim := { program := "ytlbjcdfognofgaa", sum := "bcfd4e7598db5b48ecb92d196bcb58eb76e6009766ef3b5a8217b2ffbf902a25", func := "horologe/horologelaw02.StampFirst", spec := "stampFirst", inPlace := ["math.Float64bits", "math.Float64frombits"], unfollowed := true, recurses := true, apart := false }
def StampFirstSaid : Prop := stampFirstRow.holds Try.pinned (OpenSpec.ofChange stampFirstSpec)

/-- ITS FALSE NEIGHBOUR: 'it returns false'. Refute it at one input. -/
def stampFirstWrong : ChangeSpec := { name := "stampFirst", fn := fun _ => fun
  | [d] => { results := [.lit (.bool false)], args := [d] }
  | _ => none }
def StampFirstWrongFalsely : Prop := stampFirstRow.holds Try.pinned (OpenSpec.ofChange stampFirstWrong)

/-- 'horologelaw01.PackBack': WHATEVER THE INPUT: true; the input reads as it did. -/
def packBackSpec : ChangeSpec := { name := "packBack", fn := fun _ => fun
  | [d] => { results := [.lit (.bool true)], args := [d] }
  | _ => none }
def packBackRow : OpenClaim := { program := "ytlbjcdfognofgaa", sum := "bcfd4e7598db5b48ecb92d196bcb58eb76e6009766ef3b5a8217b2ffbf902a25", func := "horologe/horologelaw01.PackBack", spec := "packBack", apart := false }
def PackBackSaid : Prop := packBackRow.holds Try.pinned (OpenSpec.ofChange packBackSpec)

/-- ITS FALSE NEIGHBOUR: 'it returns false'. Refute it at one input. -/
def packBackWrong : ChangeSpec := { name := "packBack", fn := fun _ => fun
  | [d] => { results := [.lit (.bool false)], args := [d] }
  | _ => none }
def PackBackWrongFalsely : Prop := packBackRow.holds Try.pinned (OpenSpec.ofChange packBackWrong)

/-- 'horologelaw01.PackOnce': WHATEVER THE INPUT: true; the input reads as it did. -/
def packOnceSpec : ChangeSpec := { name := "packOnce", fn := fun _ => fun
  | [d1, d2] => { results := [.lit (.bool true)], args := [d1, d2] }
  | _ => none }
def packOnceRow : OpenClaim := { program := "ytlbjcdfognofgaa", sum := "bcfd4e7598db5b48ecb92d196bcb58eb76e6009766ef3b5a8217b2ffbf902a25", func := "horologe/horologelaw01.PackOnce", spec := "packOnce", apart := false }
def PackOnceSaid : Prop := packOnceRow.holds Try.pinned (OpenSpec.ofChange packOnceSpec)

/-- ITS FALSE NEIGHBOUR: 'it returns false'. Refute it at one input. -/
def packOnceWrong : ChangeSpec := { name := "packOnce", fn := fun _ => fun
  | [d1, d2] => { results := [.lit (.bool false)], args := [d1, d2] }
  | _ => none }
def PackOnceWrongFalsely : Prop := packOnceRow.holds Try.pinned (OpenSpec.ofChange packOnceWrong)

/-- 'horologelaw02.StampBytes': WHATEVER THE INPUT: true; the input reads as it did. -/
def stampBytesSpec : ChangeSpec := { name := "stampBytes", fn := fun _ => fun
  | [d1, d2] => { results := [.lit (.bool true)], args := [d1, d2] }
  | _ => none }
def stampBytesRow : OpenClaim := { program := "ytlbjcdfognofgaa", sum := "bcfd4e7598db5b48ecb92d196bcb58eb76e6009766ef3b5a8217b2ffbf902a25", func := "horologe/horologelaw02.StampBytes", spec := "stampBytes", inPlace := ["math.Float64bits", "math.Float64frombits"], unfollowed := true, recurses := true, apart := false }
def StampBytesSaid : Prop := stampBytesRow.holds Try.pinned (OpenSpec.ofChange stampBytesSpec)

/-- ITS FALSE NEIGHBOUR: 'it returns false'. Refute it at one input. -/
def stampBytesWrong : ChangeSpec := { name := "stampBytes", fn := fun _ => fun
  | [d1, d2] => { results := [.lit (.bool false)], args := [d1, d2] }
  | _ => none }
def StampBytesWrongFalsely : Prop := stampBytesRow.holds Try.pinned (OpenSpec.ofChange stampBytesWrong)

/-- 'horologelaw02.StampKeys': WHATEVER THE INPUT: true; the input reads as it did. -/
def stampKeysSpec : ChangeSpec := { name := "stampKeys", fn := fun _ => fun
  | [d1, d2, d3] => { results := [.lit (.bool true)], args := [d1, d2, d3] }
  | _ => none }
def stampKeysRow : OpenClaim := { program := "ytlbjcdfognofgaa", sum := "bcfd4e7598db5b48ecb92d196bcb58eb76e6009766ef3b5a8217b2ffbf902a25", func := "horologe/horologelaw02.StampKeys", spec := "stampKeys", inPlace := ["math.Float64bits", "math.Float64frombits"], unfollowed := true, recurses := true, apart := false }
def StampKeysSaid : Prop := stampKeysRow.holds Try.pinned (OpenSpec.ofChange stampKeysSpec)

/-- ITS FALSE NEIGHBOUR: 'it returns false'. Refute it at one input. -/
def stampKeysWrong : ChangeSpec := { name := "stampKeys", fn := fun _ => fun
  | [d1, d2, d3] => { results := [.lit (.bool false)], args := [d1, d2, d3] }
  | _ => none }
def StampKeysWrongFalsely : Prop := stampKeysRow.holds Try.pinned (OpenSpec.ofChange stampKeysWrong)

/-- 'horologelaw02.StampBack': WHATEVER THE INPUT: true; the input reads as it did. -/
def stampBackSpec : ChangeSpec := { name := "stampBack", fn := fun _ => fun
  | [d1, d2, d3] => { results := [.lit (.bool true)], args := [d1, d2, d3] }
  | _ => none }
def stampBackRow : OpenClaim := { program := "ytlbjcdfognofgaa", sum := "bcfd4e7598db5b48ecb92d196bcb58eb76e6009766ef3b5a8217b2ffbf902a25", func := "horologe/horologelaw02.StampBack", spec := "stampBack", inPlace := ["math.Float64bits", "math.Float64frombits"], unfollowed := true, recurses := true, apart := false }
def StampBackSaid : Prop := stampBackRow.holds Try.pinned (OpenSpec.ofChange stampBackSpec)

/-- ITS FALSE NEIGHBOUR: 'it returns false'. Refute it at one input. -/
def stampBackWrong : ChangeSpec := { name := "stampBack", fn := fun _ => fun
  | [d1, d2, d3] => { results := [.lit (.bool false)], args := [d1, d2, d3] }
  | _ => none }
def StampBackWrongFalsely : Prop := stampBackRow.holds Try.pinned (OpenSpec.ofChange stampBackWrong)

/-- 'horologelaw20.RecOrders': WHATEVER THE INPUT: true; the input reads as it did. -/
def recOrdersSpec : ChangeSpec := { name := "recOrders", fn := fun _ => fun
  | [d1, d2] => { results := [.lit (.bool true)], args := [d1, d2] }
  | _ => none }
def recOrdersRow : OpenClaim := { program := "ytlbjcdfognofgaa", sum := "bcfd4e7598db5b48ecb92d196bcb58eb76e6009766ef3b5a8217b2ffbf902a25", func := "horologe/horologelaw20.RecOrders", spec := "recOrders", inPlace := ["math.Float64bits", "math.Float64frombits"], unfollowed := true, recurses := true, apart := false }
def RecOrdersSaid : Prop := recOrdersRow.holds Try.pinned (OpenSpec.ofChange recOrdersSpec)

/-- ITS FALSE NEIGHBOUR: 'it returns false'. Refute it at one input. -/
def recOrdersWrong : ChangeSpec := { name := "recOrders", fn := fun _ => fun
  | [d1, d2] => { results := [.lit (.bool false)], args := [d1, d2] }
  | _ => none }
def RecOrdersWrongFalsely : Prop := recOrdersRow.holds Try.pinned (OpenSpec.ofChange recOrdersWrong)

/-- 'horologelaw20.RecEvents': WHATEVER THE INPUT: true; the input reads as it did. -/
def recEventsSpec : ChangeSpec := { name := "recEvents", fn := fun _ => fun
  | [d1, d2, d3] => { results := [.lit (.bool true)], args := [d1, d2, d3] }
  | _ => none }
def recEventsRow : OpenClaim := { program := "ytlbjcdfognofgaa", sum := "bcfd4e7598db5b48ecb92d196bcb58eb76e6009766ef3b5a8217b2ffbf902a25", func := "horologe/horologelaw20.RecEvents", spec := "recEvents", inPlace := ["math.Float64bits", "math.Float64frombits"], unfollowed := true, recurses := true, apart := false }
def RecEventsSaid : Prop := recEventsRow.holds Try.pinned (OpenSpec.ofChange recEventsSpec)

/-- ITS FALSE NEIGHBOUR: 'it returns false'. Refute it at one input. -/
def recEventsWrong : ChangeSpec := { name := "recEvents", fn := fun _ => fun
  | [d1, d2, d3] => { results := [.lit (.bool false)], args := [d1, d2, d3] }
  | _ => none }
def RecEventsWrongFalsely : Prop := recEventsRow.holds Try.pinned (OpenSpec.ofChange recEventsWrong)

/-- 'horologelaw20.RecReads': WHATEVER THE INPUT: true; the input reads as it did. -/
def recReadsSpec : ChangeSpec := { name := "recReads", fn := fun _ => fun
  | [d1, d2] => { results := [.lit (.bool true)], args := [d1, d2] }
  | _ => none }
def recReadsRow : OpenClaim := { program := "ytlbjcdfognofgaa", sum := "bcfd4e7598db5b48ecb92d196bcb58eb76e6009766ef3b5a8217b2ffbf902a25", func := "horologe/horologelaw20.RecReads", spec := "recReads", inPlace := ["math.Float64bits", "math.Float64frombits"], unfollowed := true, recurses := true, apart := false }
def RecReadsSaid : Prop := recReadsRow.holds Try.pinned (OpenSpec.ofChange recReadsSpec)

/-- ITS FALSE NEIGHBOUR: 'it returns false'. Refute it at one input. -/
def recReadsWrong : ChangeSpec := { name := "recReads", fn := fun _ => fun
  | [d1, d2] => { results := [.lit (.bool false)], args := [d1, d2] }
  | _ => none }
def RecReadsWrongFalsely : Prop := recReadsRow.holds Try.pinned (OpenSpec.ofChange recReadsWrong)

/- THE SECOND FORM. 'bulk': how many values and letters a reading holds, each counted each time it is reached (what is shared counts as often as it is met; a slice's spare places count too). A statement '..UptoSaid' is the law's where the arguments, and the package variables that the reading takes, are together of bulk at most 1048576: NARROWER than '..Said'. Prove '..Said' where nothing that the law and all that it calls make is longer than what came in: it says more and counts as full. Else prove '..UptoSaid'. A law counts once. -/
mutual
def uptoBulk {H : Type} : DataW H → Nat
  | .lit (.string bytes) => bytes.length + 1
  | .lit _ => 1
  | .nil => 1
  | .ptr d => uptoBulk d + 1
  | .slice elems spare => uptoBulkAll elems + uptoBulkAll spare + 1
  | .agg parts => uptoBulkAll parts + 1
  | .iface _ d => uptoBulk d + 1
  | .map entries => uptoBulkEntries entries + 1
  | .held _ => 1
def uptoBulkAll {H : Type} : List (DataW H) → Nat
  | [] => 0
  | d :: r => uptoBulk d + uptoBulkAll r
def uptoBulkEntries {H : Type} : List (Lit × DataW H) → Nat
  | [] => 0
  | x :: r => uptoBulkEntry x + uptoBulkEntries r
def uptoBulkEntry {H : Type} : Lit × DataW H → Nat
  | (.string bytes, d) => bytes.length + uptoBulk d + 1
  | (_, d) => uptoBulk d + 1
 end
def uptoSmall : (H : Type) → List (DataW H) → Bool := fun _ ds => decide (uptoBulkAll ds ≤ 1048576)
def OpenSpec.upto (s : _root_.Go.ChangeSpec) : _root_.Go.OpenSpec := { _root_.Go.OpenSpec.ofChange s with cond := some uptoSmall }

/-- 'horologelaw01.PackLays', WHERE WHAT IT READS IS OF BULK AT MOST 1048576: true; the input reads as it did. -/
def packLaysUptoRow : OpenClaim := { program := "ytlbjcdfognofgaa", sum := "bcfd4e7598db5b48ecb92d196bcb58eb76e6009766ef3b5a8217b2ffbf902a25", func := "horologe/horologelaw01.PackLays", spec := "packLays", apart := false, narrowed := true }
def PackLaysUptoSaid : Prop := packLaysUptoRow.holds Try.pinned (OpenSpec.upto packLaysSpec)

/-- 'horologelaw01.PackOrders', WHERE WHAT IT READS IS OF BULK AT MOST 1048576: true; the input reads as it did. -/
def packOrdersUptoRow : OpenClaim := { program := "ytlbjcdfognofgaa", sum := "bcfd4e7598db5b48ecb92d196bcb58eb76e6009766ef3b5a8217b2ffbf902a25", func := "horologe/horologelaw01.PackOrders", spec := "packOrders", apart := false, narrowed := true }
def PackOrdersUptoSaid : Prop := packOrdersUptoRow.holds Try.pinned (OpenSpec.upto packOrdersSpec)

/-- 'horologelaw01.PackTexts', WHERE WHAT IT READS IS OF BULK AT MOST 1048576: true; the input reads as it did. -/
def packTextsUptoRow : OpenClaim := { program := "ytlbjcdfognofgaa", sum := "bcfd4e7598db5b48ecb92d196bcb58eb76e6009766ef3b5a8217b2ffbf902a25", func := "horologe/horologelaw01.PackTexts", spec := "packTexts", apart := false, narrowed := true }
def PackTextsUptoSaid : Prop := packTextsUptoRow.holds Try.pinned (OpenSpec.upto packTextsSpec)

/-- 'horologelaw02.StampLater', WHERE WHAT IT READS IS OF BULK AT MOST 1048576: true; the input reads as it did. -/
def stampLaterUptoRow : OpenClaim := { program := "ytlbjcdfognofgaa", sum := "bcfd4e7598db5b48ecb92d196bcb58eb76e6009766ef3b5a8217b2ffbf902a25", func := "horologe/horologelaw02.StampLater", spec := "stampLater", inPlace := ["math.Float64bits", "math.Float64frombits"], unfollowed := true, recurses := true, apart := false, narrowed := true }
def StampLaterUptoSaid : Prop := stampLaterUptoRow.holds Try.pinned (OpenSpec.upto stampLaterSpec)

/-- 'horologelaw02.StampCompares', WHERE WHAT IT READS IS OF BULK AT MOST 1048576: true; the input reads as it did. -/
def stampComparesUptoRow : OpenClaim := { program := "ytlbjcdfognofgaa", sum := "bcfd4e7598db5b48ecb92d196bcb58eb76e6009766ef3b5a8217b2ffbf902a25", func := "horologe/horologelaw02.StampCompares", spec := "stampCompares", inPlace := ["math.Float64bits", "math.Float64frombits"], unfollowed := true, recurses := true, apart := false, narrowed := true }
def StampComparesUptoSaid : Prop := stampComparesUptoRow.holds Try.pinned (OpenSpec.upto stampComparesSpec)

/-- 'horologelaw02.StampOrders', WHERE WHAT IT READS IS OF BULK AT MOST 1048576: true; the input reads as it did. -/
def stampOrdersUptoRow : OpenClaim := { program := "ytlbjcdfognofgaa", sum := "bcfd4e7598db5b48ecb92d196bcb58eb76e6009766ef3b5a8217b2ffbf902a25", func := "horologe/horologelaw02.StampOrders", spec := "stampOrders", inPlace := ["math.Float64bits", "math.Float64frombits"], unfollowed := true, recurses := true, apart := false, narrowed := true }
def StampOrdersUptoSaid : Prop := stampOrdersUptoRow.holds Try.pinned (OpenSpec.upto stampOrdersSpec)

/-- 'horologelaw20.RecStates', WHERE WHAT IT READS IS OF BULK AT MOST 1048576: true; the input reads as it did. -/
def recStatesUptoRow : OpenClaim := { program := "ytlbjcdfognofgaa", sum := "bcfd4e7598db5b48ecb92d196bcb58eb76e6009766ef3b5a8217b2ffbf902a25", func := "horologe/horologelaw20.RecStates", spec := "recStates", inPlace := ["math.Float64bits", "math.Float64frombits"], unfollowed := true, recurses := true, apart := false, narrowed := true }
def RecStatesUptoSaid : Prop := recStatesUptoRow.holds Try.pinned (OpenSpec.upto recStatesSpec)

/-- 'horologelaw02.StampGrows', WHERE WHAT IT READS IS OF BULK AT MOST 1048576: true; the input reads as it did. -/
def stampGrowsUptoRow : OpenClaim := { program := "ytlbjcdfognofgaa", sum := "bcfd4e7598db5b48ecb92d196bcb58eb76e6009766ef3b5a8217b2ffbf902a25", func := "horologe/horologelaw02.StampGrows", spec := "stampGrows", inPlace := ["math.Float64bits", "math.Float64frombits"], unfollowed := true, recurses := true, apart := false, narrowed := true }
def StampGrowsUptoSaid : Prop := stampGrowsUptoRow.holds Try.pinned (OpenSpec.upto stampGrowsSpec)

/-- 'horologelaw01.PackReads', WHERE WHAT IT READS IS OF BULK AT MOST 1048576: true; the input reads as it did. -/
def packReadsUptoRow : OpenClaim := { program := "ytlbjcdfognofgaa", sum := "bcfd4e7598db5b48ecb92d196bcb58eb76e6009766ef3b5a8217b2ffbf902a25", func := "horologe/horologelaw01.PackReads", spec := "packReads", apart := false, narrowed := true }
def PackReadsUptoSaid : Prop := packReadsUptoRow.holds Try.pinned (OpenSpec.upto packReadsSpec)

/-- 'horologelaw20.RecBack', WHERE WHAT IT READS IS OF BULK AT MOST 1048576: true; the input reads as it did. -/
def recBackUptoRow : OpenClaim := { program := "ytlbjcdfognofgaa", sum := "bcfd4e7598db5b48ecb92d196bcb58eb76e6009766ef3b5a8217b2ffbf902a25", func := "horologe/horologelaw20.RecBack", spec := "recBack", inPlace := ["math.Float64bits", "math.Float64frombits"], unfollowed := true, recurses := true, apart := false, narrowed := true }
def RecBackUptoSaid : Prop := recBackUptoRow.holds Try.pinned (OpenSpec.upto recBackSpec)

/-- 'horologelaw02.StampFirst', WHERE WHAT IT READS IS OF BULK AT MOST 1048576: true; the input reads as it did. -/
def stampFirstUptoRow : OpenClaim := { program := "ytlbjcdfognofgaa", sum := "bcfd4e7598db5b48ecb92d196bcb58eb76e6009766ef3b5a8217b2ffbf902a25", func := "horologe/horologelaw02.StampFirst", spec := "stampFirst", inPlace := ["math.Float64bits", "math.Float64frombits"], unfollowed := true, recurses := true, apart := false, narrowed := true }
def StampFirstUptoSaid : Prop := stampFirstUptoRow.holds Try.pinned (OpenSpec.upto stampFirstSpec)

/-- 'horologelaw01.PackBack', WHERE WHAT IT READS IS OF BULK AT MOST 1048576: true; the input reads as it did. -/
def packBackUptoRow : OpenClaim := { program := "ytlbjcdfognofgaa", sum := "bcfd4e7598db5b48ecb92d196bcb58eb76e6009766ef3b5a8217b2ffbf902a25", func := "horologe/horologelaw01.PackBack", spec := "packBack", apart := false, narrowed := true }
def PackBackUptoSaid : Prop := packBackUptoRow.holds Try.pinned (OpenSpec.upto packBackSpec)

/-- 'horologelaw01.PackOnce', WHERE WHAT IT READS IS OF BULK AT MOST 1048576: true; the input reads as it did. -/
def packOnceUptoRow : OpenClaim := { program := "ytlbjcdfognofgaa", sum := "bcfd4e7598db5b48ecb92d196bcb58eb76e6009766ef3b5a8217b2ffbf902a25", func := "horologe/horologelaw01.PackOnce", spec := "packOnce", apart := false, narrowed := true }
def PackOnceUptoSaid : Prop := packOnceUptoRow.holds Try.pinned (OpenSpec.upto packOnceSpec)

/-- 'horologelaw02.StampBytes', WHERE WHAT IT READS IS OF BULK AT MOST 1048576: true; the input reads as it did. -/
def stampBytesUptoRow : OpenClaim := { program := "ytlbjcdfognofgaa", sum := "bcfd4e7598db5b48ecb92d196bcb58eb76e6009766ef3b5a8217b2ffbf902a25", func := "horologe/horologelaw02.StampBytes", spec := "stampBytes", inPlace := ["math.Float64bits", "math.Float64frombits"], unfollowed := true, recurses := true, apart := false, narrowed := true }
def StampBytesUptoSaid : Prop := stampBytesUptoRow.holds Try.pinned (OpenSpec.upto stampBytesSpec)

/-- 'horologelaw02.StampKeys', WHERE WHAT IT READS IS OF BULK AT MOST 1048576: true; the input reads as it did. -/
def stampKeysUptoRow : OpenClaim := { program := "ytlbjcdfognofgaa", sum := "bcfd4e7598db5b48ecb92d196bcb58eb76e6009766ef3b5a8217b2ffbf902a25", func := "horologe/horologelaw02.StampKeys", spec := "stampKeys", inPlace := ["math.Float64bits", "math.Float64frombits"], unfollowed := true, recurses := true, apart := false, narrowed := true }
def StampKeysUptoSaid : Prop := stampKeysUptoRow.holds Try.pinned (OpenSpec.upto stampKeysSpec)

/-- 'horologelaw02.StampBack', WHERE WHAT IT READS IS OF BULK AT MOST 1048576: true; the input reads as it did. -/
def stampBackUptoRow : OpenClaim := { program := "ytlbjcdfognofgaa", sum := "bcfd4e7598db5b48ecb92d196bcb58eb76e6009766ef3b5a8217b2ffbf902a25", func := "horologe/horologelaw02.StampBack", spec := "stampBack", inPlace := ["math.Float64bits", "math.Float64frombits"], unfollowed := true, recurses := true, apart := false, narrowed := true }
def StampBackUptoSaid : Prop := stampBackUptoRow.holds Try.pinned (OpenSpec.upto stampBackSpec)

/-- 'horologelaw20.RecOrders', WHERE WHAT IT READS IS OF BULK AT MOST 1048576: true; the input reads as it did. -/
def recOrdersUptoRow : OpenClaim := { program := "ytlbjcdfognofgaa", sum := "bcfd4e7598db5b48ecb92d196bcb58eb76e6009766ef3b5a8217b2ffbf902a25", func := "horologe/horologelaw20.RecOrders", spec := "recOrders", inPlace := ["math.Float64bits", "math.Float64frombits"], unfollowed := true, recurses := true, apart := false, narrowed := true }
def RecOrdersUptoSaid : Prop := recOrdersUptoRow.holds Try.pinned (OpenSpec.upto recOrdersSpec)

/-- 'horologelaw20.RecEvents', WHERE WHAT IT READS IS OF BULK AT MOST 1048576: true; the input reads as it did. -/
def recEventsUptoRow : OpenClaim := { program := "ytlbjcdfognofgaa", sum := "bcfd4e7598db5b48ecb92d196bcb58eb76e6009766ef3b5a8217b2ffbf902a25", func := "horologe/horologelaw20.RecEvents", spec := "recEvents", inPlace := ["math.Float64bits", "math.Float64frombits"], unfollowed := true, recurses := true, apart := false, narrowed := true }
def RecEventsUptoSaid : Prop := recEventsUptoRow.holds Try.pinned (OpenSpec.upto recEventsSpec)

/-- 'horologelaw20.RecReads', WHERE WHAT IT READS IS OF BULK AT MOST 1048576: true; the input reads as it did. -/
def recReadsUptoRow : OpenClaim := { program := "ytlbjcdfognofgaa", sum := "bcfd4e7598db5b48ecb92d196bcb58eb76e6009766ef3b5a8217b2ffbf902a25", func := "horologe/horologelaw20.RecReads", spec := "recReads", inPlace := ["math.Float64bits", "math.Float64frombits"], unfollowed := true, recurses := true, apart := false, narrowed := true }
def RecReadsUptoSaid : Prop := recReadsUptoRow.holds Try.pinned (OpenSpec.upto recReadsSpec)

end Rows
end Go.Proofs.Ytlbjcdfognofgaa
