/-
  No cell of these rows narrows 'for every input' (looked for: loops, veiled, ifaces, maps, wideKeys, modest, calm, conditions, laid).
  DERIVED. THE GIVEN ROWS OF THIS SEAT. 12 by the template 'for every input the law returns true; each argument reads behind the call as it read before'; 0 by the template 'total and deterministic' (their statements: YtlmadkldiidkaaaTotals.lean).
  GIVEN WITH THE SEED: the statements are not yours to turn. If you find one false, say at which input.
  Laid BY PROGRAM, IN A SANDBOX (cutbox-rows.mjs): the forced cells as the released guide's own fill.sh prints them over the translation 78ea2ce1a4c05cb5… (all of the seat's roots in one cut). By AI agents, Wed Nov 11 2026. No macro, syntax, notation, axiom, sorry.
-/
import Derived.Test.YtlmadkldiidkaaaChecked
import GoSem.Claim
import GoSem.ClaimJoined
import GoSem.ClaimMapViews
import Derived.JoinedTies
import Derived.KernelRfl
namespace Go.Proofs.Ytlmadkldiidkaaa
/- THE CELL 'sum', in the pinned program and in every row, IS THE sha256 OF THE DUMP (.gsa) THAT YtlmadkldiidkaaaProg.lean LOADS. Nothing in Lean hashes anything: it is a label: what it is worth is what the hold of that sum in a sandbox is worth. -/
noncomputable def Try.pinned : Pinned := { name := "ytlmadkldiidkaaa", sum := "78ea2ce1a4c05cb5eb21b4f20a3a5d831223ee215fc048b6f428d9d90b2dfdfc", checked := Try.checked }
namespace Rows
def none {H : Type} : Left H := { results := [], args := [] }

/-- 'blockhouselaw09.LamportTold': WHATEVER THE INPUT: true; the input reads as it did. -/
def lamportToldSpec : ChangeSpec := { name := "lamportTold", fn := fun _ => fun
  | [d1, d2, d3, d4, d5] => { results := [.lit (.bool true)], args := [d1, d2, d3, d4, d5] }
  | _ => none }
def lamportToldRow : OpenClaim := { program := "ytlmadkldiidkaaa", sum := "78ea2ce1a4c05cb5eb21b4f20a3a5d831223ee215fc048b6f428d9d90b2dfdfc", func := "blockhouse/blockhouselaw09.LamportTold", spec := "lamportTold", apart := false }
def LamportToldSaid : Prop := lamportToldRow.holds Try.pinned (OpenSpec.ofChange lamportToldSpec)

/-- ITS FALSE NEIGHBOUR: 'it returns false'. Refute it at one input. -/
def lamportToldWrong : ChangeSpec := { name := "lamportTold", fn := fun _ => fun
  | [d1, d2, d3, d4, d5] => { results := [.lit (.bool false)], args := [d1, d2, d3, d4, d5] }
  | _ => none }
def LamportToldWrongFalsely : Prop := lamportToldRow.holds Try.pinned (OpenSpec.ofChange lamportToldWrong)

/-- 'blockhouselaw09.LamportSigns': WHATEVER THE INPUT: true; the input reads as it did. -/
def lamportSignsSpec : ChangeSpec := { name := "lamportSigns", fn := fun _ => fun
  | [d1, d2, d3, d4, d5] => { results := [.lit (.bool true)], args := [d1, d2, d3, d4, d5] }
  | _ => none }
def lamportSignsRow : OpenClaim := { program := "ytlmadkldiidkaaa", sum := "78ea2ce1a4c05cb5eb21b4f20a3a5d831223ee215fc048b6f428d9d90b2dfdfc", func := "blockhouse/blockhouselaw09.LamportSigns", spec := "lamportSigns", apart := false }
def LamportSignsSaid : Prop := lamportSignsRow.holds Try.pinned (OpenSpec.ofChange lamportSignsSpec)

/-- ITS FALSE NEIGHBOUR: 'it returns false'. Refute it at one input. -/
def lamportSignsWrong : ChangeSpec := { name := "lamportSigns", fn := fun _ => fun
  | [d1, d2, d3, d4, d5] => { results := [.lit (.bool false)], args := [d1, d2, d3, d4, d5] }
  | _ => none }
def LamportSignsWrongFalsely : Prop := lamportSignsRow.holds Try.pinned (OpenSpec.ofChange lamportSignsWrong)

/-- 'blockhouselaw03.MacKeys': WHATEVER THE INPUT: true; the input reads as it did. -/
def macKeysSpec : ChangeSpec := { name := "macKeys", fn := fun _ => fun
  | [d1, d2, d3, d4] => { results := [.lit (.bool true)], args := [d1, d2, d3, d4] }
  | _ => none }
def macKeysRow : OpenClaim := { program := "ytlmadkldiidkaaa", sum := "78ea2ce1a4c05cb5eb21b4f20a3a5d831223ee215fc048b6f428d9d90b2dfdfc", func := "blockhouse/blockhouselaw03.MacKeys", spec := "macKeys", unfollowed := true, recurses := true, apart := false }
def MacKeysSaid : Prop := macKeysRow.holds Try.pinned (OpenSpec.ofChange macKeysSpec)

/-- ITS FALSE NEIGHBOUR: 'it returns false'. Refute it at one input. -/
def macKeysWrong : ChangeSpec := { name := "macKeys", fn := fun _ => fun
  | [d1, d2, d3, d4] => { results := [.lit (.bool false)], args := [d1, d2, d3, d4] }
  | _ => none }
def MacKeysWrongFalsely : Prop := macKeysRow.holds Try.pinned (OpenSpec.ofChange macKeysWrong)

/-- 'blockhouselaw03.MacSame': WHATEVER THE INPUT: true; the input reads as it did. -/
def macSameSpec : ChangeSpec := { name := "macSame", fn := fun _ => fun
  | [d1, d2, d3, d4] => { results := [.lit (.bool true)], args := [d1, d2, d3, d4] }
  | _ => none }
def macSameRow : OpenClaim := { program := "ytlmadkldiidkaaa", sum := "78ea2ce1a4c05cb5eb21b4f20a3a5d831223ee215fc048b6f428d9d90b2dfdfc", func := "blockhouse/blockhouselaw03.MacSame", spec := "macSame", unfollowed := true, recurses := true, apart := false }
def MacSameSaid : Prop := macSameRow.holds Try.pinned (OpenSpec.ofChange macSameSpec)

/-- ITS FALSE NEIGHBOUR: 'it returns false'. Refute it at one input. -/
def macSameWrong : ChangeSpec := { name := "macSame", fn := fun _ => fun
  | [d1, d2, d3, d4] => { results := [.lit (.bool false)], args := [d1, d2, d3, d4] }
  | _ => none }
def MacSameWrongFalsely : Prop := macSameRow.holds Try.pinned (OpenSpec.ofChange macSameWrong)

/-- 'blockhouselaw10.MerkleNodes': WHATEVER THE INPUT: true; the input reads as it did. -/
def merkleNodesSpec : ChangeSpec := { name := "merkleNodes", fn := fun _ => fun
  | [d1, d2, d3, d4, d5] => { results := [.lit (.bool true)], args := [d1, d2, d3, d4, d5] }
  | _ => none }
def merkleNodesRow : OpenClaim := { program := "ytlmadkldiidkaaa", sum := "78ea2ce1a4c05cb5eb21b4f20a3a5d831223ee215fc048b6f428d9d90b2dfdfc", func := "blockhouse/blockhouselaw10.MerkleNodes", spec := "merkleNodes", unfollowed := true, recurses := true, apart := false }
def MerkleNodesSaid : Prop := merkleNodesRow.holds Try.pinned (OpenSpec.ofChange merkleNodesSpec)

/-- ITS FALSE NEIGHBOUR: 'it returns false'. Refute it at one input. -/
def merkleNodesWrong : ChangeSpec := { name := "merkleNodes", fn := fun _ => fun
  | [d1, d2, d3, d4, d5] => { results := [.lit (.bool false)], args := [d1, d2, d3, d4, d5] }
  | _ => none }
def MerkleNodesWrongFalsely : Prop := merkleNodesRow.holds Try.pinned (OpenSpec.ofChange merkleNodesWrong)

/-- 'blockhouselaw03.MacTagged': WHATEVER THE INPUT: true; the input reads as it did. -/
def macTaggedSpec : ChangeSpec := { name := "macTagged", fn := fun _ => fun
  | [d1, d2, d3] => { results := [.lit (.bool true)], args := [d1, d2, d3] }
  | _ => none }
def macTaggedRow : OpenClaim := { program := "ytlmadkldiidkaaa", sum := "78ea2ce1a4c05cb5eb21b4f20a3a5d831223ee215fc048b6f428d9d90b2dfdfc", func := "blockhouse/blockhouselaw03.MacTagged", spec := "macTagged", unfollowed := true, recurses := true, apart := false }
def MacTaggedSaid : Prop := macTaggedRow.holds Try.pinned (OpenSpec.ofChange macTaggedSpec)

/-- ITS FALSE NEIGHBOUR: 'it returns false'. Refute it at one input. -/
def macTaggedWrong : ChangeSpec := { name := "macTagged", fn := fun _ => fun
  | [d1, d2, d3] => { results := [.lit (.bool false)], args := [d1, d2, d3] }
  | _ => none }
def MacTaggedWrongFalsely : Prop := macTaggedRow.holds Try.pinned (OpenSpec.ofChange macTaggedWrong)

/-- 'blockhouselaw03.MacTexts': WHATEVER THE INPUT: true; the input reads as it did. -/
def macTextsSpec : ChangeSpec := { name := "macTexts", fn := fun _ => fun
  | [d1, d2, d3, d4, d5] => { results := [.lit (.bool true)], args := [d1, d2, d3, d4, d5] }
  | _ => none }
def macTextsRow : OpenClaim := { program := "ytlmadkldiidkaaa", sum := "78ea2ce1a4c05cb5eb21b4f20a3a5d831223ee215fc048b6f428d9d90b2dfdfc", func := "blockhouse/blockhouselaw03.MacTexts", spec := "macTexts", unfollowed := true, recurses := true, apart := false }
def MacTextsSaid : Prop := macTextsRow.holds Try.pinned (OpenSpec.ofChange macTextsSpec)

/-- ITS FALSE NEIGHBOUR: 'it returns false'. Refute it at one input. -/
def macTextsWrong : ChangeSpec := { name := "macTexts", fn := fun _ => fun
  | [d1, d2, d3, d4, d5] => { results := [.lit (.bool false)], args := [d1, d2, d3, d4, d5] }
  | _ => none }
def MacTextsWrongFalsely : Prop := macTextsRow.holds Try.pinned (OpenSpec.ofChange macTextsWrong)

/-- 'blockhouselaw10.MerkleSteps': WHATEVER THE INPUT: true; the input reads as it did. -/
def merkleStepsSpec : ChangeSpec := { name := "merkleSteps", fn := fun _ => fun
  | [d1, d2, d3, d4, d5] => { results := [.lit (.bool true)], args := [d1, d2, d3, d4, d5] }
  | _ => none }
def merkleStepsRow : OpenClaim := { program := "ytlmadkldiidkaaa", sum := "78ea2ce1a4c05cb5eb21b4f20a3a5d831223ee215fc048b6f428d9d90b2dfdfc", func := "blockhouse/blockhouselaw10.MerkleSteps", spec := "merkleSteps", unfollowed := true, recurses := true, apart := false }
def MerkleStepsSaid : Prop := merkleStepsRow.holds Try.pinned (OpenSpec.ofChange merkleStepsSpec)

/-- ITS FALSE NEIGHBOUR: 'it returns false'. Refute it at one input. -/
def merkleStepsWrong : ChangeSpec := { name := "merkleSteps", fn := fun _ => fun
  | [d1, d2, d3, d4, d5] => { results := [.lit (.bool false)], args := [d1, d2, d3, d4, d5] }
  | _ => none }
def MerkleStepsWrongFalsely : Prop := merkleStepsRow.holds Try.pinned (OpenSpec.ofChange merkleStepsWrong)

/-- 'blockhouselaw10.MerkleClimbs': WHATEVER THE INPUT: true; the input reads as it did. -/
def merkleClimbsSpec : ChangeSpec := { name := "merkleClimbs", fn := fun _ => fun
  | [d1, d2, d3, d4] => { results := [.lit (.bool true)], args := [d1, d2, d3, d4] }
  | _ => none }
def merkleClimbsRow : OpenClaim := { program := "ytlmadkldiidkaaa", sum := "78ea2ce1a4c05cb5eb21b4f20a3a5d831223ee215fc048b6f428d9d90b2dfdfc", func := "blockhouse/blockhouselaw10.MerkleClimbs", spec := "merkleClimbs", unfollowed := true, recurses := true, apart := false }
def MerkleClimbsSaid : Prop := merkleClimbsRow.holds Try.pinned (OpenSpec.ofChange merkleClimbsSpec)

/-- ITS FALSE NEIGHBOUR: 'it returns false'. Refute it at one input. -/
def merkleClimbsWrong : ChangeSpec := { name := "merkleClimbs", fn := fun _ => fun
  | [d1, d2, d3, d4] => { results := [.lit (.bool false)], args := [d1, d2, d3, d4] }
  | _ => none }
def MerkleClimbsWrongFalsely : Prop := merkleClimbsRow.holds Try.pinned (OpenSpec.ofChange merkleClimbsWrong)

/-- 'blockhouselaw10.MerkleGrows': WHATEVER THE INPUT: true; the input reads as it did. -/
def merkleGrowsSpec : ChangeSpec := { name := "merkleGrows", fn := fun _ => fun
  | [d1, d2, d3, d4, d5] => { results := [.lit (.bool true)], args := [d1, d2, d3, d4, d5] }
  | _ => none }
def merkleGrowsRow : OpenClaim := { program := "ytlmadkldiidkaaa", sum := "78ea2ce1a4c05cb5eb21b4f20a3a5d831223ee215fc048b6f428d9d90b2dfdfc", func := "blockhouse/blockhouselaw10.MerkleGrows", spec := "merkleGrows", unfollowed := true, recurses := true, apart := false }
def MerkleGrowsSaid : Prop := merkleGrowsRow.holds Try.pinned (OpenSpec.ofChange merkleGrowsSpec)

/-- ITS FALSE NEIGHBOUR: 'it returns false'. Refute it at one input. -/
def merkleGrowsWrong : ChangeSpec := { name := "merkleGrows", fn := fun _ => fun
  | [d1, d2, d3, d4, d5] => { results := [.lit (.bool false)], args := [d1, d2, d3, d4, d5] }
  | _ => none }
def MerkleGrowsWrongFalsely : Prop := merkleGrowsRow.holds Try.pinned (OpenSpec.ofChange merkleGrowsWrong)

/-- 'blockhouselaw09.LamportKeys': WHATEVER THE INPUT: true; the input reads as it did. -/
def lamportKeysSpec : ChangeSpec := { name := "lamportKeys", fn := fun _ => fun
  | [d1, d2, d3, d4] => { results := [.lit (.bool true)], args := [d1, d2, d3, d4] }
  | _ => none }
def lamportKeysRow : OpenClaim := { program := "ytlmadkldiidkaaa", sum := "78ea2ce1a4c05cb5eb21b4f20a3a5d831223ee215fc048b6f428d9d90b2dfdfc", func := "blockhouse/blockhouselaw09.LamportKeys", spec := "lamportKeys", apart := false }
def LamportKeysSaid : Prop := lamportKeysRow.holds Try.pinned (OpenSpec.ofChange lamportKeysSpec)

/-- ITS FALSE NEIGHBOUR: 'it returns false'. Refute it at one input. -/
def lamportKeysWrong : ChangeSpec := { name := "lamportKeys", fn := fun _ => fun
  | [d1, d2, d3, d4] => { results := [.lit (.bool false)], args := [d1, d2, d3, d4] }
  | _ => none }
def LamportKeysWrongFalsely : Prop := lamportKeysRow.holds Try.pinned (OpenSpec.ofChange lamportKeysWrong)

/-- 'blockhouselaw24.XferOwn': WHATEVER THE INPUT: true; the input reads as it did. -/
def xferOwnSpec : ChangeSpec := { name := "xferOwn", fn := fun _ => fun
  | [d1, d2] => { results := [.lit (.bool true)], args := [d1, d2] }
  | _ => none }
def xferOwnRow : OpenClaim := { program := "ytlmadkldiidkaaa", sum := "78ea2ce1a4c05cb5eb21b4f20a3a5d831223ee215fc048b6f428d9d90b2dfdfc", func := "blockhouse/blockhouselaw24.XferOwn", spec := "xferOwn", inPlace := ["slices.overlaps[blockhouse/api.Span]"], unfollowed := true, recurses := true, apart := false }
def XferOwnSaid : Prop := xferOwnRow.holds Try.pinned (OpenSpec.ofChange xferOwnSpec)

/-- ITS FALSE NEIGHBOUR: 'it returns false'. Refute it at one input. -/
def xferOwnWrong : ChangeSpec := { name := "xferOwn", fn := fun _ => fun
  | [d1, d2] => { results := [.lit (.bool false)], args := [d1, d2] }
  | _ => none }
def XferOwnWrongFalsely : Prop := xferOwnRow.holds Try.pinned (OpenSpec.ofChange xferOwnWrong)

/- THE SECOND FORM. 'bulk': how many values and letters a reading holds, each counted each time it is reached (what is shared counts as often as it is met; a slice's spare places count too). A statement '..UptoSaid' is the law's where the arguments, and the package variables that the reading takes, are together of bulk at most 1048576: NARROWER than '..Said'. Prove '..Said' where nothing that the law and all that it calls make is longer than what came in: it says more and counts as full. Else prove '..UptoSaid'. A law counts once. -/
mutual
def uptoBulk {H : Type} : DataW H → Nat
  | .lit (.string bytes) => bytes.length + 1
  | .lit _ => 1
  | .nil => 1
  | .ptr d => uptoBulk d + 1
  | .slice elems spare => uptoBulkAll elems + uptoBulkAll spare + 1
  | .agg parts => uptoBulkAll parts + 1
  | .iface _ d => uptoBulk d + 1
  | .map entries => uptoBulkEntries entries + 1
  | .held _ => 1
def uptoBulkAll {H : Type} : List (DataW H) → Nat
  | [] => 0
  | d :: r => uptoBulk d + uptoBulkAll r
def uptoBulkEntries {H : Type} : List (Lit × DataW H) → Nat
  | [] => 0
  | x :: r => uptoBulkEntry x + uptoBulkEntries r
def uptoBulkEntry {H : Type} : Lit × DataW H → Nat
  | (.string bytes, d) => bytes.length + uptoBulk d + 1
  | (_, d) => uptoBulk d + 1
 end
def uptoSmall : (H : Type) → List (DataW H) → Bool := fun _ ds => decide (uptoBulkAll ds ≤ 1048576)
def OpenSpec.upto (s : _root_.Go.ChangeSpec) : _root_.Go.OpenSpec := { _root_.Go.OpenSpec.ofChange s with cond := some uptoSmall }

/-- 'blockhouselaw09.LamportTold', WHERE WHAT IT READS IS OF BULK AT MOST 1048576: true; the input reads as it did. -/
def lamportToldUptoRow : OpenClaim := { program := "ytlmadkldiidkaaa", sum := "78ea2ce1a4c05cb5eb21b4f20a3a5d831223ee215fc048b6f428d9d90b2dfdfc", func := "blockhouse/blockhouselaw09.LamportTold", spec := "lamportTold", apart := false, narrowed := true }
def LamportToldUptoSaid : Prop := lamportToldUptoRow.holds Try.pinned (OpenSpec.upto lamportToldSpec)

/-- 'blockhouselaw09.LamportSigns', WHERE WHAT IT READS IS OF BULK AT MOST 1048576: true; the input reads as it did. -/
def lamportSignsUptoRow : OpenClaim := { program := "ytlmadkldiidkaaa", sum := "78ea2ce1a4c05cb5eb21b4f20a3a5d831223ee215fc048b6f428d9d90b2dfdfc", func := "blockhouse/blockhouselaw09.LamportSigns", spec := "lamportSigns", apart := false, narrowed := true }
def LamportSignsUptoSaid : Prop := lamportSignsUptoRow.holds Try.pinned (OpenSpec.upto lamportSignsSpec)

/-- 'blockhouselaw03.MacKeys', WHERE WHAT IT READS IS OF BULK AT MOST 1048576: true; the input reads as it did. -/
def macKeysUptoRow : OpenClaim := { program := "ytlmadkldiidkaaa", sum := "78ea2ce1a4c05cb5eb21b4f20a3a5d831223ee215fc048b6f428d9d90b2dfdfc", func := "blockhouse/blockhouselaw03.MacKeys", spec := "macKeys", unfollowed := true, recurses := true, apart := false, narrowed := true }
def MacKeysUptoSaid : Prop := macKeysUptoRow.holds Try.pinned (OpenSpec.upto macKeysSpec)

/-- 'blockhouselaw03.MacSame', WHERE WHAT IT READS IS OF BULK AT MOST 1048576: true; the input reads as it did. -/
def macSameUptoRow : OpenClaim := { program := "ytlmadkldiidkaaa", sum := "78ea2ce1a4c05cb5eb21b4f20a3a5d831223ee215fc048b6f428d9d90b2dfdfc", func := "blockhouse/blockhouselaw03.MacSame", spec := "macSame", unfollowed := true, recurses := true, apart := false, narrowed := true }
def MacSameUptoSaid : Prop := macSameUptoRow.holds Try.pinned (OpenSpec.upto macSameSpec)

/-- 'blockhouselaw10.MerkleNodes', WHERE WHAT IT READS IS OF BULK AT MOST 1048576: true; the input reads as it did. -/
def merkleNodesUptoRow : OpenClaim := { program := "ytlmadkldiidkaaa", sum := "78ea2ce1a4c05cb5eb21b4f20a3a5d831223ee215fc048b6f428d9d90b2dfdfc", func := "blockhouse/blockhouselaw10.MerkleNodes", spec := "merkleNodes", unfollowed := true, recurses := true, apart := false, narrowed := true }
def MerkleNodesUptoSaid : Prop := merkleNodesUptoRow.holds Try.pinned (OpenSpec.upto merkleNodesSpec)

/-- 'blockhouselaw03.MacTagged', WHERE WHAT IT READS IS OF BULK AT MOST 1048576: true; the input reads as it did. -/
def macTaggedUptoRow : OpenClaim := { program := "ytlmadkldiidkaaa", sum := "78ea2ce1a4c05cb5eb21b4f20a3a5d831223ee215fc048b6f428d9d90b2dfdfc", func := "blockhouse/blockhouselaw03.MacTagged", spec := "macTagged", unfollowed := true, recurses := true, apart := false, narrowed := true }
def MacTaggedUptoSaid : Prop := macTaggedUptoRow.holds Try.pinned (OpenSpec.upto macTaggedSpec)

/-- 'blockhouselaw03.MacTexts', WHERE WHAT IT READS IS OF BULK AT MOST 1048576: true; the input reads as it did. -/
def macTextsUptoRow : OpenClaim := { program := "ytlmadkldiidkaaa", sum := "78ea2ce1a4c05cb5eb21b4f20a3a5d831223ee215fc048b6f428d9d90b2dfdfc", func := "blockhouse/blockhouselaw03.MacTexts", spec := "macTexts", unfollowed := true, recurses := true, apart := false, narrowed := true }
def MacTextsUptoSaid : Prop := macTextsUptoRow.holds Try.pinned (OpenSpec.upto macTextsSpec)

/-- 'blockhouselaw10.MerkleSteps', WHERE WHAT IT READS IS OF BULK AT MOST 1048576: true; the input reads as it did. -/
def merkleStepsUptoRow : OpenClaim := { program := "ytlmadkldiidkaaa", sum := "78ea2ce1a4c05cb5eb21b4f20a3a5d831223ee215fc048b6f428d9d90b2dfdfc", func := "blockhouse/blockhouselaw10.MerkleSteps", spec := "merkleSteps", unfollowed := true, recurses := true, apart := false, narrowed := true }
def MerkleStepsUptoSaid : Prop := merkleStepsUptoRow.holds Try.pinned (OpenSpec.upto merkleStepsSpec)

/-- 'blockhouselaw10.MerkleClimbs', WHERE WHAT IT READS IS OF BULK AT MOST 1048576: true; the input reads as it did. -/
def merkleClimbsUptoRow : OpenClaim := { program := "ytlmadkldiidkaaa", sum := "78ea2ce1a4c05cb5eb21b4f20a3a5d831223ee215fc048b6f428d9d90b2dfdfc", func := "blockhouse/blockhouselaw10.MerkleClimbs", spec := "merkleClimbs", unfollowed := true, recurses := true, apart := false, narrowed := true }
def MerkleClimbsUptoSaid : Prop := merkleClimbsUptoRow.holds Try.pinned (OpenSpec.upto merkleClimbsSpec)

/-- 'blockhouselaw10.MerkleGrows', WHERE WHAT IT READS IS OF BULK AT MOST 1048576: true; the input reads as it did. -/
def merkleGrowsUptoRow : OpenClaim := { program := "ytlmadkldiidkaaa", sum := "78ea2ce1a4c05cb5eb21b4f20a3a5d831223ee215fc048b6f428d9d90b2dfdfc", func := "blockhouse/blockhouselaw10.MerkleGrows", spec := "merkleGrows", unfollowed := true, recurses := true, apart := false, narrowed := true }
def MerkleGrowsUptoSaid : Prop := merkleGrowsUptoRow.holds Try.pinned (OpenSpec.upto merkleGrowsSpec)

/-- 'blockhouselaw09.LamportKeys', WHERE WHAT IT READS IS OF BULK AT MOST 1048576: true; the input reads as it did. -/
def lamportKeysUptoRow : OpenClaim := { program := "ytlmadkldiidkaaa", sum := "78ea2ce1a4c05cb5eb21b4f20a3a5d831223ee215fc048b6f428d9d90b2dfdfc", func := "blockhouse/blockhouselaw09.LamportKeys", spec := "lamportKeys", apart := false, narrowed := true }
def LamportKeysUptoSaid : Prop := lamportKeysUptoRow.holds Try.pinned (OpenSpec.upto lamportKeysSpec)

/-- 'blockhouselaw24.XferOwn', WHERE WHAT IT READS IS OF BULK AT MOST 1048576: true; the input reads as it did. -/
def xferOwnUptoRow : OpenClaim := { program := "ytlmadkldiidkaaa", sum := "78ea2ce1a4c05cb5eb21b4f20a3a5d831223ee215fc048b6f428d9d90b2dfdfc", func := "blockhouse/blockhouselaw24.XferOwn", spec := "xferOwn", inPlace := ["slices.overlaps[blockhouse/api.Span]"], unfollowed := true, recurses := true, apart := false, narrowed := true }
def XferOwnUptoSaid : Prop := xferOwnUptoRow.holds Try.pinned (OpenSpec.upto xferOwnSpec)

end Rows
end Go.Proofs.Ytlmadkldiidkaaa
