/-
  No cell of these rows narrows 'for every input' (looked for: loops, veiled, ifaces, maps, wideKeys, modest, calm, conditions, laid).
  DERIVED. THE GIVEN ROWS OF THIS SEAT. 10 by the template 'for every input the law returns true; each argument reads behind the call as it read before'; 0 by the template 'total and deterministic' (their statements: YteaijjefbadnbaaTotals.lean).
  GIVEN WITH THE SEED: the statements are not yours to turn. If you find one false, say at which input.
  Laid BY PROGRAM, IN A SANDBOX (cutbox-rows.mjs): the forced cells as the released guide's own fill.sh prints them over the translation 4c3c66623276fca5… (all of the seat's roots in one cut). By AI agents, Wed Nov 11 2026. No macro, syntax, notation, axiom, sorry.
-/
import Derived.Test.YteaijjefbadnbaaChecked
import GoSem.Claim
import GoSem.ClaimJoined
import GoSem.ClaimMapViews
import Derived.JoinedTies
import Derived.KernelRfl
namespace Go.Proofs.Yteaijjefbadnbaa
/- THE CELL 'sum', in the pinned program and in every row, IS THE sha256 OF THE DUMP (.gsa) THAT YteaijjefbadnbaaProg.lean LOADS. Nothing in Lean hashes anything: it is a label: what it is worth is what the hold of that sum in a sandbox is worth. -/
noncomputable def Try.pinned : Pinned := { name := "yteaijjefbadnbaa", sum := "4c3c66623276fca5e173d05da846a26568203d72fc6d164764d5f781928fe3e9", checked := Try.checked }
namespace Rows
def none {H : Type} : Left H := { results := [], args := [] }

/-- 'blockhouselaw02.ShaNumbers': WHATEVER THE INPUT: true; the input reads as it did. -/
def shaNumbersSpec : ChangeSpec := { name := "shaNumbers", fn := fun _ => fun
  | [] => { results := [.lit (.bool true)], args := [] }
  | _ => none }
def shaNumbersRow : OpenClaim := { program := "yteaijjefbadnbaa", sum := "4c3c66623276fca5e173d05da846a26568203d72fc6d164764d5f781928fe3e9", func := "blockhouse/blockhouselaw02.ShaNumbers", spec := "shaNumbers", unfollowed := true, recurses := true, apart := false }
def ShaNumbersSaid : Prop := shaNumbersRow.holds Try.pinned (OpenSpec.ofChange shaNumbersSpec)

/-- ITS FALSE NEIGHBOUR: 'it returns false'. Refute it at one input. -/
def shaNumbersWrong : ChangeSpec := { name := "shaNumbers", fn := fun _ => fun
  | [] => { results := [.lit (.bool false)], args := [] }
  | _ => none }
def ShaNumbersWrongFalsely : Prop := shaNumbersRow.holds Try.pinned (OpenSpec.ofChange shaNumbersWrong)

/-- 'blockhouselaw03.MacNumbers': WHATEVER THE INPUT: true; the input reads as it did. -/
def macNumbersSpec : ChangeSpec := { name := "macNumbers", fn := fun _ => fun
  | [] => { results := [.lit (.bool true)], args := [] }
  | _ => none }
def macNumbersRow : OpenClaim := { program := "yteaijjefbadnbaa", sum := "4c3c66623276fca5e173d05da846a26568203d72fc6d164764d5f781928fe3e9", func := "blockhouse/blockhouselaw03.MacNumbers", spec := "macNumbers", unfollowed := true, recurses := true, apart := false }
def MacNumbersSaid : Prop := macNumbersRow.holds Try.pinned (OpenSpec.ofChange macNumbersSpec)

/-- ITS FALSE NEIGHBOUR: 'it returns false'. Refute it at one input. -/
def macNumbersWrong : ChangeSpec := { name := "macNumbers", fn := fun _ => fun
  | [] => { results := [.lit (.bool false)], args := [] }
  | _ => none }
def MacNumbersWrongFalsely : Prop := macNumbersRow.holds Try.pinned (OpenSpec.ofChange macNumbersWrong)

/-- 'blockhouselaw09.LamportNumbers': WHATEVER THE INPUT: true; the input reads as it did. -/
def lamportNumbersSpec : ChangeSpec := { name := "lamportNumbers", fn := fun _ => fun
  | [] => { results := [.lit (.bool true)], args := [] }
  | _ => none }
def lamportNumbersRow : OpenClaim := { program := "yteaijjefbadnbaa", sum := "4c3c66623276fca5e173d05da846a26568203d72fc6d164764d5f781928fe3e9", func := "blockhouse/blockhouselaw09.LamportNumbers", spec := "lamportNumbers", unfollowed := true, recurses := true, apart := false }
def LamportNumbersSaid : Prop := lamportNumbersRow.holds Try.pinned (OpenSpec.ofChange lamportNumbersSpec)

/-- ITS FALSE NEIGHBOUR: 'it returns false'. Refute it at one input. -/
def lamportNumbersWrong : ChangeSpec := { name := "lamportNumbers", fn := fun _ => fun
  | [] => { results := [.lit (.bool false)], args := [] }
  | _ => none }
def LamportNumbersWrongFalsely : Prop := lamportNumbersRow.holds Try.pinned (OpenSpec.ofChange lamportNumbersWrong)

/-- 'blockhouselaw10.MerkleNodes': WHATEVER THE INPUT: true; the input reads as it did. -/
def merkleNodesSpec : ChangeSpec := { name := "merkleNodes", fn := fun _ => fun
  | [d1, d2, d3, d4, d5] => { results := [.lit (.bool true)], args := [d1, d2, d3, d4, d5] }
  | _ => none }
def merkleNodesRow : OpenClaim := { program := "yteaijjefbadnbaa", sum := "4c3c66623276fca5e173d05da846a26568203d72fc6d164764d5f781928fe3e9", func := "blockhouse/blockhouselaw10.MerkleNodes", spec := "merkleNodes", unfollowed := true, recurses := true, apart := false }
def MerkleNodesSaid : Prop := merkleNodesRow.holds Try.pinned (OpenSpec.ofChange merkleNodesSpec)

/-- ITS FALSE NEIGHBOUR: 'it returns false'. Refute it at one input. -/
def merkleNodesWrong : ChangeSpec := { name := "merkleNodes", fn := fun _ => fun
  | [d1, d2, d3, d4, d5] => { results := [.lit (.bool false)], args := [d1, d2, d3, d4, d5] }
  | _ => none }
def MerkleNodesWrongFalsely : Prop := merkleNodesRow.holds Try.pinned (OpenSpec.ofChange merkleNodesWrong)

/-- 'blockhouselaw10.MerkleSteps': WHATEVER THE INPUT: true; the input reads as it did. -/
def merkleStepsSpec : ChangeSpec := { name := "merkleSteps", fn := fun _ => fun
  | [d1, d2, d3, d4, d5] => { results := [.lit (.bool true)], args := [d1, d2, d3, d4, d5] }
  | _ => none }
def merkleStepsRow : OpenClaim := { program := "yteaijjefbadnbaa", sum := "4c3c66623276fca5e173d05da846a26568203d72fc6d164764d5f781928fe3e9", func := "blockhouse/blockhouselaw10.MerkleSteps", spec := "merkleSteps", unfollowed := true, recurses := true, apart := false }
def MerkleStepsSaid : Prop := merkleStepsRow.holds Try.pinned (OpenSpec.ofChange merkleStepsSpec)

/-- ITS FALSE NEIGHBOUR: 'it returns false'. Refute it at one input. -/
def merkleStepsWrong : ChangeSpec := { name := "merkleSteps", fn := fun _ => fun
  | [d1, d2, d3, d4, d5] => { results := [.lit (.bool false)], args := [d1, d2, d3, d4, d5] }
  | _ => none }
def MerkleStepsWrongFalsely : Prop := merkleStepsRow.holds Try.pinned (OpenSpec.ofChange merkleStepsWrong)

/-- 'blockhouselaw10.MerkleClimbs': WHATEVER THE INPUT: true; the input reads as it did. -/
def merkleClimbsSpec : ChangeSpec := { name := "merkleClimbs", fn := fun _ => fun
  | [d1, d2, d3, d4] => { results := [.lit (.bool true)], args := [d1, d2, d3, d4] }
  | _ => none }
def merkleClimbsRow : OpenClaim := { program := "yteaijjefbadnbaa", sum := "4c3c66623276fca5e173d05da846a26568203d72fc6d164764d5f781928fe3e9", func := "blockhouse/blockhouselaw10.MerkleClimbs", spec := "merkleClimbs", unfollowed := true, recurses := true, apart := false }
def MerkleClimbsSaid : Prop := merkleClimbsRow.holds Try.pinned (OpenSpec.ofChange merkleClimbsSpec)

/-- ITS FALSE NEIGHBOUR: 'it returns false'. Refute it at one input. -/
def merkleClimbsWrong : ChangeSpec := { name := "merkleClimbs", fn := fun _ => fun
  | [d1, d2, d3, d4] => { results := [.lit (.bool false)], args := [d1, d2, d3, d4] }
  | _ => none }
def MerkleClimbsWrongFalsely : Prop := merkleClimbsRow.holds Try.pinned (OpenSpec.ofChange merkleClimbsWrong)

/-- 'blockhouselaw10.MerkleGrows': WHATEVER THE INPUT: true; the input reads as it did. -/
def merkleGrowsSpec : ChangeSpec := { name := "merkleGrows", fn := fun _ => fun
  | [d1, d2, d3, d4, d5] => { results := [.lit (.bool true)], args := [d1, d2, d3, d4, d5] }
  | _ => none }
def merkleGrowsRow : OpenClaim := { program := "yteaijjefbadnbaa", sum := "4c3c66623276fca5e173d05da846a26568203d72fc6d164764d5f781928fe3e9", func := "blockhouse/blockhouselaw10.MerkleGrows", spec := "merkleGrows", unfollowed := true, recurses := true, apart := false }
def MerkleGrowsSaid : Prop := merkleGrowsRow.holds Try.pinned (OpenSpec.ofChange merkleGrowsSpec)

/-- ITS FALSE NEIGHBOUR: 'it returns false'. Refute it at one input. -/
def merkleGrowsWrong : ChangeSpec := { name := "merkleGrows", fn := fun _ => fun
  | [d1, d2, d3, d4, d5] => { results := [.lit (.bool false)], args := [d1, d2, d3, d4, d5] }
  | _ => none }
def MerkleGrowsWrongFalsely : Prop := merkleGrowsRow.holds Try.pinned (OpenSpec.ofChange merkleGrowsWrong)

/-- 'blockhouselaw10.MerkleNumbers': WHATEVER THE INPUT: true; the input reads as it did. -/
def merkleNumbersSpec : ChangeSpec := { name := "merkleNumbers", fn := fun _ => fun
  | [] => { results := [.lit (.bool true)], args := [] }
  | _ => none }
def merkleNumbersRow : OpenClaim := { program := "yteaijjefbadnbaa", sum := "4c3c66623276fca5e173d05da846a26568203d72fc6d164764d5f781928fe3e9", func := "blockhouse/blockhouselaw10.MerkleNumbers", spec := "merkleNumbers", unfollowed := true, recurses := true, apart := false }
def MerkleNumbersSaid : Prop := merkleNumbersRow.holds Try.pinned (OpenSpec.ofChange merkleNumbersSpec)

/-- ITS FALSE NEIGHBOUR: 'it returns false'. Refute it at one input. -/
def merkleNumbersWrong : ChangeSpec := { name := "merkleNumbers", fn := fun _ => fun
  | [] => { results := [.lit (.bool false)], args := [] }
  | _ => none }
def MerkleNumbersWrongFalsely : Prop := merkleNumbersRow.holds Try.pinned (OpenSpec.ofChange merkleNumbersWrong)

/-- 'blockhouselaw10.MerkleTells': WHATEVER THE INPUT: true; the input reads as it did. -/
def merkleTellsSpec : ChangeSpec := { name := "merkleTells", fn := fun _ => fun
  | [d1, d2, d3, d4, d5] => { results := [.lit (.bool true)], args := [d1, d2, d3, d4, d5] }
  | _ => none }
def merkleTellsRow : OpenClaim := { program := "yteaijjefbadnbaa", sum := "4c3c66623276fca5e173d05da846a26568203d72fc6d164764d5f781928fe3e9", func := "blockhouse/blockhouselaw10.MerkleTells", spec := "merkleTells", unfollowed := true, recurses := true, apart := false }
def MerkleTellsSaid : Prop := merkleTellsRow.holds Try.pinned (OpenSpec.ofChange merkleTellsSpec)

/-- ITS FALSE NEIGHBOUR: 'it returns false'. Refute it at one input. -/
def merkleTellsWrong : ChangeSpec := { name := "merkleTells", fn := fun _ => fun
  | [d1, d2, d3, d4, d5] => { results := [.lit (.bool false)], args := [d1, d2, d3, d4, d5] }
  | _ => none }
def MerkleTellsWrongFalsely : Prop := merkleTellsRow.holds Try.pinned (OpenSpec.ofChange merkleTellsWrong)

/-- 'blockhouselaw18.CertTells': WHATEVER THE INPUT: true; the input reads as it did. -/
def certTellsSpec : ChangeSpec := { name := "certTells", fn := fun _ => fun
  | [d1, d2, d3, d4] => { results := [.lit (.bool true)], args := [d1, d2, d3, d4] }
  | _ => none }
def certTellsRow : OpenClaim := { program := "yteaijjefbadnbaa", sum := "4c3c66623276fca5e173d05da846a26568203d72fc6d164764d5f781928fe3e9", func := "blockhouse/blockhouselaw18.CertTells", spec := "certTells", unfollowed := true, recurses := true, apart := false }
def CertTellsSaid : Prop := certTellsRow.holds Try.pinned (OpenSpec.ofChange certTellsSpec)

/-- ITS FALSE NEIGHBOUR: 'it returns false'. Refute it at one input. -/
def certTellsWrong : ChangeSpec := { name := "certTells", fn := fun _ => fun
  | [d1, d2, d3, d4] => { results := [.lit (.bool false)], args := [d1, d2, d3, d4] }
  | _ => none }
def CertTellsWrongFalsely : Prop := certTellsRow.holds Try.pinned (OpenSpec.ofChange certTellsWrong)

/- THE SECOND FORM. 'bulk': how many values and letters a reading holds, each counted each time it is reached (what is shared counts as often as it is met; a slice's spare places count too). A statement '..UptoSaid' is the law's where the arguments, and the package variables that the reading takes, are together of bulk at most 1048576: NARROWER than '..Said'. Prove '..Said' where nothing that the law and all that it calls make is longer than what came in: it says more and counts as full. Else prove '..UptoSaid'. A law counts once. -/
mutual
def uptoBulk {H : Type} : DataW H → Nat
  | .lit (.string bytes) => bytes.length + 1
  | .lit _ => 1
  | .nil => 1
  | .ptr d => uptoBulk d + 1
  | .slice elems spare => uptoBulkAll elems + uptoBulkAll spare + 1
  | .agg parts => uptoBulkAll parts + 1
  | .iface _ d => uptoBulk d + 1
  | .map entries => uptoBulkEntries entries + 1
  | .held _ => 1
def uptoBulkAll {H : Type} : List (DataW H) → Nat
  | [] => 0
  | d :: r => uptoBulk d + uptoBulkAll r
def uptoBulkEntries {H : Type} : List (Lit × DataW H) → Nat
  | [] => 0
  | x :: r => uptoBulkEntry x + uptoBulkEntries r
def uptoBulkEntry {H : Type} : Lit × DataW H → Nat
  | (.string bytes, d) => bytes.length + uptoBulk d + 1
  | (_, d) => uptoBulk d + 1
 end
def uptoSmall : (H : Type) → List (DataW H) → Bool := fun _ ds => decide (uptoBulkAll ds ≤ 1048576)
def OpenSpec.upto (s : _root_.Go.ChangeSpec) : _root_.Go.OpenSpec := { _root_.Go.OpenSpec.ofChange s with cond := some uptoSmall }

/-- 'blockhouselaw02.ShaNumbers', WHERE WHAT IT READS IS OF BULK AT MOST 1048576: true; the input reads as it did. -/
def shaNumbersUptoRow : OpenClaim := { program := "yteaijjefbadnbaa", sum := "4c3c66623276fca5e173d05da846a26568203d72fc6d164764d5f781928fe3e9", func := "blockhouse/blockhouselaw02.ShaNumbers", spec := "shaNumbers", unfollowed := true, recurses := true, apart := false, narrowed := true }
def ShaNumbersUptoSaid : Prop := shaNumbersUptoRow.holds Try.pinned (OpenSpec.upto shaNumbersSpec)

/-- 'blockhouselaw03.MacNumbers', WHERE WHAT IT READS IS OF BULK AT MOST 1048576: true; the input reads as it did. -/
def macNumbersUptoRow : OpenClaim := { program := "yteaijjefbadnbaa", sum := "4c3c66623276fca5e173d05da846a26568203d72fc6d164764d5f781928fe3e9", func := "blockhouse/blockhouselaw03.MacNumbers", spec := "macNumbers", unfollowed := true, recurses := true, apart := false, narrowed := true }
def MacNumbersUptoSaid : Prop := macNumbersUptoRow.holds Try.pinned (OpenSpec.upto macNumbersSpec)

/-- 'blockhouselaw09.LamportNumbers', WHERE WHAT IT READS IS OF BULK AT MOST 1048576: true; the input reads as it did. -/
def lamportNumbersUptoRow : OpenClaim := { program := "yteaijjefbadnbaa", sum := "4c3c66623276fca5e173d05da846a26568203d72fc6d164764d5f781928fe3e9", func := "blockhouse/blockhouselaw09.LamportNumbers", spec := "lamportNumbers", unfollowed := true, recurses := true, apart := false, narrowed := true }
def LamportNumbersUptoSaid : Prop := lamportNumbersUptoRow.holds Try.pinned (OpenSpec.upto lamportNumbersSpec)

/-- 'blockhouselaw10.MerkleNodes', WHERE WHAT IT READS IS OF BULK AT MOST 1048576: true; the input reads as it did. -/
def merkleNodesUptoRow : OpenClaim := { program := "yteaijjefbadnbaa", sum := "4c3c66623276fca5e173d05da846a26568203d72fc6d164764d5f781928fe3e9", func := "blockhouse/blockhouselaw10.MerkleNodes", spec := "merkleNodes", unfollowed := true, recurses := true, apart := false, narrowed := true }
def MerkleNodesUptoSaid : Prop := merkleNodesUptoRow.holds Try.pinned (OpenSpec.upto merkleNodesSpec)

/-- 'blockhouselaw10.MerkleSteps', WHERE WHAT IT READS IS OF BULK AT MOST 1048576: true; the input reads as it did. -/
def merkleStepsUptoRow : OpenClaim := { program := "yteaijjefbadnbaa", sum := "4c3c66623276fca5e173d05da846a26568203d72fc6d164764d5f781928fe3e9", func := "blockhouse/blockhouselaw10.MerkleSteps", spec := "merkleSteps", unfollowed := true, recurses := true, apart := false, narrowed := true }
def MerkleStepsUptoSaid : Prop := merkleStepsUptoRow.holds Try.pinned (OpenSpec.upto merkleStepsSpec)

/-- 'blockhouselaw10.MerkleClimbs', WHERE WHAT IT READS IS OF BULK AT MOST 1048576: true; the input reads as it did. -/
def merkleClimbsUptoRow : OpenClaim := { program := "yteaijjefbadnbaa", sum := "4c3c66623276fca5e173d05da846a26568203d72fc6d164764d5f781928fe3e9", func := "blockhouse/blockhouselaw10.MerkleClimbs", spec := "merkleClimbs", unfollowed := true, recurses := true, apart := false, narrowed := true }
def MerkleClimbsUptoSaid : Prop := merkleClimbsUptoRow.holds Try.pinned (OpenSpec.upto merkleClimbsSpec)

/-- 'blockhouselaw10.MerkleGrows', WHERE WHAT IT READS IS OF BULK AT MOST 1048576: true; the input reads as it did. -/
def merkleGrowsUptoRow : OpenClaim := { program := "yteaijjefbadnbaa", sum := "4c3c66623276fca5e173d05da846a26568203d72fc6d164764d5f781928fe3e9", func := "blockhouse/blockhouselaw10.MerkleGrows", spec := "merkleGrows", unfollowed := true, recurses := true, apart := false, narrowed := true }
def MerkleGrowsUptoSaid : Prop := merkleGrowsUptoRow.holds Try.pinned (OpenSpec.upto merkleGrowsSpec)

/-- 'blockhouselaw10.MerkleNumbers', WHERE WHAT IT READS IS OF BULK AT MOST 1048576: true; the input reads as it did. -/
def merkleNumbersUptoRow : OpenClaim := { program := "yteaijjefbadnbaa", sum := "4c3c66623276fca5e173d05da846a26568203d72fc6d164764d5f781928fe3e9", func := "blockhouse/blockhouselaw10.MerkleNumbers", spec := "merkleNumbers", unfollowed := true, recurses := true, apart := false, narrowed := true }
def MerkleNumbersUptoSaid : Prop := merkleNumbersUptoRow.holds Try.pinned (OpenSpec.upto merkleNumbersSpec)

/-- 'blockhouselaw10.MerkleTells', WHERE WHAT IT READS IS OF BULK AT MOST 1048576: true; the input reads as it did. -/
def merkleTellsUptoRow : OpenClaim := { program := "yteaijjefbadnbaa", sum := "4c3c66623276fca5e173d05da846a26568203d72fc6d164764d5f781928fe3e9", func := "blockhouse/blockhouselaw10.MerkleTells", spec := "merkleTells", unfollowed := true, recurses := true, apart := false, narrowed := true }
def MerkleTellsUptoSaid : Prop := merkleTellsUptoRow.holds Try.pinned (OpenSpec.upto merkleTellsSpec)

/-- 'blockhouselaw18.CertTells', WHERE WHAT IT READS IS OF BULK AT MOST 1048576: true; the input reads as it did. -/
def certTellsUptoRow : OpenClaim := { program := "yteaijjefbadnbaa", sum := "4c3c66623276fca5e173d05da846a26568203d72fc6d164764d5f781928fe3e9", func := "blockhouse/blockhouselaw18.CertTells", spec := "certTells", unfollowed := true, recurses := true, apart := false, narrowed := true }
def CertTellsUptoSaid : Prop := certTellsUptoRow.holds Try.pinned (OpenSpec.upto certTellsSpec)

end Rows
end Go.Proofs.Yteaijjefbadnbaa
