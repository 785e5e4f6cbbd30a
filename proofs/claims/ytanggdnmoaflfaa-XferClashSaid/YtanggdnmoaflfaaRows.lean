/-
  No cell of these rows narrows 'for every input' (looked for: loops, veiled, ifaces, maps, wideKeys, modest, calm, conditions, laid).
  DERIVED. THE GIVEN ROWS OF THIS SEAT. 7 by the template 'for every input the law returns true; each argument reads behind the call as it read before'; 0 by the template 'total and deterministic' (their statements: YtanggdnmoaflfaaTotals.lean).
  GIVEN WITH THE SEED: the statements are not yours to turn. If you find one false, say at which input.
  Laid BY PROGRAM, IN A SANDBOX (cutbox-rows.mjs): the forced cells as the released guide's own fill.sh prints them over the translation 6dc41a4e3232b411… (all of the seat's roots in one cut). By AI agents, Wed Nov 11 2026. No macro, syntax, notation, axiom, sorry.
-/
import Derived.Test.YtanggdnmoaflfaaChecked
import GoSem.Claim
import GoSem.ClaimJoined
import GoSem.ClaimMapViews
import Derived.JoinedTies
import Derived.KernelRfl
namespace Go.Proofs.Ytanggdnmoaflfaa
/- THE CELL 'sum', in the pinned program and in every row, IS THE sha256 OF THE DUMP (.gsa) THAT YtanggdnmoaflfaaProg.lean LOADS. Nothing in Lean hashes anything: it is a label: what it is worth is what the hold of that sum in a sandbox is worth. -/
noncomputable def Try.pinned : Pinned := { name := "ytanggdnmoaflfaa", sum := "6dc41a4e3232b411e8cb876f5f748871d8da39d86f32984d0855154cd8c38e7b", checked := Try.checked }
namespace Rows
def none {H : Type} : Left H := { results := [], args := [] }

/-- 'blockhouselaw18.CertTells': WHATEVER THE INPUT: true; the input reads as it did. -/
def certTellsSpec : ChangeSpec := { name := "certTells", fn := fun _ => fun
  | [d1, d2, d3, d4] => { results := [.lit (.bool true)], args := [d1, d2, d3, d4] }
  | _ => none }
def certTellsRow : OpenClaim := { program := "ytanggdnmoaflfaa", sum := "6dc41a4e3232b411e8cb876f5f748871d8da39d86f32984d0855154cd8c38e7b", func := "blockhouse/blockhouselaw18.CertTells", spec := "certTells", unfollowed := true, recurses := true, apart := false }
def CertTellsSaid : Prop := certTellsRow.holds Try.pinned (OpenSpec.ofChange certTellsSpec)

/-- ITS FALSE NEIGHBOUR: 'it returns false'. Refute it at one input. -/
def certTellsWrong : ChangeSpec := { name := "certTells", fn := fun _ => fun
  | [d1, d2, d3, d4] => { results := [.lit (.bool false)], args := [d1, d2, d3, d4] }
  | _ => none }
def CertTellsWrongFalsely : Prop := certTellsRow.holds Try.pinned (OpenSpec.ofChange certTellsWrong)

/-- 'blockhouselaw24.XferOwn': WHATEVER THE INPUT: true; the input reads as it did. -/
def xferOwnSpec : ChangeSpec := { name := "xferOwn", fn := fun _ => fun
  | [d1, d2] => { results := [.lit (.bool true)], args := [d1, d2] }
  | _ => none }
def xferOwnRow : OpenClaim := { program := "ytanggdnmoaflfaa", sum := "6dc41a4e3232b411e8cb876f5f748871d8da39d86f32984d0855154cd8c38e7b", func := "blockhouse/blockhouselaw24.XferOwn", spec := "xferOwn", inPlace := ["slices.overlaps[blockhouse/api.Span]"], unfollowed := true, recurses := true, apart := false }
def XferOwnSaid : Prop := xferOwnRow.holds Try.pinned (OpenSpec.ofChange xferOwnSpec)

/-- ITS FALSE NEIGHBOUR: 'it returns false'. Refute it at one input. -/
def xferOwnWrong : ChangeSpec := { name := "xferOwn", fn := fun _ => fun
  | [d1, d2] => { results := [.lit (.bool false)], args := [d1, d2] }
  | _ => none }
def XferOwnWrongFalsely : Prop := xferOwnRow.holds Try.pinned (OpenSpec.ofChange xferOwnWrong)

/-- 'blockhouselaw24.XferOrder': WHATEVER THE INPUT: true; the input reads as it did. -/
def xferOrderSpec : ChangeSpec := { name := "xferOrder", fn := fun _ => fun
  | [d1, d2] => { results := [.lit (.bool true)], args := [d1, d2] }
  | _ => none }
def xferOrderRow : OpenClaim := { program := "ytanggdnmoaflfaa", sum := "6dc41a4e3232b411e8cb876f5f748871d8da39d86f32984d0855154cd8c38e7b", func := "blockhouse/blockhouselaw24.XferOrder", spec := "xferOrder", inPlace := ["slices.overlaps[blockhouse/api.Span]"], unfollowed := true, recurses := true, apart := false }
def XferOrderSaid : Prop := xferOrderRow.holds Try.pinned (OpenSpec.ofChange xferOrderSpec)

/-- ITS FALSE NEIGHBOUR: 'it returns false'. Refute it at one input. -/
def xferOrderWrong : ChangeSpec := { name := "xferOrder", fn := fun _ => fun
  | [d1, d2] => { results := [.lit (.bool false)], args := [d1, d2] }
  | _ => none }
def XferOrderWrongFalsely : Prop := xferOrderRow.holds Try.pinned (OpenSpec.ofChange xferOrderWrong)

/-- 'blockhouselaw24.XferClash': WHATEVER THE INPUT: true; the input reads as it did. -/
def xferClashSpec : ChangeSpec := { name := "xferClash", fn := fun _ => fun
  | [d1, d2, d3, d4] => { results := [.lit (.bool true)], args := [d1, d2, d3, d4] }
  | _ => none }
def xferClashRow : OpenClaim := { program := "ytanggdnmoaflfaa", sum := "6dc41a4e3232b411e8cb876f5f748871d8da39d86f32984d0855154cd8c38e7b", func := "blockhouse/blockhouselaw24.XferClash", spec := "xferClash", inPlace := ["slices.overlaps[blockhouse/api.Span]"], unfollowed := true, recurses := true, apart := false }
def XferClashSaid : Prop := xferClashRow.holds Try.pinned (OpenSpec.ofChange xferClashSpec)

/-- ITS FALSE NEIGHBOUR: 'it returns false'. Refute it at one input. -/
def xferClashWrong : ChangeSpec := { name := "xferClash", fn := fun _ => fun
  | [d1, d2, d3, d4] => { results := [.lit (.bool false)], args := [d1, d2, d3, d4] }
  | _ => none }
def XferClashWrongFalsely : Prop := xferClashRow.holds Try.pinned (OpenSpec.ofChange xferClashWrong)

/-- 'blockhouselaw24.XferTells': WHATEVER THE INPUT: true; the input reads as it did. -/
def xferTellsSpec : ChangeSpec := { name := "xferTells", fn := fun _ => fun
  | [d1, d2, d3, d4] => { results := [.lit (.bool true)], args := [d1, d2, d3, d4] }
  | _ => none }
def xferTellsRow : OpenClaim := { program := "ytanggdnmoaflfaa", sum := "6dc41a4e3232b411e8cb876f5f748871d8da39d86f32984d0855154cd8c38e7b", func := "blockhouse/blockhouselaw24.XferTells", spec := "xferTells", inPlace := ["slices.overlaps[blockhouse/api.Span]"], unfollowed := true, recurses := true, apart := false }
def XferTellsSaid : Prop := xferTellsRow.holds Try.pinned (OpenSpec.ofChange xferTellsSpec)

/-- ITS FALSE NEIGHBOUR: 'it returns false'. Refute it at one input. -/
def xferTellsWrong : ChangeSpec := { name := "xferTells", fn := fun _ => fun
  | [d1, d2, d3, d4] => { results := [.lit (.bool false)], args := [d1, d2, d3, d4] }
  | _ => none }
def XferTellsWrongFalsely : Prop := xferTellsRow.holds Try.pinned (OpenSpec.ofChange xferTellsWrong)

/-- 'blockhouselaw24.XferWhole': WHATEVER THE INPUT: true; the input reads as it did. -/
def xferWholeSpec : ChangeSpec := { name := "xferWhole", fn := fun _ => fun
  | [d1, d2, d3] => { results := [.lit (.bool true)], args := [d1, d2, d3] }
  | _ => none }
def xferWholeRow : OpenClaim := { program := "ytanggdnmoaflfaa", sum := "6dc41a4e3232b411e8cb876f5f748871d8da39d86f32984d0855154cd8c38e7b", func := "blockhouse/blockhouselaw24.XferWhole", spec := "xferWhole", inPlace := ["slices.overlaps[blockhouse/api.Span]"], unfollowed := true, recurses := true, apart := false }
def XferWholeSaid : Prop := xferWholeRow.holds Try.pinned (OpenSpec.ofChange xferWholeSpec)

/-- ITS FALSE NEIGHBOUR: 'it returns false'. Refute it at one input. -/
def xferWholeWrong : ChangeSpec := { name := "xferWhole", fn := fun _ => fun
  | [d1, d2, d3] => { results := [.lit (.bool false)], args := [d1, d2, d3] }
  | _ => none }
def XferWholeWrongFalsely : Prop := xferWholeRow.holds Try.pinned (OpenSpec.ofChange xferWholeWrong)

/-- 'blockhouselaw24.XferGaps': WHATEVER THE INPUT: true; the input reads as it did. -/
def xferGapsSpec : ChangeSpec := { name := "xferGaps", fn := fun _ => fun
  | [d1, d2, d3] => { results := [.lit (.bool true)], args := [d1, d2, d3] }
  | _ => none }
def xferGapsRow : OpenClaim := { program := "ytanggdnmoaflfaa", sum := "6dc41a4e3232b411e8cb876f5f748871d8da39d86f32984d0855154cd8c38e7b", func := "blockhouse/blockhouselaw24.XferGaps", spec := "xferGaps", inPlace := ["slices.overlaps[blockhouse/api.Span]"], unfollowed := true, recurses := true, apart := false }
def XferGapsSaid : Prop := xferGapsRow.holds Try.pinned (OpenSpec.ofChange xferGapsSpec)

/-- ITS FALSE NEIGHBOUR: 'it returns false'. Refute it at one input. -/
def xferGapsWrong : ChangeSpec := { name := "xferGaps", fn := fun _ => fun
  | [d1, d2, d3] => { results := [.lit (.bool false)], args := [d1, d2, d3] }
  | _ => none }
def XferGapsWrongFalsely : Prop := xferGapsRow.holds Try.pinned (OpenSpec.ofChange xferGapsWrong)

/- THE SECOND FORM. 'bulk': how many values and letters a reading holds, each counted each time it is reached (what is shared counts as often as it is met; a slice's spare places count too). A statement '..UptoSaid' is the law's where the arguments, and the package variables that the reading takes, are together of bulk at most 1048576: NARROWER than '..Said'. Prove '..Said' where nothing that the law and all that it calls make is longer than what came in: it says more and counts as full. Else prove '..UptoSaid'. A law counts once. -/
mutual
def uptoBulk {H : Type} : DataW H → Nat
  | .lit (.string bytes) => bytes.length + 1
  | .lit _ => 1
  | .nil => 1
  | .ptr d => uptoBulk d + 1
  | .slice elems spare => uptoBulkAll elems + uptoBulkAll spare + 1
  | .agg parts => uptoBulkAll parts + 1
  | .iface _ d => uptoBulk d + 1
  | .map entries => uptoBulkEntries entries + 1
  | .held _ => 1
def uptoBulkAll {H : Type} : List (DataW H) → Nat
  | [] => 0
  | d :: r => uptoBulk d + uptoBulkAll r
def uptoBulkEntries {H : Type} : List (Lit × DataW H) → Nat
  | [] => 0
  | x :: r => uptoBulkEntry x + uptoBulkEntries r
def uptoBulkEntry {H : Type} : Lit × DataW H → Nat
  | (.string bytes, d) => bytes.length + uptoBulk d + 1
  | (_, d) => uptoBulk d + 1
 end
def uptoSmall : (H : Type) → List (DataW H) → Bool := fun _ ds => decide (uptoBulkAll ds ≤ 1048576)
def OpenSpec.upto (s : _root_.Go.ChangeSpec) : _root_.Go.OpenSpec := { _root_.Go.OpenSpec.ofChange s with cond := some uptoSmall }

/-- 'blockhouselaw18.CertTells', WHERE WHAT IT READS IS OF BULK AT MOST 1048576: true; the input reads as it did. -/
def certTellsUptoRow : OpenClaim := { program := "ytanggdnmoaflfaa", sum := "6dc41a4e3232b411e8cb876f5f748871d8da39d86f32984d0855154cd8c38e7b", func := "blockhouse/blockhouselaw18.CertTells", spec := "certTells", unfollowed := true, recurses := true, apart := false, narrowed := true }
def CertTellsUptoSaid : Prop := certTellsUptoRow.holds Try.pinned (OpenSpec.upto certTellsSpec)

/-- 'blockhouselaw24.XferOwn', WHERE WHAT IT READS IS OF BULK AT MOST 1048576: true; the input reads as it did. -/
def xferOwnUptoRow : OpenClaim := { program := "ytanggdnmoaflfaa", sum := "6dc41a4e3232b411e8cb876f5f748871d8da39d86f32984d0855154cd8c38e7b", func := "blockhouse/blockhouselaw24.XferOwn", spec := "xferOwn", inPlace := ["slices.overlaps[blockhouse/api.Span]"], unfollowed := true, recurses := true, apart := false, narrowed := true }
def XferOwnUptoSaid : Prop := xferOwnUptoRow.holds Try.pinned (OpenSpec.upto xferOwnSpec)

/-- 'blockhouselaw24.XferOrder', WHERE WHAT IT READS IS OF BULK AT MOST 1048576: true; the input reads as it did. -/
def xferOrderUptoRow : OpenClaim := { program := "ytanggdnmoaflfaa", sum := "6dc41a4e3232b411e8cb876f5f748871d8da39d86f32984d0855154cd8c38e7b", func := "blockhouse/blockhouselaw24.XferOrder", spec := "xferOrder", inPlace := ["slices.overlaps[blockhouse/api.Span]"], unfollowed := true, recurses := true, apart := false, narrowed := true }
def XferOrderUptoSaid : Prop := xferOrderUptoRow.holds Try.pinned (OpenSpec.upto xferOrderSpec)

/-- 'blockhouselaw24.XferClash', WHERE WHAT IT READS IS OF BULK AT MOST 1048576: true; the input reads as it did. -/
def xferClashUptoRow : OpenClaim := { program := "ytanggdnmoaflfaa", sum := "6dc41a4e3232b411e8cb876f5f748871d8da39d86f32984d0855154cd8c38e7b", func := "blockhouse/blockhouselaw24.XferClash", spec := "xferClash", inPlace := ["slices.overlaps[blockhouse/api.Span]"], unfollowed := true, recurses := true, apart := false, narrowed := true }
def XferClashUptoSaid : Prop := xferClashUptoRow.holds Try.pinned (OpenSpec.upto xferClashSpec)

/-- 'blockhouselaw24.XferTells', WHERE WHAT IT READS IS OF BULK AT MOST 1048576: true; the input reads as it did. -/
def xferTellsUptoRow : OpenClaim := { program := "ytanggdnmoaflfaa", sum := "6dc41a4e3232b411e8cb876f5f748871d8da39d86f32984d0855154cd8c38e7b", func := "blockhouse/blockhouselaw24.XferTells", spec := "xferTells", inPlace := ["slices.overlaps[blockhouse/api.Span]"], unfollowed := true, recurses := true, apart := false, narrowed := true }
def XferTellsUptoSaid : Prop := xferTellsUptoRow.holds Try.pinned (OpenSpec.upto xferTellsSpec)

/-- 'blockhouselaw24.XferWhole', WHERE WHAT IT READS IS OF BULK AT MOST 1048576: true; the input reads as it did. -/
def xferWholeUptoRow : OpenClaim := { program := "ytanggdnmoaflfaa", sum := "6dc41a4e3232b411e8cb876f5f748871d8da39d86f32984d0855154cd8c38e7b", func := "blockhouse/blockhouselaw24.XferWhole", spec := "xferWhole", inPlace := ["slices.overlaps[blockhouse/api.Span]"], unfollowed := true, recurses := true, apart := false, narrowed := true }
def XferWholeUptoSaid : Prop := xferWholeUptoRow.holds Try.pinned (OpenSpec.upto xferWholeSpec)

/-- 'blockhouselaw24.XferGaps', WHERE WHAT IT READS IS OF BULK AT MOST 1048576: true; the input reads as it did. -/
def xferGapsUptoRow : OpenClaim := { program := "ytanggdnmoaflfaa", sum := "6dc41a4e3232b411e8cb876f5f748871d8da39d86f32984d0855154cd8c38e7b", func := "blockhouse/blockhouselaw24.XferGaps", spec := "xferGaps", inPlace := ["slices.overlaps[blockhouse/api.Span]"], unfollowed := true, recurses := true, apart := false, narrowed := true }
def XferGapsUptoSaid : Prop := xferGapsUptoRow.holds Try.pinned (OpenSpec.upto xferGapsSpec)

end Rows
end Go.Proofs.Ytanggdnmoaflfaa
