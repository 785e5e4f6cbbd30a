/-
  No cell of these rows narrows 'for every input' (looked for: loops, veiled, ifaces, maps, wideKeys, modest, calm, conditions, laid).
  DERIVED. THE GIVEN ROWS OF THIS SEAT. 12 by the template 'for every input the law returns true; each argument reads behind the call as it read before'; 0 by the template 'total and deterministic' (their statements: YtoeaekamoejhcaaTotals.lean).
  GIVEN WITH THE SEED: the statements are not yours to turn. If you find one false, say at which input.
  Laid BY PROGRAM, IN A SANDBOX (cutbox-rows.mjs): the forced cells as the released guide's own fill.sh prints them over the translation f8870f714124486f… (all of the seat's roots in one cut). By AI agents, Wed Nov 11 2026. No macro, syntax, notation, axiom, sorry.
-/
import Derived.Test.YtoeaekamoejhcaaChecked
import GoSem.Claim
import GoSem.ClaimJoined
import GoSem.ClaimMapViews
import Derived.JoinedTies
import Derived.KernelRfl
namespace Go.Proofs.Ytoeaekamoejhcaa
/- THE CELL 'sum', in the pinned program and in every row, IS THE sha256 OF THE DUMP (.gsa) THAT YtoeaekamoejhcaaProg.lean LOADS. Nothing in Lean hashes anything: it is a label: what it is worth is what the hold of that sum in a sandbox is worth. -/
noncomputable def Try.pinned : Pinned := { name := "ytoeaekamoejhcaa", sum := "f8870f714124486fdd15d34113e24b5038c5c051d635ccffb9a049f64843f24f", checked := Try.checked }
namespace Rows
def none {H : Type} : Left H := { results := [], args := [] }

/-- 'blockhouselaw09.LamportTexts': WHATEVER THE INPUT: true; the input reads as it did. -/
def lamportTextsSpec : ChangeSpec := { name := "lamportTexts", fn := fun _ => fun
  | [d1, d2, d3, d4, d5] => { results := [.lit (.bool true)], args := [d1, d2, d3, d4, d5] }
  | _ => none }
def lamportTextsRow : OpenClaim := { program := "ytoeaekamoejhcaa", sum := "f8870f714124486fdd15d34113e24b5038c5c051d635ccffb9a049f64843f24f", func := "blockhouse/blockhouselaw09.LamportTexts", spec := "lamportTexts", apart := false }
def LamportTextsSaid : Prop := lamportTextsRow.holds Try.pinned (OpenSpec.ofChange lamportTextsSpec)

/-- ITS FALSE NEIGHBOUR: 'it returns false'. Refute it at one input. -/
def lamportTextsWrong : ChangeSpec := { name := "lamportTexts", fn := fun _ => fun
  | [d1, d2, d3, d4, d5] => { results := [.lit (.bool false)], args := [d1, d2, d3, d4, d5] }
  | _ => none }
def LamportTextsWrongFalsely : Prop := lamportTextsRow.holds Try.pinned (OpenSpec.ofChange lamportTextsWrong)

/-- 'blockhouselaw09.LamportBits': WHATEVER THE INPUT: true; the input reads as it did. -/
def lamportBitsSpec : ChangeSpec := { name := "lamportBits", fn := fun _ => fun
  | [d1, d2] => { results := [.lit (.bool true)], args := [d1, d2] }
  | _ => none }
def lamportBitsRow : OpenClaim := { program := "ytoeaekamoejhcaa", sum := "f8870f714124486fdd15d34113e24b5038c5c051d635ccffb9a049f64843f24f", func := "blockhouse/blockhouselaw09.LamportBits", spec := "lamportBits", apart := false }
def LamportBitsSaid : Prop := lamportBitsRow.holds Try.pinned (OpenSpec.ofChange lamportBitsSpec)

/-- ITS FALSE NEIGHBOUR: 'it returns false'. Refute it at one input. -/
def lamportBitsWrong : ChangeSpec := { name := "lamportBits", fn := fun _ => fun
  | [d1, d2] => { results := [.lit (.bool false)], args := [d1, d2] }
  | _ => none }
def LamportBitsWrongFalsely : Prop := lamportBitsRow.holds Try.pinned (OpenSpec.ofChange lamportBitsWrong)

/-- 'blockhouselaw18.CertHas': WHATEVER THE INPUT: true; the input reads as it did. -/
def certHasSpec : ChangeSpec := { name := "certHas", fn := fun _ => fun
  | [d1, d2, d3] => { results := [.lit (.bool true)], args := [d1, d2, d3] }
  | _ => none }
def certHasRow : OpenClaim := { program := "ytoeaekamoejhcaa", sum := "f8870f714124486fdd15d34113e24b5038c5c051d635ccffb9a049f64843f24f", func := "blockhouse/blockhouselaw18.CertHas", spec := "certHas", unfollowed := true, recurses := true, apart := false }
def CertHasSaid : Prop := certHasRow.holds Try.pinned (OpenSpec.ofChange certHasSpec)

/-- ITS FALSE NEIGHBOUR: 'it returns false'. Refute it at one input. -/
def certHasWrong : ChangeSpec := { name := "certHas", fn := fun _ => fun
  | [d1, d2, d3] => { results := [.lit (.bool false)], args := [d1, d2, d3] }
  | _ => none }
def CertHasWrongFalsely : Prop := certHasRow.holds Try.pinned (OpenSpec.ofChange certHasWrong)

/-- 'blockhouselaw18.CertBack': WHATEVER THE INPUT: true; the input reads as it did. -/
def certBackSpec : ChangeSpec := { name := "certBack", fn := fun _ => fun
  | [d1, d2, d3, d4] => { results := [.lit (.bool true)], args := [d1, d2, d3, d4] }
  | _ => none }
def certBackRow : OpenClaim := { program := "ytoeaekamoejhcaa", sum := "f8870f714124486fdd15d34113e24b5038c5c051d635ccffb9a049f64843f24f", func := "blockhouse/blockhouselaw18.CertBack", spec := "certBack", unfollowed := true, recurses := true, apart := false }
def CertBackSaid : Prop := certBackRow.holds Try.pinned (OpenSpec.ofChange certBackSpec)

/-- ITS FALSE NEIGHBOUR: 'it returns false'. Refute it at one input. -/
def certBackWrong : ChangeSpec := { name := "certBack", fn := fun _ => fun
  | [d1, d2, d3, d4] => { results := [.lit (.bool false)], args := [d1, d2, d3, d4] }
  | _ => none }
def CertBackWrongFalsely : Prop := certBackRow.holds Try.pinned (OpenSpec.ofChange certBackWrong)

/-- 'blockhouselaw02.ShaNumbers': WHATEVER THE INPUT: true; the input reads as it did. -/
def shaNumbersSpec : ChangeSpec := { name := "shaNumbers", fn := fun _ => fun
  | [] => { results := [.lit (.bool true)], args := [] }
  | _ => none }
def shaNumbersRow : OpenClaim := { program := "ytoeaekamoejhcaa", sum := "f8870f714124486fdd15d34113e24b5038c5c051d635ccffb9a049f64843f24f", func := "blockhouse/blockhouselaw02.ShaNumbers", spec := "shaNumbers", unfollowed := true, recurses := true, apart := false }
def ShaNumbersSaid : Prop := shaNumbersRow.holds Try.pinned (OpenSpec.ofChange shaNumbersSpec)

/-- ITS FALSE NEIGHBOUR: 'it returns false'. Refute it at one input. -/
def shaNumbersWrong : ChangeSpec := { name := "shaNumbers", fn := fun _ => fun
  | [] => { results := [.lit (.bool false)], args := [] }
  | _ => none }
def ShaNumbersWrongFalsely : Prop := shaNumbersRow.holds Try.pinned (OpenSpec.ofChange shaNumbersWrong)

/-- 'blockhouselaw02.ShaTells': WHATEVER THE INPUT: true; the input reads as it did. -/
def shaTellsSpec : ChangeSpec := { name := "shaTells", fn := fun _ => fun
  | [d1, d2, d3, d4, d5] => { results := [.lit (.bool true)], args := [d1, d2, d3, d4, d5] }
  | _ => none }
def shaTellsRow : OpenClaim := { program := "ytoeaekamoejhcaa", sum := "f8870f714124486fdd15d34113e24b5038c5c051d635ccffb9a049f64843f24f", func := "blockhouse/blockhouselaw02.ShaTells", spec := "shaTells", unfollowed := true, recurses := true, apart := false }
def ShaTellsSaid : Prop := shaTellsRow.holds Try.pinned (OpenSpec.ofChange shaTellsSpec)

/-- ITS FALSE NEIGHBOUR: 'it returns false'. Refute it at one input. -/
def shaTellsWrong : ChangeSpec := { name := "shaTells", fn := fun _ => fun
  | [d1, d2, d3, d4, d5] => { results := [.lit (.bool false)], args := [d1, d2, d3, d4, d5] }
  | _ => none }
def ShaTellsWrongFalsely : Prop := shaTellsRow.holds Try.pinned (OpenSpec.ofChange shaTellsWrong)

/-- 'blockhouselaw02.ShaPieces': WHATEVER THE INPUT: true; the input reads as it did. -/
def shaPiecesSpec : ChangeSpec := { name := "shaPieces", fn := fun _ => fun
  | [d1, d2, d3] => { results := [.lit (.bool true)], args := [d1, d2, d3] }
  | _ => none }
def shaPiecesRow : OpenClaim := { program := "ytoeaekamoejhcaa", sum := "f8870f714124486fdd15d34113e24b5038c5c051d635ccffb9a049f64843f24f", func := "blockhouse/blockhouselaw02.ShaPieces", spec := "shaPieces", unfollowed := true, recurses := true, apart := false }
def ShaPiecesSaid : Prop := shaPiecesRow.holds Try.pinned (OpenSpec.ofChange shaPiecesSpec)

/-- ITS FALSE NEIGHBOUR: 'it returns false'. Refute it at one input. -/
def shaPiecesWrong : ChangeSpec := { name := "shaPieces", fn := fun _ => fun
  | [d1, d2, d3] => { results := [.lit (.bool false)], args := [d1, d2, d3] }
  | _ => none }
def ShaPiecesWrongFalsely : Prop := shaPiecesRow.holds Try.pinned (OpenSpec.ofChange shaPiecesWrong)

/-- 'blockhouselaw02.ShaTwice': WHATEVER THE INPUT: true; the input reads as it did. -/
def shaTwiceSpec : ChangeSpec := { name := "shaTwice", fn := fun _ => fun
  | [d1, d2, d3, d4] => { results := [.lit (.bool true)], args := [d1, d2, d3, d4] }
  | _ => none }
def shaTwiceRow : OpenClaim := { program := "ytoeaekamoejhcaa", sum := "f8870f714124486fdd15d34113e24b5038c5c051d635ccffb9a049f64843f24f", func := "blockhouse/blockhouselaw02.ShaTwice", spec := "shaTwice", unfollowed := true, recurses := true, apart := false }
def ShaTwiceSaid : Prop := shaTwiceRow.holds Try.pinned (OpenSpec.ofChange shaTwiceSpec)

/-- ITS FALSE NEIGHBOUR: 'it returns false'. Refute it at one input. -/
def shaTwiceWrong : ChangeSpec := { name := "shaTwice", fn := fun _ => fun
  | [d1, d2, d3, d4] => { results := [.lit (.bool false)], args := [d1, d2, d3, d4] }
  | _ => none }
def ShaTwiceWrongFalsely : Prop := shaTwiceRow.holds Try.pinned (OpenSpec.ofChange shaTwiceWrong)

/-- 'blockhouselaw02.ShaPad': WHATEVER THE INPUT: true; the input reads as it did. -/
def shaPadSpec : ChangeSpec := { name := "shaPad", fn := fun _ => fun
  | [d1, d2] => { results := [.lit (.bool true)], args := [d1, d2] }
  | _ => none }
def shaPadRow : OpenClaim := { program := "ytoeaekamoejhcaa", sum := "f8870f714124486fdd15d34113e24b5038c5c051d635ccffb9a049f64843f24f", func := "blockhouse/blockhouselaw02.ShaPad", spec := "shaPad", unfollowed := true, recurses := true, apart := false }
def ShaPadSaid : Prop := shaPadRow.holds Try.pinned (OpenSpec.ofChange shaPadSpec)

/-- ITS FALSE NEIGHBOUR: 'it returns false'. Refute it at one input. -/
def shaPadWrong : ChangeSpec := { name := "shaPad", fn := fun _ => fun
  | [d1, d2] => { results := [.lit (.bool false)], args := [d1, d2] }
  | _ => none }
def ShaPadWrongFalsely : Prop := shaPadRow.holds Try.pinned (OpenSpec.ofChange shaPadWrong)

/-- 'blockhouselaw02.ShaRoots': WHATEVER THE INPUT: true; the input reads as it did. -/
def shaRootsSpec : ChangeSpec := { name := "shaRoots", fn := fun _ => fun
  | [d] => { results := [.lit (.bool true)], args := [d] }
  | _ => none }
def shaRootsRow : OpenClaim := { program := "ytoeaekamoejhcaa", sum := "f8870f714124486fdd15d34113e24b5038c5c051d635ccffb9a049f64843f24f", func := "blockhouse/blockhouselaw02.ShaRoots", spec := "shaRoots", unfollowed := true, recurses := true, apart := false }
def ShaRootsSaid : Prop := shaRootsRow.holds Try.pinned (OpenSpec.ofChange shaRootsSpec)

/-- ITS FALSE NEIGHBOUR: 'it returns false'. Refute it at one input. -/
def shaRootsWrong : ChangeSpec := { name := "shaRoots", fn := fun _ => fun
  | [d] => { results := [.lit (.bool false)], args := [d] }
  | _ => none }
def ShaRootsWrongFalsely : Prop := shaRootsRow.holds Try.pinned (OpenSpec.ofChange shaRootsWrong)

/-- 'blockhouselaw02.ShaChains': WHATEVER THE INPUT: true; the input reads as it did. -/
def shaChainsSpec : ChangeSpec := { name := "shaChains", fn := fun _ => fun
  | [d1, d2, d3, d4] => { results := [.lit (.bool true)], args := [d1, d2, d3, d4] }
  | _ => none }
def shaChainsRow : OpenClaim := { program := "ytoeaekamoejhcaa", sum := "f8870f714124486fdd15d34113e24b5038c5c051d635ccffb9a049f64843f24f", func := "blockhouse/blockhouselaw02.ShaChains", spec := "shaChains", unfollowed := true, recurses := true, apart := false }
def ShaChainsSaid : Prop := shaChainsRow.holds Try.pinned (OpenSpec.ofChange shaChainsSpec)

/-- ITS FALSE NEIGHBOUR: 'it returns false'. Refute it at one input. -/
def shaChainsWrong : ChangeSpec := { name := "shaChains", fn := fun _ => fun
  | [d1, d2, d3, d4] => { results := [.lit (.bool false)], args := [d1, d2, d3, d4] }
  | _ => none }
def ShaChainsWrongFalsely : Prop := shaChainsRow.holds Try.pinned (OpenSpec.ofChange shaChainsWrong)

/-- 'blockhouselaw09.LamportTells': WHATEVER THE INPUT: true; the input reads as it did. -/
def lamportTellsSpec : ChangeSpec := { name := "lamportTells", fn := fun _ => fun
  | [d1, d2, d3, d4, d5, d6, d7] => { results := [.lit (.bool true)], args := [d1, d2, d3, d4, d5, d6, d7] }
  | _ => none }
def lamportTellsRow : OpenClaim := { program := "ytoeaekamoejhcaa", sum := "f8870f714124486fdd15d34113e24b5038c5c051d635ccffb9a049f64843f24f", func := "blockhouse/blockhouselaw09.LamportTells", spec := "lamportTells", apart := false }
def LamportTellsSaid : Prop := lamportTellsRow.holds Try.pinned (OpenSpec.ofChange lamportTellsSpec)

/-- ITS FALSE NEIGHBOUR: 'it returns false'. Refute it at one input. -/
def lamportTellsWrong : ChangeSpec := { name := "lamportTells", fn := fun _ => fun
  | [d1, d2, d3, d4, d5, d6, d7] => { results := [.lit (.bool false)], args := [d1, d2, d3, d4, d5, d6, d7] }
  | _ => none }
def LamportTellsWrongFalsely : Prop := lamportTellsRow.holds Try.pinned (OpenSpec.ofChange lamportTellsWrong)

/- THE SECOND FORM. 'bulk': how many values and letters a reading holds, each counted each time it is reached (what is shared counts as often as it is met; a slice's spare places count too). A statement '..UptoSaid' is the law's where the arguments, and the package variables that the reading takes, are together of bulk at most 1048576: NARROWER than '..Said'. Prove '..Said' where nothing that the law and all that it calls make is longer than what came in: it says more and counts as full. Else prove '..UptoSaid'. A law counts once. -/
mutual
def uptoBulk {H : Type} : DataW H → Nat
  | .lit (.string bytes) => bytes.length + 1
  | .lit _ => 1
  | .nil => 1
  | .ptr d => uptoBulk d + 1
  | .slice elems spare => uptoBulkAll elems + uptoBulkAll spare + 1
  | .agg parts => uptoBulkAll parts + 1
  | .iface _ d => uptoBulk d + 1
  | .map entries => uptoBulkEntries entries + 1
  | .held _ => 1
def uptoBulkAll {H : Type} : List (DataW H) → Nat
  | [] => 0
  | d :: r => uptoBulk d + uptoBulkAll r
def uptoBulkEntries {H : Type} : List (Lit × DataW H) → Nat
  | [] => 0
  | x :: r => uptoBulkEntry x + uptoBulkEntries r
def uptoBulkEntry {H : Type} : Lit × DataW H → Nat
  | (.string bytes, d) => bytes.length + uptoBulk d + 1
  | (_, d) => uptoBulk d + 1
 end
def uptoSmall : (H : Type) → List (DataW H) → Bool := fun _ ds => decide (uptoBulkAll ds ≤ 1048576)
def OpenSpec.upto (s : _root_.Go.ChangeSpec) : _root_.Go.OpenSpec := { _root_.Go.OpenSpec.ofChange s with cond := some uptoSmall }

/-- 'blockhouselaw09.LamportTexts', WHERE WHAT IT READS IS OF BULK AT MOST 1048576: true; the input reads as it did. -/
def lamportTextsUptoRow : OpenClaim := { program := "ytoeaekamoejhcaa", sum := "f8870f714124486fdd15d34113e24b5038c5c051d635ccffb9a049f64843f24f", func := "blockhouse/blockhouselaw09.LamportTexts", spec := "lamportTexts", apart := false, narrowed := true }
def LamportTextsUptoSaid : Prop := lamportTextsUptoRow.holds Try.pinned (OpenSpec.upto lamportTextsSpec)

/-- 'blockhouselaw09.LamportBits', WHERE WHAT IT READS IS OF BULK AT MOST 1048576: true; the input reads as it did. -/
def lamportBitsUptoRow : OpenClaim := { program := "ytoeaekamoejhcaa", sum := "f8870f714124486fdd15d34113e24b5038c5c051d635ccffb9a049f64843f24f", func := "blockhouse/blockhouselaw09.LamportBits", spec := "lamportBits", apart := false, narrowed := true }
def LamportBitsUptoSaid : Prop := lamportBitsUptoRow.holds Try.pinned (OpenSpec.upto lamportBitsSpec)

/-- 'blockhouselaw18.CertHas', WHERE WHAT IT READS IS OF BULK AT MOST 1048576: true; the input reads as it did. -/
def certHasUptoRow : OpenClaim := { program := "ytoeaekamoejhcaa", sum := "f8870f714124486fdd15d34113e24b5038c5c051d635ccffb9a049f64843f24f", func := "blockhouse/blockhouselaw18.CertHas", spec := "certHas", unfollowed := true, recurses := true, apart := false, narrowed := true }
def CertHasUptoSaid : Prop := certHasUptoRow.holds Try.pinned (OpenSpec.upto certHasSpec)

/-- 'blockhouselaw18.CertBack', WHERE WHAT IT READS IS OF BULK AT MOST 1048576: true; the input reads as it did. -/
def certBackUptoRow : OpenClaim := { program := "ytoeaekamoejhcaa", sum := "f8870f714124486fdd15d34113e24b5038c5c051d635ccffb9a049f64843f24f", func := "blockhouse/blockhouselaw18.CertBack", spec := "certBack", unfollowed := true, recurses := true, apart := false, narrowed := true }
def CertBackUptoSaid : Prop := certBackUptoRow.holds Try.pinned (OpenSpec.upto certBackSpec)

/-- 'blockhouselaw02.ShaNumbers', WHERE WHAT IT READS IS OF BULK AT MOST 1048576: true; the input reads as it did. -/
def shaNumbersUptoRow : OpenClaim := { program := "ytoeaekamoejhcaa", sum := "f8870f714124486fdd15d34113e24b5038c5c051d635ccffb9a049f64843f24f", func := "blockhouse/blockhouselaw02.ShaNumbers", spec := "shaNumbers", unfollowed := true, recurses := true, apart := false, narrowed := true }
def ShaNumbersUptoSaid : Prop := shaNumbersUptoRow.holds Try.pinned (OpenSpec.upto shaNumbersSpec)

/-- 'blockhouselaw02.ShaTells', WHERE WHAT IT READS IS OF BULK AT MOST 1048576: true; the input reads as it did. -/
def shaTellsUptoRow : OpenClaim := { program := "ytoeaekamoejhcaa", sum := "f8870f714124486fdd15d34113e24b5038c5c051d635ccffb9a049f64843f24f", func := "blockhouse/blockhouselaw02.ShaTells", spec := "shaTells", unfollowed := true, recurses := true, apart := false, narrowed := true }
def ShaTellsUptoSaid : Prop := shaTellsUptoRow.holds Try.pinned (OpenSpec.upto shaTellsSpec)

/-- 'blockhouselaw02.ShaPieces', WHERE WHAT IT READS IS OF BULK AT MOST 1048576: true; the input reads as it did. -/
def shaPiecesUptoRow : OpenClaim := { program := "ytoeaekamoejhcaa", sum := "f8870f714124486fdd15d34113e24b5038c5c051d635ccffb9a049f64843f24f", func := "blockhouse/blockhouselaw02.ShaPieces", spec := "shaPieces", unfollowed := true, recurses := true, apart := false, narrowed := true }
def ShaPiecesUptoSaid : Prop := shaPiecesUptoRow.holds Try.pinned (OpenSpec.upto shaPiecesSpec)

/-- 'blockhouselaw02.ShaTwice', WHERE WHAT IT READS IS OF BULK AT MOST 1048576: true; the input reads as it did. -/
def shaTwiceUptoRow : OpenClaim := { program := "ytoeaekamoejhcaa", sum := "f8870f714124486fdd15d34113e24b5038c5c051d635ccffb9a049f64843f24f", func := "blockhouse/blockhouselaw02.ShaTwice", spec := "shaTwice", unfollowed := true, recurses := true, apart := false, narrowed := true }
def ShaTwiceUptoSaid : Prop := shaTwiceUptoRow.holds Try.pinned (OpenSpec.upto shaTwiceSpec)

/-- 'blockhouselaw02.ShaPad', WHERE WHAT IT READS IS OF BULK AT MOST 1048576: true; the input reads as it did. -/
def shaPadUptoRow : OpenClaim := { program := "ytoeaekamoejhcaa", sum := "f8870f714124486fdd15d34113e24b5038c5c051d635ccffb9a049f64843f24f", func := "blockhouse/blockhouselaw02.ShaPad", spec := "shaPad", unfollowed := true, recurses := true, apart := false, narrowed := true }
def ShaPadUptoSaid : Prop := shaPadUptoRow.holds Try.pinned (OpenSpec.upto shaPadSpec)

/-- 'blockhouselaw02.ShaRoots', WHERE WHAT IT READS IS OF BULK AT MOST 1048576: true; the input reads as it did. -/
def shaRootsUptoRow : OpenClaim := { program := "ytoeaekamoejhcaa", sum := "f8870f714124486fdd15d34113e24b5038c5c051d635ccffb9a049f64843f24f", func := "blockhouse/blockhouselaw02.ShaRoots", spec := "shaRoots", unfollowed := true, recurses := true, apart := false, narrowed := true }
def ShaRootsUptoSaid : Prop := shaRootsUptoRow.holds Try.pinned (OpenSpec.upto shaRootsSpec)

/-- 'blockhouselaw02.ShaChains', WHERE WHAT IT READS IS OF BULK AT MOST 1048576: true; the input reads as it did. -/
def shaChainsUptoRow : OpenClaim := { program := "ytoeaekamoejhcaa", sum := "f8870f714124486fdd15d34113e24b5038c5c051d635ccffb9a049f64843f24f", func := "blockhouse/blockhouselaw02.ShaChains", spec := "shaChains", unfollowed := true, recurses := true, apart := false, narrowed := true }
def ShaChainsUptoSaid : Prop := shaChainsUptoRow.holds Try.pinned (OpenSpec.upto shaChainsSpec)

/-- 'blockhouselaw09.LamportTells', WHERE WHAT IT READS IS OF BULK AT MOST 1048576: true; the input reads as it did. -/
def lamportTellsUptoRow : OpenClaim := { program := "ytoeaekamoejhcaa", sum := "f8870f714124486fdd15d34113e24b5038c5c051d635ccffb9a049f64843f24f", func := "blockhouse/blockhouselaw09.LamportTells", spec := "lamportTells", apart := false, narrowed := true }
def LamportTellsUptoSaid : Prop := lamportTellsUptoRow.holds Try.pinned (OpenSpec.upto lamportTellsSpec)

end Rows
end Go.Proofs.Ytoeaekamoejhcaa
