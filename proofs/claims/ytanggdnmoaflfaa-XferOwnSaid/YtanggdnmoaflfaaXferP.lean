/-
  Transfers, the plain laws: pieces of the same bytes.
-/
import Derived.Test.YtanggdnmoaflfaaXferL
namespace Go.Proofs.Ytanggdnmoaflfaa
set_option linter.unusedVariables false
set_option linter.unusedSimpArgs false

def coverS (ps : List (Nat × Nat)) (k : Int) : Bool := ps.any fun p => decide ((p.1 : Int) ≤ k ∧ k < (p.2 : Int))
/-- What stands behind pieces of bytes. -/
structure GoodX (all : List Nat) (ps : List (Nat × Nat)) (s : List Nat × List (Int × Int)) : Prop where
  len : s.1.length = all.length
  right : rightX s.1 s.2 = true
  mem : ∀ k, memS s.2 k = coverS ps k
  same : ∀ k : Nat, memS s.2 k = true → s.1.getD k 0 = all.getD k 0
/-- What is there tells it all. -/
theorem GoodX.ext {all : List Nat} {ps qs : List (Nat × Nat)} {s t : List Nat × List (Int × Int)} (h : GoodX all ps s) (g : GoodX all qs t) (hc : ∀ k : Int, coverS ps k = coverS qs k) : s = t := by
  have hm : ∀ k, memS s.2 k = memS t.2 k := fun k => by rw [h.mem, g.mem, hc]
  have e2 : s.2 = t.2 := canonS_ext (rightX_can h.right) (by have := rightX_can g.right; rwa [g.len, ← h.len] at this) hm
  have e1 : s.1 = t.1 := list_ext0 (h.len.trans g.len.symm) fun j _ => by
    cases hj : memS s.2 j with
    | true => rw [h.same j hj, g.same j (by rw [← hm]; exact hj)]
    | false => rw [rightX_zero h.right hj, rightX_zero g.right (by rw [← hm]; exact hj)]
  exact Prod.ext e1 e2
/-! ### the piece that numbers tell -/
end Go.Proofs.Ytanggdnmoaflfaa
