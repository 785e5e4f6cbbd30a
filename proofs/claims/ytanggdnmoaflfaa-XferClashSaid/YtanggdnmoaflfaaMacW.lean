/-
  mac.turned, mac.under, mac.Mac, mac.Tagged; lamport.number, lamport.Secret, lamport.Half.
-/
import Derived.Test.YtanggdnmoaflfaaShaRun
namespace Go.Proofs.Ytanggdnmoaflfaa
open Go.RowKit
set_option linter.unusedVariables false
set_option linter.unusedSimpArgs false
set_option maxRecDepth 100000
attribute [local irreducible] wpList Code.wp wpAnyZ
theorem SV.e0 {w w' : World} {v : Value} {us : List Value} (h : SV w v us) (e : E0 w w') : SV w' v us := by
  rcases h with h | ⟨b, o, c, hv, h1, h2, h3, h4⟩
  · exact .inl h
  · subst hv
    exact .inr ⟨b, o, c, rfl, h1, h2, Nat.lt_of_lt_of_le h3 e.size, fun j hj => by rw [World.cell?_of_block (a := ⟨b, o + j, none⟩) (e.block b h3 (fun x => x))]; exact h4 j hj⟩
theorem SLs.e0 {k : IntKind} {B : Nat} {w w' : World} (e : E0 w w') : ∀ {us : List Value} {ys : List (List Int)}, SLs k B w us ys → SLs k B w' us ys
  | [], [], _ => trivial
  | [], _ :: _, h => h.elim
  | _ :: _, [], h => h.elim
  | u :: us, y :: ys, h => ⟨⟨h.1.1.e0 e, h.1.2⟩, SLs.e0 e h.2⟩
theorem SLs.three {k : IntKind} {B : Nat} {w : World} {u v x : Value} {a b c : List Int} (h : SL k w u a) (hl : ∀ g, u.ownBlock = some g → g < B) (h' : SL k w v b) (hl' : ∀ g, v.ownBlock = some g → g < B) (h2 : SL k w x c) (hl2 : ∀ g, x.ownBlock = some g → g < B) : SLs k B w [u, v, x] [a, b, c] := ⟨⟨h, hl⟩, ⟨h', hl'⟩, ⟨h2, hl2⟩, trivial⟩
end Go.Proofs.Ytanggdnmoaflfaa
