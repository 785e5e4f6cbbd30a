/-
  A hasher goes on as its bytes do: the plain law.
  No conditions, no program.
-/
import Derived.Test.YteaijjefbadnbaaShaW
namespace Go.Proofs.Yteaijjefbadnbaa
set_option linter.unusedVariables false
set_option linter.unusedSimpArgs false

attribute [local irreducible] blockN
theorem goB_add (tab s xs : List Nat) (q : Nat) : ∀ k, goB tab s xs (q + k) = goB tab (goB tab s xs q) (xs.drop (64 * q)) k
  | 0 => rfl
  | k + 1 => by
    show blockN tab (goB tab s xs (q + k)) ((xs.drop (64 * (q + k))).take 64) = blockN tab (goB tab (goB tab s xs q) (xs.drop (64 * q)) k) (((xs.drop (64 * q)).drop (64 * k)).take 64)
    rw [goB_add tab s xs q k, List.drop_drop, Nat.mul_add]
theorem goB_prefix (tab s bs cs : List Nat) : ∀ q, 64 * q ≤ bs.length → goB tab s (bs ++ cs) q = goB tab s bs q
  | 0, _ => rfl
  | q + 1, h => by
    show blockN tab (goB tab s (bs ++ cs) q) (((bs ++ cs).drop (64 * q)).take 64) = blockN tab (goB tab s bs q) ((bs.drop (64 * q)).take 64)
    rw [goB_prefix tab s bs cs q (by omega), List.drop_append_of_le_length (by omega), List.take_append_of_le_length (by rw [List.length_drop]; omega)]
/-- A hasher that has had these bytes. -/
def runH (tab s bs : List Nat) : Hash := (goB tab s bs (bs.length / 64), bs.drop (64 * (bs.length / 64)), (bs.length : Int))
theorem runH_right (tab s bs : List Nat) (h : bs.length ≤ 72057594037927936) : rightN (runH tab s bs).2.1.length (runH tab s bs).2.2 = true := by
  refine rightN_iff.2 ⟨?_, ?_, ?_⟩
  · show (0 : Int) ≤ bs.length; omega
  · show (bs.length : Int) ≤ _; omega
  · show (((bs.drop (64 * (bs.length / 64))).length : Nat) : Int) = (bs.length : Int) % 64
    rw [List.length_drop]; omega
theorem runH_write (tab s bs cs : List Nat) (h : bs.length ≤ 72057594037927936) : writeN tab (runH tab s bs) cs = runH tab s (bs ++ cs) := by
  rw [writeN_right _ _ _ (runH_right tab s bs h)]
  have hq : 64 * (bs.length / 64) ≤ bs.length := by omega
  have hd : (bs ++ cs).drop (64 * (bs.length / 64)) = bs.drop (64 * (bs.length / 64)) ++ cs := List.drop_append_of_le_length hq
  have hl : (bs.drop (64 * (bs.length / 64)) ++ cs).length = bs.length % 64 + cs.length := by rw [List.length_append, List.length_drop]; omega
  have hk : (bs ++ cs).length / 64 = bs.length / 64 + (bs.length % 64 + cs.length) / 64 := by rw [List.length_append]; omega
  show (goB tab (goB tab s bs (bs.length / 64)) (bs.drop (64 * (bs.length / 64)) ++ cs) ((bs.drop (64 * (bs.length / 64)) ++ cs).length / 64), (bs.drop (64 * (bs.length / 64)) ++ cs).drop (64 * ((bs.drop (64 * (bs.length / 64)) ++ cs).length / 64)), (bs.length : Int) + (cs.length : Int)) = (goB tab s (bs ++ cs) ((bs ++ cs).length / 64), (bs ++ cs).drop (64 * ((bs ++ cs).length / 64)), ((bs ++ cs).length : Int))
  rw [hl, hk, goB_add, goB_prefix tab s bs cs _ hq, hd, Nat.mul_add, ← List.drop_drop, hd, List.length_append, Int.natCast_add]
theorem newN_run (tab : List Nat) : newN tab = runH tab (tab.take 8) [] := rfl
theorem ofN_run (tab bs : List Nat) : ofN tab bs = sumN tab (runH tab (tab.take 8) bs) := by
  unfold ofN
  rw [newN_run, runH_write _ _ _ _ (by simp), List.nil_append]
end Go.Proofs.Yteaijjefbadnbaa
