/-
  A hasher that has had bytes: its calls.
-/
import Derived.Test.YteaijjefbadnbaaShaLaw
import Derived.Test.YteaijjefbadnbaaText
namespace Go.Proofs.Yteaijjefbadnbaa
open Go.RowKit
set_option linter.unusedVariables false
set_option linter.unusedSimpArgs false
set_option maxRecDepth 100000

theorem bytes_nn {ns : List Nat} (h : ∀ n ∈ ns, n < 256) : Bytes (nn ns) := by
  intro x hx
  obtain ⟨n, hn, rfl⟩ := List.mem_map.1 hx
  have := h n hn
  show 0 ≤ (n : Int) ∧ (n : Int) < 256
  omega
theorem SL.cast {k : IntKind} {w : World} {v : Value} {xs ys : List Int} (h : SL k w v xs) (he : xs = ys) : SL k w v ys := he ▸ h
theorem getD_set_lt {xs : List Nat} {i n B : Nat} (h : ∀ k, xs.getD k 0 < B) (hn : n < B) : ∀ k, (xs.set i n).getD k 0 < B := by
  intro k
  have := h k
  simp only [List.getD_eq_getElem?_getD, List.getElem?_set] at this ⊢
  split
  · split
    · simpa using hn
    · simp; omega
  · exact this
theorem digN_lt (S : List Nat) : ∀ i k, (digN S i).getD k 0 < 256
  | 0, k => by
    simp only [digN, List.getD_eq_getElem?_getD, List.getElem?_replicate]
    split <;> simp
  | i + 1, k => getD_set_lt (digN_lt S i) (Nat.mod_lt _ (by decide)) k
theorem sumN_lt (tab : List Nat) (h : Hash) (k : Nat) : (sumN tab h).getD k 0 < 256 := by
  unfold sumN; split
  · exact digN_lt _ _ _
  · exact digN_lt [] 0 k
theorem ofN_len (tab bs : List Nat) : (ofN tab bs).length = 32 := sumN_len _ _
theorem ofN_lt (tab bs : List Nat) (k : Nat) : (ofN tab bs).getD k 0 < 256 := sumN_lt _ _ _
/-- Writing to a hasher that has had bytes. -/
theorem write_run (T : Nat) (tab s bs cs S R S' R' : List Nat) (L L' : Int) (hX : runH tab s bs = (S, R, L)) (hX' : runH tab s (bs ++ cs) = (S', R', L')) (hs : s.length = 8) (hb : bs.length ≤ 1000000000000) (hc : cs.length ≤ 1000000000000) (v bv : Value) (ht : tab.length = 72) (w : World) (TB : Blk .u32 w T 26 (nn tab)) (RR : SL .u8 w v (nn R)) (D : SL .u8 w bv (nn cs)) :
    Calls Try.prog 16 #[.pointer (some ⟨T, 0, none⟩), hashV S v L, bv] w fun e w' => ∃ u, e = .returned (hashV S' u L') ∧ Own 5 .u8 w.heap.size w' u (nn R') ∧ Below w.heap.size w w' := by
  have hr := runH_right tab s bs (by omega)
  have hS : S.length = 8 := by have := goB_len tab s bs hs (bs.length / 64); have e : goB tab s bs (bs.length / 64) = S := congrArg Prod.fst hX; rw [e] at this; exact this
  have hR : R.length ≤ 64 := by
    have e : bs.drop (64 * (bs.length / 64)) = R := congrArg (fun x => x.2.1) hX
    rw [← e, List.length_drop]; omega
  have hw := runH_write tab s bs cs (by omega)
  rw [hX] at hr hw
  rw [hX'] at hw
  refine (write_any T tab (S, R, L) cs hS v bv ht w TB RR D (by show R.length + _ ≤ _; omega)).mono ?_
  rintro e w' ⟨u, he, _, hb1, hO⟩
  rw [hw] at he hO
  exact ⟨u, he, hO hr, hb1⟩
theorem runH_b {tab s bs S R : List Nat} {L : Int} (hX : runH tab s bs = (S, R, L)) (h : ∀ x ∈ bs, x < 256) : ∀ x ∈ R, x < 256 := by
  have e : bs.drop (64 * (bs.length / 64)) = R := congrArg (fun x => x.2.1) hX
  subst e
  exact fun x hx => h x (List.mem_of_mem_drop hx)
theorem runH_8 (tab s bs : List Nat) (hs : s.length = 8) : ∃ a b c d e f g i R, ∃ L : Int, runH tab s bs = ([a, b, c, d, e, f, g, i], R, L) := by
  obtain ⟨a, b, c, d, e, f, g, i, h⟩ := list8 _ (goB_len tab s bs hs (bs.length / 64))
  exact ⟨a, b, c, d, e, f, g, i, _, _, by unfold runH; rw [h]⟩
theorem runH_R {tab s bs S R : List Nat} {L : Int} (hX : runH tab s bs = (S, R, L)) : R.length ≤ 64 := by
  have e : bs.drop (64 * (bs.length / 64)) = R := congrArg (fun x => x.2.1) hX
  rw [← e, List.length_drop]; omega
theorem of_run (T : Nat) (tab cs S R : List Nat) (L : Int) (hX : runH tab (tab.take 8) cs = (S, R, L)) (bv : Value) (ht : tab.length = 72) (w : World) (TB : Blk .u32 w T 26 (nn tab)) (D : SL .u8 w bv (nn cs)) (hl : cs.length ≤ 140737488355328) :
    Calls Try.prog 20 #[.pointer (some ⟨T, 0, none⟩), bv] w fun e w' => e = .returned (.agg (cellsOf .u8 (nn (sumN tab (S, R, L))))) ∧ Below w.heap.size w w' := by
  rw [← hX, ← ofN_run]
  exact of_any T tab cs bv ht w TB D hl
theorem ofN_32 (tab bs : List Nat) : (ofN tab bs).length = 32 := sumN_len _ _
theorem runH_nil (tab s : List Nat) : runH tab s [] = (s, [], 0) := rfl
end Go.Proofs.Yteaijjefbadnbaa
