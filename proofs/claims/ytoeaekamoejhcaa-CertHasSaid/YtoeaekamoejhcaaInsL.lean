/-
  CertHas, the plain law: a number put in its place of a right list.
-/
import Derived.Test.YtoeaekamoejhcaaCert
namespace Go.Proofs.Ytoeaekamoejhcaa
set_option linter.unusedVariables false

/-- What the loop still lays behind what it has laid. -/
def insF (key : Int) : Bool → List Int → List Int
  | put, [] => if put then [] else [key]
  | put, n :: ns => if put = false ∧ key < n then key :: n :: insF key true ns else n :: insF key put ns
theorem insF_true (key : Int) : ∀ xs, insF key true xs = xs
  | [] => by simp [insF]
  | n :: ns => by simp [insF, insF_true key ns]
theorem insF_mem (key : Int) : ∀ (xs : List Int) (y : Int), y ∈ insF key false xs ↔ y = key ∨ y ∈ xs
  | [], y => by simp [insF]
  | n :: ns, y => by
    by_cases h : key < n
    · simp [insF, h, insF_true]
    · simp only [insF, h, and_false, if_false, List.mem_cons, insF_mem key ns y]
      constructor
      · rintro (h | h | h) <;> simp [h]
      · rintro (h | h | h) <;> simp [h]
theorem insF_len (key : Int) : ∀ (xs : List Int), (insF key false xs).length = xs.length + 1
  | [] => by simp [insF]
  | n :: ns => by
    by_cases h : key < n
    · simp [insF, h, insF_true]
    · simp [insF, h, insF_len key ns]
theorem insF_good (key : Int) (hk : key ≤ 1048576) : ∀ (xs : List Int) (p : Int), p < key → key ∉ xs → goodB p xs = true → goodB p (insF key false xs) = true
  | [], p, h, _, _ => by simp [insF, goodB, h, hk]
  | n :: ns, p, h, hm, hg => by
    simp only [goodB, Bool.and_eq_true, decide_eq_true_eq] at hg
    have hne : key ≠ n := fun e => hm (by simp [e])
    by_cases h1 : key < n
    · simp [insF, h1, insF_true, goodB, h, hk, hg]
    · have := insF_good key hk ns n (by omega) (fun h => hm (List.mem_cons_of_mem _ h)) hg.2
      simp [insF, h1, goodB, hg, this]
theorem insF_drop (key : Int) (put : Bool) (xs : List Int) (k : Nat) (hk : k < xs.length) : insF key put (xs.drop k) = (if put = false ∧ key < xs.getD k 0 then [key, xs.getD k 0] ++ insF key true (xs.drop (k + 1)) else [xs.getD k 0] ++ insF key put (xs.drop (k + 1))) := by
  rw [List.drop_eq_getElem_cons hk]
  have e : xs.getD k 0 = xs[k] := by simp [hk]
  rw [e, insF]
  split <;> rfl
theorem insF_right (seq key : Int) (xs : List Int) (h1 : 1 ≤ key) (h2 : key ≤ 1048576) (hm : key ∉ xs) (hl : xs.length < 50) (hr : rightL seq xs = true) : rightL seq (insF key false xs) = true := by
  simp only [rightL, Bool.and_eq_true, decide_eq_true_eq] at hr ⊢
  refine ⟨⟨hr.1.1, by rw [insF_len]; omega⟩, insF_good key h2 xs 0 (by omega) hm hr.2⟩
end Go.Proofs.Ytoeaekamoejhcaa
