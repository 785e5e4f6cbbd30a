/-
  Transfers, the plain laws: pieces of the same bytes.
-/
import Derived.Test.YtanggdnmoaflfaaXferL
namespace Go.Proofs.Ytanggdnmoaflfaa
set_option linter.unusedVariables false
set_option linter.unusedSimpArgs false

/-- bytes from a place to another -/
def segN (all : List Nat) (p : Nat × Nat) : List Nat := (all.drop p.1).take (p.2 - p.1)
theorem segN_len {all : List Nat} {p : Nat × Nat} (h : p.1 ≤ p.2) (h2 : p.2 ≤ all.length) : (segN all p).length = p.2 - p.1 := sgn_len _ _ _ (by omega)
theorem segN_get {all : List Nat} {p : Nat × Nat} {j : Nat} (h : j < p.2 - p.1) : (segN all p).getD j 0 = all.getD (p.1 + j) 0 := sgn_getD _ _ _ _ h
/-- a right piece of bytes -/
def PcOk (n : Nat) (p : Nat × Nat) : Prop := p.1 < p.2 ∧ p.2 ≤ n ∧ p.2 - p.1 ≤ 512
def stpX (all : List Nat) (s : List Nat × List (Int × Int)) (p : Nat × Nat) : List Nat × List (Int × Int) := (layB s.1 p.1 (segN all p), putS ((p.1 : Int), (p.1 : Int) + ((segN all p).length : Nat)) s.2)
def runX (all : List Nat) (ps : List (Nat × Nat)) : List Nat × List (Int × Int) := ps.foldl (stpX all) (List.replicate all.length 0, [])
theorem runX_app (all : List Nat) (ps : List (Nat × Nat)) (p : Nat × Nat) : runX all (ps ++ [p]) = stpX all (runX all ps) p := by simp [runX, List.foldl_append]
def coverS (ps : List (Nat × Nat)) (k : Int) : Bool := ps.any fun p => decide ((p.1 : Int) ≤ k ∧ k < (p.2 : Int))
theorem coverS_app (ps qs : List (Nat × Nat)) (k : Int) : coverS (ps ++ qs) k = (coverS ps k || coverS qs k) := by simp [coverS, List.any_append]
theorem coverS_one (p : Nat × Nat) (k : Int) : coverS [p] k = decide ((p.1 : Int) ≤ k ∧ k < (p.2 : Int)) := by simp [coverS]
/-- What stands behind pieces of bytes. -/
structure GoodX (all : List Nat) (ps : List (Nat × Nat)) (s : List Nat × List (Int × Int)) : Prop where
  len : s.1.length = all.length
  right : rightX s.1 s.2 = true
  mem : ∀ k, memS s.2 k = coverS ps k
  same : ∀ k : Nat, memS s.2 k = true → s.1.getD k 0 = all.getD k 0
theorem GoodX.noclash {all : List Nat} {ps : List (Nat × Nat)} {s : List Nat × List (Int × Int)} (h : GoodX all ps s) {p : Nat × Nat} (hp : PcOk all.length p) (k : Nat) (h1 : p.1 ≤ k) (h2 : k < p.1 + (segN all p).length) (h3 : memS s.2 k = true) : s.1.getD k 0 = (segN all p).getD (k - p.1) 0 := by
  rw [segN_len (Nat.le_of_lt hp.1) hp.2.1] at h2
  rw [segN_get (by omega), h.same k h3, show p.1 + (k - p.1) = k by omega]
theorem GoodX.step {all : List Nat} {ps : List (Nat × Nat)} {s : List Nat × List (Int × Int)} (h : GoodX all ps s) {p : Nat × Nat} (hp : PcOk all.length p) : GoodX all (ps ++ [p]) (stpX all s p) := by
  have hl := segN_len (Nat.le_of_lt hp.1) hp.2.1
  have h1 : 1 ≤ (segN all p).length := by rw [hl]; have := hp.1; omega
  have h3 : p.1 + (segN all p).length ≤ s.1.length := by rw [hl, h.len]; have := hp.1; have := hp.2.1; omega
  have e : (p.1 : Int) + ((segN all p).length : Nat) = (p.2 : Int) := by rw [hl]; have := hp.1; omega
  refine ⟨(layB_len h3).trans h.len, putX_right h.right h1 h3, fun k => ?_, fun k hk => ?_⟩
  · show memS (putS _ s.2) k = _
    rw [putS_memX h.right p.1 _ h1, coverS_app, coverS_one, h.mem, e, Bool.or_comm]
  · show (layB s.1 p.1 (segN all p)).getD k 0 = _
    have hk' : memS (putS ((p.1 : Int), (p.1 : Int) + ((segN all p).length : Nat)) s.2) k = true := hk
    rw [putS_memX h.right p.1 _ h1, Bool.or_eq_true, decide_eq_true_eq] at hk'
    rw [layB_get h3]
    split
    · rename_i hq
      rw [hl] at hq
      rw [segN_get (by omega), show p.1 + (k - p.1) = k by omega]
    · exact h.same k (hk'.resolve_left (by omega))
theorem runX_nil {all : List Nat} (hn : all.length ≤ 65536) : GoodX all [] (runX all []) := ⟨by simp [runX], rightX_begin _ hn, fun k => rfl, fun k hk => by cases hk⟩
theorem runX_good {all : List Nat} (hn : all.length ≤ 65536) (ps : List (Nat × Nat)) : (∀ p ∈ ps, PcOk all.length p) → GoodX all ps (runX all ps) := by
  suffices ∀ (qs : List (Nat × Nat)) (rs : List (Nat × Nat)), (∀ p ∈ qs, PcOk all.length p) → GoodX all rs (runX all rs) → GoodX all (rs ++ qs) (runX all (rs ++ qs)) from fun h => by simpa using this ps [] h (runX_nil hn)
  intro qs
  induction qs with
  | nil => intro rs _ h; simpa using h
  | cons q qs ih =>
    intro rs hq h
    have := ih (rs ++ [q]) (fun p hp => hq p (List.mem_cons_of_mem _ hp)) (by rw [runX_app]; exact h.step (hq q (List.mem_cons_self ..)))
    simpa using this
/-- a piece of the same bytes goes in -/
theorem runX_put {all : List Nat} (hn : all.length ≤ 65536) {ps : List (Nat × Nat)} (hps : ∀ p ∈ ps, PcOk all.length p) {p : Nat × Nat} (hp : PcOk all.length p) :
    putX (runX all ps).1 (runX all ps).2 p.1 (segN all p) = ((runX all (ps ++ [p])).1, (runX all (ps ++ [p])).2, 0) := by
  have h := runX_good hn ps hps
  have hl := segN_len (Nat.le_of_lt hp.1) hp.2.1
  rw [putX_ok h.right (by rw [hl]; have := hp.1; omega) (by rw [hl]; exact hp.2.2) (by rw [hl, h.len]; have := hp.1; have := hp.2.1; omega) (fun k h1 h2 h3 => h.noclash hp k h1 h2 h3), runX_app]
  rfl
/-- What is there tells it all. -/
theorem GoodX.ext {all : List Nat} {ps qs : List (Nat × Nat)} {s t : List Nat × List (Int × Int)} (h : GoodX all ps s) (g : GoodX all qs t) (hc : ∀ k : Int, coverS ps k = coverS qs k) : s = t := by
  have hm : ∀ k, memS s.2 k = memS t.2 k := fun k => by rw [h.mem, g.mem, hc]
  have e2 : s.2 = t.2 := canonS_ext (rightX_can h.right) (by have := rightX_can g.right; rwa [g.len, ← h.len] at this) hm
  have e1 : s.1 = t.1 := list_ext0 (h.len.trans g.len.symm) fun j _ => by
    cases hj : memS s.2 j with
    | true => rw [h.same j hj, g.same j (by rw [← hm]; exact hj)]
    | false => rw [rightX_zero h.right hj, rightX_zero g.right (by rw [← hm]; exact hj)]
  exact Prod.ext e1 e2
/-! ### the piece that numbers tell -/
def cutF (n : Nat) (a : Int) : Nat := (a % n).toNat
def cutT (n : Nat) (a m : Int) : Nat := min (cutF n a + 1 + (m % 512).toNat) n
theorem cutP_ok {n : Nat} (hn : 1 ≤ n) (a m : Int) : PcOk n (cutF n a, cutT n a m) := by
  have h1 := Int.emod_nonneg a (show (n : Int) ≠ 0 by omega)
  have h2 := Int.emod_lt_of_pos a (show 0 < (n : Int) by omega)
  have h3 := Int.emod_nonneg m (show (512 : Int) ≠ 0 by omega)
  have h4 := Int.emod_lt_of_pos m (show 0 < (512 : Int) by omega)
  unfold PcOk cutT cutF
  simp only []
  omega
/-- whole numbers' rest, as the machine reckons it -/
theorem tmod_emod (a : Int) (n : Nat) (hn : 1 ≤ n) : (if a.tmod n < 0 then a.tmod n + n else a.tmod n) = ((a % n).toNat : Int) := by
  have h0 := Int.emod_nonneg a (show (n : Int) ≠ 0 by omega)
  rw [Int.toNat_of_nonneg h0]
  have h1 : a.tmod n = a - n * a.tdiv n := by have := Int.mul_tdiv_add_tmod a n; omega
  have h2 : -(n : Int) < a.tmod n ∧ a.tmod n < n := by
    have := Int.tmod_lt_of_pos a (show 0 < (n : Int) by omega)
    have h3 := Int.tmod_lt_of_pos (-a) (show 0 < (n : Int) by omega)
    rw [Int.neg_tmod] at h3
    omega
  have key : ∀ x : Int, 0 ≤ x → x < n → (∃ q, a = n * q + x) → x = a % n := by
    rintro x hx0 hx1 ⟨q, hq⟩
    rw [hq, Int.add_comm, Int.add_mul_emod_self_left, Int.emod_eq_of_lt hx0 hx1]
  split
  · refine key _ (by omega) (by omega) ⟨a.tdiv n - 1, ?_⟩
    rw [Int.mul_sub]; omega
  · exact key _ (by omega) (by omega) ⟨a.tdiv n, by omega⟩
end Go.Proofs.Ytanggdnmoaflfaa
