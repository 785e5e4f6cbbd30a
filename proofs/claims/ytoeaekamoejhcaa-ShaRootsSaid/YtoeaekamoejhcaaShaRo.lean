/-
  ShaRoots: the walk.
-/
import Derived.Test.YtoeaekamoejhcaaShaAw
import Derived.Test.YtoeaekamoejhcaaShaEv
namespace Go.Proofs.Ytoeaekamoejhcaa
open Go.RowKit
set_option linter.unusedVariables false
set_option linter.unusedSimpArgs false
set_option maxRecDepth 100000
attribute [local irreducible] wpList Code.wp wpAnyZ

theorem cube_any (c p : Nat) (hc : c < 18446744073709551616) (hp : p < 18446744073709551616) (w : World) :
    Calls Try.prog 46 #[.int .u64 ((c : Nat) : Int), .int .u64 ((p : Nat) : Int)] w fun e w' => e = .returned (.bool (belowN c p true)) ∧ w' = w := by
  unfold belowN
  go_enter Try.func46, Try.ntmps46
  refine wp_seq_k fun K1 hK1 => ?_
  refine cPlain ?_
  refine sv 4 (.bool false) .of ?_
  simp only [List.set_cons_zero, List.set_cons_succ]
  refine wpList_nil ?_
  refine hK1 _ _ ?_
  refine wp_seq_k fun K2 hK2 => ?_
  refine cPlain ?_
  refine sv 10 (.int .u64 ((c : Nat) : Int)) .of ?_
  simp only [List.set_cons_zero, List.set_cons_succ]
  refine sv 11 (.int .u64 ((c : Nat) : Int)) .of ?_
  simp only [List.set_cons_zero, List.set_cons_succ]
  refine xCall 12 47 #[.int .u64 ((c : Nat) : Int), .int .u64 ((c : Nat) : Int)] (by kernel_rfl) ?_
  refine (mul_any (c) (c) hc hc w).mono ?_
  rintro en w1 ⟨rfl, hw⟩
  obtain rfl := (hw).symm
  refine ⟨.tuple #[.int .u64 ((mulHi c c : Nat) : Int), .int .u64 ((mulLo c c : Nat) : Int)], rfl, ?_⟩
  simp only [List.set_cons_zero, List.set_cons_succ]
  refine sv 9 (.tuple #[.int .u64 ((mulHi c c : Nat) : Int), .int .u64 ((mulLo c c : Nat) : Int)]) .of ?_
  simp only [List.set_cons_zero, List.set_cons_succ]
  refine sv 13 (.int .u64 ((mulHi c c : Nat) : Int)) .of ?_
  simp only [List.set_cons_zero, List.set_cons_succ]
  refine sv 14 (.int .u64 ((mulLo c c : Nat) : Int)) .of ?_
  simp only [List.set_cons_zero, List.set_cons_succ]
  refine sv 5 (.int .u64 ((mulHi c c : Nat) : Int)) .of ?_
  simp only [List.set_cons_zero, List.set_cons_succ]
  refine sv 6 (.int .u64 ((mulLo c c : Nat) : Int)) .of ?_
  simp only [List.set_cons_zero, List.set_cons_succ]
  refine wpList_nil ?_
  refine hK2 _ _ ?_
  refine wp_seq_k fun K3 hK3 => ?_
  refine cPlain ?_
  refine sv 16 (.int .u64 ((mulLo c c : Nat) : Int)) .of ?_
  simp only [List.set_cons_zero, List.set_cons_succ]
  refine sv 17 (.int .u64 ((c : Nat) : Int)) .of ?_
  simp only [List.set_cons_zero, List.set_cons_succ]
  refine xCall 18 47 #[.int .u64 ((mulLo c c : Nat) : Int), .int .u64 ((c : Nat) : Int)] (by kernel_rfl) ?_
  refine (mul_any (mulLo c c) (c) (mulLo_lt _ _) hc w).mono ?_
  rintro en w2 ⟨rfl, hw⟩
  obtain rfl := (hw).symm
  refine ⟨.tuple #[.int .u64 ((mulHi (mulLo c c) c : Nat) : Int), .int .u64 ((mulLo (mulLo c c) c : Nat) : Int)], rfl, ?_⟩
  simp only [List.set_cons_zero, List.set_cons_succ]
  refine sv 15 (.tuple #[.int .u64 ((mulHi (mulLo c c) c : Nat) : Int), .int .u64 ((mulLo (mulLo c c) c : Nat) : Int)]) .of ?_
  simp only [List.set_cons_zero, List.set_cons_succ]
  refine sv 19 (.int .u64 ((mulHi (mulLo c c) c : Nat) : Int)) .of ?_
  simp only [List.set_cons_zero, List.set_cons_succ]
  refine sv 20 (.int .u64 ((mulLo (mulLo c c) c : Nat) : Int)) .of ?_
  simp only [List.set_cons_zero, List.set_cons_succ]
  refine sv 7 (.int .u64 ((mulHi (mulLo c c) c : Nat) : Int)) .of ?_
  simp only [List.set_cons_zero, List.set_cons_succ]
  refine sv 8 (.int .u64 ((mulLo (mulLo c c) c : Nat) : Int)) .of ?_
  simp only [List.set_cons_zero, List.set_cons_succ]
  refine wpList_nil ?_
  refine hK3 _ _ ?_
  refine wp_seq_k fun K4 hK4 => ?_
  refine cPlain ?_
  refine sv 21 (.int .u64 ((mulHi c c : Nat) : Int)) .of ?_
  simp only [List.set_cons_zero, List.set_cons_succ]
  refine sv 22 (.int .u64 ((c : Nat) : Int)) .of ?_
  simp only [List.set_cons_zero, List.set_cons_succ]
  refine sv 23 (.int .u64 ((((mulHi c c) * c) % 18446744073709551616 : Nat) : Int)) (Val.mulN 87 _ (.tmp 21) (.tmp 22) rfl .u64 (mulHi c c) c 18446744073709551616 (by kernel_rfl) (by kernel_rfl)) ?_
  simp only [List.set_cons_zero, List.set_cons_succ]
  refine sv 24 (.int .u64 ((mulHi (mulLo c c) c : Nat) : Int)) .of ?_
  simp only [List.set_cons_zero, List.set_cons_succ]
  refine sv 25 (.int .u64 ((hi3 c : Nat) : Int)) (Val.asN (Val.addN 87 _ (.tmp 23) (.tmp 24) rfl .u64 (((mulHi c c) * c) % 18446744073709551616) (mulHi (mulLo c c) c) 18446744073709551616 (by kernel_rfl) (by kernel_rfl)) rfl) ?_
  simp only [List.set_cons_zero, List.set_cons_succ]
  refine sv 5 (.int .u64 ((hi3 c : Nat) : Int)) .of ?_
  simp only [List.set_cons_zero, List.set_cons_succ]
  refine wpList_nil ?_
  refine hK4 _ _ ?_
  refine wp_seq_k fun K5 hK5 => ?_
  refine cPlain ?_
  refine sv 26 (.int .u64 ((hi3 c : Nat) : Int)) .of ?_
  simp only [List.set_cons_zero, List.set_cons_succ]
  refine sv 27 (.int .u64 ((p : Nat) : Int)) .of ?_
  simp only [List.set_cons_zero, List.set_cons_succ]
  refine sv 28 (.int .u64 ((lim3 p : Nat) : Int)) (Val.asN (Val.shlN 87 _ (.tmp 27) _ rfl .u64 .u64 p 32 18446744073709551616 (by kernel_rfl) (by kernel_rfl)) rfl) ?_
  simp only [List.set_cons_zero, List.set_cons_succ]
  refine sv 29 (.bool (decide (((hi3 c : Nat) : Int) < ((lim3 p : Nat) : Int)))) (Val.cmp .lss 87 _ (.tmp 26) (.tmp 28) rfl .u64 ((hi3 c : Nat) : Int) ((lim3 p : Nat) : Int) (by kernel_rfl) (by kernel_rfl) (by simp) _ rfl) ?_
  simp only [List.set_cons_zero, List.set_cons_succ]
  refine sv 30 (.bool (decide (((hi3 c : Nat) : Int) < ((lim3 p : Nat) : Int)))) .of ?_
  simp only [List.set_cons_zero, List.set_cons_succ]
  by_cases g31 : ((hi3 c : Nat) : Int) < ((lim3 p : Nat) : Int)
  · skip
    have dg31 : decide (((hi3 c : Nat) : Int) < ((lim3 p : Nat) : Int)) = true := decide_eq_true g31
    simp only [dg31]
    clear dg31
    refine xSkip 31 ?_
    simp only [List.set_cons_zero, List.set_cons_succ]
    refine xSkip 32 ?_
    simp only [List.set_cons_zero, List.set_cons_succ]
    refine xSkip 33 ?_
    simp only [List.set_cons_zero, List.set_cons_succ]
    refine xSkip 34 ?_
    simp only [List.set_cons_zero, List.set_cons_succ]
    refine xSkip 35 ?_
    simp only [List.set_cons_zero, List.set_cons_succ]
    refine xSkip 36 ?_
    simp only [List.set_cons_zero, List.set_cons_succ]
    refine xSkip 37 ?_
    simp only [List.set_cons_zero, List.set_cons_succ]
    refine xSkip 38 ?_
    simp only [List.set_cons_zero, List.set_cons_succ]
    refine sv 39 (.bool true) .of ?_
    simp only [List.set_cons_zero, List.set_cons_succ]
    refine sv 4 (.bool true) .of ?_
    simp only [List.set_cons_zero, List.set_cons_succ]
    refine wpList_nil ?_
    refine hK5 _ _ ?_
    refine wp_ret ?_
    (try simp only [Exit.then, Exit.inBlock])
    refine bodyPost_ret (v := .bool true) rT rfl ?_
    first | rw [belowV_1 g31] | rw [belowV_2 g31 g36] | rw [belowV_3 g31 g36]
    exact ⟨rfl, rfl⟩
  · skip
    have dg31 : decide (((hi3 c : Nat) : Int) < ((lim3 p : Nat) : Int)) = false := decide_eq_false g31
    simp only [dg31]
    clear dg31
    refine sv 31 (.int .u64 ((hi3 c : Nat) : Int)) .of ?_
    simp only [List.set_cons_zero, List.set_cons_succ]
    refine sv 32 (.int .u64 ((p : Nat) : Int)) .of ?_
    simp only [List.set_cons_zero, List.set_cons_succ]
    refine sv 33 (.int .u64 ((lim3 p : Nat) : Int)) (Val.asN (Val.shlN 87 _ (.tmp 32) _ rfl .u64 .u64 p 32 18446744073709551616 (by kernel_rfl) (by kernel_rfl)) rfl) ?_
    simp only [List.set_cons_zero, List.set_cons_succ]
    refine sv 34 (.bool (decide (((hi3 c : Nat) : Int) = ((lim3 p : Nat) : Int)))) (Val.cmp .eql 87 _ (.tmp 31) (.tmp 33) rfl .u64 ((hi3 c : Nat) : Int) ((lim3 p : Nat) : Int) (by kernel_rfl) (by kernel_rfl) (by simp) _ rfl) ?_
    simp only [List.set_cons_zero, List.set_cons_succ]
    refine sv 35 (.bool (decide (((hi3 c : Nat) : Int) = ((lim3 p : Nat) : Int)))) .of ?_
    simp only [List.set_cons_zero, List.set_cons_succ]
    by_cases g36 : ((hi3 c : Nat) : Int) = ((lim3 p : Nat) : Int)
    · skip
      have dg36 : decide (((hi3 c : Nat) : Int) = ((lim3 p : Nat) : Int)) = true := decide_eq_true g36
      simp only [dg36]
      clear dg36
      refine sv 36 (.int .u64 ((mulLo (mulLo c c) c : Nat) : Int)) .of ?_
      simp only [List.set_cons_zero, List.set_cons_succ]
      refine sv 37 (.bool (decide (((mulLo (mulLo c c) c : Nat) : Int) = 0))) (Val.cmp .eql 87 _ (.tmp 36) _ rfl .u64 ((mulLo (mulLo c c) c : Nat) : Int) 0 (by kernel_rfl) (by kernel_rfl) (by simp) _ rfl) ?_
      simp only [List.set_cons_zero, List.set_cons_succ]
      refine sv 38 (.bool (decide (((mulLo (mulLo c c) c : Nat) : Int) = 0))) .of ?_
      simp only [List.set_cons_zero, List.set_cons_succ]
      refine sv 39 (.bool (decide (((mulLo (mulLo c c) c : Nat) : Int) = 0))) .of ?_
      simp only [List.set_cons_zero, List.set_cons_succ]
      refine sv 4 (.bool (decide (((mulLo (mulLo c c) c : Nat) : Int) = 0))) .of ?_
      simp only [List.set_cons_zero, List.set_cons_succ]
      refine wpList_nil ?_
      refine hK5 _ _ ?_
      refine wp_ret ?_
      (try simp only [Exit.then, Exit.inBlock])
      refine bodyPost_ret (v := .bool (decide (((mulLo (mulLo c c) c : Nat) : Int) = 0))) rT rfl ?_
      first | rw [belowV_1 g31] | rw [belowV_2 g31 g36] | rw [belowV_3 g31 g36]
      exact ⟨rfl, rfl⟩
    · skip
      have dg36 : decide (((hi3 c : Nat) : Int) = ((lim3 p : Nat) : Int)) = false := decide_eq_false g36
      simp only [dg36]
      clear dg36
      refine xSkip 36 ?_
      simp only [List.set_cons_zero, List.set_cons_succ]
      refine xSkip 37 ?_
      simp only [List.set_cons_zero, List.set_cons_succ]
      refine sv 38 (.bool false) .of ?_
      simp only [List.set_cons_zero, List.set_cons_succ]
      refine sv 39 (.bool false) .of ?_
      simp only [List.set_cons_zero, List.set_cons_succ]
      refine sv 4 (.bool false) .of ?_
      simp only [List.set_cons_zero, List.set_cons_succ]
      refine wpList_nil ?_
      refine hK5 _ _ ?_
      refine wp_ret ?_
      (try simp only [Exit.then, Exit.inBlock])
      refine bodyPost_ret (v := .bool false) rT rfl ?_
      first | rw [belowV_1 g31] | rw [belowV_2 g31 g36] | rw [belowV_3 g31 g36]
      exact ⟨rfl, rfl⟩

theorem divs_take {p k : Nat} {qs : List Nat} (hk : k < qs.length) : divs p (qs.take (k + 1)) = (divs p (qs.take k) || decide (p % qs.getD k 0 = 0)) := by
  unfold divs
  rw [List.take_add_one, List.any_append, List.getElem?_eq_getElem hk, List.getD_eq_getElem?_getD, List.getElem?_eq_getElem hk]
  simp
theorem divs_T {p k : Nat} {qs : List Nat} (hk : k < qs.length) (g : divs p (qs.take k) = false) : decide (¬ (((p % qs.getD k 0 : Nat) : Int) = 0)) = decide (divs p (qs.take (k + 1)) = false) := by
  rw [divs_take hk, g]
  generalize p % qs.getD k 0 = r
  by_cases h : r = 0
  · subst h; simp
  · simp [h]
theorem divs_F {p k : Nat} {qs : List Nat} (hk : k < qs.length) (g : ¬ divs p (qs.take k) = false) : false = decide (divs p (qs.take (k + 1)) = false) := by
  rw [divs_take hk, show divs p (qs.take k) = true by simpa using g]
  simp
/-- The primes, written out. -/
def prL : List Nat := [2, 3, 5, 7, 11, 13, 17, 19, 23, 29, 31, 37, 41, 43, 47, 53, 59, 61, 67, 71, 73, 79, 83, 89, 97, 101, 103, 107, 109, 113, 127, 131, 137, 139, 149, 151, 157, 163, 167, 173, 179, 181, 191, 193, 197, 199, 211, 223, 227, 229, 233, 239, 241, 251, 257, 263, 269, 271, 277, 281, 283, 293, 307, 311]
theorem prN_0 : nn (prN 0) = [] := rfl
theorem prN_eq : prN 310 = prL := by kernel_rfl
/-- A whole number with a word of the table behind the point. -/
def kC (a j : Nat) : Nat := (((a <<< 32) % 18446744073709551616) ||| ((tabL.getD j 0) % 18446744073709551616)) % 18446744073709551616
def c1 (c : Nat) : Nat := (c + 1) % 18446744073709551616
def okThird (m a : Nat) : Bool := !(decide (1 ≤ a) && decide (a * a * a ≤ prL.getD m 0) && decide (prL.getD m 0 < (a + 1) * (a + 1) * (a + 1))) || (belowN (kC a (8 + m)) (prL.getD m 0) true && !(belowN (c1 (kC a (8 + m))) (prL.getD m 0) true))
def okSecond (m b : Nat) : Bool := !(decide (1 ≤ b) && decide (b * b ≤ prL.getD m 0) && decide (prL.getD m 0 < (b + 1) * (b + 1))) || (decide (mulHi (kC b m) (kC b m) < prL.getD m 0) && (decide (mulHi (c1 (kC b m)) (c1 (kC b m)) = prL.getD m 0) && decide (0 < mulLo (c1 (kC b m)) (c1 (kC b m)))))
theorem thirds : ((List.range 64).all fun m => (List.range 7).all fun a => okThird m a) = true := by kernel_rfl
theorem seconds : ((List.range 8).all fun m => (List.range 18).all fun b => okSecond m b) = true := by kernel_rfl
theorem third_of {m a : Nat} (hm : m < 64) (ha : a < 7) (h1 : 1 ≤ a) (h2 : a * a * a ≤ prL.getD m 0) (h3 : prL.getD m 0 < (a + 1) * (a + 1) * (a + 1)) : belowN (kC a (8 + m)) (prL.getD m 0) true = true ∧ belowN (c1 (kC a (8 + m))) (prL.getD m 0) true = false := by
  have h := List.all_eq_true.1 (List.all_eq_true.1 thirds m (List.mem_range.2 hm)) a (List.mem_range.2 ha)
  unfold okThird at h
  rw [decide_eq_true h1, decide_eq_true h2, decide_eq_true h3] at h
  simpa using h
theorem second_of {m b : Nat} (hm : m < 8) (hb : b < 18) (h1 : 1 ≤ b) (h2 : b * b ≤ prL.getD m 0) (h3 : prL.getD m 0 < (b + 1) * (b + 1)) : mulHi (kC b m) (kC b m) < prL.getD m 0 ∧ mulHi (c1 (kC b m)) (c1 (kC b m)) = prL.getD m 0 ∧ 0 < mulLo (c1 (kC b m)) (c1 (kC b m)) := by
  have h := List.all_eq_true.1 (List.all_eq_true.1 seconds m (List.mem_range.2 hm)) b (List.mem_range.2 hb)
  unfold okSecond at h
  rw [decide_eq_true h1, decide_eq_true h2, decide_eq_true h3] at h
  simpa using h
theorem kC_lt (a j : Nat) : kC a j < 18446744073709551616 := Nat.mod_lt _ (by decide)
theorem c1_lt (c : Nat) : c1 c < 18446744073709551616 := Nat.mod_lt _ (by decide)
theorem prL_le (m : Nat) : prL.getD m 0 ≤ 311 := by
  have h : ∀ q ∈ prL, q ≤ 311 := by decide
  rw [List.getD_eq_getElem?_getD]
  cases e : prL[m]? with
  | none => simp
  | some x => exact h x (List.mem_of_getElem? e)
theorem prL_ge {m : Nat} (hm : m < 64) : 2 ≤ prL.getD m 0 := by
  have h : ∀ q ∈ prL, 2 ≤ q := by decide
  rw [List.getD_eq_getElem?_getD, List.getElem?_eq_getElem (show m < prL.length from hm)]
  exact h _ (List.getElem_mem _)
theorem tabL_len' : tabL.length = 72 := by kernel_rfl
theorem mod3 {a : Nat} (h : a ≤ 17) : ((a + 1) * (a + 1) * (a + 1)) % 18446744073709551616 = (a + 1) * (a + 1) * (a + 1) := by
  refine Nat.mod_eq_of_lt (Nat.lt_of_le_of_lt (Nat.mul_le_mul (Nat.mul_le_mul (show a + 1 ≤ 18 by omega) (show a + 1 ≤ 18 by omega)) (show a + 1 ≤ 18 by omega)) (by decide))
theorem mod2 {a : Nat} (h : a ≤ 17) : ((a + 1) * (a + 1)) % 18446744073709551616 = (a + 1) * (a + 1) := by
  refine Nat.mod_eq_of_lt (Nat.lt_of_le_of_lt (Nat.mul_le_mul (show a + 1 ≤ 18 by omega) (show a + 1 ≤ 18 by omega)) (by decide))
theorem third_le {a p : Nat} (h : (a + 1) * (a + 1) * (a + 1) ≤ p) (hp : p ≤ 311) (ha : a ≤ 6) : a + 1 ≤ 6 := by
  rcases (by omega : a ≤ 5 ∨ a = 6) with h1 | h1
  · omega
  · subst h1; omega
theorem second_le {b p : Nat} (h : (b + 1) * (b + 1) ≤ p) (hp : p ≤ 311) (hb : b ≤ 17) : b + 1 ≤ 17 := by
  rcases (by omega : b ≤ 16 ∨ b = 17) with h1 | h1
  · omega
  · subst h1; omega
attribute [local irreducible] kC belowN mulHi mulLo prN prL c1 tabL
set_option maxHeartbeats 4000000 in
theorem shaRoots_walk (n : Nat) (hn : n < 256) (w : World) :
    Calls Try.prog 12 #[.int .u8 ((n : Nat) : Int)] w fun e w' => e = .returned (.bool true) ∧ Below w.heap.size w w' := by
  have BL := Bl.refl w
  have htl := tabL_len'
  have hm64 : n % 64 < 64 := Nat.mod_lt _ (by decide)
  have hple := prL_le (n % 64)
  have hpge := prL_ge hm64
  have hpl64 : prL.getD (n % 64) 0 < 18446744073709551616 := by omega
  go_enter Try.func12, Try.ntmps12
  refine wp_seq_k fun K1 hK1 => ?_
  refine cPlain ?_
  refine sv 2 (.bool false) .of ?_
  simp only [List.set_cons_zero, List.set_cons_succ]
  refine wpList_nil ?_
  refine hK1 _ _ ?_
  refine wp_seq_k fun K2 hK2 => ?_
  refine cPlain ?_
  refine xCall 17 28 #[] (by kernel_rfl) ?_
  refine (table_any w).mono ?_
  rintro en w1 ⟨he, hb1⟩
  rw [tableN_eq] at he
  subst he
  have e1 := belE0 hb1
  have ze1 := e1.size
  replace BL := BL.e0 e1
  clear e1
  refine ⟨.agg (cellsOf .u32 (nn tabL)), rfl, ?_⟩
  simp only [List.set_cons_zero, List.set_cons_succ]
  refine xAlloc 3 61 ((nn (List.replicate 72 0)).map (Value.int .u32)) rfl (by kernel_rfl) ?_
  intro w2 n1
  have zn1 := n1.z
  have b3 := n1.c
  replace b3 : Blk .u32 w2 w1.heap.size 61 (nn (List.replicate 72 0)) := b3
  replace BL := BL.e0 n1.e
  simp only [List.set_cons_zero, List.set_cons_succ]
  refine xStoreA 61 (.tmp 3) (.tmp 17) rfl .u32 w1.heap.size 61 (nn (List.replicate 72 0)) 0 (nn tabL) (by kernel_rfl) (by kernel_rfl) b3 (by rw [show (nn tabL).length = 72 by ((try simp only [nn_len, List.length_cons, List.length_nil, List.length_set, List.length_replicate]); try omega)]; kernel_rfl) (by (try simp only [nn_len, List.length_cons, List.length_nil, List.length_set, List.length_replicate]); try omega) (nn tabL) (over_whole _ _ (by (try simp only [nn_len, List.length_cons, List.length_nil, List.length_set, List.length_replicate]); try omega)) ?_
  intro w3 t1
  have zt1 := t1.z
  have BL_ := BL.ev t1.e (fun i h => show w.heap.size ≤ i by have h : i = w1.heap.size := h; omega)
  replace BL := BL_; clear BL_
  replace b3 : Blk .u32 w3 w1.heap.size 61 (nn tabL) := t1.c
  clear t1
  refine wpList_nil ?_
  refine hK2 _ _ ?_
  refine wp_seq_k fun K3 hK3 => ?_
  refine cPlain ?_
  refine sv 4 (.slice none 0 0) .of ?_
  simp only [List.set_cons_zero, List.set_cons_succ]
  refine wpList_nil ?_
  refine hK3 _ _ ?_
  refine wp_seq_k fun K4 hK4 => ?_
  refine wp_seq_k fun K5 hK5 => ?_
  refine cPlain ?_
  refine sv 5 (.int .u64 2) .of ?_
  simp only [List.set_cons_zero, List.set_cons_succ]
  refine wpList_nil ?_
  refine hK5 _ _ ?_
  refine wp_block ?_
  refine cLoop (fun N_ A_ w_ => ∃ (i : Nat) (u : Value), (N_ = 310 - i ∧ (i ≤ 310) ∧ (∃ s1 : Nat → Value, A_ = ⟨[.int .u8 ((n : Nat) : Int), undef, .bool false, .pointer (some ⟨w1.heap.size, 0, none⟩), u, .int .u64 ((i + 2 : Nat) : Int), (s1 6), undef, (s1 8), undef, undef, undef, undef, undef, undef, undef, undef, .agg (cellsOf .u32 (nn tabL)), (s1 18), (s1 19), (s1 20), (s1 21), (s1 22), (s1 23), (s1 24), (s1 25), (s1 26), (s1 27), (s1 28), (s1 29), (s1 30), (s1 31), (s1 32), (s1 33), (s1 34), (s1 35), (s1 36), (s1 37), (s1 38), (s1 39), (s1 40), (s1 41), undef, undef, undef, undef, undef, undef, undef, undef, undef, undef, undef, undef, undef, undef, undef, undef, undef, undef, undef, undef, undef, undef, undef, undef, undef, undef, undef, undef, undef, undef, undef, undef, undef, undef, undef, undef, undef, undef, undef, undef, undef, undef, undef, undef, undef, undef, undef, undef, undef, undef, undef, undef, undef, undef, undef, undef, undef, undef, undef, undef, undef, undef, undef, undef, undef, undef, undef, undef, undef, undef, undef, undef, undef, undef, undef, undef, undef, undef, undef, undef, undef, undef, undef, undef, undef, undef, undef, undef, undef, undef, undef, undef, undef, undef, undef, undef, undef, undef, undef, undef].toArray, []⟩) ∧ Bl w.heap.size w w_ ∧ Blk .u32 w_ w1.heap.size 61 (nn tabL) ∧ Own 87 .u64 (w1.heap.size + 1) w_ u (nn (prN i)) ∧ w3.heap.size ≤ w_.heap.size)) _ ⟨0, .slice none 0 0, rfl, by omega, cutE, BL, b3, ((Own.nil _ _ _ _).cast prN_0.symm), Nat.le_refl _⟩ ?_
  clear BL b3
  rintro n_ a_ wl0 ⟨i, u, rfl, hc0_0, ⟨s1, rfl⟩, BL, b3, OA, zl0⟩
  have lOA_1 := OA.ge
  have hpl := prN_le i
  refine wp_seq_k fun K6 hK6 => ?_
  refine wp_seq_k fun K7 hK7 => ?_
  refine cPlain ?_
  refine sv 18 (u) .of ?_
  simp only [List.set_cons_zero, List.set_cons_succ]
  refine sv 19 (.int .i64 (((prN i).length : Nat) : Int)) (Val.lenO (.tmp 18) 86 rfl (by kernel_rfl) OA ((prN i).length) (nn_len _) Try.underlying86) ?_
  simp only [List.set_cons_zero, List.set_cons_succ]
  refine sv 20 (.bool (decide ((((prN i).length : Nat) : Int) < 64))) (Val.cmp .lss 3 _ (.tmp 19) _ rfl .i64 (((prN i).length : Nat) : Int) 64 (by kernel_rfl) (by kernel_rfl) (by simp) _ rfl) ?_
  simp only [List.set_cons_zero, List.set_cons_succ]
  refine wpList_nil ?_
  refine hK7 _ _ ?_
  refine cDec ((((prN i).length : Nat) : Int) < 64) (by kernel_rfl) (fun c20 => ?_) (fun c20 => ?_)
  · skip
    have hi310 := prN_lt hc0_0 c20
    refine wp_skip ?_
    refine hK6 _ _ ?_
    refine wp_seq_k fun K8 hK8 => ?_
    refine wp_block ?_
    refine wp_seq_k fun K9 hK9 => ?_
    refine cPlain ?_
    refine sv 6 (.bool true) .of ?_
    simp only [List.set_cons_zero, List.set_cons_succ]
    refine wpList_nil ?_
    refine hK9 _ _ ?_
    refine wp_seq_k fun K10 hK10 => ?_
    refine wp_seq_k fun K11 hK11 => ?_
    refine cPlain ?_
    refine sv 23 (u) .of ?_
    simp only [List.set_cons_zero, List.set_cons_succ]
    refine sv 24 (.int .i64 (((prN i).length : Nat) : Int)) (Val.lenO (.tmp 23) 86 rfl (by kernel_rfl) OA ((prN i).length) (nn_len _) Try.underlying86) ?_
    simp only [List.set_cons_zero, List.set_cons_succ]
    refine sv 25 (.int .i64 0) .of ?_
    simp only [List.set_cons_zero, List.set_cons_succ]
    refine wpList_nil ?_
    refine hK11 _ _ ?_
    refine wp_block ?_
    refine cLoop (fun N_ A_ w_ => ∃ (k : Nat), (N_ = (prN i).length - k ∧ (k ≤ (prN i).length) ∧ (∃ s2 : Nat → Value, A_ = ⟨[.int .u8 ((n : Nat) : Int), undef, .bool false, .pointer (some ⟨w1.heap.size, 0, none⟩), u, .int .u64 ((i + 2 : Nat) : Int), .bool (decide (divs (i + 2) ((prN i).take k) = false)), undef, (s2 8), undef, undef, undef, undef, undef, undef, undef, undef, .agg (cellsOf .u32 (nn tabL)), u, .int .i64 (((prN i).length : Nat) : Int), .bool (decide ((((prN i).length : Nat) : Int) < 64)), (s1 21), (s1 22), u, .int .i64 (((prN i).length : Nat) : Int), .int .i64 (k : Int), (s2 26), (s2 27), (s2 28), (s2 29), (s2 30), (s2 31), (s2 32), (s2 33), (s2 34), (s2 35), (s2 36), (s1 37), (s1 38), (s1 39), (s1 40), (s1 41), undef, undef, undef, undef, undef, undef, undef, undef, undef, undef, undef, undef, undef, undef, undef, undef, undef, undef, undef, undef, undef, undef, undef, undef, undef, undef, undef, undef, undef, undef, undef, undef, undef, undef, undef, undef, undef, undef, undef, undef, undef, undef, undef, undef, undef, undef, undef, undef, undef, undef, undef, undef, undef, undef, undef, undef, undef, undef, undef, undef, undef, undef, undef, undef, undef, undef, undef, undef, undef, undef, undef, undef, undef, undef, undef, undef, undef, undef, undef, undef, undef, undef, undef, undef, undef, undef, undef, undef, undef, undef, undef, undef, undef, undef, undef, undef, undef, undef, undef, undef].toArray, []⟩) ∧ Bl w.heap.size w w_ ∧ Blk .u32 w_ w1.heap.size 61 (nn tabL) ∧ Own 87 .u64 (w1.heap.size + 1) w_ u (nn (prN i)) ∧ wl0.heap.size ≤ w_.heap.size)) _ ⟨0, rfl, by omega, cutE, BL, b3, OA, Nat.le_refl _⟩ ?_
    clear BL b3 OA
    rintro n_ a_ wl1 ⟨k, rfl, hc1_0, ⟨s2, rfl⟩, BL, b3, OA, zl1⟩
    have lOA_2 := OA.ge
    refine wp_seq_k fun K12 hK12 => ?_
    refine cPlain ?_
    refine sv 26 (.bool (decide ((k : Int) < (((prN i).length : Nat) : Int)))) (Val.cmp .lss 3 _ (.tmp 25) (.tmp 24) rfl .i64 (k : Int) (((prN i).length : Nat) : Int) (by kernel_rfl) (by kernel_rfl) (by simp) _ rfl) ?_
    simp only [List.set_cons_zero, List.set_cons_succ]
    refine wpList_nil ?_
    refine hK12 _ _ ?_
    refine wp_seq_k fun K13 hK13 => ?_
    refine cDec ((k : Int) < (((prN i).length : Nat) : Int)) (by kernel_rfl) (fun c26 => ?_) (fun c26 => ?_)
    · skip
      refine wp_skip ?_
      refine hK13 _ _ ?_
      refine wp_seq_k fun K14 hK14 => ?_
      refine wp_block ?_
      refine wp_seq_k fun K15 hK15 => ?_
      refine cPlain ?_
      refine sv 27 (elemP u k) (Val.idxE 86 (.tmp 23) (.tmp 25) rfl u k (by kernel_rfl) (by kernel_rfl) OA.sl Try.underlying86 (by kernel_rfl) (by rw [nn_len]; omega)) ?_
      simp only [List.set_cons_zero, List.set_cons_succ]
      refine sv 28 (.int .u64 (((prN i).getD k 0 : Nat) : Int)) (Val.nldE 87 _ rfl u k (by kernel_rfl) (fun _ => (by kernel_rfl)) OA.sl (by omega)) ?_
      simp only [List.set_cons_zero, List.set_cons_succ]
      refine sv 8 (.int .u64 (((prN i).getD k 0 : Nat) : Int)) .of ?_
      simp only [List.set_cons_zero, List.set_cons_succ]
      refine wpList_nil ?_
      refine hK15 _ _ ?_
      refine cPlain ?_
      refine sv 29 (.bool (decide (divs (i + 2) ((prN i).take k) = false))) .of ?_
      simp only [List.set_cons_zero, List.set_cons_succ]
      refine sv 30 (.bool (decide (divs (i + 2) ((prN i).take k) = false))) .of ?_
      simp only [List.set_cons_zero, List.set_cons_succ]
      by_cases g31 : divs (i + 2) ((prN i).take k) = false
      · skip
        have dg31 : decide (divs (i + 2) ((prN i).take k) = false) = true := decide_eq_true g31
        simp only [dg31]
        clear dg31
        refine sv 31 (.int .u64 ((i + 2 : Nat) : Int)) .of ?_
        simp only [List.set_cons_zero, List.set_cons_succ]
        refine sv 32 (.int .u64 (((prN i).getD k 0 : Nat) : Int)) .of ?_
        simp only [List.set_cons_zero, List.set_cons_succ]
        refine sv 33 (.int .u64 (((i + 2) % (prN i).getD k 0 : Nat) : Int)) (Val.remN 87 _ (.tmp 31) (.tmp 32) rfl .u64 (i + 2) ((prN i).getD k 0) (by kernel_rfl) (by kernel_rfl) (by have := prN_at i k (by omega); omega)) ?_
        simp only [List.set_cons_zero, List.set_cons_succ]
        refine sv 34 (.bool (decide (¬ ((((i + 2) % (prN i).getD k 0 : Nat) : Int) = 0)))) (Val.cmp .neq 87 _ (.tmp 33) _ rfl .u64 (((i + 2) % (prN i).getD k 0 : Nat) : Int) 0 (by kernel_rfl) (by kernel_rfl) (by simp) _ (by simp [cmpB])) ?_
        simp only [List.set_cons_zero, List.set_cons_succ]
        refine sv 35 (.bool (decide (¬ ((((i + 2) % (prN i).getD k 0 : Nat) : Int) = 0)))) .of ?_
        simp only [List.set_cons_zero, List.set_cons_succ]
        refine sv 6 (.bool (decide (divs (i + 2) ((prN i).take (k + 1)) = false))) (Val.as Val.of (congrArg Value.bool (by first | exact divs_T (by omega) g31 | exact divs_F (by omega) g31))) ?_
        simp only [List.set_cons_zero, List.set_cons_succ]
        refine wpList_nil ?_
        refine hK14 _ _ ?_
        refine cPlain ?_
        refine sv 36 (.int .i64 ((k : Int) + 1)) (Val.add 3 _ (.tmp 25) _ rfl (k : Int) 1 (by kernel_rfl) (by kernel_rfl) (by omega)) ?_
        simp only [List.set_cons_zero, List.set_cons_succ]
        refine sv 25 (.int .i64 ((k : Int) + 1)) .of ?_
        simp only [List.set_cons_zero, List.set_cons_succ]
        refine wpList_nil ?_
        refine ⟨_, ?_, k + 1, rfl, by omega, cutE, BL, b3, OA, by omega⟩
        omega
      · skip
        have dg31 : decide (divs (i + 2) ((prN i).take k) = false) = false := decide_eq_false g31
        simp only [dg31]
        clear dg31
        refine xSkip 31 ?_
        simp only [List.set_cons_zero, List.set_cons_succ]
        refine xSkip 32 ?_
        simp only [List.set_cons_zero, List.set_cons_succ]
        refine xSkip 33 ?_
        simp only [List.set_cons_zero, List.set_cons_succ]
        refine xSkip 34 ?_
        simp only [List.set_cons_zero, List.set_cons_succ]
        refine sv 35 (.bool false) .of ?_
        simp only [List.set_cons_zero, List.set_cons_succ]
        refine sv 6 (.bool (decide (divs (i + 2) ((prN i).take (k + 1)) = false))) (Val.as Val.of (congrArg Value.bool (by first | exact divs_T (by omega) g31 | exact divs_F (by omega) g31))) ?_
        simp only [List.set_cons_zero, List.set_cons_succ]
        refine wpList_nil ?_
        refine hK14 _ _ ?_
        refine cPlain ?_
        refine sv 36 (.int .i64 ((k : Int) + 1)) (Val.add 3 _ (.tmp 25) _ rfl (k : Int) 1 (by kernel_rfl) (by kernel_rfl) (by omega)) ?_
        simp only [List.set_cons_zero, List.set_cons_succ]
        refine sv 25 (.int .i64 ((k : Int) + 1)) .of ?_
        simp only [List.set_cons_zero, List.set_cons_succ]
        refine wpList_nil ?_
        refine ⟨_, ?_, k + 1, rfl, by omega, cutE, BL, b3, OA, by omega⟩
        omega
    · skip
      refine wp_exit ?_
      simp only [Exit.then, Exit.inBlock, ↓reduceIte, Nat.reduceEqDiff]
      refine hK10 _ _ ?_
      refine wp_seq_k fun K16 hK16 => ?_
      refine cPlain ?_
      refine sv 37 (.bool (decide (divs (i + 2) ((prN i).take k) = false))) .of ?_
      simp only [List.set_cons_zero, List.set_cons_succ]
      refine wpList_nil ?_
      refine hK16 _ _ ?_
      refine cDec (divs (i + 2) ((prN i).take k) = false) (by kernel_rfl) (fun c37 => ?_) (fun c37 => ?_)
      · skip
        have h37 : divs (i + 2) (prN i) = false := by rwa [List.take_of_length_le (by omega)] at c37
        refine cPlain ?_
        refine sv 38 (u) .of ?_
        simp only [List.set_cons_zero, List.set_cons_succ]
        refine sv 39 (.int .u64 ((i + 2 : Nat) : Int)) .of ?_
        simp only [List.set_cons_zero, List.set_cons_succ]
        refine xLit 40 86 87 1 _ #[(0, .int .u64 ((i + 2 : Nat) : Int))] [.int .u64 ((i + 2 : Nat) : Int)] rfl (by kernel_rfl) (by kernel_rfl) ?_
        intro w4 n2
        have zn2 := n2.z
        have b40 := n2.c
        replace b40 : Blk .u64 w4 wl1.heap.size 87 [((i + 2 : Nat) : Int)] := b40
        replace BL := BL.e0 n2.e
        replace b3 := b3.e0 n2.e
        replace OA := OA.e0 n2.e
        have sb40 : SL .u64 w4 (.slice (some ⟨wl1.heap.size, 0, none⟩) 1 1) [((i + 2 : Nat) : Int)] := SL.ofBlk b40 rfl (by unfold maxLen; omega)
        have lb40 : ∀ i, Value.ownBlock (.slice (some ⟨wl1.heap.size, 0, none⟩) 1 1) = some i → wl1.heap.size ≤ i ∧ i < w4.heap.size := ownB_lit (by omega)
        simp only [List.set_cons_zero, List.set_cons_succ]
        refine xApp 41 (.tmp 38) (.tmp 40) 86 87 .u64 8 rfl Try.underlying86 (by kernel_rfl) (w1.heap.size + 1) u (nn (prN i)) (by kernel_rfl) OA (.slice (some ⟨wl1.heap.size, 0, none⟩) 1 1) [((i + 2 : Nat) : Int)] (by kernel_rfl) sb40 ?va1_1 ?va1_2 ?va1_3 ?_
        case va1_1 => simp only [nn_len, List.length_cons, List.length_nil]; omega
        case va1_2 => simp only [nn_len, List.length_cons, List.length_nil]; unfold maxLen; omega
        case va1_3 => omega
        intro va1 w5 rva1 e2
        have ze2 := e2.size
        have BL_ := BL.ev e2 (fun i h => by have := lOA_2 _ h; omega)
        have b3_ := b3.ev e2 (fun h => by have := lOA_2 _ h; omega)
        have b40_ := b40.ev e2 (fun h => by have := lOA_2 _ h; omega)
        have sb40_ := sb40.ev e2 (fun i hi h => by have := lb40 i hi; have := lOA_2 _ h; omega)
        replace BL := BL_; clear BL_
        replace b3 := b3_; clear b3_
        replace b40 := b40_; clear b40_
        replace sb40 := sb40_; clear sb40_
        replace OA := rva1
        clear rva1 e2
        have lOA_3 := OA.ge
        simp only [List.set_cons_zero, List.set_cons_succ]
        refine sv 4 (va1) .of ?_
        simp only [List.set_cons_zero, List.set_cons_succ]
        refine wpList_nil ?_
        refine hK8 _ _ ?_
        refine cPlain ?_
        refine sv 21 (.int .u64 ((i + 2 : Nat) : Int)) .of ?_
        simp only [List.set_cons_zero, List.set_cons_succ]
        refine sv 22 (.int .u64 ((i + 3 : Nat) : Int)) (Val.asN (Val.addN 87 _ (.tmp 21) _ rfl .u64 (i + 2) 1 18446744073709551616 (by kernel_rfl) (by kernel_rfl)) (by omega)) ?_
        simp only [List.set_cons_zero, List.set_cons_succ]
        refine sv 5 (.int .u64 ((i + 3 : Nat) : Int)) .of ?_
        simp only [List.set_cons_zero, List.set_cons_succ]
        refine wpList_nil ?_
        refine ⟨_, ?_, i + 1, va1, rfl, by omega, cutE, BL, b3, (OA.cast (by first | (rw [← prN_no h37, nn_app]; rfl) | exact congrArg nn (prN_yes h37))), by omega⟩
        omega
      · skip
        have h37 : divs (i + 2) (prN i) = true := by rw [List.take_of_length_le (by omega)] at c37; simpa using c37
        refine wp_skip ?_
        refine hK8 _ _ ?_
        refine cPlain ?_
        refine sv 21 (.int .u64 ((i + 2 : Nat) : Int)) .of ?_
        simp only [List.set_cons_zero, List.set_cons_succ]
        refine sv 22 (.int .u64 ((i + 3 : Nat) : Int)) (Val.asN (Val.addN 87 _ (.tmp 21) _ rfl .u64 (i + 2) 1 18446744073709551616 (by kernel_rfl) (by kernel_rfl)) (by omega)) ?_
        simp only [List.set_cons_zero, List.set_cons_succ]
        refine sv 5 (.int .u64 ((i + 3 : Nat) : Int)) .of ?_
        simp only [List.set_cons_zero, List.set_cons_succ]
        refine wpList_nil ?_
        refine ⟨_, ?_, i + 1, u, rfl, by omega, cutE, BL, b3, (OA.cast (by first | (rw [← prN_no h37, nn_app]; rfl) | exact congrArg nn (prN_yes h37))), by omega⟩
        omega
  · skip
    have hi310 := prN_end hc0_0 c20
    refine wp_exit ?_
    simp only [Exit.then, Exit.inBlock, ↓reduceIte, Nat.reduceEqDiff]
    refine hK4 _ _ ?_
    refine wp_seq_k fun K17 hK17 => ?_
    refine cPlain ?_
    refine sv 42 (.int .u8 ((n : Nat) : Int)) .of ?_
    simp only [List.set_cons_zero, List.set_cons_succ]
    refine sv 43 (.int .u8 ((n % 64 : Nat) : Int)) (Val.remN 5 _ (.tmp 42) _ rfl .u8 n 64 (by kernel_rfl) (by kernel_rfl) (by omega)) ?_
    simp only [List.set_cons_zero, List.set_cons_succ]
    refine sv 44 (.int .i64 ((n % 64 : Nat) : Int)) (Val.conv64 5 3 (.tmp 43) rfl Try.underlying5 Try.underlying3 ((n % 64 : Nat) : Int) (by kernel_rfl) (by omega)) ?_
    simp only [List.set_cons_zero, List.set_cons_succ]
    refine sv 9 (.int .i64 ((n % 64 : Nat) : Int)) .of ?_
    simp only [List.set_cons_zero, List.set_cons_succ]
    refine wpList_nil ?_
    refine hK17 _ _ ?_
    refine wp_seq_k fun K18 hK18 => ?_
    refine cPlain ?_
    refine sv 45 (u) .of ?_
    simp only [List.set_cons_zero, List.set_cons_succ]
    refine sv 46 (.int .i64 ((n % 64 : Nat) : Int)) .of ?_
    simp only [List.set_cons_zero, List.set_cons_succ]
    refine sv 47 (elemP u (n % 64)) (Val.idxE 86 (.tmp 45) (.tmp 46) rfl u (n % 64) (by kernel_rfl) (by kernel_rfl) OA.sl Try.underlying86 (by kernel_rfl) (by rw [nn_len, hi310, prN_310]; omega)) ?_
    simp only [List.set_cons_zero, List.set_cons_succ]
    refine sv 48 (.int .u64 ((prL.getD (n % 64) 0 : Nat) : Int)) (Val.asN (Val.nldE 87 _ rfl (u) (n % 64) (by kernel_rfl) (fun _ => by kernel_rfl) OA.sl (by rw [hi310, prN_310]; omega)) (by rw [hi310, prN_eq])) ?_
    simp only [List.set_cons_zero, List.set_cons_succ]
    refine sv 10 (.int .u64 ((prL.getD (n % 64) 0 : Nat) : Int)) .of ?_
    simp only [List.set_cons_zero, List.set_cons_succ]
    refine wpList_nil ?_
    refine hK18 _ _ ?_
    refine wp_seq_k fun K19 hK19 => ?_
    refine cPlain ?_
    refine sv 11 (.int .u64 1) .of ?_
    simp only [List.set_cons_zero, List.set_cons_succ]
    refine wpList_nil ?_
    refine hK19 _ _ ?_
    refine wp_seq_k fun K20 hK20 => ?_
    refine wp_block ?_
    refine cLoop (fun N_ A_ w_ => ∃ (a : Nat), (N_ = 6 - a ∧ (1 ≤ a) ∧ (a ≤ 6) ∧ (a * a * a ≤ prL.getD (n % 64) 0) ∧ (∃ s3 : Nat → Value, A_ = ⟨[.int .u8 ((n : Nat) : Int), undef, .bool false, .pointer (some ⟨w1.heap.size, 0, none⟩), u, .int .u64 ((i + 2 : Nat) : Int), (s1 6), undef, (s1 8), .int .i64 ((n % 64 : Nat) : Int), .int .u64 ((prL.getD (n % 64) 0 : Nat) : Int), .int .u64 ((a : Nat) : Int), undef, undef, undef, undef, undef, .agg (cellsOf .u32 (nn tabL)), u, .int .i64 (((prN i).length : Nat) : Int), .bool (decide ((((prN i).length : Nat) : Int) < 64)), (s1 21), (s1 22), (s1 23), (s1 24), (s1 25), (s1 26), (s1 27), (s1 28), (s1 29), (s1 30), (s1 31), (s1 32), (s1 33), (s1 34), (s1 35), (s1 36), (s1 37), (s1 38), (s1 39), (s1 40), (s1 41), .int .u8 ((n : Nat) : Int), .int .u8 ((n % 64 : Nat) : Int), .int .i64 ((n % 64 : Nat) : Int), u, .int .i64 ((n % 64 : Nat) : Int), elemP u (n % 64), .int .u64 ((prL.getD (n % 64) 0 : Nat) : Int), (s3 49), (s3 50), (s3 51), (s3 52), (s3 53), (s3 54), (s3 55), (s3 56), (s3 57), (s3 58), (s3 59), (s3 60), undef, undef, undef, undef, undef, undef, undef, undef, undef, undef, undef, undef, undef, undef, undef, undef, undef, undef, undef, undef, undef, undef, undef, undef, undef, undef, undef, undef, undef, undef, undef, undef, undef, undef, undef, undef, undef, undef, undef, undef, undef, undef, undef, undef, undef, undef, undef, undef, undef, undef, undef, undef, undef, undef, undef, undef, undef, undef, undef, undef, undef, undef, undef, undef, undef, undef, undef, undef, undef, undef, undef, undef, undef, undef, undef, undef, undef, undef, undef, undef, undef].toArray, []⟩) ∧ Bl w.heap.size w w_ ∧ Blk .u32 w_ w1.heap.size 61 (nn tabL) ∧ Own 87 .u64 (w1.heap.size + 1) w_ u (nn (prN i)) ∧ wl0.heap.size ≤ w_.heap.size)) _ ⟨1, rfl, by omega, by omega, by omega, cutE, BL, b3, OA, Nat.le_refl _⟩ ?_
    clear BL b3 OA
    rintro n_ a_ wl2 ⟨a, rfl, hc2_0, hc2_1, hc2_2, ⟨s3, rfl⟩, BL, b3, OA, zl2⟩
    have lOA_4 := OA.ge
    refine wp_seq_k fun K21 hK21 => ?_
    refine wp_seq_k fun K22 hK22 => ?_
    refine cPlain ?_
    refine sv 49 (.int .u64 ((a : Nat) : Int)) .of ?_
    simp only [List.set_cons_zero, List.set_cons_succ]
    refine sv 50 (.int .u64 ((a + 1 : Nat) : Int)) (Val.asN (Val.addN 87 _ (.tmp 49) _ rfl .u64 a 1 18446744073709551616 (by kernel_rfl) (by kernel_rfl)) (by omega)) ?_
    simp only [List.set_cons_zero, List.set_cons_succ]
    refine sv 51 (.int .u64 ((a : Nat) : Int)) .of ?_
    simp only [List.set_cons_zero, List.set_cons_succ]
    refine sv 52 (.int .u64 ((a + 1 : Nat) : Int)) (Val.asN (Val.addN 87 _ (.tmp 51) _ rfl .u64 a 1 18446744073709551616 (by kernel_rfl) (by kernel_rfl)) (by omega)) ?_
    simp only [List.set_cons_zero, List.set_cons_succ]
    refine sv 53 (.int .u64 (((a + 1) * (a + 1) : Nat) : Int)) (Val.asN (Val.mulN 87 _ (.tmp 50) (.tmp 52) rfl .u64 (a + 1) (a + 1) 18446744073709551616 (by kernel_rfl) (by kernel_rfl)) (mod2 (by omega))) ?_
    simp only [List.set_cons_zero, List.set_cons_succ]
    refine sv 54 (.int .u64 ((a : Nat) : Int)) .of ?_
    simp only [List.set_cons_zero, List.set_cons_succ]
    refine sv 55 (.int .u64 ((a + 1 : Nat) : Int)) (Val.asN (Val.addN 87 _ (.tmp 54) _ rfl .u64 a 1 18446744073709551616 (by kernel_rfl) (by kernel_rfl)) (by omega)) ?_
    simp only [List.set_cons_zero, List.set_cons_succ]
    refine sv 56 (.int .u64 (((a + 1) * (a + 1) * (a + 1) : Nat) : Int)) (Val.asN (Val.mulN 87 _ (.tmp 53) (.tmp 55) rfl .u64 ((a + 1) * (a + 1)) (a + 1) 18446744073709551616 (by kernel_rfl) (by kernel_rfl)) (mod3 (by omega))) ?_
    simp only [List.set_cons_zero, List.set_cons_succ]
    refine sv 57 (.int .u64 ((prL.getD (n % 64) 0 : Nat) : Int)) .of ?_
    simp only [List.set_cons_zero, List.set_cons_succ]
    refine sv 58 (.bool (decide ((((a + 1) * (a + 1) * (a + 1) : Nat) : Int) ≤ ((prL.getD (n % 64) 0 : Nat) : Int)))) (Val.cmp .leq 87 _ (.tmp 56) (.tmp 57) rfl .u64 (((a + 1) * (a + 1) * (a + 1) : Nat) : Int) ((prL.getD (n % 64) 0 : Nat) : Int) (by kernel_rfl) (by kernel_rfl) (by simp) _ rfl) ?_
    simp only [List.set_cons_zero, List.set_cons_succ]
    refine wpList_nil ?_
    refine hK22 _ _ ?_
    refine cDec ((((a + 1) * (a + 1) * (a + 1) : Nat) : Int) ≤ ((prL.getD (n % 64) 0 : Nat) : Int)) (by kernel_rfl) (fun c58 => ?_) (fun c58 => ?_)
    · skip
      refine wp_skip ?_
      refine hK21 _ _ ?_
      refine wp_block ?_
      refine cPlain ?_
      refine sv 59 (.int .u64 ((a : Nat) : Int)) .of ?_
      simp only [List.set_cons_zero, List.set_cons_succ]
      refine sv 60 (.int .u64 ((a + 1 : Nat) : Int)) (Val.asN (Val.addN 87 _ (.tmp 59) _ rfl .u64 a 1 18446744073709551616 (by kernel_rfl) (by kernel_rfl)) (by omega)) ?_
      simp only [List.set_cons_zero, List.set_cons_succ]
      refine sv 11 (.int .u64 ((a + 1 : Nat) : Int)) .of ?_
      simp only [List.set_cons_zero, List.set_cons_succ]
      refine wpList_nil ?_
      have hnx := third_le (a := a) (p := prL.getD (n % 64) 0) (by omega) hple (by omega)
      refine ⟨_, ?_, a + 1, rfl, by omega, third_le (by omega) hple (by omega), by omega, cutE, BL, b3, OA, by omega⟩
      omega
    · skip
      have hT := third_of (a := a) hm64 (by omega) (by omega) hc2_2 (by omega)
      refine wp_exit ?_
      simp only [Exit.then, Exit.inBlock, ↓reduceIte, Nat.reduceEqDiff]
      refine hK20 _ _ ?_
      refine wp_seq_k fun K23 hK23 => ?_
      refine cPlain ?_
      refine sv 61 (.int .u64 ((a : Nat) : Int)) .of ?_
      simp only [List.set_cons_zero, List.set_cons_succ]
      refine sv 62 (.int .u64 (((a <<< 32) % 18446744073709551616 : Nat) : Int)) (Val.shlN 87 _ (.tmp 61) _ rfl .u64 .u64 a 32 18446744073709551616 (by kernel_rfl) (by kernel_rfl)) ?_
      simp only [List.set_cons_zero, List.set_cons_succ]
      refine sv 63 (.int .i64 ((n % 64 : Nat) : Int)) .of ?_
      simp only [List.set_cons_zero, List.set_cons_succ]
      refine sv 64 (.pointer (some ⟨w1.heap.size, 8, none⟩)) .of ?_
      simp only [List.set_cons_zero, List.set_cons_succ]
      refine sv 65 (.pointer (some ⟨w1.heap.size, 8 + (n % 64), none⟩)) (Val.idxA1 59 (.tmp 64) (.tmp 63) rfl w1.heap.size 8 (n % 64) (by kernel_rfl) (by kernel_rfl) Try.underlying59 (by kernel_rfl) (by omega)) ?_
      simp only [List.set_cons_zero, List.set_cons_succ]
      refine sv 66 (.int .u32 ((tabL.getD (8 + (n % 64)) 0 : Nat) : Int)) (Val.nblk1 39 _ rfl w1.heap.size (8 + (n % 64)) (by kernel_rfl) (fun _ => (by kernel_rfl)) b3 (by rw [tabL_len']; omega)) ?_
      simp only [List.set_cons_zero, List.set_cons_succ]
      refine sv 67 (.int .u64 (((tabL.getD (8 + (n % 64)) 0) % 18446744073709551616 : Nat) : Int)) (Val.convN 39 87 (.tmp 66) rfl .u64 (tabL.getD (8 + (n % 64)) 0) 18446744073709551616 Try.underlying39 Try.underlying87 (by kernel_rfl)) ?_
      simp only [List.set_cons_zero, List.set_cons_succ]
      refine sv 68 (.int .u64 ((kC a (8 + n % 64) : Nat) : Int)) (Val.asN (Val.orN 87 _ (.tmp 62) (.tmp 67) rfl .u64 ((a <<< 32) % 18446744073709551616) ((tabL.getD (8 + (n % 64)) 0) % 18446744073709551616) 18446744073709551616 (by kernel_rfl) (by kernel_rfl)) (by unfold kC; rfl)) ?_
      simp only [List.set_cons_zero, List.set_cons_succ]
      refine sv 12 (.int .u64 ((kC a (8 + n % 64) : Nat) : Int)) .of ?_
      simp only [List.set_cons_zero, List.set_cons_succ]
      refine wpList_nil ?_
      refine hK23 _ _ ?_
      refine wp_seq_k fun K24 hK24 => ?_
      refine wp_seq_k fun K25 hK25 => ?_
      refine cPlain ?_
      refine sv 69 (.int .u64 ((kC a (8 + n % 64) : Nat) : Int)) .of ?_
      simp only [List.set_cons_zero, List.set_cons_succ]
      refine sv 70 (.int .u64 ((prL.getD (n % 64) 0 : Nat) : Int)) .of ?_
      simp only [List.set_cons_zero, List.set_cons_succ]
      refine xCall 71 46 #[.int .u64 ((kC a (8 + n % 64) : Nat) : Int), .int .u64 ((prL.getD (n % 64) 0 : Nat) : Int)] (by kernel_rfl) ?_
      refine (cube_any (kC a (8 + n % 64)) (prL.getD (n % 64) 0) (kC_lt _ _) hpl64 wl2).mono ?_
      rintro en w6 ⟨he, hw⟩
      rw [hT.1] at he
      subst he
      obtain rfl := (hw).symm
      refine ⟨.bool true, rfl, ?_⟩
      simp only [List.set_cons_zero, List.set_cons_succ]
      refine sv 72 (.bool false) .of ?_
      simp only [List.set_cons_zero, List.set_cons_succ]
      refine sv 73 (.bool false) .of ?_
      simp only [List.set_cons_zero, List.set_cons_succ]
      refine sv 74 (.int .u64 ((kC a (8 + n % 64) : Nat) : Int)) .of ?_
      simp only [List.set_cons_zero, List.set_cons_succ]
      refine sv 75 (.int .u64 ((c1 (kC a (8 + n % 64)) : Nat) : Int)) (Val.asN (Val.addN 87 _ (.tmp 74) _ rfl .u64 (kC a (8 + n % 64)) 1 18446744073709551616 (by kernel_rfl) (by kernel_rfl)) (by unfold c1; rfl)) ?_
      simp only [List.set_cons_zero, List.set_cons_succ]
      refine sv 76 (.int .u64 ((prL.getD (n % 64) 0 : Nat) : Int)) .of ?_
      simp only [List.set_cons_zero, List.set_cons_succ]
      refine xCall 77 46 #[.int .u64 ((c1 (kC a (8 + n % 64)) : Nat) : Int), .int .u64 ((prL.getD (n % 64) 0 : Nat) : Int)] (by kernel_rfl) ?_
      refine (cube_any (c1 (kC a (8 + n % 64))) (prL.getD (n % 64) 0) (c1_lt _) hpl64 wl2).mono ?_
      rintro en w7 ⟨he, hw⟩
      rw [hT.2] at he
      subst he
      obtain rfl := (hw).symm
      refine ⟨.bool false, rfl, ?_⟩
      simp only [List.set_cons_zero, List.set_cons_succ]
      refine sv 78 (.bool false) .of ?_
      simp only [List.set_cons_zero, List.set_cons_succ]
      refine wpList_nil ?_
      refine hK25 _ _ ?_
      refine cF ?_
      refine wp_skip ?_
      refine hK24 _ _ ?_
      refine wp_seq_k fun K26 hK26 => ?_
      refine wp_seq_k fun K27 hK27 => ?_
      refine cPlain ?_
      refine sv 79 (.int .i64 ((n % 64 : Nat) : Int)) .of ?_
      simp only [List.set_cons_zero, List.set_cons_succ]
      refine sv 80 (.bool (decide (8 ≤ ((n % 64 : Nat) : Int)))) (Val.cmp .geq 3 _ (.tmp 79) _ rfl .i64 ((n % 64 : Nat) : Int) 8 (by kernel_rfl) (by kernel_rfl) (by simp) _ rfl) ?_
      simp only [List.set_cons_zero, List.set_cons_succ]
      refine wpList_nil ?_
      refine hK27 _ _ ?_
      refine cDec (8 ≤ ((n % 64 : Nat) : Int)) (by kernel_rfl) (fun c80 => ?_) (fun c80 => ?_)
      · skip
        refine wp_seq_k fun K28 hK28 => ?_
        refine cPlain ?_
        refine xCall 81 38 #[] (by kernel_rfl) ?_
        refine (awake02_any wl2).mono ?_
        rintro en w8 ⟨rfl, hb1⟩
        have e3 := belE0 hb1
        have ze3 := e3.size
        replace BL := BL.e0 e3
        replace b3 := b3.e0 e3
        replace OA := OA.e0 e3
        clear e3
        refine ⟨.bool true, rfl, ?_⟩
        simp only [List.set_cons_zero, List.set_cons_succ]
        refine sv 2 (.bool true) .of ?_
        simp only [List.set_cons_zero, List.set_cons_succ]
        refine wpList_nil ?_
        refine hK28 _ _ ?_
        refine wp_ret ?_
        (try simp only [Exit.then, Exit.inBlock])
        refine bodyPost_ret (v := .bool true) rT rfl ?_
        exact ⟨rfl, BL.b⟩
      · skip
        refine wp_skip ?_
        refine hK26 _ _ ?_
        refine wp_seq_k fun K29 hK29 => ?_
        refine cPlain ?_
        refine sv 11 (.int .u64 1) .of ?_
        simp only [List.set_cons_zero, List.set_cons_succ]
        refine wpList_nil ?_
        refine hK29 _ _ ?_
        refine wp_seq_k fun K30 hK30 => ?_
        refine wp_block ?_
        refine cLoop (fun N_ A_ w_ => ∃ (b : Nat), (N_ = 17 - b ∧ (1 ≤ b) ∧ (b ≤ 17) ∧ (b * b ≤ prL.getD (n % 64) 0) ∧ (∃ s4 : Nat → Value, A_ = ⟨[.int .u8 ((n : Nat) : Int), undef, .bool false, .pointer (some ⟨w1.heap.size, 0, none⟩), u, .int .u64 ((i + 2 : Nat) : Int), (s1 6), undef, (s1 8), .int .i64 ((n % 64 : Nat) : Int), .int .u64 ((prL.getD (n % 64) 0 : Nat) : Int), .int .u64 ((b : Nat) : Int), .int .u64 ((kC a (8 + n % 64) : Nat) : Int), undef, undef, undef, undef, .agg (cellsOf .u32 (nn tabL)), u, .int .i64 (((prN i).length : Nat) : Int), .bool (decide ((((prN i).length : Nat) : Int) < 64)), (s1 21), (s1 22), (s1 23), (s1 24), (s1 25), (s1 26), (s1 27), (s1 28), (s1 29), (s1 30), (s1 31), (s1 32), (s1 33), (s1 34), (s1 35), (s1 36), (s1 37), (s1 38), (s1 39), (s1 40), (s1 41), .int .u8 ((n : Nat) : Int), .int .u8 ((n % 64 : Nat) : Int), .int .i64 ((n % 64 : Nat) : Int), u, .int .i64 ((n % 64 : Nat) : Int), elemP u (n % 64), .int .u64 ((prL.getD (n % 64) 0 : Nat) : Int), .int .u64 ((a : Nat) : Int), .int .u64 ((a + 1 : Nat) : Int), .int .u64 ((a : Nat) : Int), .int .u64 ((a + 1 : Nat) : Int), .int .u64 (((a + 1) * (a + 1) : Nat) : Int), .int .u64 ((a : Nat) : Int), .int .u64 ((a + 1 : Nat) : Int), .int .u64 (((a + 1) * (a + 1) * (a + 1) : Nat) : Int), .int .u64 ((prL.getD (n % 64) 0 : Nat) : Int), .bool (decide ((((a + 1) * (a + 1) * (a + 1) : Nat) : Int) ≤ ((prL.getD (n % 64) 0 : Nat) : Int))), (s3 59), (s3 60), .int .u64 ((a : Nat) : Int), .int .u64 (((a <<< 32) % 18446744073709551616 : Nat) : Int), .int .i64 ((n % 64 : Nat) : Int), .pointer (some ⟨w1.heap.size, 8, none⟩), .pointer (some ⟨w1.heap.size, 8 + (n % 64), none⟩), .int .u32 ((tabL.getD (8 + (n % 64)) 0 : Nat) : Int), .int .u64 (((tabL.getD (8 + (n % 64)) 0) % 18446744073709551616 : Nat) : Int), .int .u64 ((kC a (8 + n % 64) : Nat) : Int), .int .u64 ((kC a (8 + n % 64) : Nat) : Int), .int .u64 ((prL.getD (n % 64) 0 : Nat) : Int), .bool true, .bool false, .bool false, .int .u64 ((kC a (8 + n % 64) : Nat) : Int), .int .u64 ((c1 (kC a (8 + n % 64)) : Nat) : Int), .int .u64 ((prL.getD (n % 64) 0 : Nat) : Int), .bool false, .bool false, .int .i64 ((n % 64 : Nat) : Int), .bool (decide (8 ≤ ((n % 64 : Nat) : Int))), undef, (s4 82), (s4 83), (s4 84), (s4 85), (s4 86), (s4 87), (s4 88), (s4 89), (s4 90), undef, undef, undef, undef, undef, undef, undef, undef, undef, undef, undef, undef, undef, undef, undef, undef, undef, undef, undef, undef, undef, undef, undef, undef, undef, undef, undef, undef, undef, undef, undef, undef, undef, undef, undef, undef, undef, undef, undef, undef, undef, undef, undef, undef, undef, undef, undef, undef, undef, undef, undef].toArray, []⟩) ∧ Bl w.heap.size w w_ ∧ Blk .u32 w_ w1.heap.size 61 (nn tabL) ∧ Own 87 .u64 (w1.heap.size + 1) w_ u (nn (prN i)) ∧ wl2.heap.size ≤ w_.heap.size)) _ ⟨1, rfl, by omega, by omega, by omega, cutE, BL, b3, OA, Nat.le_refl _⟩ ?_
        clear BL b3 OA
        rintro n_ a_ wl3 ⟨b, rfl, hc3_0, hc3_1, hc3_2, ⟨s4, rfl⟩, BL, b3, OA, zl3⟩
        have lOA_5 := OA.ge
        refine wp_seq_k fun K31 hK31 => ?_
        refine wp_seq_k fun K32 hK32 => ?_
        refine cPlain ?_
        refine sv 82 (.int .u64 ((b : Nat) : Int)) .of ?_
        simp only [List.set_cons_zero, List.set_cons_succ]
        refine sv 83 (.int .u64 ((b + 1 : Nat) : Int)) (Val.asN (Val.addN 87 _ (.tmp 82) _ rfl .u64 b 1 18446744073709551616 (by kernel_rfl) (by kernel_rfl)) (by omega)) ?_
        simp only [List.set_cons_zero, List.set_cons_succ]
        refine sv 84 (.int .u64 ((b : Nat) : Int)) .of ?_
        simp only [List.set_cons_zero, List.set_cons_succ]
        refine sv 85 (.int .u64 ((b + 1 : Nat) : Int)) (Val.asN (Val.addN 87 _ (.tmp 84) _ rfl .u64 b 1 18446744073709551616 (by kernel_rfl) (by kernel_rfl)) (by omega)) ?_
        simp only [List.set_cons_zero, List.set_cons_succ]
        refine sv 86 (.int .u64 (((b + 1) * (b + 1) : Nat) : Int)) (Val.asN (Val.mulN 87 _ (.tmp 83) (.tmp 85) rfl .u64 (b + 1) (b + 1) 18446744073709551616 (by kernel_rfl) (by kernel_rfl)) (mod2 (by omega))) ?_
        simp only [List.set_cons_zero, List.set_cons_succ]
        refine sv 87 (.int .u64 ((prL.getD (n % 64) 0 : Nat) : Int)) .of ?_
        simp only [List.set_cons_zero, List.set_cons_succ]
        refine sv 88 (.bool (decide ((((b + 1) * (b + 1) : Nat) : Int) ≤ ((prL.getD (n % 64) 0 : Nat) : Int)))) (Val.cmp .leq 87 _ (.tmp 86) (.tmp 87) rfl .u64 (((b + 1) * (b + 1) : Nat) : Int) ((prL.getD (n % 64) 0 : Nat) : Int) (by kernel_rfl) (by kernel_rfl) (by simp) _ rfl) ?_
        simp only [List.set_cons_zero, List.set_cons_succ]
        refine wpList_nil ?_
        refine hK32 _ _ ?_
        refine cDec ((((b + 1) * (b + 1) : Nat) : Int) ≤ ((prL.getD (n % 64) 0 : Nat) : Int)) (by kernel_rfl) (fun c88 => ?_) (fun c88 => ?_)
        · skip
          refine wp_skip ?_
          refine hK31 _ _ ?_
          refine wp_block ?_
          refine cPlain ?_
          refine sv 89 (.int .u64 ((b : Nat) : Int)) .of ?_
          simp only [List.set_cons_zero, List.set_cons_succ]
          refine sv 90 (.int .u64 ((b + 1 : Nat) : Int)) (Val.asN (Val.addN 87 _ (.tmp 89) _ rfl .u64 b 1 18446744073709551616 (by kernel_rfl) (by kernel_rfl)) (by omega)) ?_
          simp only [List.set_cons_zero, List.set_cons_succ]
          refine sv 11 (.int .u64 ((b + 1 : Nat) : Int)) .of ?_
          simp only [List.set_cons_zero, List.set_cons_succ]
          refine wpList_nil ?_
          have hnx := second_le (b := b) (p := prL.getD (n % 64) 0) (by omega) hple (by omega)
          refine ⟨_, ?_, b + 1, rfl, by omega, second_le (by omega) hple (by omega), by omega, cutE, BL, b3, OA, by omega⟩
          omega
        · skip
          have hF := second_of (b := b) (m := n % 64) (by omega) (by omega) (by omega) hc3_2 (by omega)
          refine wp_exit ?_
          simp only [Exit.then, Exit.inBlock, ↓reduceIte, Nat.reduceEqDiff]
          refine hK30 _ _ ?_
          refine wp_seq_k fun K33 hK33 => ?_
          refine cPlain ?_
          refine sv 91 (.int .u64 ((b : Nat) : Int)) .of ?_
          simp only [List.set_cons_zero, List.set_cons_succ]
          refine sv 92 (.int .u64 (((b <<< 32) % 18446744073709551616 : Nat) : Int)) (Val.shlN 87 _ (.tmp 91) _ rfl .u64 .u64 b 32 18446744073709551616 (by kernel_rfl) (by kernel_rfl)) ?_
          simp only [List.set_cons_zero, List.set_cons_succ]
          refine sv 93 (.int .i64 ((n % 64 : Nat) : Int)) .of ?_
          simp only [List.set_cons_zero, List.set_cons_succ]
          refine sv 94 (.pointer (some ⟨w1.heap.size, 0, none⟩)) .of ?_
          simp only [List.set_cons_zero, List.set_cons_succ]
          refine sv 95 (.pointer (some ⟨w1.heap.size, (n % 64), none⟩)) (Val.idxA01 58 (.tmp 94) (.tmp 93) rfl w1.heap.size (n % 64) (by kernel_rfl) (by kernel_rfl) Try.underlying58 (by kernel_rfl) (by omega)) ?_
          simp only [List.set_cons_zero, List.set_cons_succ]
          refine sv 96 (.int .u32 ((tabL.getD (n % 64) 0 : Nat) : Int)) (Val.nblk1 39 _ rfl w1.heap.size (n % 64) (by kernel_rfl) (fun _ => (by kernel_rfl)) b3 (by rw [tabL_len']; omega)) ?_
          simp only [List.set_cons_zero, List.set_cons_succ]
          refine sv 97 (.int .u64 (((tabL.getD (n % 64) 0) % 18446744073709551616 : Nat) : Int)) (Val.convN 39 87 (.tmp 96) rfl .u64 (tabL.getD (n % 64) 0) 18446744073709551616 Try.underlying39 Try.underlying87 (by kernel_rfl)) ?_
          simp only [List.set_cons_zero, List.set_cons_succ]
          refine sv 98 (.int .u64 ((kC b (n % 64) : Nat) : Int)) (Val.asN (Val.orN 87 _ (.tmp 92) (.tmp 97) rfl .u64 ((b <<< 32) % 18446744073709551616) ((tabL.getD (n % 64) 0) % 18446744073709551616) 18446744073709551616 (by kernel_rfl) (by kernel_rfl)) (by unfold kC; rfl)) ?_
          simp only [List.set_cons_zero, List.set_cons_succ]
          refine sv 12 (.int .u64 ((kC b (n % 64) : Nat) : Int)) .of ?_
          simp only [List.set_cons_zero, List.set_cons_succ]
          refine wpList_nil ?_
          refine hK33 _ _ ?_
          refine wp_seq_k fun K34 hK34 => ?_
          refine cPlain ?_
          refine sv 100 (.int .u64 ((kC b (n % 64) : Nat) : Int)) .of ?_
          simp only [List.set_cons_zero, List.set_cons_succ]
          refine sv 101 (.int .u64 ((kC b (n % 64) : Nat) : Int)) .of ?_
          simp only [List.set_cons_zero, List.set_cons_succ]
          refine xCall 102 47 #[.int .u64 ((kC b (n % 64) : Nat) : Int), .int .u64 ((kC b (n % 64) : Nat) : Int)] (by kernel_rfl) ?_
          refine (mul_any (kC b (n % 64)) (kC b (n % 64)) (kC_lt _ _) (kC_lt _ _) wl3).mono ?_
          rintro en w9 ⟨rfl, hw⟩
          obtain rfl := (hw).symm
          refine ⟨.tuple #[.int .u64 ((mulHi (kC b (n % 64)) (kC b (n % 64)) : Nat) : Int), .int .u64 ((mulLo (kC b (n % 64)) (kC b (n % 64)) : Nat) : Int)], rfl, ?_⟩
          simp only [List.set_cons_zero, List.set_cons_succ]
          refine sv 99 (.tuple #[.int .u64 ((mulHi (kC b (n % 64)) (kC b (n % 64)) : Nat) : Int), .int .u64 ((mulLo (kC b (n % 64)) (kC b (n % 64)) : Nat) : Int)]) .of ?_
          simp only [List.set_cons_zero, List.set_cons_succ]
          refine sv 103 (.int .u64 ((mulHi (kC b (n % 64)) (kC b (n % 64)) : Nat) : Int)) .of ?_
          simp only [List.set_cons_zero, List.set_cons_succ]
          refine sv 104 (.int .u64 ((mulLo (kC b (n % 64)) (kC b (n % 64)) : Nat) : Int)) .of ?_
          simp only [List.set_cons_zero, List.set_cons_succ]
          refine sv 13 (.int .u64 ((mulHi (kC b (n % 64)) (kC b (n % 64)) : Nat) : Int)) .of ?_
          simp only [List.set_cons_zero, List.set_cons_succ]
          refine sv 14 (.int .u64 ((mulLo (kC b (n % 64)) (kC b (n % 64)) : Nat) : Int)) .of ?_
          simp only [List.set_cons_zero, List.set_cons_succ]
          refine wpList_nil ?_
          refine hK34 _ _ ?_
          refine wp_seq_k fun K35 hK35 => ?_
          refine cPlain ?_
          refine sv 106 (.int .u64 ((kC b (n % 64) : Nat) : Int)) .of ?_
          simp only [List.set_cons_zero, List.set_cons_succ]
          refine sv 107 (.int .u64 ((c1 (kC b (n % 64)) : Nat) : Int)) (Val.asN (Val.addN 87 _ (.tmp 106) _ rfl .u64 (kC b (n % 64)) 1 18446744073709551616 (by kernel_rfl) (by kernel_rfl)) (by unfold c1; rfl)) ?_
          simp only [List.set_cons_zero, List.set_cons_succ]
          refine sv 108 (.int .u64 ((kC b (n % 64) : Nat) : Int)) .of ?_
          simp only [List.set_cons_zero, List.set_cons_succ]
          refine sv 109 (.int .u64 ((c1 (kC b (n % 64)) : Nat) : Int)) (Val.asN (Val.addN 87 _ (.tmp 108) _ rfl .u64 (kC b (n % 64)) 1 18446744073709551616 (by kernel_rfl) (by kernel_rfl)) (by unfold c1; rfl)) ?_
          simp only [List.set_cons_zero, List.set_cons_succ]
          refine xCall 110 47 #[.int .u64 ((c1 (kC b (n % 64)) : Nat) : Int), .int .u64 ((c1 (kC b (n % 64)) : Nat) : Int)] (by kernel_rfl) ?_
          refine (mul_any (c1 (kC b (n % 64))) (c1 (kC b (n % 64))) (c1_lt _) (c1_lt _) wl3).mono ?_
          rintro en w10 ⟨rfl, hw⟩
          obtain rfl := (hw).symm
          refine ⟨.tuple #[.int .u64 ((mulHi (c1 (kC b (n % 64))) (c1 (kC b (n % 64))) : Nat) : Int), .int .u64 ((mulLo (c1 (kC b (n % 64))) (c1 (kC b (n % 64))) : Nat) : Int)], rfl, ?_⟩
          simp only [List.set_cons_zero, List.set_cons_succ]
          refine sv 105 (.tuple #[.int .u64 ((mulHi (c1 (kC b (n % 64))) (c1 (kC b (n % 64))) : Nat) : Int), .int .u64 ((mulLo (c1 (kC b (n % 64))) (c1 (kC b (n % 64))) : Nat) : Int)]) .of ?_
          simp only [List.set_cons_zero, List.set_cons_succ]
          refine sv 111 (.int .u64 ((mulHi (c1 (kC b (n % 64))) (c1 (kC b (n % 64))) : Nat) : Int)) .of ?_
          simp only [List.set_cons_zero, List.set_cons_succ]
          refine sv 112 (.int .u64 ((mulLo (c1 (kC b (n % 64))) (c1 (kC b (n % 64))) : Nat) : Int)) .of ?_
          simp only [List.set_cons_zero, List.set_cons_succ]
          refine sv 15 (.int .u64 ((mulHi (c1 (kC b (n % 64))) (c1 (kC b (n % 64))) : Nat) : Int)) .of ?_
          simp only [List.set_cons_zero, List.set_cons_succ]
          refine sv 16 (.int .u64 ((mulLo (c1 (kC b (n % 64))) (c1 (kC b (n % 64))) : Nat) : Int)) .of ?_
          simp only [List.set_cons_zero, List.set_cons_succ]
          refine wpList_nil ?_
          refine hK35 _ _ ?_
          refine wp_seq_k fun K36 hK36 => ?_
          refine cPlain ?_
          refine sv 113 (.int .u64 ((mulHi (kC b (n % 64)) (kC b (n % 64)) : Nat) : Int)) .of ?_
          simp only [List.set_cons_zero, List.set_cons_succ]
          refine sv 114 (.int .u64 ((prL.getD (n % 64) 0 : Nat) : Int)) .of ?_
          simp only [List.set_cons_zero, List.set_cons_succ]
          refine sv 115 (.bool true) (Val.cmp .lss 87 _ (.tmp 113) (.tmp 114) rfl .u64 ((mulHi (kC b (n % 64)) (kC b (n % 64)) : Nat) : Int) ((prL.getD (n % 64) 0 : Nat) : Int) (by kernel_rfl) (by kernel_rfl) (by simp) _ (by simp only [cmpB]; simpa using hF.1)) ?_
          simp only [List.set_cons_zero, List.set_cons_succ]
          refine sv 116 (.bool true) .of ?_
          simp only [List.set_cons_zero, List.set_cons_succ]
          refine xSkip 117 ?_
          simp only [List.set_cons_zero, List.set_cons_succ]
          refine xSkip 118 ?_
          simp only [List.set_cons_zero, List.set_cons_succ]
          refine xSkip 119 ?_
          simp only [List.set_cons_zero, List.set_cons_succ]
          refine xSkip 120 ?_
          simp only [List.set_cons_zero, List.set_cons_succ]
          refine xSkip 121 ?_
          simp only [List.set_cons_zero, List.set_cons_succ]
          refine xSkip 122 ?_
          simp only [List.set_cons_zero, List.set_cons_succ]
          refine xSkip 123 ?_
          simp only [List.set_cons_zero, List.set_cons_succ]
          refine sv 124 (.bool true) .of ?_
          simp only [List.set_cons_zero, List.set_cons_succ]
          refine sv 125 (.bool true) .of ?_
          simp only [List.set_cons_zero, List.set_cons_succ]
          refine sv 126 (.int .u64 ((mulHi (c1 (kC b (n % 64))) (c1 (kC b (n % 64))) : Nat) : Int)) .of ?_
          simp only [List.set_cons_zero, List.set_cons_succ]
          refine sv 127 (.int .u64 ((prL.getD (n % 64) 0 : Nat) : Int)) .of ?_
          simp only [List.set_cons_zero, List.set_cons_succ]
          refine sv 128 (.bool false) (Val.cmp .gtr 87 _ (.tmp 126) (.tmp 127) rfl .u64 ((mulHi (c1 (kC b (n % 64))) (c1 (kC b (n % 64))) : Nat) : Int) ((prL.getD (n % 64) 0 : Nat) : Int) (by kernel_rfl) (by kernel_rfl) (by simp) _ (by simp only [cmpB]; simp [hF.2.1])) ?_
          simp only [List.set_cons_zero, List.set_cons_succ]
          refine sv 129 (.bool false) .of ?_
          simp only [List.set_cons_zero, List.set_cons_succ]
          refine sv 130 (.int .u64 ((mulHi (c1 (kC b (n % 64))) (c1 (kC b (n % 64))) : Nat) : Int)) .of ?_
          simp only [List.set_cons_zero, List.set_cons_succ]
          refine sv 131 (.int .u64 ((prL.getD (n % 64) 0 : Nat) : Int)) .of ?_
          simp only [List.set_cons_zero, List.set_cons_succ]
          refine sv 132 (.bool true) (Val.cmp .eql 87 _ (.tmp 130) (.tmp 131) rfl .u64 ((mulHi (c1 (kC b (n % 64))) (c1 (kC b (n % 64))) : Nat) : Int) ((prL.getD (n % 64) 0 : Nat) : Int) (by kernel_rfl) (by kernel_rfl) (by simp) _ (by simp only [cmpB]; simp [hF.2.1])) ?_
          simp only [List.set_cons_zero, List.set_cons_succ]
          refine sv 133 (.bool true) .of ?_
          simp only [List.set_cons_zero, List.set_cons_succ]
          refine sv 134 (.int .u64 ((mulLo (c1 (kC b (n % 64))) (c1 (kC b (n % 64))) : Nat) : Int)) .of ?_
          simp only [List.set_cons_zero, List.set_cons_succ]
          refine sv 135 (.bool true) (Val.cmp .gtr 87 _ (.tmp 134) _ rfl .u64 ((mulLo (c1 (kC b (n % 64))) (c1 (kC b (n % 64))) : Nat) : Int) 0 (by kernel_rfl) (by kernel_rfl) (by simp) _ (by simp only [cmpB]; simpa using hF.2.2)) ?_
          simp only [List.set_cons_zero, List.set_cons_succ]
          refine sv 136 (.bool true) .of ?_
          simp only [List.set_cons_zero, List.set_cons_succ]
          refine sv 137 (.bool true) .of ?_
          simp only [List.set_cons_zero, List.set_cons_succ]
          refine sv 138 (.bool true) .of ?_
          simp only [List.set_cons_zero, List.set_cons_succ]
          refine sv 139 (.bool true) .of ?_
          simp only [List.set_cons_zero, List.set_cons_succ]
          refine xCall 140 38 #[] (by kernel_rfl) ?_
          refine (awake02_any wl3).mono ?_
          rintro en w11 ⟨rfl, hb1⟩
          have e4 := belE0 hb1
          have ze4 := e4.size
          replace BL := BL.e0 e4
          replace b3 := b3.e0 e4
          replace OA := OA.e0 e4
          clear e4
          refine ⟨.bool true, rfl, ?_⟩
          simp only [List.set_cons_zero, List.set_cons_succ]
          refine sv 141 (.bool true) .of ?_
          simp only [List.set_cons_zero, List.set_cons_succ]
          refine sv 2 (.bool true) .of ?_
          simp only [List.set_cons_zero, List.set_cons_succ]
          refine wpList_nil ?_
          refine hK36 _ _ ?_
          refine wp_ret ?_
          (try simp only [Exit.then, Exit.inBlock])
          refine bodyPost_ret (v := .bool true) rT rfl ?_
          exact ⟨rfl, BL.b⟩

end Go.Proofs.Ytoeaekamoejhcaa
