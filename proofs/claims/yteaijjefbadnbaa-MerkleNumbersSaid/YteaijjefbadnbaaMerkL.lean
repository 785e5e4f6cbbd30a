/-
  Merkle trees over digests: nodes, levels, roots, paths, what one climbs to; as the code makes them and as they are by definition.
  No conditions: plain laws, no program in sight.
-/
import Derived.Test.YteaijjefbadnbaaMacW
namespace Go.Proofs.Yteaijjefbadnbaa
set_option linter.unusedVariables false
set_option linter.unusedSimpArgs false
set_option maxRecDepth 100000

def mnode (tab a b : List Nat) : List Nat := taggedN tab 4 [a, b]
theorem mnode_len (tab a b : List Nat) : (mnode tab a b).length = 32 := by unfold mnode taggedN; exact ofN_32 _ _
attribute [local irreducible] mnode taggedN
/-- One level up. -/
def mup (tab : List Nat) : List (List Nat) → List (List Nat)
  | a :: b :: t => mnode tab a b :: mup tab t
  | _ => []
def mups (tab : List Nat) : Nat → List (List Nat) → List (List Nat)
  | 0, l => l
  | h + 1, l => mups tab h (mup tab l)
def mroot (tab : List Nat) (h : Nat) (l : List (List Nat)) : List Nat := (mups tab h l).getD 0 []
def mpath (tab : List Nat) : Nat → List (List Nat) → Nat → List (List Nat)
  | 0, _, _ => []
  | h + 1, l, k => l.getD (k ^^^ 1) [] :: mpath tab h (mup tab l) (k / 2)
def mclimb (tab : List Nat) : List Nat → Nat → List (List Nat) → List Nat
  | x, _, [] => x
  | x, k, b :: bs => mclimb tab (if k % 2 = 0 then mnode tab x b else mnode tab b x) (k / 2) bs

theorem mup_len (tab : List Nat) : ∀ (m : Nat) (l : List (List Nat)), l.length = 2 * m → (mup tab l).length = m
  | 0, l, h => by obtain rfl := List.eq_nil_of_length_eq_zero (by omega : l.length = 0); rfl
  | m + 1, a :: b :: t, h => by simp only [mup, List.length_cons]; rw [mup_len tab m t (by simp only [List.length_cons] at h; omega)]
  | m + 1, [], h => by simp at h
  | m + 1, [a], h => by simp at h; omega
theorem mup_app (tab : List Nat) : ∀ (m : Nat) (l l' : List (List Nat)), l.length = 2 * m → mup tab (l ++ l') = mup tab l ++ mup tab l'
  | 0, l, l', h => by obtain rfl := List.eq_nil_of_length_eq_zero (by omega : l.length = 0); rfl
  | m + 1, a :: b :: t, l', h => by simp only [mup, List.cons_append]; rw [mup_app tab m t l' (by simp only [List.length_cons] at h; omega)]
  | m + 1, [], _, h => by simp at h
  | m + 1, [a], _, h => by simp at h; omega
theorem mup_get (tab : List Nat) : ∀ (m : Nat) (l : List (List Nat)) (j : Nat), l.length = 2 * m → j < m → (mup tab l).getD j [] = mnode tab (l.getD (2 * j) []) (l.getD (2 * j + 1) [])
  | 0, l, j, h, hj => by omega
  | m + 1, [], _, h, _ => by simp at h
  | m + 1, [a], _, h, _ => by simp at h; omega
  | m + 1, a :: b :: t, 0, h, hj => by simp only [mup, Nat.mul_zero, Nat.zero_add, List.getD_cons_zero, List.getD_cons_succ]
  | m + 1, a :: b :: t, j + 1, h, hj => by
    have := mup_get tab m t j (by simp only [List.length_cons] at h; omega) (by omega)
    rw [show 2 * (j + 1) = 2 * j + 1 + 1 by omega]
    simp only [mup, List.getD_cons_succ]
    exact this
theorem mup_snoc (tab : List Nat) (l : List (List Nat)) (a b : List Nat) (m : Nat) (h : l.length = 2 * m) : mup tab (l ++ [a, b]) = mup tab l ++ [mnode tab a b] := mup_app tab m l [a, b] h
theorem mup_lens (tab : List Nat) : ∀ (l : List (List Nat)), ∀ d ∈ mup tab l, d.length = 32
  | [], d, h => by simp [mup] at h
  | [a], d, h => by simp [mup] at h
  | a :: b :: t, d, h => by
    rcases List.mem_cons.1 h with rfl | h
    · exact mnode_len _ _ _
    · exact mup_lens tab t d h
theorem mups_succ (tab : List Nat) : ∀ (h : Nat) (l : List (List Nat)), mups tab (h + 1) l = mup tab (mups tab h l)
  | 0, l => rfl
  | h + 1, l => by
    show mups tab (h + 1) (mup tab l) = _
    rw [mups_succ tab h (mup tab l)]; rfl
theorem mups_len (tab : List Nat) : ∀ (h m : Nat) (l : List (List Nat)), l.length = 2 ^ h * m → (mups tab h l).length = m
  | 0, m, l, hl => by simpa [mups] using hl
  | h + 1, m, l, hl => mups_len tab h m (mup tab l) (mup_len tab _ l (by rw [hl, Nat.pow_succ, Nat.mul_comm (2 ^ h) 2, Nat.mul_assoc]))
theorem mups_one (tab : List Nat) (h : Nat) (l : List (List Nat)) (hl : l.length = 2 ^ h) : mups tab h l = [mroot tab h l] := by
  have := mups_len tab h 1 l (by omega)
  unfold mroot
  match mups tab h l, this with
  | [x], _ => rfl
theorem mups_lens (tab : List Nat) : ∀ (h : Nat) (l : List (List Nat)), (∀ d ∈ l, d.length = 32) → ∀ d ∈ mups tab h l, d.length = 32
  | 0, l, hl => hl
  | h + 1, l, hl => mups_lens tab h (mup tab l) (mup_lens tab l)
theorem mroot_len (tab : List Nat) (h : Nat) (l : List (List Nat)) (hl : l.length = 2 ^ h) (h32 : ∀ d ∈ l, d.length = 32) : (mroot tab h l).length = 32 :=
  mups_lens tab h l h32 _ (by rw [mups_one tab h l hl]; exact List.mem_singleton.2 rfl)
theorem xor1_even {k : Nat} (h : k % 2 = 0) : k ^^^ 1 = k + 1 := by
  have h1 : (k ^^^ 1) / 2 = k / 2 := by rw [Nat.xor_div_two]; simp
  have h2 : (k ^^^ 1) % 2 = 1 := by rw [Nat.xor_mod_two_eq_one]; omega
  omega
theorem xor1_odd {k : Nat} (h : k % 2 = 1) : k ^^^ 1 = k - 1 := by
  have h1 : (k ^^^ 1) / 2 = k / 2 := by rw [Nat.xor_div_two]; simp
  have h2 : ¬ (k ^^^ 1) % 2 = 1 := by rw [Nat.xor_mod_two_eq_one]; omega
  omega
theorem xor1_lt {k m : Nat} (h : k < 2 * m) : k ^^^ 1 < 2 * m := by
  rcases Nat.mod_two_eq_zero_or_one k with e | e
  · rw [xor1_even e]; omega
  · rw [xor1_odd e]; omega
theorem mpath_len (tab : List Nat) : ∀ (h : Nat) (l : List (List Nat)) (k : Nat), (mpath tab h l k).length = h
  | 0, _, _ => rfl
  | h + 1, l, k => by simp [mpath, mpath_len tab h]
theorem getD_mem {l : List (List Nat)} {k : Nat} (h : k < l.length) : l.getD k [] ∈ l := by
  rw [List.getD_eq_getElem?_getD, List.getElem?_eq_getElem h]; exact List.getElem_mem h
theorem mpath_lens (tab : List Nat) : ∀ (h : Nat) (l : List (List Nat)) (k : Nat), l.length = 2 ^ h → k < 2 ^ h → (∀ d ∈ l, d.length = 32) → ∀ d ∈ mpath tab h l k, d.length = 32
  | 0, _, _, _, _, _, d, hd => by cases hd
  | h + 1, l, k, hl, hk, h32, d, hd => by
    rw [Nat.pow_succ, Nat.mul_comm] at hl hk
    rcases List.mem_cons.1 hd with rfl | hd
    · exact h32 _ (getD_mem (by rw [hl]; exact xor1_lt hk))
    · exact mpath_lens tab h (mup tab l) (k / 2) (mup_len tab _ l hl) (by omega) (mup_lens tab l) d hd
/-- From each leaf, along its path, one comes to the root. -/
theorem mclimb_path (tab : List Nat) : ∀ (h : Nat) (l : List (List Nat)) (k : Nat), l.length = 2 ^ h → k < 2 ^ h → mclimb tab (l.getD k []) k (mpath tab h l k) = mroot tab h l
  | 0, l, k, hl, hk => by
    obtain rfl : k = 0 := by simpa using hk
    simp only [mpath, mclimb, mroot, mups]
  | h + 1, l, k, hl, hk => by
    rw [Nat.pow_succ, Nat.mul_comm] at hl hk
    show mclimb tab (if k % 2 = 0 then mnode tab (l.getD k []) (l.getD (k ^^^ 1) []) else mnode tab (l.getD (k ^^^ 1) []) (l.getD k [])) (k / 2) (mpath tab h (mup tab l) (k / 2)) = mroot tab h (mup tab l)
    have e : (if k % 2 = 0 then mnode tab (l.getD k []) (l.getD (k ^^^ 1) []) else mnode tab (l.getD (k ^^^ 1) []) (l.getD k [])) = (mup tab l).getD (k / 2) [] := by
      rw [mup_get tab (2 ^ h) l (k / 2) hl (by omega)]
      rcases Nat.mod_two_eq_zero_or_one k with e | e
      · rw [if_pos e, xor1_even e, show 2 * (k / 2) = k by omega]
      · rw [if_neg (by omega), xor1_odd e, show 2 * (k / 2) = k - 1 by omega, show k - 1 + 1 = k by omega]
    rw [e]
    exact mclimb_path tab h (mup tab l) (k / 2) (mup_len tab _ l hl) (by omega)
theorem mclimb_app (tab : List Nat) : ∀ (bs cs : List (List Nat)) (x : List Nat) (k : Nat), mclimb tab x k (bs ++ cs) = mclimb tab (mclimb tab x k bs) (k / 2 ^ bs.length) cs
  | [], cs, x, k => by simp [mclimb]
  | b :: bs, cs, x, k => by
    simp only [List.cons_append, mclimb, List.length_cons]
    rw [mclimb_app tab bs cs, Nat.div_div_eq_div_mul, Nat.pow_succ, Nat.mul_comm]
theorem mclimb_len (tab : List Nat) : ∀ (bs : List (List Nat)) (x : List Nat) (k : Nat), x.length = 32 → (mclimb tab x k bs).length = 32
  | [], x, k, h => h
  | b :: bs, x, k, h => mclimb_len tab bs _ _ (by split <;> exact mnode_len _ _ _)
theorem mclimb_snoc (tab : List Nat) (bs : List (List Nat)) (x : List Nat) (k : Nat) (b : List Nat) : mclimb tab x k (bs ++ [b]) = if k / 2 ^ bs.length % 2 = 0 then mnode tab (mclimb tab x k bs) b else mnode tab b (mclimb tab x k bs) := by
  rw [mclimb_app]; rfl
end Go.Proofs.Yteaijjefbadnbaa
