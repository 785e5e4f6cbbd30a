/-
  Whole numbers of int: their bits, powers of two; parts of a Merkle tree on the way.
  No conditions: lemmas over any program.
-/
import Derived.Test.YteaijjefbadnbaaDigL
import Derived.Test.YteaijjefbadnbaaMerkL
namespace Go.Proofs.Yteaijjefbadnbaa
open Go.RowKit
set_option linter.unusedVariables false
set_option linter.unusedSimpArgs false
set_option maxRecDepth 100000
theorem wrapI {x : Nat} (h : x < 9223372036854775808) : IntKind.i64.wrap (x : Int) = (x : Int) := by simp [IntKind.wrap, IntKind.bits, IntKind.signed]; omega
section
variable {P : Program} {w : World}
theorem Val.andI {a : Act} {o : Oper} (t ty : TypeId) (x y : Operand) (ho : o.op = .binOp .and t x y ty) (p q : Nat) (hx : a.eval x = .int .i64 (p : Int)) (hy : a.eval y = .int .i64 (q : Int)) (hp : p < 4611686018427387904) (hq : q < 4611686018427387904) : Val P a o (.int .i64 ((p &&& q : Nat) : Int)) w := by
  refine Val.bin' .and t ty x y ho hx hy ?_
  simp only [binOp, Op.intBits, ne_eq, not_true_eq_false, if_false, ofInt_nat, Sem.run_pure]
  congr 2
  rw [BitVec.toNat_and, BitVec.toNat_ofNat, BitVec.toNat_ofNat, Nat.mod_eq_of_lt (by simp only [IntKind.bits]; omega), Nat.mod_eq_of_lt (by simp only [IntKind.bits]; omega)]
  exact wrapI (Nat.lt_of_le_of_lt Nat.and_le_left (by omega))
theorem Val.xorI {a : Act} {o : Oper} (t ty : TypeId) (x y : Operand) (ho : o.op = .binOp .xor t x y ty) (p q : Nat) (hx : a.eval x = .int .i64 (p : Int)) (hy : a.eval y = .int .i64 (q : Int)) (hp : p < 4611686018427387904) (hq : q < 4611686018427387904) : Val P a o (.int .i64 ((p ^^^ q : Nat) : Int)) w := by
  refine Val.bin' .xor t ty x y ho hx hy ?_
  simp only [binOp, Op.intBits, ne_eq, not_true_eq_false, if_false, ofInt_nat, Sem.run_pure]
  congr 2
  rw [BitVec.toNat_xor, BitVec.toNat_ofNat, BitVec.toNat_ofNat, Nat.mod_eq_of_lt (by simp only [IntKind.bits]; omega), Nat.mod_eq_of_lt (by simp only [IntKind.bits]; omega)]
  have : p ^^^ q < 2 ^ 62 := Nat.xor_lt_two_pow (by simpa using hp) (by simpa using hq)
  exact wrapI (by omega)
theorem Val.shl1 {a : Act} {o : Oper} (t ty : TypeId) (x y : Operand) (ho : o.op = .binOp .shl t x y ty) (k' : IntKind) (n : Nat) (hn : n ≤ 60) (hx : a.eval x = .int .i64 1) (hy : a.eval y = .int k' (n : Int)) : Val P a o (.int .i64 ((2 ^ n : Nat) : Int)) w := by
  refine Val.bin' .shl t ty x y ho hx hy ?_
  have h0 : ¬ (n : Int) < 0 := by omega
  have hb : 2 ^ n ≤ 2 ^ 60 := Nat.pow_le_pow_right (by omega) hn
  have hm : min n IntKind.i64.bits = n := Nat.min_eq_left (by simp only [IntKind.bits]; omega)
  have e : IntKind.i64.wrap ((2 : Int) ^ n) = (2 : Int) ^ n := by
    rw [show (2 : Int) ^ n = ((2 ^ n : Nat) : Int) by simp]
    exact wrapI (by omega)
  simp [binOp, Op.shift, h0, hm, e]
end
theorem pow_and : ∀ h : Fin 9, ((2 ^ h.val) &&& (2 ^ h.val - 1) : Nat) = 0 := by decide +kernel
theorem pow_and' {n h : Nat} (hn : n = 2 ^ h) (hh : h ≤ 8) : n &&& (n - 1) = 0 := by subst hn; exact pow_and ⟨h, by omega⟩
theorem no_and : ∀ n : Fin 257, (∃ h : Fin 9, n.val = 2 ^ h.val) ∨ n.val = 0 ∨ (n.val &&& (n.val - 1) : Nat) ≠ 0 := by decide +kernel
/-- How high a tree of n leaves is, if there is one. -/
def heightN (n : Nat) : Option Nat := (List.range 9).find? fun h => n == 2 ^ h
theorem heightN_pow {n h : Nat} (hn : n = 2 ^ h) (hh : h ≤ 8) : heightN n = some h := by
  subst hn
  have : ∀ h : Fin 9, heightN (2 ^ h.val) = some h.val := by decide +kernel
  exact this ⟨h, by omega⟩
theorem heightN_none {n : Nat} (e : heightN n = none) (h : Nat) (hh : h ≤ 8) : n ≠ 2 ^ h := fun he => by rw [heightN_pow he hh] at e; cases e
theorem no_and' {n : Nat} (e : heightN n = none) (h1 : 1 ≤ n) (h2 : n ≤ 256) : n &&& (n - 1) ≠ 0 := by
  rcases no_and ⟨n, by omega⟩ with ⟨h, hh⟩ | h | h
  · exact absurd hh (heightN_none e h.val (by omega))
  · simp only [] at h; omega
  · exact h
theorem mup_take (tab : List Nat) (l : List (List Nat)) (m : Nat) (h : 2 * m + 1 < l.length) : mup tab (l.take (2 * (m + 1))) = mup tab (l.take (2 * m)) ++ [mnode tab (l.getD (2 * m) []) (l.getD (2 * m + 1) [])] := by
  rw [show 2 * (m + 1) = 2 * m + 1 + 1 by omega, List.take_add_one, List.take_add_one, List.getElem?_eq_getElem h, List.getElem?_eq_getElem (show 2 * m < l.length by omega), List.append_assoc]
  show mup tab (List.take (2 * m) l ++ [l[2 * m], l[2 * m + 1]]) = _
  rw [mup_snoc tab _ _ _ m (by rw [List.length_take]; omega)]
  simp [List.getD_eq_getElem?_getD, h, show 2 * m < l.length by omega]
theorem mpath_snoc (tab : List Nat) : ∀ (n : Nat) (l : List (List Nat)) (k : Nat), mpath tab (n + 1) l k = mpath tab n l k ++ [(mups tab n l).getD ((k / 2 ^ n) ^^^ 1) []]
  | 0, l, k => by simp [mpath, mups]
  | n + 1, l, k => by
    show l.getD (k ^^^ 1) [] :: mpath tab (n + 1) (mup tab l) (k / 2) = l.getD (k ^^^ 1) [] :: mpath tab n (mup tab l) (k / 2) ++ [(mups tab n (mup tab l)).getD ((k / 2 ^ (n + 1)) ^^^ 1) []]
    rw [mpath_snoc tab n (mup tab l) (k / 2), Nat.div_div_eq_div_mul, ← Nat.pow_succ']
    rfl
/-- Is a path right? -/
def mright (n : Nat) (leaf : Int) : Bool := decide (n ≤ 8 ∧ 0 ≤ leaf ∧ leaf < ((2 ^ n : Nat) : Int))
theorem Ev.then {X Y : Nat → Prop} {a b c : World} (h : Ev X a b) (k : Ev Y b c) (hy : ∀ i, Y i → X i ∨ a.heap.size ≤ i) : Ev X a c :=
  ⟨k.os.trans h.os, k.tape.trans h.tape, k.output.trans h.output, Nat.le_trans h.size k.size, fun i hi hn => (k.block i (Nat.lt_of_lt_of_le hi h.size) fun y => (hy i y).elim hn fun x => by omega).trans (h.block i hi hn)⟩
end Go.Proofs.Yteaijjefbadnbaa
