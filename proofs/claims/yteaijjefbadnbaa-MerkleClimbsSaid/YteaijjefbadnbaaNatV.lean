/-
  Operations on unsigned words, told by naturals; rows of naturals.
  No conditions: lemmas over any program.
-/
import Derived.Test.YteaijjefbadnbaaCtl
namespace Go.Proofs.Yteaijjefbadnbaa
open Go.RowKit
set_option linter.unusedVariables false
set_option linter.unusedSimpArgs false
set_option maxRecDepth 100000

/-- Naturals as whole numbers. -/
def nn (ns : List Nat) : List Int := ns.map (fun (n : Nat) => (n : Int))
theorem nn_len (ns : List Nat) : (nn ns).length = ns.length := by simp [nn]
theorem nn_getD (ns : List Nat) (j : Nat) : (nn ns).getD j 0 = ((ns.getD j 0 : Nat) : Int) := by
  simp only [nn, List.getD_eq_getElem?_getD, List.getElem?_map]
  cases ns[j]? <;> rfl
theorem nn_set (ns : List Nat) (j n : Nat) : (nn ns).set j (n : Int) = nn (ns.set j n) := by simp [nn, List.map_set]
theorem nn_app (a b : List Nat) : nn (a ++ b) = nn a ++ nn b := by simp [nn]
theorem nn_take (a : List Nat) (k : Nat) : nn (a.take k) = (nn a).take k := by simp [nn, List.map_take]
theorem nn_drop (a : List Nat) (k : Nat) : nn (a.drop k) = (nn a).drop k := by simp [nn, List.map_drop]
theorem nn_inj {a b : List Nat} (h : nn a = nn b) : a = b := by
  induction a generalizing b with
  | nil => cases b <;> simp [nn] at h ⊢
  | cons x a ih => cases b with
    | nil => simp [nn] at h
    | cons y b =>
      simp only [nn, List.map_cons, List.cons.injEq] at h
      have h1 : x = y := by omega
      rw [h1, ih h.2]
theorem nn_rep (n : Nat) : nn (List.replicate n 0) = List.replicate n 0 := by simp [nn]
theorem nn_toNat {xs : List Int} (h : ∀ x ∈ xs, 0 ≤ x) : nn (xs.map Int.toNat) = xs := by
  induction xs with
  | nil => rfl
  | cons x xs ih =>
    have := ih fun y hy => h y (List.mem_cons_of_mem _ hy)
    have hx := h x (List.mem_cons_self ..)
    simp only [nn, List.map_cons] at this ⊢
    rw [this, Int.toNat_of_nonneg hx]

section
variable {P : Program} {w : World}
theorem wrapU (k : IntKind) (hs : k.signed = false) (n : Nat) : k.wrap (n : Int) = ((n % 2 ^ k.bits : Nat) : Int) := by
  have e : ((2 : Int) ^ k.bits) = ((2 ^ k.bits : Nat) : Int) := by simp
  simp only [IntKind.wrap, hs, e]
  simp
theorem Val.bin' {a : Act} {o : Oper} (b : BinOp) (t ty : TypeId) (x y : Operand) (ho : o.op = .binOp b t x y ty) {k k' : IntKind} {p q : Int} {v : Value} (hx : a.eval x = .int k p) (hy : a.eval y = .int k' q) (hrun : (binOp b t (.int k p) (.int k' q)).run P w = .ok v w) : Val P a o v w :=
  Val.bin b t ty x y ho _ _ hx hy (guard_int p q) hrun
theorem Val.addN {a : Act} {o : Oper} (t ty : TypeId) (x y : Operand) (ho : o.op = .binOp .add t x y ty) (k : IntKind) (p q m : Nat) (hx : a.eval x = .int k (p : Int)) (hy : a.eval y = .int k (q : Int)) (hs : k.signed = false := by rfl) (hm : 2 ^ k.bits = m := by kernel_rfl) : Val P a o (.int k (((p + q) % m : Nat) : Int)) w := by
  refine Val.bin' .add t ty x y ho hx hy ?_
  subst hm
  have := wrapU k hs (p + q)
  simp only [Int.natCast_add] at this
  simp [binOp, Op.intArith, this]
theorem Val.mulN {a : Act} {o : Oper} (t ty : TypeId) (x y : Operand) (ho : o.op = .binOp .mul t x y ty) (k : IntKind) (p q m : Nat) (hx : a.eval x = .int k (p : Int)) (hy : a.eval y = .int k (q : Int)) (hs : k.signed = false := by rfl) (hm : 2 ^ k.bits = m := by kernel_rfl) : Val P a o (.int k (((p * q) % m : Nat) : Int)) w := by
  refine Val.bin' .mul t ty x y ho hx hy ?_
  subst hm
  have := wrapU k hs (p * q)
  simp only [Int.natCast_mul] at this
  simp [binOp, Op.intArith, this]
theorem Val.subN {a : Act} {o : Oper} (t ty : TypeId) (x y : Operand) (ho : o.op = .binOp .sub t x y ty) (k : IntKind) (p q m : Nat) (hx : a.eval x = .int k (p : Int)) (hy : a.eval y = .int k (q : Int)) (hq : q ≤ p) (hs : k.signed = false := by rfl) (hm : 2 ^ k.bits = m := by kernel_rfl) : Val P a o (.int k (((p - q) % m : Nat) : Int)) w := by
  refine Val.bin' .sub t ty x y ho hx hy ?_
  subst hm
  have := wrapU k hs (p - q)
  rw [Int.ofNat_sub hq] at this
  simp [binOp, Op.intArith, this]
theorem ofInt_nat (b n : Nat) : BitVec.ofInt b (n : Int) = BitVec.ofNat b n := by simp
theorem Val.xorN {a : Act} {o : Oper} (t ty : TypeId) (x y : Operand) (ho : o.op = .binOp .xor t x y ty) (k : IntKind) (p q m : Nat) (hx : a.eval x = .int k (p : Int)) (hy : a.eval y = .int k (q : Int)) (hs : k.signed = false := by rfl) (hm : 2 ^ k.bits = m := by kernel_rfl) : Val P a o (.int k (((p ^^^ q) % m : Nat) : Int)) w := by
  refine Val.bin' .xor t ty x y ho hx hy ?_
  subst hm
  simp only [binOp, Op.intBits, ne_eq, not_true_eq_false, if_false, ofInt_nat, wrapU k hs, Sem.run_pure]
  congr 2
  rw [BitVec.toNat_xor, BitVec.toNat_ofNat, BitVec.toNat_ofNat, ← Nat.xor_mod_two_pow, Nat.mod_mod]
theorem Val.andN {a : Act} {o : Oper} (t ty : TypeId) (x y : Operand) (ho : o.op = .binOp .and t x y ty) (k : IntKind) (p q m : Nat) (hx : a.eval x = .int k (p : Int)) (hy : a.eval y = .int k (q : Int)) (hs : k.signed = false := by rfl) (hm : 2 ^ k.bits = m := by kernel_rfl) : Val P a o (.int k (((p &&& q) % m : Nat) : Int)) w := by
  refine Val.bin' .and t ty x y ho hx hy ?_
  subst hm
  simp only [binOp, Op.intBits, ne_eq, not_true_eq_false, if_false, ofInt_nat, wrapU k hs, Sem.run_pure]
  congr 2
  rw [BitVec.toNat_and, BitVec.toNat_ofNat, BitVec.toNat_ofNat, ← Nat.and_mod_two_pow, Nat.mod_mod]
theorem Val.orN {a : Act} {o : Oper} (t ty : TypeId) (x y : Operand) (ho : o.op = .binOp .or t x y ty) (k : IntKind) (p q m : Nat) (hx : a.eval x = .int k (p : Int)) (hy : a.eval y = .int k (q : Int)) (hs : k.signed = false := by rfl) (hm : 2 ^ k.bits = m := by kernel_rfl) : Val P a o (.int k (((p ||| q) % m : Nat) : Int)) w := by
  refine Val.bin' .or t ty x y ho hx hy ?_
  subst hm
  simp only [binOp, Op.intBits, ne_eq, not_true_eq_false, if_false, ofInt_nat, wrapU k hs, Sem.run_pure]
  congr 2
  rw [BitVec.toNat_or, BitVec.toNat_ofNat, BitVec.toNat_ofNat, ← Nat.or_mod_two_pow, Nat.mod_mod]
theorem Val.notN {a : Act} {o : Oper} (t : TypeId) (x : Operand) (ho : o.op = .unOp .xor t x) (k : IntKind) (p m : Nat) (hx : a.eval x = .int k (p : Int)) (hs : k.signed = false := by rfl) (hm : 2 ^ k.bits = m := by kernel_rfl) (hM : k.max = ((m - 1 : Nat) : Int) := by kernel_rfl) : Val P a o (.int k ((((m - 1) ^^^ p) % m : Nat) : Int)) w := by
  subst hm
  unfold Val execOp
  simp only [ho, hx, Op.unary, hs, Bool.false_eq_true, if_false, hM, Op.intBits, ofInt_nat, wrapU k hs, Sem.run_pure, Sem.run_bind, Result.andThen_ok]
  congr 3
  rw [BitVec.toNat_xor, BitVec.toNat_ofNat, BitVec.toNat_ofNat, ← Nat.xor_mod_two_pow, Nat.mod_mod]
theorem Val.shlN {a : Act} {o : Oper} (t ty : TypeId) (x y : Operand) (ho : o.op = .binOp .shl t x y ty) (k k' : IntKind) (p q m : Nat) (hx : a.eval x = .int k (p : Int)) (hy : a.eval y = .int k' (q : Int)) (hs : k.signed = false := by rfl) (hm : 2 ^ k.bits = m := by kernel_rfl) : Val P a o (.int k (((p <<< q) % m : Nat) : Int)) w := by
  refine Val.bin' .shl t ty x y ho hx hy ?_
  subst hm
  have h0 : ¬ (q : Int) < 0 := by omega
  have e : k.wrap ((p : Int) * 2 ^ (min q k.bits)) = (((p <<< q) % 2 ^ k.bits : Nat) : Int) := by
    have h1 := wrapU k hs (p * 2 ^ (min q k.bits))
    simp only [Int.natCast_mul, Int.natCast_pow] at h1
    rw [show ((2 : Nat) : Int) = 2 from rfl] at h1
    rw [h1]
    congr 1
    rw [Nat.shiftLeft_eq]
    rcases Nat.le_total q k.bits with h | h
    · rw [Nat.min_eq_left h]
    · rw [Nat.min_eq_right h, Nat.mul_mod_left]
      obtain ⟨d, rfl⟩ := Nat.exists_eq_add_of_le h
      rw [Nat.pow_add, ← Nat.mul_assoc, Nat.mul_right_comm, Nat.mul_mod_left]
  simp [binOp, Op.shift, h0, e]
theorem Val.shrN {a : Act} {o : Oper} (t ty : TypeId) (x y : Operand) (ho : o.op = .binOp .shr t x y ty) (k k' : IntKind) (p q : Nat) (hx : a.eval x = .int k (p : Int)) (hy : a.eval y = .int k' (q : Int)) (hq : q ≤ k.bits) : Val P a o (.int k ((p >>> q : Nat) : Int)) w := by
  refine Val.bin' .shr t ty x y ho hx hy ?_
  have h0 : ¬ (q : Int) < 0 := by omega
  have e : (p : Int).fdiv (2 ^ (min q k.bits)) = ((p >>> q : Nat) : Int) := by
    rw [Nat.min_eq_left hq, Nat.shiftRight_eq_div_pow]
    have h2 : (2 : Int) ^ q = ((2 ^ q : Nat) : Int) := by simp
    rw [h2]
    exact (Int.ofNat_fdiv p (2 ^ q)).symm
  simp [binOp, Op.shift, h0, e]
theorem Val.quoN {a : Act} {o : Oper} (t ty : TypeId) (x y : Operand) (ho : o.op = .binOp .quo t x y ty) (k : IntKind) (p q m : Nat) (hx : a.eval x = .int k (p : Int)) (hy : a.eval y = .int k (q : Int)) (hq : 0 < q) (hs : k.signed = false := by rfl) (hm : 2 ^ k.bits = m := by kernel_rfl) : Val P a o (.int k (((p / q) % m : Nat) : Int)) w := by
  refine Val.bin' .quo t ty x y ho hx hy ?_
  subst hm
  have h0 : ¬ (q : Int) = 0 := by omega
  have h1 : ¬ q = 0 := by omega
  have e : (p : Int).tdiv q = ((p / q : Nat) : Int) := by rw [Int.tdiv_eq_ediv_of_nonneg (by omega)]; rfl
  have := wrapU k hs (p / q)
  simp only [binOp, ne_eq, not_true_eq_false, if_false, Op.intDiv, h0, e, this, Sem.run_pure]
theorem Val.remN {a : Act} {o : Oper} (t ty : TypeId) (x y : Operand) (ho : o.op = .binOp .rem t x y ty) (k : IntKind) (p q : Nat) (hx : a.eval x = .int k (p : Int)) (hy : a.eval y = .int k (q : Int)) (hq : 0 < q) : Val P a o (.int k ((p % q : Nat) : Int)) w := by
  refine Val.bin' .rem t ty x y ho hx hy ?_
  have h0 : ¬ (q : Int) = 0 := by omega
  have e : (p : Int).tmod q = ((p % q : Nat) : Int) := by rw [Int.tmod_eq_emod_of_nonneg (by omega)]; rfl
  simp only [binOp, ne_eq, not_true_eq_false, if_false, Op.intDiv, h0, e, Sem.run_pure]
theorem Val.quoI {a : Act} {o : Oper} (t ty : TypeId) (x y : Operand) (ho : o.op = .binOp .quo t x y ty) (p q : Nat) (hx : a.eval x = .int .i64 (p : Int)) (hy : a.eval y = .int .i64 (q : Int)) (hq : 0 < q) (hp : p ≤ 9223372036854775807) : Val P a o (.int .i64 ((p / q : Nat) : Int)) w := by
  refine Val.bin' .quo t ty x y ho hx hy ?_
  have h0 : ¬ (q : Int) = 0 := by omega
  have e : (p : Int).tdiv q = ((p / q : Nat) : Int) := by rw [Int.tdiv_eq_ediv_of_nonneg (by omega)]; rfl
  have hle : p / q ≤ p := Nat.div_le_self _ _
  have e2 : IntKind.i64.wrap ((p / q : Nat) : Int) = ((p / q : Nat) : Int) := by
    generalize p / q = d at *
    simp [IntKind.wrap, IntKind.bits, IntKind.signed]; omega
  simp only [binOp, ne_eq, not_true_eq_false, if_false, Op.intDiv, h0, e, e2, Sem.run_pure]
/-- a number of one unsigned kind into another one -/
theorem Val.convN {a : Act} {o : Oper} (src dst : TypeId) (x : Operand) (ho : o.op = .convert src dst x) {k : IntKind} (k' : IntKind) (p m : Nat) (hsr : P.underlying src = some (.int k)) (hd : P.underlying dst = some (.int k')) (hx : a.eval x = .int k (p : Int)) (hs : k'.signed = false := by rfl) (hm : 2 ^ k'.bits = m := by kernel_rfl) : Val P a o (.int k' ((p % m : Nat) : Int)) w := by
  subst hm
  unfold Val execOp
  simp only [ho, hx, convert, run_underlying hsr, run_underlying hd, Conv.intToInt, wrapU k' hs, Sem.run_bind, Result.andThen_ok, Sem.run_pure]
theorem Val.asN {a : Act} {o : Oper} {k : IntKind} {p q : Nat} (h : Val P a o (.int k ((p : Nat) : Int)) w) (e : p = q) : Val P a o (.int k ((q : Nat) : Int)) w := e ▸ h
theorem Val.as {a : Act} {o : Oper} {v u : Value} (h : Val P a o v w) (e : v = u) : Val P a o u w := e ▸ h
theorem Val.neg {a : Act} {o : Oper} (t : TypeId) (x : Operand) (ho : o.op = .unOp .neg t x) (n : Int) (hx : a.eval x = .int .i64 n) (h : -9223372036854775807 ≤ n ∧ n ≤ 9223372036854775807) : Val P a o (.int .i64 (-n)) w := by
  unfold Val execOp
  have e : IntKind.i64.wrap (0 - n) = -n := by simp [IntKind.wrap, IntKind.bits, IntKind.signed]; omega
  simp [ho, hx, Op.unary, Op.intArith] at e ⊢
  exact e
/-- the address of an element of an array of plain elements -/
theorem Val.idxA1 {a : Act} {op : Oper} (t : TypeId) (x ix : Operand) (ho : op.op = .indexAddr t x ix) (g o k : Nat) (hx : a.eval x = .pointer (some ⟨g, o, none⟩)) (hix : a.eval ix = .int .i64 (k : Int))
    {n : Nat} {e : TypeId} (ht : P.underlying t = some (.array n e)) (hi0 : (P.info? e).map (·.size) = some 1) (hk : k < n) : Val P a op (.pointer (some ⟨g, o + k, none⟩)) w := by
  have := Val.idxA (P := P) (w := w) t x ix ho g o k hx hix 1 ht hi0 hk
  rwa [Nat.mul_one] at this
theorem Val.idxA01 {a : Act} {op : Oper} (t : TypeId) (x ix : Operand) (ho : op.op = .indexAddr t x ix) (g k : Nat) (hx : a.eval x = .pointer (some ⟨g, 0, none⟩)) (hix : a.eval ix = .int .i64 (k : Int))
    {n : Nat} {e : TypeId} (ht : P.underlying t = some (.array n e)) (hi0 : (P.info? e).map (·.size) = some 1) (hk : k < n) : Val P a op (.pointer (some ⟨g, k, none⟩)) w := by
  have := Val.idxA1 (P := P) (w := w) t x ix ho g 0 k hx hix ht hi0 hk
  rwa [Nat.zero_add] at this
/-- an element of an array of naturals, by value -/
theorem Val.ixN {a : Act} {o : Oper} (t : TypeId) (x ix : Operand) (ho : o.op = .index t x ix) {n : Nat} {e : TypeId} (k : IntKind) (ns : List Nat) (j : Nat) (hx : a.eval x = .agg (cellsOf k (nn ns))) (hix : a.eval ix = .int .i64 (j : Int)) (ht : P.underlying t = some (.array n e)) (he : P.underlying e = some (.int k)) (hi0 : (P.info? e).map (·.size) = some 1) (hj : j < n) (hl : ns.length = n) : Val P a o (.int k ((ns.getD j 0 : Nat) : Int)) w := by
  obtain ⟨i, hi, hm⟩ := Option.map_eq_some_iff.1 hi0
  have hsz : (sizeOf e).run P w = .ok 1 w := by simp [sizeOf, typeInfo, hi, hm]
  have hagg : (isAgg e).run P w = .ok false w := by simp [isAgg, run_underlying he]
  have hc := cells_at k (nn ns) j (by rw [nn_len]; omega)
  rw [nn_getD] at hc
  have h0 : (0 : Int) ≤ (j : Int) ∧ (j : Int) < (n : Int) := by omega
  unfold Val execOp
  simp [ho, hx, hix, Instr.index, asIntOf, run_underlying ht, hsz, hj, part, hagg, hc]
/-- a number of a block, of a slice, of naturals -/
theorem Val.nblk1 {a : Act} {o : Oper} (ty : TypeId) (x : Operand) (ho : o.op = .load ty x) (g i : Nat) (hx : a.eval x = .pointer (some ⟨g, i, none⟩)) (hagg : ∀ w, (isAgg ty).run P w = .ok false w) {k : IntKind} {t : TypeId} {ns : List Nat} (hc : Blk k w g t (nn ns)) (hv : i < ns.length) : Val P a o (.int k ((ns.getD i 0 : Nat) : Int)) w := by
  have := Val.blk1 (P := P) ty x ho g i hx hagg hc (by rw [nn_len]; exact hv)
  rwa [nn_getD] at this
theorem Val.nldE {a : Act} {op : Oper} (ty : TypeId) (x : Operand) (ho : op.op = .load ty x) (v : Value) (j : Nat) (hx : a.eval x = elemP v j) (hagg : ∀ w, (isAgg ty).run P w = .ok false w) {k : IntKind} {ns : List Nat} (hs : SL k w v (nn ns)) (hj : j < ns.length) : Val P a op (.int k ((ns.getD j 0 : Nat) : Int)) w := by
  have := Val.ldE (P := P) ty x ho v j hx hagg hs (by rw [nn_len]; exact hj)
  rwa [nn_getD] at this
theorem xStoreNN {ops : Array Oper} {Q : Exit → Act → World → Prop} {l : List Value} {ds : List Deferred} {oi : Oper} {rest : List Oper} (ty : TypeId) (x y : Operand) (ho : oi.op = .store ty x y) (k : IntKind) (g : Nat) (t : TypeId) (ns : List Nat) (o n : Nat) (hx : (⟨l.toArray, ds⟩ : Act).eval x = .pointer (some ⟨g, o, none⟩)) (hy : (⟨l.toArray, ds⟩ : Act).eval y = .int k (n : Int))
    (hc : Blk k w g t (nn ns)) (hi : (P.info? ty).map (·.size) = some 1) (hl : o < ns.length)
    (h : ∀ w', Tn g t ((nn (ns.set o n)).map (Value.int k)) w w' → wpList P ops Q rest ⟨l.toArray, ds⟩ w')
    (hw : Region.wanted oi (yielded ops l.toArray) = true := by kernel_rfl) (hd : oi.dst = none := by rfl) : wpList P ops Q (oi :: rest) ⟨l.toArray, ds⟩ w :=
  xStoreN ty x y ho k g t (nn ns) o (n : Int) hx hy hc hi (by rw [nn_len]; exact hl) (fun w' h' => h w' (by rw [nn_set] at h'; exact h')) hw hd
end
end Go.Proofs.Yteaijjefbadnbaa
