/-
  The forms of the code: sequences, tests, loops, the end; copy; slices of slices; conversions.
  No conditions: lemmas over any program.
-/
import Derived.Test.YteaijjefbadnbaaEv
import Derived.Test.YteaijjefbadnbaaStepZ
import Derived.Laws.CopyOwn
namespace Go.Proofs.Yteaijjefbadnbaa
open Go.RowKit
set_option linter.unusedVariables false
set_option linter.unusedSimpArgs false
set_option maxRecDepth 100000

section
variable {P : Program} {Q : Exit → Act → World → Prop} {a : Act} {w : World} {ops : Array Oper} {l : List Value} {ds : List Deferred} {oi : Oper} {rest : List Oper}
theorem cPlain {id : Nat} {l : List Oper} (h : wpList P l.toArray Q l a w) : (Code.region id l.toArray false).wp P Q a w := wp_region_lit h
/-- a test that is open -/
theorem cDec {c : Operand} {x y : Code} (p : Prop) [Decidable p] (hc : a.eval c = .bool (decide p)) (ht : p → x.wp P Q a w) (hf : ¬ p → y.wp P Q a w) : (Code.cond c x y).wp P Q a w :=
  wp_cond_split hc (fun h => ht (of_decide_eq_true h)) (fun h => hf (of_decide_eq_false h))
theorem cT {c : Operand} {x y : Code} (h : x.wp P Q a w) (hc : a.eval c = .bool true := by kernel_rfl) : (Code.cond c x y).wp P Q a w := wp_cond_true hc h
theorem cF {c : Operand} {x y : Code} (h : y.wp P Q a w) (hc : a.eval c = .bool false := by kernel_rfl) : (Code.cond c x y).wp P Q a w := wp_cond_false hc h
/-- a loop: what holds at its head, told by how many rounds there may be at most -/
theorem cLoop {c : Code} (I : Nat → Act → World → Prop) (n : Nat) (h0 : I n a w) (round : ∀ n a w, I n a w → c.wp P (Exit.then (fun a' w' => ∃ m, m < n ∧ I m a' w') Q) a w) : (Code.loop c).wp P Q a w := by
  classical
  let J : Act → World → Prop := fun a w => ∃ n, I n a w
  have hleast : ∀ k a w, I k a w → ∃ m, I m a w ∧ m ≤ k ∧ ∀ j, j < m → ¬ I j a w := by
    intro k
    induction k using Nat.strongRecOn with
    | _ k ih =>
      intro a w hk
      by_cases h : ∃ j, j < k ∧ I j a w
      · obtain ⟨j, hj, hI⟩ := h
        obtain ⟨m, h1, h2, h3⟩ := ih j hj a w hI
        exact ⟨m, h1, by omega, h3⟩
      · exact ⟨k, hk, Nat.le_refl _, fun j hj hI => h ⟨j, hj, hI⟩⟩
  let μ : Act → World → Nat := fun a w => if h : ∃ m, I m a w ∧ ∀ j, j < m → ¬ I j a w then h.choose else 0
  have hμ : ∀ a w, J a w → I (μ a w) a w ∧ ∀ k, I k a w → μ a w ≤ k := by
    intro a w ⟨n, hn⟩
    have h : ∃ m, I m a w ∧ ∀ j, j < m → ¬ I j a w := by
      obtain ⟨m, h1, _, h3⟩ := hleast n a w hn
      exact ⟨m, h1, h3⟩
    have e : μ a w = h.choose := dif_pos h
    rw [e]
    refine ⟨h.choose_spec.1, fun k hk => ?_⟩
    rcases Nat.lt_or_ge k h.choose with hlt | hge
    · exact absurd hk (h.choose_spec.2 k hlt)
    · exact hge
  refine wp_loop J μ ⟨n, h0⟩ fun a w hJ => ?_
  refine wp_mono (round (μ a w) a w (hμ a w hJ).1) fun e a' w' h => ?_
  cases e with
  | normal =>
    obtain ⟨m, hm, hI⟩ := h
    exact ⟨⟨m, hI⟩, Nat.lt_of_le_of_lt ((hμ a' w' ⟨m, hI⟩).2 m hI) hm⟩
  | _ => exact h
/-- a frame, some of whose slots are let go -/
theorem cutE {l : List Value} {ds : List Deferred} {F : (Nat → Value) → List Value} (h : F (fun i => l.getD i undef) = l := by kernel_rfl) : ∃ sc : Nat → Value, (⟨l.toArray, ds⟩ : Act) = ⟨(F sc).toArray, ds⟩ := ⟨_, by rw [h]⟩
/-- a cut: what holds behind x -/
theorem cCut {x y : Code} (J : Act → World → Prop) (hx : x.wp P (Exit.then J Q) a w) (hy : ∀ a w, J a w → y.wp P Q a w) : (Code.seq x y).wp P Q a w :=
  wp_seq (wp_mono hx fun e a' w' h => by cases e <;> first | exact hy _ _ h | exact h)
/-- one result that lies in memory -/
theorem rC {fn : Func} {s : Nat} {t : TypeId} (hr : fn.results = #[.cell s t]) (tm : Array Value) (g : Nat) (bt : TypeId) (cs : List Value) (hs : tm.getD s undef = .pointer (some ⟨g, 0, none⟩)) (hc : Cel w g bt cs)
    (d : TypeDesc) (hu : P.underlying t = some d) (hd : d.isRow = true) (hi : (P.info? t).map (·.size) = some cs.length) : (results fn tm).run P w = .ok (.agg cs.toArray) w := by
  have := run_loadVar_mid (P := P) w g 0 t cs d (fun j v hv => by rw [Nat.zero_add, hc.cell j v hv]) hu hd hi
  have ha : (asAddr (tm.getD s undef)).run P w = .ok ⟨g, 0, none⟩ w := by rw [hs]; simp [asAddr]
  simp only [results, hr]
  simp only [Array.getD_eq_getD_getElem?] at ha
  simp [ha, this]
/-- .. and one in a slot -/
theorem rCT {fn : Func} {s r : Nat} {t : TypeId} (hr : fn.results = #[.cell s t, .tmp r]) (tm : Array Value) (g : Nat) (bt : TypeId) (cs : List Value) (v : Value) (hs : tm.getD s undef = .pointer (some ⟨g, 0, none⟩)) (hv : tm.getD r undef = v) (hc : Cel w g bt cs)
    (d : TypeDesc) (hu : P.underlying t = some d) (hd : d.isRow = true) (hi : (P.info? t).map (·.size) = some cs.length) : (results fn tm).run P w = .ok (.tuple #[.agg cs.toArray, v]) w := by
  have := run_loadVar_mid (P := P) w g 0 t cs d (fun j v hv => by rw [Nat.zero_add, hc.cell j v hv]) hu hd hi
  subst hv
  have ha : (asAddr (tm.getD s undef)).run P w = .ok ⟨g, 0, none⟩ w := by rw [hs]; simp [asAddr]
  simp only [results, hr]
  simp only [Array.getD_eq_getD_getElem?] at ha
  simp [ha, this]
theorem eval_not {b : Bool} : (!b) = decide (b = false) := by cases b <;> rfl
/-- results in slots -/
theorem rT {fn : Func} {tm : Array Value} {v : Value} (h : (results fn tm).run P w = .ok v w := by kernel_rfl) : (results fn tm).run P w = .ok v w := h
/-- part of a block -/
def segV (o n : Nat) (cs : List Value) : List Value := (cs.drop o).take n
theorem Val.cel {a : Act} {op : Oper} {w : World} (ty : TypeId) (x : Operand) (ho : op.op = .load ty x) {g : Nat} {t : TypeId} {cs : List Value} (o n : Nat) (hx : a.eval x = .pointer (some ⟨g, o, none⟩)) (h : Cel w g t cs)
    (d : TypeDesc) (hu : P.underlying ty = some d) (hd : d.isRow = true) (hi : (P.info? ty).map (·.size) = some n) (hl : o + n ≤ cs.length) (vs : List Value) (hvs : segV o n cs = vs) : Val P a op (.agg vs.toArray) w := by
  subst hvs
  have hlen : (segV o n cs).length = n := by simp [segV]; omega
  unfold Val execOp
  have := run_loadAt_mid (P := P) w g o ty (segV o n cs) d (fun j v hv => by
    have hj : j < n := by rw [← hlen]; exact (List.getElem?_eq_some_iff.1 hv).1
    refine h.cell _ _ ?_
    rw [← hv]
    simp only [segV, List.getElem?_take, List.getElem?_drop]
    rw [if_pos hj]) hu hd (by rw [hi, hlen])
  simp only [ho, hx, Sem.run_bind, this, Result.andThen_ok, Sem.run_pure]
/-- a plain cell of a known block -/
theorem Val.cel1 {a : Act} {o : Oper} {w : World} (ty : TypeId) (x : Operand) (ho : o.op = .load ty x) (g i : Nat) (v : Value) (hx : a.eval x = .pointer (some ⟨g, i, none⟩)) (hagg : ∀ w, (isAgg ty).run P w = .ok false w)
    {t : TypeId} {cs : List Value} (hc : Cel w g t cs) (hv : cs[i]? = some v) : Val P a o v w := Val.cell ty x ho g i v hx hagg (hc.cell i v hv)
/-- a number of a known block of numbers -/
theorem Val.blk1 {a : Act} {o : Oper} {w : World} (ty : TypeId) (x : Operand) (ho : o.op = .load ty x) (g i : Nat) (hx : a.eval x = .pointer (some ⟨g, i, none⟩)) (hagg : ∀ w, (isAgg ty).run P w = .ok false w)
    {k : IntKind} {t : TypeId} {xs : List Int} (hc : Blk k w g t xs) (hv : i < xs.length) : Val P a o (.int k (xs.getD i 0)) w := Val.cell ty x ho g i _ hx hagg (hc.cell i hv)
/-- a number of a slice of numbers -/
theorem Val.sl1 {a : Act} {op : Oper} {w : World} (ty : TypeId) (x : Operand) (ho : op.op = .load ty x) (b o j n c : Nat) (hx : a.eval x = .pointer (some ⟨b, o + j * 1, none⟩)) (hagg : ∀ w, (isAgg ty).run P w = .ok false w)
    {k : IntKind} {xs : List Int} (hc : SL k w (.slice (some ⟨b, o, none⟩) n c) xs) (hv : j < xs.length) : Val P a op (.int k (xs.getD j 0)) w := Val.cell ty x ho b (o + j * 1) _ hx hagg (by rw [Nat.mul_one]; exact hc.at j hv)
/-- a part of a slice, as it lies -/
def sliceV : Value → Nat → Nat → Value
  | .slice a n c, lo, hi => .slice (if c = lo then a else a.map (·.add lo)) (hi - lo) (c - lo)
  | v, _, _ => v
theorem sliceV_own {v : Value} {lo hi i : Nat} (h : (sliceV v lo hi).ownBlock = some i) : v.ownBlock = some i := by
  cases v with
  | slice a n c =>
    simp only [sliceV, Value.ownBlock] at h ⊢
    cases a with
    | none => by_cases hc : c = lo <;> simp [hc] at h
    | some ad =>
      by_cases hc : c = lo
      · simpa [hc] using h
      · simp only [hc, if_false, Option.map_some] at h
        have : (ad.add lo).block = ad.block := by unfold Addr.add; split <;> rfl
        simpa [this] using h
  | _ => exact h
theorem SL.slice {k : IntKind} {w : World} {v : Value} {xs : List Int} (h : SL k w v xs) (lo hi : Nat) (h1 : lo ≤ hi) (h2 : hi ≤ xs.length) : SL k w (sliceV v lo hi) ((xs.drop lo).take (hi - lo)) := by
  have hlen : ((xs.drop lo).take (hi - lo)).length = hi - lo := by simp; omega
  rcases h with ⟨rfl, rfl⟩ | ⟨b, o, c, rfl, h3, h4, h5, h6⟩
  · have : lo = 0 := by simp at h2; omega
    have h0 : hi = 0 := by simpa using h2
    subst this h0
    left; simp [sliceV]
  · by_cases hc : c = lo
    · refine .inr ⟨b, o, 0, ?_, by omega, by omega, h5, fun j hj => ?_⟩
      · simp [sliceV, hc, hlen]
      · omega
    · refine .inr ⟨b, o + lo, c - lo, ?_, by omega, by omega, h5, fun j hj => ?_⟩
      · simp [sliceV, hc, hlen, Addr.add_mid]
      · rw [Nat.add_assoc, h6 (lo + j) (by omega)]
        have : j < hi - lo := by omega
        simp [List.getElem?_take, List.getElem?_drop, this]
theorem run_bound {k : Nat} {y : Nat} {c : BoundsCode} (h : k ≤ y) : (Instr.sliceBound (.int .i64 (k : Int)) y c).run P w = .ok k w := by
  have h2 : (0 : Int) ≤ k ∧ (k : Int) ≤ y := by omega
  simp [Instr.sliceBound, asIntOf, h]
theorem Val.slc {a : Act} {op : Oper} {w : World} (t : TypeId) (x : Operand) (lo hi : Option Operand) (ho : op.op = .slice t x lo hi none) (v : Value) (hx : a.eval x = v) {k : IntKind} {xs : List Int} (hs : SL k w v xs) (l' h' : Nat)
    (hlo : lo.map a.eval = some (.int .i64 (l' : Int)) ∨ (lo = none ∧ l' = 0)) (hhi : hi.map a.eval = some (.int .i64 (h' : Int)) ∨ (hi = none ∧ h' = xs.length)) (h1 : l' ≤ h') (h2 : h' ≤ xs.length)
    {e : TypeId} (ht : P.underlying t = some (.slice e)) (hi0 : (P.info? e).map (·.size) = some 1) : Val P a op (sliceV v l' h') w := by
  obtain ⟨i, hi1, hm⟩ := Option.map_eq_some_iff.1 hi0
  have hsz : (sizeOf e).run P w = .ok 1 w := by simp [sizeOf, typeInfo, hi1, hm]
  obtain ⟨b, c, rfl, hle, hml⟩ : ∃ b c, v = .slice b xs.length c ∧ xs.length ≤ c ∧ True := by
    rcases hs with ⟨rfl, rfl⟩ | ⟨b, o, c, rfl, h3, h4, _⟩
    · exact ⟨none, 0, rfl, by simp, trivial⟩
    · exact ⟨_, _, rfl, h3, trivial⟩
  have hb : (Instr.sliceBounds true xs.length c (lo.map a.eval) (hi.map a.eval) none).run P w = .ok (l', h', c) w := by
    unfold Instr.sliceBounds
    rcases hlo with hlo | ⟨rfl, rfl⟩ <;> rcases hhi with hhi | ⟨rfl, rfl⟩
    · simp [hlo, hhi, run_bound (P := P) (w := w) (show h' ≤ c by omega), run_bound (P := P) (w := w) h1]
    · simp [hlo, run_bound (P := P) (w := w) h1]
    · simp [hhi, run_bound (P := P) (w := w) (show h' ≤ c by omega)]
    · simp
  unfold Val execOp
  simp only [ho, hx, Instr.sliceAt, run_underlying ht, Sem.run_bind, Result.andThen_ok, Instr.slice, Option.map_none, hb, hsz, Nat.mul_one, Sem.run_pure]
  rfl
/-- the address of an element of a slice, as it lies -/
def elemP : Value → Nat → Value
  | .slice (some ad) _ _, k => .pointer (some (ad.add k))
  | _, _ => undef
theorem Val.idxE {a : Act} {op : Oper} {w : World} (t : TypeId) (x ix : Operand) (ho : op.op = .indexAddr t x ix) (v : Value) (j : Nat) (hx : a.eval x = v) (hix : a.eval ix = .int .i64 (j : Int)) {k : IntKind} {xs : List Int} (hs : SL k w v xs)
    {e : TypeId} (ht : P.underlying t = some (.slice e)) (hi0 : (P.info? e).map (·.size) = some 1) (hj : j < xs.length) : Val P a op (elemP v j) w := by
  rcases hs with ⟨rfl, rfl⟩ | ⟨b, o, c, rfl, h1, h2, h3, h4⟩
  · simp at hj
  · have := Val.idxS (P := P) (w := w) t x ix ho b o xs.length c j hx hix 1 ht hi0 hj
    rw [Nat.mul_one] at this
    simpa [elemP, Addr.add_mid] using this
theorem Val.ldE {a : Act} {op : Oper} {w : World} (ty : TypeId) (x : Operand) (ho : op.op = .load ty x) (v : Value) (j : Nat) (hx : a.eval x = elemP v j) (hagg : ∀ w, (isAgg ty).run P w = .ok false w) {k : IntKind} {xs : List Int} (hs : SL k w v xs) (hj : j < xs.length) : Val P a op (.int k (xs.getD j 0)) w := by
  rcases hs with ⟨rfl, rfl⟩ | ⟨b, o, c, rfl, h1, h2, h3, h4⟩
  · simp at hj
  · simp only [elemP, Addr.add_mid] at hx
    exact Val.cell ty x ho b (o + j) _ hx hagg (h4 j hj)
/-- a store into an element of a row of the call's own -/
theorem xStoreE (ty : TypeId) (x y : Operand) (ho : oi.op = .store ty x y) (v : Value) (j : Nat) (n : Int) {e : TypeId} {k : IntKind} {base : Nat} {xs : List Int} (hx : (⟨l.toArray, ds⟩ : Act).eval x = elemP v j) (hy : (⟨l.toArray, ds⟩ : Act).eval y = .int k n)
    (hs : Own e k base w v xs) (hi : (P.info? ty).map (·.size) = some 1) (hj : j < xs.length)
    (h : ∀ w', Own e k base w' v (xs.set j n) → Ev (fun i => v.ownBlock = some i) w w' → w'.heap.size = w.heap.size → wpList P ops Q rest ⟨l.toArray, ds⟩ w')
    (hw : Region.wanted oi (yielded ops l.toArray) = true := by kernel_rfl) (hd : oi.dst = none := by rfl) : wpList P ops Q (oi :: rest) ⟨l.toArray, ds⟩ w := by
  obtain ⟨hl, hc⟩ := hs
  rcases hc with ⟨rfl, h0⟩ | ⟨g, cap, cur, rfl, q1, q2, q3, q4, q5, q6⟩
  · omega
  · simp only [elemP, Addr.add_mid, Nat.zero_add] at hx
    have hcur : cur.toList.take xs.length = nums k xs := by simpa using q6
    have hsz : cur.size = cap := by simpa using q5
    have hjc : j < cur.size := by omega
    refine wp_store1 hw ty x y ho hd g j (.int k n) cur[j] hx hy rfl hi (by rw [Joins.cell_of_block q2]; simp [hjc]) (Joins.unfrozen_of_block q2 j) ?_
    refine h _ ⟨by simp [nums], .inr ⟨g, cap, cur.setIfInBounds j (.int k n), by rw [List.length_set], q1, ?_, by rw [List.length_set]; exact q3, q4, by simp [hsz], ?_⟩⟩ ⟨rfl, rfl, rfl, by simp [World.setCell], fun i _ hne => heap_setCell_other w _ i _ (fun e => hne (by rw [e]; rfl))⟩ (by simp [World.setCell])
    · rw [heap_setCell_same w g j _ _ _ q2]
    · rw [List.length_set, Nat.mul_one, Array.toList_setIfInBounds, List.take_set, hcur]
      simp [nums, List.map_set]
/-- copy of numbers into a known block -/
theorem xCopy (d : Nat) (x y : Operand) (dT sT e : TypeId) (ho : oi.op = .call { callee := .builtin .copy, args := #[x, y], argTypes := #[dT, sT] }) (hu : P.underlying dT = some (.slice e)) (hsz : (P.info? e).map (·.size) = some 1)
    (g off dLen dCap : Nat) (t : TypeId) (cs : List Value) (k : IntKind) (u : Value) (ys : List Int) (hx : (⟨l.toArray, ds⟩ : Act).eval x = .slice (some ⟨g, off, none⟩) dLen dCap) (hy : (⟨l.toArray, ds⟩ : Act).eval y = u)
    (hc : Cel w g t cs) (hs : SL k w u ys) (m : Nat) (hm : m = min ys.length dLen) (hfit : off + m ≤ cs.length) (cs' : List Value) (hcs : overV cs off ((ys.take m).map (Value.int k)) = cs')
    (h : ∀ w', Tn g t cs' w w' → wpList P ops Q rest ⟨(l.set d (.int .i64 (m : Int))).toArray, ds⟩ w')
    (hgd : oi.guard = none := by rfl) (hd : oi.dst = some d := by rfl) : wpList P ops Q (oi :: rest) ⟨l.toArray, ds⟩ w := by
  have hlen : ((ys.take m).map (Value.int k)).length = m := by simp; omega
  have h0 : m = 0 → wpList P ops Q rest ((⟨l.toArray, ds⟩ : Act).put oi.dst (goInt (0 : Int))) w := by
    rintro rfl
    rw [show (goInt (0 : Int)) = .int .i64 ((0 : Nat) : Int) from rfl, put_list' d _ hd]
    refine h w ⟨Ev.refl _ _, ?_, rfl⟩
    rw [← hcs]
    simpa [overV] using hc
  rcases hs with ⟨h1, h2⟩ | ⟨b, o, c, hv, h1, h2, h3, h4⟩
  · subst h2
    have hm0 : m = 0 := by simpa using hm
    exact wpList_copy_nothing hgd x y dT sT ho e hu hsz _ _ _ _ _ _ hx (hy.trans h1) (Nat.zero_min _) (h0 hm0)
  · by_cases hm0 : m = 0
    · exact wpList_copy_nothing hgd x y dT sT ho e hu hsz _ _ _ _ _ _ hx (hy.trans hv) (by show min ys.length dLen = 0; omega) (h0 hm0)
    · refine wpList_copy_own hgd x y dT sT ho e hu hsz g off dLen dCap ⟨b, o, none⟩ ys.length c hx (hy.trans hv) cs.toArray t hc ((ys.take m).map (Value.int k)) (by rw [hlen, hm]) ?_ (by rw [hlen]; simpa using hfit) ?_ ?_
      · intro j v hj
        have hjm : j < m := by rw [← hlen]; exact (List.getElem?_eq_some_iff.1 hj).1
        have hjy : j < ys.length := by omega
        rw [Addr.add_lit, h4 j hjy, ← hj]
        simp [List.getElem?_take, hjm, hjy]
      · intro v hv
        obtain ⟨n, _, rfl⟩ := List.mem_map.1 hv
        rfl
      · rw [hlen, show (goInt (m : Int)) = .int .i64 (m : Int) from rfl, put_list' d _ hd]
        refine h _ ⟨⟨rfl, rfl, rfl, by simp [World.setRow], fun i _ hi => setRow_other w g i _ hi⟩, ?_, by simp [World.setRow]⟩
        unfold Cel
        rw [← hcs]
        have h5 : w.heap[g]? = some (.cells cs.toArray t (0, 0)) := hc
        simp [World.setRow, Array.getElem?_modify, h5, overV]
        omega
end
end Go.Proofs.Yteaijjefbadnbaa
