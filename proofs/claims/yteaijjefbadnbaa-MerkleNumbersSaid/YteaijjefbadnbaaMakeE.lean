/-
  A slice of rows made at once; a store of a row into it.
  No conditions: lemmas over any program.
-/
import Derived.Test.YteaijjefbadnbaaDigL
import Derived.Test.YteaijjefbadnbaaPk2
namespace Go.Proofs.Yteaijjefbadnbaa
open Go.RowKit
set_option linter.unusedVariables false
set_option linter.unusedSimpArgs false
set_option maxRecDepth 100000
theorem fe_rep (c z : Nat) : (List.replicate c (List.replicate z (0 : Int))).flatten = List.replicate (c * z) 0 := by simp
/-- a row in the middle, put anew -/
theorem fe_set {z : Nat} : ∀ {ds : List (List Int)} (j : Nat) (y : List Int), (∀ d ∈ ds, d.length = z) → y.length = z → j < ds.length → ds.flatten.take (j * z) ++ y ++ ds.flatten.drop (j * z + z) = (ds.set j y).flatten
  | [], j, y, _, _, h => by simp at h
  | d :: ds, 0, y, h, hy, _ => by
    rw [Nat.zero_mul, List.take_zero, List.nil_append, Nat.zero_add, List.flatten_cons, List.drop_left' (h d (List.mem_cons_self ..))]
    rfl
  | d :: ds, j + 1, y, h, hy, hj => by
    have hd := h d (List.mem_cons_self ..)
    have ih := fe_set (ds := ds) j y (fun x hx => h x (List.mem_cons_of_mem _ hx)) hy (by simpa using hj)
    rw [List.set_cons_succ, List.flatten_cons, List.flatten_cons, ← ih, Nat.succ_mul, List.take_append, List.drop_append, hd, List.take_of_length_le (by omega), show j * z + z - z = j * z by omega, List.drop_of_length_le (by omega), show j * z + z + z - z = j * z + z by omega]
    simp [List.append_assoc]
theorem nnd_rep (c z : Nat) : nnd (List.replicate c (List.replicate z 0)) = List.replicate c (List.replicate z (0 : Int)) := by simp [nnd, nn_rep]
theorem nnd_set (ds : List (List Nat)) (j : Nat) (y : List Nat) : nnd (ds.set j y) = (nnd ds).set j (nn y) := by simp [nnd, List.map_set]
section
variable {P : Program} {ops : Array Oper} {Q : Exit → Act → World → Prop} {l : List Value} {ds : List Deferred} {w : World} {oi : Oper} {rest : List Oper}
theorem xMakeE (d : Nat) (x y : Operand) (t e : TypeId) (k : IntKind) (z bytes : Nat) (ho : oi.op = .makeSlice t x y)
    (ht : P.underlying t = some (.slice e)) (hinfo : (P.info? e).map (fun i => (i.zero, i.size, i.bytes)) = some (some (.agg (cellsOf k (List.replicate z 0))), z, bytes)) (hz : 0 < z)
    (c : Nat) (hx : (⟨l.toArray, ds⟩ : Act).eval x = .int .i64 (c : Int)) (hy : (⟨l.toArray, ds⟩ : Act).eval y = .int .i64 (c : Int)) (hmx : c ≤ maxLen) (h48 : bytes * c ≤ 281474976710656)
    (h : ∀ w', OwnE e k z w.heap.size w' (.slice (some ⟨w.heap.size, 0, none⟩) c c) (List.replicate c (List.replicate z 0)) → E0 w w' → wpList P ops Q rest ⟨(l.set d (.slice (some ⟨w.heap.size, 0, none⟩) c c)).toArray, ds⟩ w')
    (hw : Region.wanted oi (yielded ops l.toArray) = true := by kernel_rfl) (hd : oi.dst = some d := by rfl) : wpList P ops Q (oi :: rest) ⟨l.toArray, ds⟩ w := by
  obtain ⟨i, hi, hz0, hz1, hz2⟩ := info_parts hinfo
  have h63 : (c : Int) ≤ 9223372036854775807 := by unfold maxLen at hmx; omega
  have hb2 : (i.bytes : Int) * (c : Int) ≤ 281474976710656 := by
    have : ((bytes * c : Nat) : Int) ≤ 281474976710656 := by omega
    rw [hz2]; rwa [Int.natCast_mul] at this
  have hr := run_make (P := P) w t e i _ ht hi hz0 .i64 .i64 c c (by omega) (Int.le_refl _) hb2 h63
  simp only [Int.toNat_natCast, hz1] at hr
  have hm : madeCells (Value.agg (cellsOf k (List.replicate z 0))).cells (c * z) = (nums k (List.replicate c (List.replicate z 0)).flatten).toArray := by
    rw [fe_rep]
    show madeCells (cellsOf k (List.replicate z 0)) (c * z) = _
    have hsz : (cellsOf k (List.replicate z 0)).size = z := by rw [cells_size]; simp
    apply Array.ext
    · simp [madeCells, nums]
    · intro j h1 h2
      have hlt : j % (cellsOf k (List.replicate z 0)).size < (cellsOf k (List.replicate z 0)).size := Nat.mod_lt _ (by omega)
      have e1 : (cellsOf k (List.replicate z 0))[j % (cellsOf k (List.replicate z 0)).size]! = (cellsOf k (List.replicate z 0))[j % (cellsOf k (List.replicate z 0)).size]'hlt := getElem!_pos (cellsOf k (List.replicate z 0)) _ hlt
      simp only [madeCells, Array.getElem_map, Array.getElem_range]
      rw [e1]
      simp [cellsOf, nums]
  rw [hm] at hr
  refine wpList_wanted hw fun K hK => ?_
  unfold Oper.wp
  simp only [execOp, ho, hx, hy, Sem.run_bind, hr, Result.andThen_ok, Sem.run_pure]
  rw [Oper.upon_value, put_list' d _ hd]
  have hnw : Nw w (w.alloc (.cells (nums k (List.replicate c (List.replicate z 0)).flatten).toArray e)) e (nums k (List.replicate c (List.replicate z 0)).flatten) := Nw.of w e _
  exact hK _ _ (h _ (OwnE.ofCel hnw.c (fun d hd => by rw [List.eq_of_mem_replicate hd]; simp) (by simp) (Nat.le_refl _) hmx) (alloc_e0 _ _))
theorem overV_take {cs vs : List Value} {o m : Nat} (h : o + vs.length ≤ m) (hm : m ≤ cs.length) : (overV cs o vs).take m = overV (cs.take m) o vs := by
  unfold overV
  have h1 : (cs.take o ++ vs).length = o + vs.length := by rw [List.length_append, List.length_take]; omega
  rw [List.take_append, List.take_of_length_le (by rw [h1]; exact h), h1, List.take_take, Nat.min_eq_left (by omega), List.drop_take]
theorem overV_len {cs vs : List Value} {o : Nat} (h : o + vs.length ≤ cs.length) : (overV cs o vs).length = cs.length := by
  unfold overV
  rw [List.length_append, List.length_append, List.length_take, List.length_drop]; omega
/-- a store of a row into a row of rows of the call's own -/
theorem xStoreE2 (ty : TypeId) (x y : Operand) (ho : oi.op = .store ty x y) (v : Value) (j : Nat) (ys : List Int) {e : TypeId} {k : IntKind} {z base : Nat} {xs : List (List Int)} (hx : (⟨l.toArray, ds⟩ : Act).eval x = elemE z v j) (hy : (⟨l.toArray, ds⟩ : Act).eval y = .agg (cellsOf k ys))
    (hs : OwnE e k z base w v xs) (hi : (P.info? ty).map (·.size) = some z) (hyl : ys.length = z) (hj : j < xs.length)
    (h : ∀ w', OwnE e k z base w' v (xs.set j ys) → Ev (fun i => v.ownBlock = some i) w w' → w'.heap.size = w.heap.size → wpList P ops Q rest ⟨l.toArray, ds⟩ w')
    (hw : Region.wanted oi (yielded ops l.toArray) = true := by kernel_rfl) (hd : oi.dst = none := by rfl) : wpList P ops Q (oi :: rest) ⟨l.toArray, ds⟩ w := by
  obtain ⟨h0, hl, hc⟩ := hs
  rcases hc with ⟨rfl, h0'⟩ | ⟨g, cap, cur, rfl, q1, q2, q3, q4, q5, q6⟩
  · omega
  · simp only [elemE, Addr.add_mid, Nat.zero_add] at hx
    have hjz : j * z + z ≤ xs.length * z := by rw [← Nat.succ_mul]; exact Nat.mul_le_mul_right _ hj
    have hcz : xs.length * z ≤ cap * z := Nat.mul_le_mul_right _ q3
    have hnl : (nums k ys).length = z := by rw [nums_length, hyl]
    have hcl : cur.toList.length = cap * z := by simpa using q5
    have hset : ∀ d ∈ xs.set j ys, d.length = z := fun d hd => by
      rcases List.mem_or_eq_of_mem_set hd with hd | rfl
      · exact h0 d hd
      · exact hyl
    refine xStoreR ty x y ho g e cur.toList (j * z) (nums k ys) hx (by rw [hy]; rfl) q2 (by rw [hi, hnl]) (by rw [hnl, hcl]; omega) (List.all_eq_true.2 fun u hu => nums_one k _ u hu) _ rfl (fun w' ht => ?_) hw hd
    refine h w' ⟨hset, ?_, .inr ⟨g, cap, (overV cur.toList (j * z) (nums k ys)).toArray, by rw [List.length_set], q1, ht.c, by rw [List.length_set]; exact q3, q4, ?_, ?_⟩⟩ (ht.e.mono fun i hi => by rw [hi]; rfl) ht.z
    · rw [nums_length, fe_length hset]
    · rw [List.size_toArray, overV_len (by rw [hnl, hcl]; omega), hcl]
    · rw [List.length_set]
      show (overV cur.toList (j * z) (nums k ys)).take (xs.length * z) = _
      rw [overV_take (by rw [hnl]; exact hjz) (by rw [hcl]; exact hcz), q6]
      unfold overV
      rw [hnl, ← fe_set j ys h0 hyl hj]
      simp only [nums, List.map_append, List.map_take, List.map_drop]
end
end Go.Proofs.Yteaijjefbadnbaa
