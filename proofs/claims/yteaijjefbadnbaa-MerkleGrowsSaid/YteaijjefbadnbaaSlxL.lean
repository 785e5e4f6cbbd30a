/-
  Slices of slices of bytes, as they come in: an inner one without length and capacity may lie anywhere.
  No conditions: lemmas over any program.
-/
import Derived.Test.YteaijjefbadnbaaPartsL
import Derived.Test.YteaijjefbadnbaaOpen
import Derived.Deep.AppendSrc
import Derived.Deep.Upon
namespace Go.Proofs.Yteaijjefbadnbaa
open Go.RowKit Go.ChangeShapes Go.WideShapes Go.ChangeAt
set_option linter.unusedVariables false
set_option linter.unusedSimpArgs false
set_option maxRecDepth 100000

/-- Reads as y; or is the empty one, lying anywhere. -/
def SLx (w : World) (u : Value) (y : List Int) : Prop := SL .u8 w u y ∨ ((∃ a, u = .slice (some a) 0 0) ∧ y = [])
theorem SLx.form {w : World} {u : Value} {y : List Int} (h : SLx w u y) : ∃ a c, u = .slice a y.length c := by
  rcases h with h | ⟨⟨a, rfl⟩, rfl⟩
  · obtain ⟨a, c, rfl, _⟩ := h.len
    exact ⟨a, c, rfl⟩
  · exact ⟨some a, 0, rfl⟩
/-- Rows of such; what they hold lies below B. -/
def SLxs (B : Nat) (w : World) (us : List Value) (ys : List (List Int)) : Prop := us.length = ys.length ∧ ∀ j, j < us.length → (SL .u8 w (us.getD j undef) (ys.getD j []) ∧ ∀ g, (us.getD j undef).ownBlock = some g → g < B) ∨ ((∃ a, us.getD j undef = .slice (some a) 0 0) ∧ ys.getD j [] = [])
theorem SLxs.nil (B : Nat) (w : World) : SLxs B w [] [] := ⟨rfl, fun j hj => by simp at hj⟩
theorem SLxs.ev {B : Nat} {w w' : World} {us : List Value} {ys : List (List Int)} {X : Nat → Prop} (h : SLxs B w us ys) (e : Ev X w w') (hX : ∀ i, X i → B ≤ i) : SLxs B w' us ys :=
  ⟨h.1, fun j hj => (h.2 j hj).imp (fun k => ⟨k.1.ev e fun g hg x => by have := k.2 g hg; have := hX g x; omega, k.2⟩) id⟩
theorem SLxs.e0 {B : Nat} {w w' : World} {us : List Value} {ys : List (List Int)} (h : SLxs B w us ys) (e : E0 w w') : SLxs B w' us ys := h.ev e fun _ x => x.elim
theorem SLxs.get {B : Nat} {w : World} {us : List Value} {ys : List (List Int)} (h : SLxs B w us ys) (j : Nat) (hj : j < ys.length) : SLx w (us.getD j undef) (ys.getD j []) := (h.2 j (by rw [h.1]; exact hj)).imp (fun k => k.1) id
theorem getD_snoc {α : Type} (l : List α) (x d : α) (j : Nat) : (l ++ [x]).getD j d = if j < l.length then l.getD j d else if j = l.length then x else d := by
  simp only [List.getD_eq_getElem?_getD]
  split
  · rename_i h; rw [List.getElem?_append_left h]
  · rename_i h
    rw [List.getElem?_append_right (by omega)]
    split
    · rename_i h2; rw [h2, Nat.sub_self]; rfl
    · rw [List.getElem?_eq_none (by simp; omega)]; rfl
theorem SLxs.snoc {B : Nat} {w : World} {us : List Value} {ys : List (List Int)} {u : Value} {y : List Int} (h : SLxs B w us ys) (hu : (SL .u8 w u y ∧ ∀ g, u.ownBlock = some g → g < B) ∨ ((∃ a, u = .slice (some a) 0 0) ∧ y = [])) : SLxs B w (us ++ [u]) (ys ++ [y]) := by
  refine ⟨by simp [h.1], fun j hj => ?_⟩
  rw [getD_snoc, getD_snoc, h.1]
  by_cases hjl : j < ys.length
  · rw [if_pos hjl, if_pos hjl]
    exact h.2 j (by rw [h.1]; exact hjl)
  · have : j = ys.length := by simp [h.1] at hj; omega
    rw [if_neg hjl, if_neg hjl, if_pos this, if_pos this]
    exact hu
theorem SLs.x {B : Nat} {w : World} {us : List Value} {ys : List (List Int)} (h : SLs .u8 B w us ys) : SLxs B w us ys := ⟨h.length, fun j hj => .inl (h.get j hj)⟩
theorem SVx.evB {w w' : World} {v : Value} {us : List Value} {X : Nat → Prop} (h : SV w v us) (e : Ev X w w') (B : Nat) (hv : ∀ i, v.ownBlock = some i → i < B) (hX : ∀ i, X i → B ≤ i) : SV w' v us := by
  rcases h with h | ⟨b, o, c, rfl, h1, h2, h3, h4⟩
  · exact .inl h
  · exact .inr ⟨b, o, c, rfl, h1, h2, Nat.lt_of_lt_of_le h3 e.size, fun j hj => by rw [World.cell?_of_block (a := ⟨b, o + j, none⟩) (e.block b h3 (fun x => by have := hX b x; have := hv b rfl; omega))]; exact h4 j hj⟩
theorem SVx.lt {w : World} {v : Value} {us : List Value} (h : SV w v us) : ∀ i, v.ownBlock = some i → i < w.heap.size := by
  rcases h with ⟨rfl, _⟩ | ⟨b, o, c, rfl, h1, h2, h3, h4⟩
  · intro i hi; cases hi
  · intro i hi; simp [Value.ownBlock] at hi; omega
section
variable {P : Program} {ops : Array Oper} {Q : Exit → Act → World → Prop} {l : List Value} {ds : List Deferred} {w : World} {oi : Oper} {rest : List Oper}
theorem xApp0 (d : Nat) (s x : Operand) (t e : TypeId) (k : IntKind) (bytes : Nat) (ho : oi.op = .call { callee := .builtin .append, args := #[s, x], argTypes := #[t, t] })
    (ht : P.underlying t = some (.slice e)) (hinfo : (P.info? e).map (fun i => (i.zero, i.size, i.bytes)) = some (some (.int k 0), 1, bytes))
    (base : Nat) (v : Value) (xs : List Int) (hs : (⟨l.toArray, ds⟩ : Act).eval s = v) (hown : Own e k base w v xs) (a : Addr) (hx : (⟨l.toArray, ds⟩ : Act).eval x = .slice (some a) 0 0)
    (h : wpList P ops Q rest ⟨(l.set d v).toArray, ds⟩ w)
    (hgd : oi.guard = none := by rfl) (hd : oi.dst = some d := by rfl) : wpList P ops Q (oi :: rest) ⟨l.toArray, ds⟩ w := by
  obtain ⟨i, hi, hz0, hz1, hz2⟩ := info_parts hinfo
  refine wpList_plain hgd fun K hK => ?_
  have hform : ∃ b c, v = .slice b xs.length c ∧ xs.length ≤ c := by
    rcases hown.2 with ⟨hv, hx0⟩ | ⟨g, cap, cur, hv, _, _, hc, _⟩
    · exact ⟨none, 0, by rw [hv, hx0], by omega⟩
    · exact ⟨_, cap, hv, hc⟩
  obtain ⟨b, c, rfl, hc⟩ := hform
  have hrun := run_append_nothing (P := P) w t t oi.type e i ht hi b xs.length c hc (.slice (some a) 0 0) (Src.ofSlice w ht a 0 0 [] (by simp) (by simp) (by simp))
  unfold Oper.wp
  simp [execOp, ho, resolve, invoke, builtin, hs, hx, hrun, Result.andThen]
  refine hK _ _ ?_
  rw [put_list' d _ hd]
  exact h
theorem xAppV (d : Nat) (s x : Operand) (t e : TypeId) (z : Value) (bytes : Nat) (ho : oi.op = .call { callee := .builtin .append, args := #[s, x], argTypes := #[t, t] })
    (ht : P.underlying t = some (.slice e)) (hinfo : (P.info? e).map (fun i => (i.zero, i.size, i.bytes)) = some (some z, 1, bytes)) (hzc : z.cells.size = 1)
    (base : Nat) (v : Value) (us : List Value) (hs : (⟨l.toArray, ds⟩ : Act).eval s = v) (hown : OwnV e base w v us)
    (u : Value) (ys : List Value) (hx : (⟨l.toArray, ds⟩ : Act).eval x = u) (hu : SV w u ys) (hone : ∀ y ∈ ys, y.oneCell' = true)
    (h47 : (us.length + ys.length) * bytes ≤ 140737488355328) (h63 : us.length + ys.length ≤ maxLen) (hbase : base ≤ w.heap.size)
    (h : ∀ v' w', OwnV e base w' v' (us ++ ys) → Below base w w' → wpList P ops Q rest ⟨(l.set d v').toArray, ds⟩ w')
    (hgd : oi.guard = none := by rfl) (hd : oi.dst = some d := by rfl) : wpList P ops Q (oi :: rest) ⟨l.toArray, ds⟩ w := by
  refine app_ownV hgd s x t e z bytes ho ht hinfo hzc base v us hs hown u ys hx hu hone h47 h63 hbase fun v' w' h1 h2 _ => ?_
  rw [put_list' d _ hd]
  exact h v' w' h1 h2
end
section
variable {P : Program}
theorem slx_of {t e : TypeId} (ht : P.underlying t = some (.slice e)) (he : P.underlying e = some (.int .u8)) (hc : P.cellsOf e = 1) {H : Type} {enc : TypeId × Value → H} {W : World} {fuel : Nat} {c : Value} {x : DataW H × List MemPlace}
    (h : DataW.trod enc P W 0 (fun _ => true) true fuel t [c] = some x) : ∃ y : List Int, SLx W c y ∧ ∀ n ∈ y, (Lit.int .u8 n).wf = true := by
  rcases open_ints ht he hc h with ⟨hcs, _⟩ | ⟨a, l, cp, zs, hcs, _, hl, hm, hz, hx, hcell, hwz⟩
  · simp only [List.cons.injEq, and_true] at hcs
    subst hcs
    exact ⟨[], .inl (.inl ⟨rfl, rfl⟩), fun n hn => by cases hn⟩
  · simp only [List.cons.injEq, and_true] at hcs
    subst hcs
    simp at hz
    by_cases h0 : cp = 0
    · subst h0
      obtain rfl : l = 0 := by omega
      exact ⟨[], .inr ⟨⟨a, rfl⟩, rfl⟩, fun n hn => by cases hn⟩
    · obtain ⟨b, o, sp⟩ := a
      have hc0 := hcell 0 (by omega)
      have hsp : sp = none := by simpa [Addr.add] using World.cell?_spot hc0
      subst hsp
      have hb : b < W.heap.size := by
        rcases Nat.lt_or_ge b W.heap.size with h' | h'
        · exact h'
        · rw [Addr.add_mid] at hc0
          simp [World.cell?, Array.getElem?_eq_none h'] at hc0
      have hlen : (zs.take l).length = l := by rw [List.length_take]; omega
      refine ⟨zs.take l, .inl (.inr ⟨b, o, cp, by rw [hlen], by omega, hm, hb, fun j hj => ?_⟩), fun n hn => hwz n (List.mem_of_mem_take hn)⟩
      rw [hlen] at hj
      have := hcell j (by omega)
      rw [Addr.add_mid] at this
      rw [this]
      simp [List.getElem?_take, hj]
theorem open_rows {t s e : TypeId} (ht : P.underlying t = some (.slice s)) (hs : P.underlying s = some (.slice e)) (he : P.underlying e = some (.int .u8)) (hcs : P.cellsOf s = 1) (hce : P.cellsOf e = 1) {H : Type} {enc : TypeId × Value → H} {W : World} {r : Reach} {b0 : Nat} {v : Value} {d : DataW H} {p : List MemPlace}
    (hval : Value.okWide P W r b0 t v) (h : DataW.Trod enc P W 0 (fun _ => true) true t v d p) : ∃ us ys, SV W v us ∧ SLxs W.heap.size W us ys ∧ ∀ y ∈ ys, ∀ n ∈ y, (Lit.int .u8 n).wf = true := by
  have hval' := hval
  obtain ⟨a0, len0, cap0, rfl⟩ := okWide_slice ht hval
  obtain ⟨fuel, hf⟩ := h
  rcases DataW.trod_slice ht hf with ⟨hc, _⟩ | ⟨a, len, cap, elems, rest, n, _, hc, _, _, hl, hm, hlen, hel, _, _⟩
  · simp [Value.cells] at hc
    obtain ⟨rfl, rfl, rfl⟩ := hc
    exact ⟨[], [], .inl ⟨rfl, rfl⟩, SLxs.nil _ _, fun y hy => by cases hy⟩
  · simp [Value.cells] at hc
    obtain ⟨rfl, rfl, rfl⟩ := hc
    simp only [Value.okWide, ht, Cell.okWide, Cell.ok, World.has] at hval'
    obtain ⟨_, _, _, hsp, row, cells, hsh, _⟩ := hval'
    obtain ⟨b, o, sp⟩ := a
    simp only at hsp hsh
    subst hsp
    have hb : b < W.heap.size := by
      rcases Nat.lt_or_ge b W.heap.size with h | h
      · exact h
      · simp [World.shape?, Array.getElem?_eq_none h] at hsh
    have each : ∀ i, i < len0 → ∃ c y, W.cell? ⟨b, o + i, none⟩ = some c ∧ SLx W c y ∧ ∀ n ∈ y, (Lit.int .u8 n).wf = true := by
      intro i hi
      have h1 := hel i hi
      rw [hcs, Nat.mul_one, List.getElem?_eq_getElem (show i < elems.length by omega), Option.bind_eq_some_iff] at h1
      obtain ⟨cs', h2, h3⟩ := h1
      obtain ⟨_, hl1, hcell⟩ := World.cells?_some h2
      match cs', hl1 with
      | [c], _ =>
        obtain ⟨y, hy, hw⟩ := slx_of hs he hce h3
        have := cell_of_cells?_one h2
        rw [Addr.add_mid] at this
        exact ⟨c, y, this, hy, hw⟩
    let uf : Nat → Value := fun i => if hi : i < len0 then (each i hi).choose else undef
    let yf : Nat → List Int := fun i => if hi : i < len0 then (each i hi).choose_spec.choose else []
    have huf : ∀ i (hi : i < len0), W.cell? ⟨b, o + i, none⟩ = some (uf i) ∧ SLx W (uf i) (yf i) ∧ ∀ n ∈ yf i, (Lit.int .u8 n).wf = true := by
      intro i hi
      simp only [uf, yf, dif_pos hi]
      exact (each i hi).choose_spec.choose_spec
    have gu : ∀ j, j < len0 → ((List.range len0).map uf).getD j undef = uf j := fun j hj => by rw [List.getD_eq_getElem?_getD, List.getElem?_map, List.getElem?_range hj]; rfl
    have gy : ∀ j, j < len0 → ((List.range len0).map yf).getD j [] = yf j := fun j hj => by rw [List.getD_eq_getElem?_getD, List.getElem?_map, List.getElem?_range hj]; rfl
    refine ⟨(List.range len0).map uf, (List.range len0).map yf, .inr ⟨b, o, cap0, by simp, by simpa using hl, hm, hb, fun j hj => ?_⟩, ⟨by simp, fun j hj => ?_⟩, fun y hy => ?_⟩
    · have hj' : j < len0 := by simpa using hj
      rw [gu j hj']
      exact (huf j hj').1
    · have hj' : j < len0 := by simpa using hj
      rw [gu j hj', gy j hj']
      exact (huf j hj').2.1.imp (fun k => ⟨k, k.lt⟩) id
    · obtain ⟨i, hi, rfl⟩ := List.mem_map.1 hy
      exact (huf i (List.mem_range.1 hi)).2.2
end
end Go.Proofs.Yteaijjefbadnbaa
