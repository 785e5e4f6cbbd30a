/-
  Parts of slices of slices; the smaller one of two numbers; bytes that come in, as a string.
  No conditions: lemmas over any program.
-/
import Derived.Test.YteaijjefbadnbaaMacX
import Derived.Test.YteaijjefbadnbaaSame
namespace Go.Proofs.Yteaijjefbadnbaa
open Go.RowKit
set_option linter.unusedVariables false
set_option linter.unusedSimpArgs false
set_option maxRecDepth 100000

section
variable {P : Program}
theorem Val.slcG {a : Act} {op : Oper} {w : World} (t : TypeId) (x : Operand) (lo hi : Option Operand) (ho : op.op = .slice t x lo hi none) (b : Option Addr) (n c : Nat) (hx : a.eval x = .slice b n c) (hle : n ≤ c) (l' h' : Nat)
    (hlo : lo.map a.eval = some (.int .i64 (l' : Int)) ∨ (lo = none ∧ l' = 0)) (hhi : hi.map a.eval = some (.int .i64 (h' : Int)) ∨ (hi = none ∧ h' = n)) (h1 : l' ≤ h') (h2 : h' ≤ n)
    {e : TypeId} (ht : P.underlying t = some (.slice e)) (hi0 : (P.info? e).map (·.size) = some 1) : Val P a op (sliceV (.slice b n c) l' h') w := by
  obtain ⟨i, hi1, hm⟩ := Option.map_eq_some_iff.1 hi0
  have hsz : (sizeOf e).run P w = .ok 1 w := by simp [sizeOf, typeInfo, hi1, hm]
  have hb : (Instr.sliceBounds true n c (lo.map a.eval) (hi.map a.eval) none).run P w = .ok (l', h', c) w := by
    unfold Instr.sliceBounds
    rcases hlo with hlo | ⟨rfl, rfl⟩ <;> rcases hhi with hhi | ⟨rfl, rfl⟩
    · simp [hlo, hhi, run_bound (P := P) (w := w) (show h' ≤ c by omega), run_bound (P := P) (w := w) h1]
    · simp [hlo, run_bound (P := P) (w := w) h1]
    · simp [hhi, run_bound (P := P) (w := w) (show h' ≤ c by omega)]
    · simp
  unfold Val execOp
  simp only [ho, hx, Instr.sliceAt, run_underlying ht, Sem.run_bind, Result.andThen_ok, Instr.slice, Option.map_none, hb, hsz, Nat.mul_one, Sem.run_pure]
  rfl
theorem Val.minN {a : Act} {op : Oper} {w : World} (x y : Operand) (tx ty : TypeId) (ho : op.op = .call { callee := .builtin .min, args := #[x, y], argTypes := #[tx, ty] }) (n m : Nat) (hx : a.eval x = .int .i64 (n : Int)) (hy : a.eval y = .int .i64 (m : Int)) : Val P a op (.int .i64 ((min n m : Nat) : Int)) w := by
  unfold Val
  simp only [execOp, ho]
  simp [resolve, invoke, builtin, hx, hy, Builtin.min_, Builtin.min2]
  split <;> omega
end
theorem LowX.form {base : Nat} {w : World} {u : Value} {y : List Int} (h : LowX base w u y) : ∃ a c, u = .slice a y.length c ∧ y.length ≤ c := by
  rcases h with ⟨h, _⟩ | ⟨⟨a, rfl⟩, rfl⟩
  · rcases h with ⟨rfl, rfl⟩ | ⟨b, o, c, rfl, h1, _⟩
    · exact ⟨none, 0, rfl, by simp⟩
    · exact ⟨_, c, rfl, h1⟩
  · exact ⟨some a, 0, rfl, by simp⟩
theorem LowX.slice {base : Nat} {w : World} {u : Value} {y : List Int} (h : LowX base w u y) (lo hi : Nat) (h1 : lo ≤ hi) (h2 : hi ≤ y.length) : LowX base w (sliceV u lo hi) ((y.drop lo).take (hi - lo)) := by
  rcases h with ⟨h, hb⟩ | ⟨⟨a, rfl⟩, rfl⟩
  · exact .inl ⟨h.slice lo hi h1 h2, fun g hg => hb g (sliceV_own hg)⟩
  · obtain rfl : hi = 0 := by simpa using h2
    obtain rfl : lo = 0 := by omega
    exact .inr ⟨⟨a, by simp [sliceV]⟩, by simp⟩
theorem SVx.slice {w : World} {v : Value} {us : List Value} (h : SV w v us) (lo hi : Nat) (h1 : lo ≤ hi) (h2 : hi ≤ us.length) : SV w (sliceV v lo hi) ((us.drop lo).take (hi - lo)) := by
  have hlen : ((us.drop lo).take (hi - lo)).length = hi - lo := by simp; omega
  rcases h with ⟨rfl, rfl⟩ | ⟨b, o, c, rfl, h3, h4, h5, h6⟩
  · have : lo = 0 := by simp at h2; omega
    have h0 : hi = 0 := by simpa using h2
    subst this h0
    left; simp [sliceV]
  · by_cases hc : c = lo
    · refine .inr ⟨b, o, 0, ?_, by omega, by omega, h5, fun j hj => ?_⟩
      · simp [sliceV, hc, hlen]
      · omega
    · refine .inr ⟨b, o + lo, c - lo, ?_, by omega, by omega, h5, fun j hj => ?_⟩
      · simp [sliceV, hc, hlen, Addr.add_mid]
      · rw [Nat.add_assoc, h6 (lo + j) (by omega)]
        have : j < hi - lo := by omega
        simp [List.getElem?_take, List.getElem?_drop, this]
theorem SVx.cap {w : World} {A : Option Addr} {n C : Nat} {us : List Value} (h : SV w (.slice A n C) us) : n ≤ C := by
  rcases h with ⟨h, _⟩ | ⟨b, o, c, h, h1, _⟩
  · cases h; exact Nat.le_refl _
  · cases h; exact h1
theorem getD_append {α : Type} (l m : List α) (d : α) (j : Nat) : (l ++ m).getD j d = if j < l.length then l.getD j d else m.getD (j - l.length) d := by
  simp only [List.getD_eq_getElem?_getD]
  split
  · rename_i h; rw [List.getElem?_append_left h]
  · rename_i h; rw [List.getElem?_append_right (by omega)]
theorem SLxs.append {B : Nat} {w : World} {us us2 : List Value} {ys ys2 : List (List Int)} (h : SLxs B w us ys) (h2 : SLxs B w us2 ys2) : SLxs B w (us ++ us2) (ys ++ ys2) := by
  refine ⟨by simp [h.1, h2.1], fun j hj => ?_⟩
  rw [getD_append, getD_append, h.1]
  by_cases hjl : j < ys.length
  · rw [if_pos hjl, if_pos hjl]; exact h.2 j (by rw [h.1]; exact hjl)
  · rw [if_neg hjl, if_neg hjl]; exact h2.2 _ (by rw [List.length_append, h.1] at hj; omega)
theorem getD_drop {α : Type} (l : List α) (k j : Nat) (d : α) : (l.drop k).getD j d = l.getD (k + j) d := by
  simp only [List.getD_eq_getElem?_getD, List.getElem?_drop]
theorem SLxs.drop {B : Nat} {w : World} {us : List Value} {ys : List (List Int)} (h : SLxs B w us ys) (k : Nat) : SLxs B w (us.drop k) (ys.drop k) := by
  refine ⟨by simp [h.1], fun j hj => ?_⟩
  rw [getD_drop, getD_drop]
  exact h.2 (k + j) (by rw [List.length_drop] at hj; omega)
theorem SLxs.one {B : Nat} {w : World} {us : List Value} {ys : List (List Int)} (h : SLxs B w us ys) : ∀ u ∈ us, u.oneCell' = true := by
  intro u hu
  obtain ⟨j, hj, rfl⟩ := List.getElem_of_mem hu
  have := h.2 j hj
  rw [List.getD_eq_getElem?_getD, List.getElem?_eq_getElem hj] at this
  obtain ⟨a, c, e, _⟩ := LowX.form this
  simp only [Option.getD_some] at e
  rw [e]; rfl
theorem SLxs.two {B : Nat} {w : World} {u v : Value} {y z : List Int} (hu : LowX B w u y) (hv : LowX B w v z) : SLxs B w [u, v] [y, z] := by
  have h1 := SLxs.snoc (SLxs.nil B w) hu
  exact SLxs.snoc h1 hv
theorem SLxs.mono {B B' : Nat} {w : World} {us : List Value} {ys : List (List Int)} (h : SLxs B w us ys) (hB : B ≤ B') : SLxs B' w us ys := ⟨h.1, fun j hj => (h.2 j hj).imp (fun k => ⟨k.1, fun g hg => Nat.lt_of_lt_of_le (k.2 g hg) hB⟩) id⟩
theorem conv_SLx {P : Program} {src dst e : TypeId} (hs : P.underlying src = some (.slice e)) (he : P.underlying e = some (.int .u8)) (hd : P.underlying dst = some .string)
    {w : World} {v : Value} {xs : List Int} (h : SLx w v xs) : (convert src dst v).run P w = .ok (.string (strOf xs)) w := by
  rcases h with h | ⟨⟨a, rfl⟩, rfl⟩
  · exact conv_SL hs he hd h
  · rw [run_convert_bytes_string w src dst e _ _ _ hs he hd]
    refine run_bytesToString w _ _ _ [] ?_
    have hl := run_loadCells_list (P := P) w a ([] : List Value) (fun j v hv => by simp at hv)
    simpa using hl
set_option maxHeartbeats 400000 in
theorem samex_any (u v : Value) (xs ys : List Int) (w : World) (hu : SLx w u xs) (hv : SLx w v ys) (hx : Bytes xs) (hy : Bytes ys) :
    Calls Try.prog 28 #[u, v] w fun e w' => e = .returned (.bool (decide (xs = ys))) ∧ w = w' := by
  have c1 := conv_SLx (P := Try.prog) (src := 30) (dst := 9) Try.underlying30 Try.underlying5 Try.underlying9 hu
  have c2 := conv_SLx (P := Try.prog) (src := 30) (dst := 9) Try.underlying30 Try.underlying5 Try.underlying9 hv
  rw [← strOf_eq hx hy]
  go_enter Try.func28, Try.ntmps28
  go_wp2
  go_ret
  exact ⟨rfl, rfl⟩
end Go.Proofs.Yteaijjefbadnbaa
