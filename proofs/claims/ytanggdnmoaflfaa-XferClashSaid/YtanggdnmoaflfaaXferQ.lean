/-
  Transfers: pieces of the same bytes, a call of Put each.
-/
import Derived.Test.YtanggdnmoaflfaaXferG
namespace Go.Proofs.Ytanggdnmoaflfaa
open Go.RowKit
set_option linter.unusedVariables false
set_option linter.unusedSimpArgs false
set_option maxRecDepth 100000

/-- the address of a number of a row of pairs -/
theorem Val.aixE {P : Program} {a : Act} {op : Oper} {w : World} (t : TypeId) (x ix : Operand) (ho : op.op = .indexAddr t x ix) (v : Value) (j f : Nat) (hx : a.eval x = elemE 2 v j) (hix : a.eval ix = .int .i64 (f : Int)) {h : List (Int × Int)} (hs : SE .i64 2 w v (spS h)) {e : TypeId}
    (ht : P.underlying t = some (.array 2 e)) (hi0 : (P.info? e).map (·.size) = some 1) (hf : f < 2) (hj : j < h.length) : Val P a op (elemF v j f) w := by
  obtain ⟨i, hi, hm⟩ := Option.map_eq_some_iff.1 hi0
  rcases hs.2 with ⟨rfl, h0⟩ | ⟨b, of, c, rfl, h1, h2, h3, h4⟩
  · have h0' : h.length = 0 := by rw [← spS_len, h0]; rfl
    omega
  · simp only [elemE, Addr.add_mid] at hx
    unfold Val execOp
    have hsz : (sizeOf e).run P w = .ok 1 w := by simp [sizeOf, typeInfo, hi, hm]
    have hb : (0 : Int) ≤ (f : Int) ∧ (f : Int) < 2 := by omega
    simp [ho, hx, hix, Instr.indexAt, run_underlying ht, asIntOf, Instr.sureAddr, hsz, hf, hb, elemF, Addr.add_mid, Nat.add_assoc]
theorem Own.ne {e t : TypeId} {k : IntKind} {base g : Nat} {w : World} {v : Value} {xs : List Int} {cs : List Value} (O : Own e k base w v xs) (C : Cel w g t cs) (hne : e ≠ t) : ∀ i, v.ownBlock = some i → i ≠ g := fun i hi hg => by
  subst hg
  rcases O.2 with ⟨rfl, _⟩ | ⟨g', cap, cur, rfl, _, hh, _⟩
  · cases hi
  · have : g' = i := by simpa [Value.ownBlock] using hi
    subst this
    unfold Cel at C
    rw [hh] at C
    simp only [Option.some.injEq, Obj.cells.injEq] at C
    exact hne C.2.1
theorem getD_lt {xs : List Nat} (h : ∀ k, xs.getD k 0 < 256) : ∀ x ∈ xs, x < 256 := fun x hx => by
  obtain ⟨k, hk, rfl⟩ := List.getElem_of_mem hx
  have := h k
  rwa [List.getD_eq_getElem?_getD, List.getElem?_eq_getElem hk] at this
theorem getD_lt' {xs : List Nat} (h : ∀ x ∈ xs, x < 256) (k : Nat) : xs.getD k 0 < 256 := by
  rw [List.getD_eq_getElem?_getD]
  cases hk : xs[k]? with
  | none => decide
  | some x => exact h x (List.mem_of_getElem? hk)
theorem GoodX.lt {all : List Nat} {ps : List (Nat × Nat)} {s : List Nat × List (Int × Int)} (h : GoodX all ps s) (hb : ∀ x ∈ all, x < 256) : ∀ x ∈ s.1, x < 256 := getD_lt fun k => by
  cases hm : memS s.2 k with
  | true => rw [h.same k hm]; exact getD_lt' hb k
  | false => rw [rightX_zero h.right hm]; decide
theorem GoodX.wf {all : List Nat} {ps : List (Nat × Nat)} {s : List Nat × List (Int × Int)} (h : GoodX all ps s) : ∀ t ∈ s.2, wfS t := wfS_can (by have := rightX_len h.right; omega) (by omega) (rightX_can h.right)
theorem GoodX.many {all : List Nat} {ps : List (Nat × Nat)} {s : List Nat × List (Int × Int)} (h : GoodX all ps s) : s.2.length ≤ 90000 := by
  have h1 := canonS_len (rightX_can h.right) (by omega)
  have h2 := rightX_len h.right
  omega
/-- the pieces that rows of two numbers tell, of n bytes -/
def pcO (n : Nat) (s : Int × Int) : Nat × Nat := (cutF n s.1, cutT n s.1 s.2)
def pcs (n : Nat) (l : List (Int × Int)) (k : Nat) : List (Nat × Nat) := (l.take k).map (pcO n)
theorem pcO_ok {n : Nat} (hn : 1 ≤ n) (s : Int × Int) : PcOk n (pcO n s) := cutP_ok hn _ _
theorem pcs_ok {n : Nat} (hn : 1 ≤ n) (l : List (Int × Int)) (k : Nat) : ∀ p ∈ pcs n l k, PcOk n p := fun p hp => by
  obtain ⟨s, _, rfl⟩ := List.mem_map.1 hp; exact pcO_ok hn s
theorem pcs_succ {n : Nat} {l : List (Int × Int)} {i : Nat} (hi : i < l.length) : pcs n l (i + 1) = pcs n l i ++ [pcO n (l.getD i (0, 0))] := by
  unfold pcs
  rw [List.take_add_one, List.map_append, List.getD_eq_getElem?_getD, List.getElem?_eq_getElem hi]; rfl
attribute [local irreducible] runX putX
/-- a call of Put with a piece of the same bytes -/
theorem runput_any (all : List Nat) (hn : all.length ≤ 2000) (qs : List (Nat × Nat)) (hqs : ∀ p ∈ qs, PcOk all.length p) (p : Nat × Nat) (hp : PcOk all.length p) (dv hv av : Value) (w : World) (D : SL .u8 w dv (nn (runX all qs).1)) (H : SE .i64 2 w hv (spS (runX all qs).2)) (Da : SL .u8 w av (nn all)) :
    Calls Try.prog 33 #[.agg #[dv, hv], .int .i64 ((p.1 : Nat) : Int), sliceV av p.1 p.2] w fun e w' => (∃ X Y Z T, e = .returned (.tuple #[.agg #[.slice X all.length Y, .slice Z (runX all (qs ++ [p])).2.length T], .int .i64 0]) ∧ Own 5 .u8 w.heap.size w' (.slice X all.length Y) (nn (runX all (qs ++ [p])).1) ∧ OwnE 70 .i64 2 w.heap.size w' (.slice Z (runX all (qs ++ [p])).2.length T) (spS (runX all (qs ++ [p])).2)) ∧ Below w.heap.size w w' := by
  have hg := runX_good (by omega) qs hqs
  have hg2 := runX_good (all := all) (by omega) (qs ++ [p]) (fun q hq => by
    rcases List.mem_append.1 hq with hq | hq
    · exact hqs q hq
    · rw [List.mem_singleton.1 hq]; exact hp)
  have hpl := hp.2.1
  have hp1 := hp.1
  have hr := runX_put (by omega) hqs hp
  have hs : SL .u8 w (sliceV av p.1 p.2) (nn (segN all p)) := (Da.slice p.1 p.2 (by omega) (by rw [nn_len]; omega)).castX (nn_seg all p.1 p.2)
  refine (put_any dv hv _ ((p.1 : Nat) : Int) (by omega) _ (segN all p) _ w D hs H (by rw [hg.len]; omega) hg.many).mono ?_
  rintro e w' ⟨⟨dv', hv', he, O1, O2⟩, hb⟩
  rw [hr] at he O1 O2
  refine ⟨?_, hb⟩
  obtain ⟨X, Y, hq⟩ := O1.len
  rw [nn_len] at hq
  simp only [] at hq
  rw [hg2.len] at hq
  subst hq
  obtain ⟨Z, T, hq, _⟩ := O2.len
  rw [spS_len] at hq
  subst hq
  exact ⟨X, Y, Z, T, he, O1, O2⟩
end Go.Proofs.Ytanggdnmoaflfaa
