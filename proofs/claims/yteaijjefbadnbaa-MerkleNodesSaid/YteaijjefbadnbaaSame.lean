/-
  blockhouselow.SameBytes and Pick: bytes compared as strings; a number from 0 to n - 1 out of any.
  No conditions.
-/
import Derived.Test.YteaijjefbadnbaaText
namespace Go.Proofs.Yteaijjefbadnbaa
open Go.RowKit
set_option linter.unusedVariables false
set_option linter.unusedSimpArgs false
set_option maxRecDepth 100000

/-- Bytes as a string. -/
def strOf (xs : List Int) : ByteArray := xs.foldl (fun r n => r.push (UInt8.ofNat n.toNat)) ByteArray.empty

theorem conv_SL {P : Program} {src dst e : TypeId} (hs : P.underlying src = some (.slice e)) (he : P.underlying e = some (.int .u8)) (hd : P.underlying dst = some .string)
    {w : World} {v : Value} {xs : List Int} (h : SL .u8 w v xs) : (convert src dst v).run P w = .ok (.string (strOf xs)) w := by
  rcases h with ⟨rfl, rfl⟩ | ⟨b, o, c, rfl, h1, h2, h3, h4⟩
  · rw [run_convert_bytes_string w src dst e none 0 0 hs he hd]
    rfl
  · rw [run_convert_bytes_string w src dst e _ _ _ hs he hd]
    refine run_bytesToString w _ _ _ xs ?_
    have hl := run_loadCells_list (P := P) w ⟨b, o, none⟩ (xs.map (Value.int .u8)) (fun j v hv => by
      have hj : j < xs.length := by
        have := (List.getElem?_eq_some_iff.1 hv).1
        simpa using this
      rw [Addr.add_lit, h4 j hj, ← hv]
      simp [hj])
    simpa using hl

theorem strOf_data (xs : List Int) : ∀ acc : ByteArray, (xs.foldl (fun r n => r.push (UInt8.ofNat n.toNat)) acc).data.toList = acc.data.toList ++ xs.map (fun n => UInt8.ofNat n.toNat) := by
  induction xs with
  | nil => intro acc; simp
  | cons x xs ih => intro acc; rw [List.foldl_cons, ih]; simp [ByteArray.push]

theorem strOf_toList (xs : List Int) : (strOf xs).data.toList = xs.map (fun n => UInt8.ofNat n.toNat) := by
  rw [strOf, strOf_data]; rfl

theorem toList_inj {a b : ByteArray} (h : a.toList = b.toList) : a = b := by
  rw [Lib.toList_data, Lib.toList_data] at h
  cases a; cases b
  congr
  exact Array.toList_inj.1 h

theorem strOf_inj {xs ys : List Int} (hx : Bytes xs) (hy : Bytes ys) (h : strOf xs = strOf ys) : xs = ys := by
  have h2 := strOf_toList xs
  rw [h, strOf_toList] at h2
  clear h
  induction xs generalizing ys with
  | nil => cases ys with
    | nil => rfl
    | cons y ys => simp at h2
  | cons x xs ih => cases ys with
    | nil => simp at h2
    | cons y ys =>
      simp only [List.map_cons, List.cons.injEq] at h2
      have a := hx x (List.mem_cons_self ..)
      have b := hy y (List.mem_cons_self ..)
      have h3 := congrArg UInt8.toNat h2.1
      simp at h3
      have e : x = y := by omega
      rw [e, ih (fun z hz => hx z (List.mem_cons_of_mem _ hz)) (fun z hz => hy z (List.mem_cons_of_mem _ hz)) h2.2]

theorem strOf_eq {xs ys : List Int} (hx : Bytes xs) (hy : Bytes ys) : ((strOf xs).toList == (strOf ys).toList) = decide (xs = ys) := by
  by_cases h : xs = ys
  · subst h; simp only [decide_true]; exact beq_iff_eq.2 rfl
  · have : ¬ (strOf xs).toList = (strOf ys).toList := fun e => h (strOf_inj hx hy (toList_inj e))
    simp only [h, decide_false]; exact beq_eq_false_iff_ne.2 this

set_option maxHeartbeats 400000 in
theorem same_any (u v : Value) (xs ys : List Int) (w : World) (hu : SL .u8 w u xs) (hv : SL .u8 w v ys) (hx : Bytes xs) (hy : Bytes ys) :
    Calls Try.prog 28 #[u, v] w fun e w' => e = .returned (.bool (decide (xs = ys))) ∧ w = w' := by
  have c1 := conv_SL (P := Try.prog) (src := 30) (dst := 9) Try.underlying30 Try.underlying5 Try.underlying9 hu
  have c2 := conv_SL (P := Try.prog) (src := 30) (dst := 9) Try.underlying30 Try.underlying5 Try.underlying9 hv
  rw [← strOf_eq hx hy]
  go_enter Try.func28, Try.ntmps28
  go_wp2
  go_ret
  exact ⟨rfl, rfl⟩

/-- Go's remainder, made a number from 0 on. -/
def pickF (x n : Int) : Int := if x.tmod n < 0 then x.tmod n + n else x.tmod n
theorem pickF_range (x n : Int) (h : 0 < n) : 0 ≤ pickF x n ∧ pickF x n < n := by
  have h1 := Int.tmod_lt_of_pos x h
  have h2 : -n < x.tmod n := by
    have h3 := Int.tmod_add_mul_tdiv x n
    have h4 := Int.tmod_lt_of_pos (-x) h
    rw [Int.neg_tmod] at h4
    omega
  unfold pickF; split <;> omega

set_option maxHeartbeats 400000 in
theorem pick_any (x n : Int) (h0 : 0 < n) (h1 : n ≤ 1000000) (hx : -9223372036854775808 ≤ x) (hx2 : x ≤ 9223372036854775807) (w : World) :
    Calls Try.prog 42 #[.int .i64 x, .int .i64 n] w fun e w' => e = .returned (.int .i64 (pickF x n)) ∧ w = w' := by
  have hr := pickF_range x n h0
  go_enter Try.func42, Try.ntmps42
  go_wp2
  all_goals go_ret
  · refine ⟨congrArg Ending.returned (congrArg (Value.int IntKind.i64) ?_), rfl⟩
    have e : pickF x n = x.tmod n + n := if_pos (by assumption)
    rw [e] at hr ⊢
    exact IntWalk.wrap64_in _ ⟨by omega, by omega⟩
  · refine ⟨congrArg Ending.returned (congrArg (Value.int IntKind.i64) ?_), rfl⟩
    exact (if_neg (by omega)).symm
end Go.Proofs.Yteaijjefbadnbaa
