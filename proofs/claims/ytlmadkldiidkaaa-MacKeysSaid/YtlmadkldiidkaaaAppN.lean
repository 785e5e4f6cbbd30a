/-
  append(s, make([]byte, n)...), s a row of the call's own.
  No conditions: lemmas over any program.
-/
import Derived.Test.YtlmadkldiidkaaaGrowL
import Derived.Lib.AppendStr
namespace Go.Proofs.Ytlmadkldiidkaaa
open Go.RowKit
set_option linter.unusedVariables false
set_option linter.unusedSimpArgs false
set_option maxRecDepth 100000

section
variable {P : Program} {ops : Array Oper} {Q : Exit → Act → World → Prop} {l : List Value} {ds : List Deferred} {w : World} {oi : Oper} {rest : List Oper}
def zstr (n : Nat) : ByteArray := ⟨Array.replicate n 0⟩
theorem zstr_size (n : Nat) : (zstr n).size = n := by simp [zstr, ByteArray.size]
theorem zstr_cells (n : Nat) : Lib.strCells (zstr n) = nums .u8 (List.replicate n 0) := by simp [Lib.strCells, zstr, nums]
theorem zstr_zero (n : Nat) : (Lib.strCells (zstr n)).toArray = Builtin.zeroCells #[.int .u8 0] n := by
  rw [zstr_cells]
  apply Array.ext
  · simp [zeroCells_size, nums]
  · intro i h1 h2
    simp [nums, Builtin.zeroCells, Nat.mod_one]
theorem run_append_zs (t u us ty e : TypeId) (i : TypeInfo) (k' : IntKind) (ht : P.underlying t = some (.slice e)) (hu : P.underlying u = some (.int k')) (hus : P.underlying us = some .string) (hi : P.info? e = some i) (hz : i.zero = some (.int .u8 0)) (hs : i.size = 1) (hb : i.bytes = 1)
    (n : Nat) (hn : n ≤ 1000000000) (base : Option Addr) (sLen sCap : Nat) (hl : sLen ≤ 100000000000) (hr : n = 0 → sLen ≤ sCap) :
    (Builtin.append_ #[t, u] ty #[.slice base sLen sCap, .int .i64 (n : Int)]).run P w = (Builtin.append_ #[t, us] ty #[.slice base sLen sCap, .string (zstr n)]).run P w := by
  have hf : ∀ w' : World, (Builtin.firstCells 1 n (.string (zstr n))).run P w' = .ok (Builtin.zeroCells #[.int .u8 0] n) w' := by
    intro w'
    have := Lib.run_firstCells_string (P := P) w' 1 (zstr n)
    rwa [zstr_size, zstr_zero] at this
  have hwr : IntKind.i64.wrap (n : Int) = n := by simp [IntKind.wrap, IntKind.bits, IntKind.signed]; omega
  have hneg : ¬ ((n : Int) < 0) := by omega
  have h48 : ¬ ((281474976710656 : Int) < (n : Int)) := by omega
  have h63 : ¬ ((IntKind.i64.max : Int) < (sLen : Int) + (n : Int)) := by
    have hm : IntKind.i64.max = 9223372036854775807 := by rfl
    omega
  have h63' : ¬ ((9223372036854775807 : Int) < (sLen : Int) + (n : Int)) := by omega
  have hls : (Builtin.lenOf (.string (zstr n))).run P w = .ok n w := by simp [Builtin.lenOf, zstr_size]
  have hz1 : (Value.int IntKind.u8 0).cells = #[.int .u8 0] := rfl
  by_cases h0 : n = 0
  · have hf0 : ∀ w' : World, (Builtin.firstCells 1 n (.string (zstr n))).run P w' = .ok #[] w' := by
      intro w'; rw [hf, h0]; simp [Builtin.zeroCells]
    subst h0
    have hroom' : sLen ≤ sCap := hr rfl
    have hw0 : IntKind.i64.wrap 0 = 0 := by rfl
    simp [Builtin.append_, run_underlying ht, run_underlying hu, run_underlying hus, sizeOf, typeInfo, zeroValue, hi, hz, hs, hb, asInt, asIntOf, hw0, hroom', hf0, hls]
  · by_cases hroom : sLen + n ≤ sCap
    · simp [Builtin.append_, run_underlying ht, run_underlying hu, run_underlying hus, sizeOf, typeInfo, zeroValue, hi, hz, hs, hb, asInt, asIntOf, hwr, hneg, h48, h0, hroom, hf, hls, hz1]
    · have hnc : ¬ (281474976710656 < Builtin.nextslicecap (sLen + n) sCap) := by
        have := nextslicecap_le (need := sLen + n) (old := sCap) (by omega)
        omega
      simp [Builtin.append_, run_underlying ht, run_underlying hu, run_underlying hus, sizeOf, typeInfo, zeroValue, hi, hz, hs, hb, asInt, asIntOf, hwr, hneg, h48, h0, hroom, hf, hls, h63, h63', hnc, hz1]
theorem xAppN (d : Nat) (s x : Operand) (t u us e : TypeId) (k' : IntKind) (ho : oi.op = .call { callee := .builtin .append, args := #[s, x], argTypes := #[t, u] })
    (ht : P.underlying t = some (.slice e)) (hu : P.underlying u = some (.int k')) (hus : P.underlying us = some .string) (hinfo : (P.info? e).map (fun i => (i.zero, i.size, i.bytes)) = some (some (.int .u8 0), 1, 1))
    (base : Nat) (v : Value) (xs : List Int) (hs : (⟨l.toArray, ds⟩ : Act).eval s = v) (hown : Own e .u8 base w v xs) (n : Nat) (hx : (⟨l.toArray, ds⟩ : Act).eval x = .int .i64 (n : Int)) (hn : n ≤ 1000000000) (hl : xs.length ≤ 100000000000) (hb : base ≤ w.heap.size)
    (h : ∀ v' w', Own e .u8 base w' v' (xs ++ List.replicate n 0) → Ev (fun i => v.ownBlock = some i) w w' → wpList P ops Q rest ⟨(l.set d v').toArray, ds⟩ w')
    (hgd : oi.guard = none := by rfl) (hd : oi.dst = some d := by rfl) : wpList P ops Q (oi :: rest) ⟨l.toArray, ds⟩ w := by
  obtain ⟨i, hi, hz0, hz1, hz2⟩ := info_parts hinfo
  refine wpList_plain hgd fun K hK => ?_
  obtain ⟨v', w', hrun, hrow, hgr, _⟩ := Lib.run_append_own_string (P := P) w base t us oi.type e i ht hus hi hz0 hz1 hz2 v xs.length (nums .u8 xs) hown (zstr n) (by rw [zstr_size]; unfold maxLen; omega) (by rw [zstr_size]; omega) hb
  have hform : ∃ b c, v = .slice b xs.length c ∧ (n = 0 → xs.length ≤ c) := by
    rcases hown.2 with ⟨hv, hx0⟩ | ⟨g, cap, cur, hv, _, _, hc, _⟩
    · exact ⟨none, 0, by rw [hv, hx0], fun _ => by omega⟩
    · exact ⟨_, cap, hv, fun _ => hc⟩
  obtain ⟨b, c, rfl, hc⟩ := hform
  rw [← run_append_zs (w := w) t u us oi.type e i k' ht hu hus hi hz0 hz1 hz2 n hn b xs.length c hl hc] at hrun
  rw [zstr_size, zstr_cells] at hrow
  unfold Oper.wp
  simp [execOp, ho, resolve, invoke, builtin, hs, hx, hrun, Result.andThen]
  refine hK _ _ ?_
  rw [put_list' d _ hd]
  refine h v' w' ⟨?_, ?_⟩ ⟨hgr.os, hgr.tape, hgr.output, hgr.size, fun i hi hn => hgr.block i hi fun e => hn e.symm⟩
  · simp [nums]
  · have := hrow.2; simpa [nums] using this
end
end Go.Proofs.Ytlmadkldiidkaaa
