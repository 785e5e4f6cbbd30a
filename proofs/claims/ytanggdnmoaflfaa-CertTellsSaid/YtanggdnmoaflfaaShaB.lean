/-
  sha: turns, a block.
-/
import Derived.Test.YtanggdnmoaflfaaPk1
import Derived.Test.YtanggdnmoaflfaaProg
namespace Go.Proofs.Ytanggdnmoaflfaa
open Go.RowKit
set_option linter.unusedVariables false
set_option linter.unusedSimpArgs false
set_option maxRecDepth 100000
attribute [local irreducible] wpList Code.wp wpAnyZ
/-- turned right -/
def rotR (x a : Nat) : Nat := (((x <<< (32 - a)) % 4294967296) ||| (x >>> a)) % 4294967296
def ror3 (x a b c : Nat) : Nat := (((rotR x a ^^^ rotR x b) % 4294967296) ^^^ rotR x c) % 4294967296
def shr3 (x a b c : Nat) : Nat := (((rotR x a ^^^ rotR x b) % 4294967296) ^^^ (x >>> c)) % 4294967296
theorem and31 (a : Nat) (h0 : 0 < a) (h : a < 32) : ((18446744073709551616 - a) &&& 31) % 18446744073709551616 = 32 - a := by
  have : ∀ i : Fin 32, 0 < i.val → ((18446744073709551616 - i.val) &&& 31) % 18446744073709551616 = 32 - i.val := by decide
  exact this ⟨a, h⟩ h0
theorem Val.convNeg {P : Program} {w : World} {a : Act} {o : Oper} (src dst : TypeId) (x : Operand) (ho : o.op = .convert src dst x) (hsr : P.underlying src = some (.int .i64)) (hd : P.underlying dst = some (.int .u64)) (n : Nat) (h0 : 0 < n) (h : n < 32) (hx : a.eval x = .int .i64 (-(n : Int))) : Val P a o (.int .u64 ((18446744073709551616 - n : Nat) : Int)) w := by
  unfold Val execOp
  have e : IntKind.u64.wrap (-(n : Int)) = ((18446744073709551616 - n : Nat) : Int) := by simp [IntKind.wrap, IntKind.bits, IntKind.signed]; omega
  simp only [ho, hx, convert, run_underlying hsr, run_underlying hd, Conv.intToInt, e, Sem.run_bind, Result.andThen_ok, Sem.run_pure]
set_option maxHeartbeats 1600000 in
theorem rot_any (x a : Nat) (ha : 0 < a ∧ a < 32) (w : World) : Calls Try.prog 125 #[.int .u32 (x : Int), .int .i64 (-(a : Int))] w fun e w' => e = .returned (.int .u32 (rotR x a : Nat)) ∧ w = w' := by
  go_enter Try.func125, Try.ntmps125
  refine wp_seq_k fun K1 hK1 => ?_
  refine cPlain ?_
  refine sv 4 (.int .u32 0) .of ?_
  simp only [sZ, sS]
  refine wpList_nil ?_
  refine hK1 _ _ ?_
  refine wp_seq_k fun K2 hK2 => ?_
  refine cPlain ?_
  refine sv 6 (.int .i64 (-(a : Int))) .of ?_
  simp only [sZ, sS]
  refine sv 7 (.int .u64 ((18446744073709551616 - a : Nat) : Int)) (Val.convNeg 3 135 (.tmp 6) rfl Try.underlying3 Try.underlying135 a ha.1 ha.2 (by kernel_rfl)) ?_
  simp only [sZ, sS]
  refine sv 8 (.int .u64 ((32 - a : Nat) : Int)) (Val.asN (Val.andN 135 _ (.tmp 7) _ rfl .u64 (18446744073709551616 - a) 31 18446744073709551616 (by kernel_rfl) (by kernel_rfl)) (and31 a ha.1 ha.2)) ?_
  simp only [sZ, sS]
  refine sv 5 (.int .u64 ((32 - a : Nat) : Int)) .of ?_
  simp only [sZ, sS]
  refine wpList_nil ?_
  refine hK2 _ _ ?_
  refine wp_seq_k fun K3 hK3 => ?_
  refine cPlain ?_
  refine sv 9 (.int .u32 ((x : Nat) : Int)) .of ?_
  simp only [sZ, sS]
  refine sv 10 (.int .u64 ((32 - a : Nat) : Int)) .of ?_
  simp only [sZ, sS]
  refine sv 11 (.int .u32 (((x <<< (32 - a)) % 4294967296 : Nat) : Int)) (Val.shlN 31 _ (.tmp 9) (.tmp 10) rfl .u32 .u64 x (32 - a) 4294967296 (by kernel_rfl) (by kernel_rfl)) ?_
  simp only [sZ, sS]
  refine sv 12 (.int .u32 ((x : Nat) : Int)) .of ?_
  simp only [sZ, sS]
  refine sv 13 (.int .u64 ((32 - a : Nat) : Int)) .of ?_
  simp only [sZ, sS]
  refine sv 14 (.int .u64 ((a : Nat) : Int)) (Val.asN (Val.subN 135 _ _ (.tmp 13) rfl .u64 32 (32 - a) 18446744073709551616 (by kernel_rfl) (by kernel_rfl) (by omega)) (by omega)) ?_
  simp only [sZ, sS]
  refine sv 15 (.int .u32 ((x >>> a : Nat) : Int)) (Val.shrN 31 _ (.tmp 12) (.tmp 14) rfl .u32 .u64 x a (by kernel_rfl) (by kernel_rfl) (by simp only [IntKind.bits]; omega)) ?_
  simp only [sZ, sS]
  refine sv 16 (.int .u32 (((((x <<< (32 - a)) % 4294967296) ||| (x >>> a)) % 4294967296 : Nat) : Int)) (Val.orN 31 _ (.tmp 11) (.tmp 15) rfl .u32 ((x <<< (32 - a)) % 4294967296) (x >>> a) 4294967296 (by kernel_rfl) (by kernel_rfl)) ?_
  simp only [sZ, sS]
  refine sv 4 (.int .u32 (((((x <<< (32 - a)) % 4294967296) ||| (x >>> a)) % 4294967296 : Nat) : Int)) .of ?_
  simp only [sZ, sS]
  refine wpList_nil ?_
  refine hK3 _ _ ?_
  refine wp_ret ?_
  (try simp only [Exit.then, Exit.inBlock])
  refine bodyPost_ret (v := .int .u32 (((((x <<< (32 - a)) % 4294967296) ||| (x >>> a)) % 4294967296 : Nat) : Int)) rT rfl ?_
  exact ⟨rfl, rfl⟩

set_option maxHeartbeats 1600000 in
theorem ror_any (x a b c : Nat) (ha : 0 < a ∧ a < 32) (hb : 0 < b ∧ b < 32) (hc : 0 < c ∧ c < 32) (w : World) : Calls Try.prog 123 #[.int .u32 (x : Int), .int .i64 (a : Int), .int .i64 (b : Int), .int .i64 (c : Int)] w fun e w' => e = .returned (.int .u32 (ror3 x a b c : Nat)) ∧ w = w' := by
  go_enter Try.func123, Try.ntmps123
  refine wp_seq_k fun K1 hK1 => ?_
  refine cPlain ?_
  refine sv 8 (.int .u32 0) .of ?_
  simp only [sZ, sS]
  refine wpList_nil ?_
  refine hK1 _ _ ?_
  refine wp_seq_k fun K2 hK2 => ?_
  refine cPlain ?_
  refine sv 9 (.int .u32 ((x : Nat) : Int)) .of ?_
  simp only [sZ, sS]
  refine sv 10 (.int .i64 (a : Int)) .of ?_
  simp only [sZ, sS]
  refine sv 11 (.int .i64 (-(a : Int))) (Val.neg 3 (.tmp 10) rfl (a : Int) (by kernel_rfl) (by omega)) ?_
  simp only [sZ, sS]
  refine xCall 12 125 #[.int .u32 ((x : Nat) : Int), .int .i64 (-(a : Int))] (by kernel_rfl) ?_
  refine (rot_any x a (by omega) w).mono ?_
  rintro en w1 ⟨rfl, hw⟩
  obtain rfl := hw
  refine ⟨.int .u32 ((rotR x a : Nat) : Int), rfl, ?_⟩
  simp only [sZ, sS]
  refine sv 13 (.int .u32 ((x : Nat) : Int)) .of ?_
  simp only [sZ, sS]
  refine sv 14 (.int .i64 (b : Int)) .of ?_
  simp only [sZ, sS]
  refine sv 15 (.int .i64 (-(b : Int))) (Val.neg 3 (.tmp 14) rfl (b : Int) (by kernel_rfl) (by omega)) ?_
  simp only [sZ, sS]
  refine xCall 16 125 #[.int .u32 ((x : Nat) : Int), .int .i64 (-(b : Int))] (by kernel_rfl) ?_
  refine (rot_any x b (by omega) w).mono ?_
  rintro en w2 ⟨rfl, hw⟩
  obtain rfl := hw
  refine ⟨.int .u32 ((rotR x b : Nat) : Int), rfl, ?_⟩
  simp only [sZ, sS]
  refine sv 17 (.int .u32 ((((rotR x a) ^^^ (rotR x b)) % 4294967296 : Nat) : Int)) (Val.xorN 31 _ (.tmp 12) (.tmp 16) rfl .u32 (rotR x a) (rotR x b) 4294967296 (by kernel_rfl) (by kernel_rfl)) ?_
  simp only [sZ, sS]
  refine sv 18 (.int .u32 ((x : Nat) : Int)) .of ?_
  simp only [sZ, sS]
  refine sv 19 (.int .i64 (c : Int)) .of ?_
  simp only [sZ, sS]
  refine sv 20 (.int .i64 (-(c : Int))) (Val.neg 3 (.tmp 19) rfl (c : Int) (by kernel_rfl) (by omega)) ?_
  simp only [sZ, sS]
  refine xCall 21 125 #[.int .u32 ((x : Nat) : Int), .int .i64 (-(c : Int))] (by kernel_rfl) ?_
  refine (rot_any x c (by omega) w).mono ?_
  rintro en w3 ⟨rfl, hw⟩
  obtain rfl := hw
  refine ⟨.int .u32 ((rotR x c : Nat) : Int), rfl, ?_⟩
  simp only [sZ, sS]
  refine sv 22 (.int .u32 ((((((rotR x a) ^^^ (rotR x b)) % 4294967296) ^^^ (rotR x c)) % 4294967296 : Nat) : Int)) (Val.xorN 31 _ (.tmp 17) (.tmp 21) rfl .u32 (((rotR x a) ^^^ (rotR x b)) % 4294967296) (rotR x c) 4294967296 (by kernel_rfl) (by kernel_rfl)) ?_
  simp only [sZ, sS]
  refine sv 8 (.int .u32 ((((((rotR x a) ^^^ (rotR x b)) % 4294967296) ^^^ (rotR x c)) % 4294967296 : Nat) : Int)) .of ?_
  simp only [sZ, sS]
  refine wpList_nil ?_
  refine hK2 _ _ ?_
  refine wp_ret ?_
  (try simp only [Exit.then, Exit.inBlock])
  refine bodyPost_ret (v := .int .u32 ((((((rotR x a) ^^^ (rotR x b)) % 4294967296) ^^^ (rotR x c)) % 4294967296 : Nat) : Int)) rT rfl ?_
  exact ⟨rfl, rfl⟩

set_option maxHeartbeats 1600000 in
theorem shr_any (x a b c : Nat) (ha : 0 < a ∧ a < 32) (hb : 0 < b ∧ b < 32) (hc : 0 < c ∧ c < 32) (w : World) : Calls Try.prog 122 #[.int .u32 (x : Int), .int .i64 (a : Int), .int .i64 (b : Int), .int .i64 (c : Int)] w fun e w' => e = .returned (.int .u32 (shr3 x a b c : Nat)) ∧ Below w.heap.size w w' := by
  have BL := Bl.refl w
  go_enter Try.func122, Try.ntmps122
  refine wp_seq_k fun K1 hK1 => ?_
  refine cPlain ?_
  refine sv 8 (.int .u32 0) .of ?_
  simp only [sZ, sS]
  refine wpList_nil ?_
  refine hK1 _ _ ?_
  refine wp_seq_k fun K2 hK2 => ?_
  have e1 := drew_e0 w
  refine zg (fun w_ => Bl w.heap.size w w_ ∧ w.heap.size ≤ w_.heap.size) (fun w_ => Bl w.heap.size w w_ ∧ w.heap.size ≤ w_.heap.size) 100000 14 ⟨BL.e0 e1, Nat.le_refl _⟩ ?_
  clear BL
  clear e1
  intro w1
  rintro ⟨BL, z1⟩
  refine zv 0 9 (.int .u32 ((x : Nat) : Int)) (fun _ _ => .of) ⟨BL, by omega⟩ ?_
  simp only [sZ, sS]
  refine zv 1 10 (.int .i64 (a : Int)) (fun _ _ => .of) ⟨BL, by omega⟩ ?_
  simp only [sZ, sS]
  refine zv 2 11 (.int .i64 (-(a : Int))) (fun _ ⟨BL, z1⟩ => Val.neg 3 (.tmp 10) rfl (a : Int) (by kernel_rfl) (by omega)) ⟨BL, by omega⟩ ?_
  simp only [sZ, sS]
  refine zv 4 13 (.int .u32 ((x : Nat) : Int)) (fun _ _ => .of) ⟨BL, by omega⟩ ?_
  simp only [sZ, sS]
  refine zv 5 14 (.int .i64 (b : Int)) (fun _ _ => .of) ⟨BL, by omega⟩ ?_
  simp only [sZ, sS]
  refine zv 6 15 (.int .i64 (-(b : Int))) (fun _ ⟨BL, z1⟩ => Val.neg 3 (.tmp 14) rfl (b : Int) (by kernel_rfl) (by omega)) ⟨BL, by omega⟩ ?_
  simp only [sZ, sS]
  refine zv 9 18 (.int .u32 ((x : Nat) : Int)) (fun _ _ => .of) ⟨BL, by omega⟩ ?_
  simp only [sZ, sS]
  refine zv 10 19 (.int .i64 (c : Int)) (fun _ _ => .of) ⟨BL, by omega⟩ ?_
  simp only [sZ, sS]
  refine zv 11 20 (.int .u32 ((x >>> c : Nat) : Int)) (fun _ ⟨BL, z1⟩ => Val.shrN 31 _ (.tmp 18) (.tmp 19) rfl .u32 .i64 x c (by kernel_rfl) (by kernel_rfl) (by simp only [IntKind.bits]; omega)) ⟨BL, by omega⟩ ?_
  simp only [sZ, sS]
  refine zo1 3 rfl ?_
  refine xCall 12 125 #[.int .u32 ((x : Nat) : Int), .int .i64 (-(a : Int))] (by kernel_rfl) ?_
  refine (rot_any x a (by omega) w1).mono ?_
  rintro en w2 ⟨rfl, hw⟩
  obtain rfl := hw
  refine ⟨.int .u32 ((rotR x a : Nat) : Int), rfl, ?_⟩
  refine ze 3 ⟨BL, by omega⟩ ?_
  simp only [sZ, sS]
  refine zo1 7 rfl ?_
  refine xCall 16 125 #[.int .u32 ((x : Nat) : Int), .int .i64 (-(b : Int))] (by kernel_rfl) ?_
  refine (rot_any x b (by omega) w1).mono ?_
  rintro en w3 ⟨rfl, hw⟩
  obtain rfl := hw
  refine ⟨.int .u32 ((rotR x b : Nat) : Int), rfl, ?_⟩
  refine ze 7 ⟨BL, by omega⟩ ?_
  simp only [sZ, sS]
  refine zv 8 17 (.int .u32 ((((rotR x a) ^^^ (rotR x b)) % 4294967296 : Nat) : Int)) (fun _ ⟨BL, z1⟩ => Val.xorN 31 _ (.tmp 12) (.tmp 16) rfl .u32 (rotR x a) (rotR x b) 4294967296 (by kernel_rfl) (by kernel_rfl)) ⟨BL, by omega⟩ ?_
  simp only [sZ, sS]
  refine zv 12 21 (.int .u32 ((((((rotR x a) ^^^ (rotR x b)) % 4294967296) ^^^ (x >>> c)) % 4294967296 : Nat) : Int)) (fun _ ⟨BL, z1⟩ => Val.xorN 31 _ (.tmp 17) (.tmp 20) rfl .u32 (((rotR x a) ^^^ (rotR x b)) % 4294967296) (x >>> c) 4294967296 (by kernel_rfl) (by kernel_rfl)) ⟨BL, by omega⟩ ?_
  simp only [sZ, sS]
  refine zv 13 8 (.int .u32 ((((((rotR x a) ^^^ (rotR x b)) % 4294967296) ^^^ (x >>> c)) % 4294967296 : Nat) : Int)) (fun _ _ => .of) ⟨BL, by omega⟩ ?_
  simp only [sZ, sS]
  refine zd (by kernel_rfl) ?_ _
  refine hK2 _ _ ?_
  refine wp_ret ?_
  (try simp only [Exit.then, Exit.inBlock])
  refine bodyPost_ret (v := .int .u32 ((((((rotR x a) ^^^ (rotR x b)) % 4294967296) ^^^ (x >>> c)) % 4294967296 : Nat) : Int)) rT rfl ?_
  exact ⟨rfl, BL.b⟩

end Go.Proofs.Ytanggdnmoaflfaa
