/-
  mac.Same; law03.of, law03.hex, law03.awake.
-/
import Derived.Test.YteaijjefbadnbaaMacW
import Derived.Test.YteaijjefbadnbaaShaTl
import Derived.Test.YteaijjefbadnbaaHexL
import Derived.Test.YteaijjefbadnbaaSame
import Derived.Test.YteaijjefbadnbaaMarkL
namespace Go.Proofs.Yteaijjefbadnbaa
open Go.RowKit
set_option linter.unusedVariables false
set_option linter.unusedSimpArgs false
set_option maxRecDepth 100000
attribute [local irreducible] wpList Code.wp wpAnyZ
theorem xor_zero (a b : Nat) : a ^^^ b = 0 ↔ a = b := by
  constructor
  · intro h
    have := congrArg (· ^^^ b) h
    simpa [Nat.xor_assoc] using this
  · rintro rfl; simp
theorem odd_step {o x y : Nat} (ho : o < 256) (hx : x < 256) (hy : y < 256) : (o ||| ((x ^^^ y) % 256)) % 256 = 0 ↔ o = 0 ∧ x = y := by
  have h1 : x ^^^ y < 256 := Nat.xor_lt_two_pow (n := 8) hx hy
  rw [Nat.mod_eq_of_lt h1, Nat.mod_eq_of_lt (Nat.or_lt_two_pow (n := 8) ho h1), Nat.or_eq_zero_iff, xor_zero]
theorem take_next {xs ys : List Nat} {k : Nat} (h : xs.length = ys.length) (hk : k < xs.length) : xs.take (k + 1) = ys.take (k + 1) ↔ xs.take k = ys.take k ∧ xs.getD k 0 = ys.getD k 0 := by
  have hy : k < ys.length := by omega
  rw [List.take_add_one, List.take_add_one, List.getElem?_eq_getElem hk, List.getElem?_eq_getElem hy, List.getD_eq_getElem?_getD, List.getD_eq_getElem?_getD, List.getElem?_eq_getElem hk, List.getElem?_eq_getElem hy]
  constructor
  · intro he
    have := List.append_inj he (by rw [List.length_take, List.length_take]; omega)
    exact ⟨this.1, by simpa using this.2⟩
  · rintro ⟨h1, h2⟩
    rw [h1]
    simp only [Option.getD_some] at h2
    rw [h2]
theorem getD_lt {xs : List Nat} (h : ∀ x ∈ xs, x < 256) (k : Nat) : xs.getD k 0 < 256 := by
  rw [List.getD_eq_getElem?_getD]
  cases e : xs[k]? with
  | none => simp
  | some x => exact h x (List.mem_of_getElem? e)

set_option maxHeartbeats 4000000 in
theorem macsame_any (v0 v1 : Value) (xs ys : List Nat) (w : World) (D0 : SL .u8 w v0 (nn xs)) (D1 : SL .u8 w v1 (nn ys)) (hx : ∀ x ∈ xs, x < 256) (hy : ∀ x ∈ ys, x < 256) (hl : xs.length ≤ 140737488355328) (hl2 : ys.length ≤ 140737488355328) :
    Calls Try.prog 30 #[v0, v1] w fun e w' => e = .returned (.bool (decide (xs = ys))) ∧ Below w.heap.size w w' := by
  have BL := Bl.refl w
  have hd0 := D0.lt
  have hd1 := D1.lt
  go_enter Try.func30, Try.ntmps30
  refine wp_seq_k fun K1 hK1 => ?_
  refine cPlain ?_
  refine sv 4 (.bool false) .of ?_
  simp only [List.set_cons_zero, List.set_cons_succ]
  refine wpList_nil ?_
  refine hK1 _ _ ?_
  refine wp_seq_k fun K2 hK2 => ?_
  refine wp_seq_k fun K3 hK3 => ?_
  refine cPlain ?_
  refine sv 7 (v0) .of ?_
  simp only [List.set_cons_zero, List.set_cons_succ]
  refine sv 8 (.int .i64 ((xs.length : Nat) : Int)) (Val.lenS (.tmp 7) 30 rfl (by kernel_rfl) D0 xs.length (nn_len xs) Try.underlying30) ?_
  simp only [List.set_cons_zero, List.set_cons_succ]
  refine sv 9 (v1) .of ?_
  simp only [List.set_cons_zero, List.set_cons_succ]
  refine sv 10 (.int .i64 ((ys.length : Nat) : Int)) (Val.lenS (.tmp 9) 30 rfl (by kernel_rfl) D1 ys.length (nn_len ys) Try.underlying30) ?_
  simp only [List.set_cons_zero, List.set_cons_succ]
  refine sv 11 (.bool (decide (¬ (((xs.length : Nat) : Int) = ((ys.length : Nat) : Int))))) (Val.cmp .neq 3 _ (.tmp 8) (.tmp 10) rfl .i64 ((xs.length : Nat) : Int) ((ys.length : Nat) : Int) (by kernel_rfl) (by kernel_rfl) (by simp) _ (by simp [cmpB])) ?_
  simp only [List.set_cons_zero, List.set_cons_succ]
  refine wpList_nil ?_
  refine hK3 _ _ ?_
  refine cDec (¬ (((xs.length : Nat) : Int) = ((ys.length : Nat) : Int))) (by kernel_rfl) (fun c11 => ?_) (fun c11 => ?_)
  · skip
    refine wp_seq_k fun K4 hK4 => ?_
    refine cPlain ?_
    refine sv 4 (.bool false) .of ?_
    simp only [List.set_cons_zero, List.set_cons_succ]
    refine wpList_nil ?_
    refine hK4 _ _ ?_
    refine wp_ret ?_
    (try simp only [Exit.then, Exit.inBlock])
    refine bodyPost_ret (v := .bool false) rT rfl ?_
    rw [decide_eq_false (fun h => by subst h; omega)]
    exact ⟨rfl, BL.b⟩
  · skip
    refine wp_skip ?_
    refine hK2 _ _ ?_
    refine wp_seq_k fun K5 hK5 => ?_
    refine cPlain ?_
    refine sv 5 (.int .u8 0) .of ?_
    simp only [List.set_cons_zero, List.set_cons_succ]
    refine wpList_nil ?_
    refine hK5 _ _ ?_
    refine wp_seq_k fun K6 hK6 => ?_
    refine wp_seq_k fun K7 hK7 => ?_
    refine cPlain ?_
    refine sv 12 (v0) .of ?_
    simp only [List.set_cons_zero, List.set_cons_succ]
    refine sv 13 (.int .i64 ((xs.length : Nat) : Int)) (Val.lenS (.tmp 12) 30 rfl (by kernel_rfl) D0 xs.length (nn_len xs) Try.underlying30) ?_
    simp only [List.set_cons_zero, List.set_cons_succ]
    refine sv 14 (.int .i64 0) .of ?_
    simp only [List.set_cons_zero, List.set_cons_succ]
    refine wpList_nil ?_
    refine hK7 _ _ ?_
    refine wp_block ?_
    refine cLoop (fun N_ A_ w_ => ∃ (k o : Nat), (N_ = xs.length - k ∧ (k ≤ xs.length) ∧ (o < 256) ∧ (o = 0 ↔ xs.take k = ys.take k) ∧ (∃ s1 : Nat → Value, A_ = ⟨[v0, v1, undef, undef, .bool false, .int .u8 ((o : Nat) : Int), (s1 6), v0, .int .i64 ((xs.length : Nat) : Int), v1, .int .i64 ((ys.length : Nat) : Int), .bool (decide (¬ (((xs.length : Nat) : Int) = ((ys.length : Nat) : Int)))), v0, .int .i64 ((xs.length : Nat) : Int), .int .i64 ((k : Nat) : Int), (s1 15), (s1 16), (s1 17), (s1 18), (s1 19), (s1 20), (s1 21), (s1 22), (s1 23), (s1 24), (s1 25), (s1 26), (s1 27), (s1 28), undef, undef].toArray, []⟩) ∧ Bl w.heap.size w w_ ∧ SL .u8 w_ v0 (nn xs) ∧ SL .u8 w_ v1 (nn ys) ∧ w.heap.size ≤ w_.heap.size)) _ ⟨0, 0, rfl, (Nat.zero_le _), (by omega), (by simp), cutE, BL, D0, D1, Nat.le_refl _⟩ ?_
    clear BL D0 D1
    rintro n_ a_ wl0 ⟨k, o, rfl, hc0_0, hc0_1, hc0_2, ⟨s1, rfl⟩, BL, D0, D1, zl0⟩
    refine wp_seq_k fun K8 hK8 => ?_
    refine cPlain ?_
    refine sv 15 (.bool (decide (((k : Nat) : Int) < ((xs.length : Nat) : Int)))) (Val.cmp .lss 3 _ (.tmp 14) (.tmp 13) rfl .i64 ((k : Nat) : Int) ((xs.length : Nat) : Int) (by kernel_rfl) (by kernel_rfl) (by simp) _ rfl) ?_
    simp only [List.set_cons_zero, List.set_cons_succ]
    refine wpList_nil ?_
    refine hK8 _ _ ?_
    refine wp_seq_k fun K9 hK9 => ?_
    refine cDec (((k : Nat) : Int) < ((xs.length : Nat) : Int)) (by kernel_rfl) (fun c15 => ?_) (fun c15 => ?_)
    · skip
      refine wp_skip ?_
      refine hK9 _ _ ?_
      refine wp_seq_k fun K10 hK10 => ?_
      refine wp_block ?_
      refine wp_seq_k fun K11 hK11 => ?_
      refine cPlain ?_
      refine sv 16 (.int .i64 ((k : Nat) : Int)) .of ?_
      simp only [List.set_cons_zero, List.set_cons_succ]
      refine sv 6 (.int .i64 ((k : Nat) : Int)) .of ?_
      simp only [List.set_cons_zero, List.set_cons_succ]
      refine wpList_nil ?_
      refine hK11 _ _ ?_
      have e1 := drew_e0 wl0
      refine zg (fun w_ => Bl w.heap.size w w_ ∧ SL .u8 w_ v0 (nn xs) ∧ SL .u8 w_ v1 (nn ys) ∧ wl0.heap.size ≤ w_.heap.size) (fun w_ => Bl w.heap.size w w_ ∧ SL .u8 w_ v0 (nn xs) ∧ SL .u8 w_ v1 (nn ys) ∧ wl0.heap.size ≤ w_.heap.size) 100000 12 ⟨BL.e0 e1, D0.e0 e1, D1.e0 e1, Nat.le_refl _⟩ ?_
      clear BL D0 D1
      clear e1
      intro w1
      rintro ⟨BL, D0, D1, z1⟩
      refine zv 0 17 (.int .u8 ((o : Nat) : Int)) (fun _ _ => .of) ⟨BL, D0, D1, by omega⟩ ?_
      simp only [List.set_cons_zero, List.set_cons_succ]
      refine zv 1 18 (v0) (fun _ _ => .of) ⟨BL, D0, D1, by omega⟩ ?_
      simp only [List.set_cons_zero, List.set_cons_succ]
      refine zv 2 19 (.int .i64 ((k : Nat) : Int)) (fun _ _ => .of) ⟨BL, D0, D1, by omega⟩ ?_
      simp only [List.set_cons_zero, List.set_cons_succ]
      refine zv 3 20 (elemP v0 k) (fun _ ⟨BL, D0, D1, z1⟩ => Val.idxE 30 (.tmp 18) (.tmp 19) rfl v0 k (by kernel_rfl) (by kernel_rfl) D0 Try.underlying30 (by kernel_rfl) (by rw [nn_len]; omega)) ⟨BL, D0, D1, by omega⟩ ?_
      simp only [List.set_cons_zero, List.set_cons_succ]
      refine zv 4 21 (.int .u8 ((xs.getD k 0 : Nat) : Int)) (fun _ ⟨BL, D0, D1, z1⟩ => Val.nldE 5 _ rfl v0 k (by kernel_rfl) (fun _ => (by kernel_rfl)) D0 (by omega)) ⟨BL, D0, D1, by omega⟩ ?_
      simp only [List.set_cons_zero, List.set_cons_succ]
      refine zv 5 22 (v1) (fun _ _ => .of) ⟨BL, D0, D1, by omega⟩ ?_
      simp only [List.set_cons_zero, List.set_cons_succ]
      refine zv 6 23 (.int .i64 ((k : Nat) : Int)) (fun _ _ => .of) ⟨BL, D0, D1, by omega⟩ ?_
      simp only [List.set_cons_zero, List.set_cons_succ]
      refine zv 7 24 (elemP v1 k) (fun _ ⟨BL, D0, D1, z1⟩ => Val.idxE 30 (.tmp 22) (.tmp 23) rfl v1 k (by kernel_rfl) (by kernel_rfl) D1 Try.underlying30 (by kernel_rfl) (by rw [nn_len]; omega)) ⟨BL, D0, D1, by omega⟩ ?_
      simp only [List.set_cons_zero, List.set_cons_succ]
      refine zv 8 25 (.int .u8 ((ys.getD k 0 : Nat) : Int)) (fun _ ⟨BL, D0, D1, z1⟩ => Val.nldE 5 _ rfl v1 k (by kernel_rfl) (fun _ => (by kernel_rfl)) D1 (by omega)) ⟨BL, D0, D1, by omega⟩ ?_
      simp only [List.set_cons_zero, List.set_cons_succ]
      refine zv 9 26 (.int .u8 ((((xs.getD k 0) ^^^ (ys.getD k 0)) % 256 : Nat) : Int)) (fun _ ⟨BL, D0, D1, z1⟩ => Val.xorN 5 _ (.tmp 21) (.tmp 25) rfl .u8 (xs.getD k 0) (ys.getD k 0) 256 (by kernel_rfl) (by kernel_rfl)) ⟨BL, D0, D1, by omega⟩ ?_
      simp only [List.set_cons_zero, List.set_cons_succ]
      refine zv 10 27 (.int .u8 (((o ||| (((xs.getD k 0) ^^^ (ys.getD k 0)) % 256)) % 256 : Nat) : Int)) (fun _ ⟨BL, D0, D1, z1⟩ => Val.orN 5 _ (.tmp 17) (.tmp 26) rfl .u8 o (((xs.getD k 0) ^^^ (ys.getD k 0)) % 256) 256 (by kernel_rfl) (by kernel_rfl)) ⟨BL, D0, D1, by omega⟩ ?_
      simp only [List.set_cons_zero, List.set_cons_succ]
      refine zv 11 5 (.int .u8 (((o ||| (((xs.getD k 0) ^^^ (ys.getD k 0)) % 256)) % 256 : Nat) : Int)) (fun _ _ => .of) ⟨BL, D0, D1, by omega⟩ ?_
      simp only [List.set_cons_zero, List.set_cons_succ]
      refine zd (by kernel_rfl) ?_ _
      refine hK10 _ _ ?_
      refine cPlain ?_
      refine sv 28 (.int .i64 (((k : Nat) : Int) + 1)) (Val.add 3 _ (.tmp 14) _ rfl ((k : Nat) : Int) 1 (by kernel_rfl) (by kernel_rfl) (by omega)) ?_
      simp only [List.set_cons_zero, List.set_cons_succ]
      refine sv 14 (.int .i64 (((k : Nat) : Int) + 1)) .of ?_
      simp only [List.set_cons_zero, List.set_cons_succ]
      refine wpList_nil ?_
      refine ⟨_, ?_, k + 1, (o ||| (((xs.getD k 0) ^^^ (ys.getD k 0)) % 256)) % 256, rfl, (by omega), (Nat.mod_lt _ (by decide)), ((odd_step hc0_1 (getD_lt hx k) (getD_lt hy k)).trans ((and_congr_left' hc0_2).trans (take_next (by omega) (by omega)).symm)), cutE, BL, D0, D1, by omega⟩
      omega
    · skip
      rw [show k = xs.length by omega, List.take_length, List.take_of_length_le (by omega)] at hc0_2
      refine wp_exit ?_
      simp only [Exit.then, Exit.inBlock, ↓reduceIte, Nat.reduceEqDiff]
      refine hK6 _ _ ?_
      refine wp_seq_k fun K12 hK12 => ?_
      refine cPlain ?_
      refine sv 29 (.int .u8 ((o : Nat) : Int)) .of ?_
      simp only [List.set_cons_zero, List.set_cons_succ]
      refine sv 30 (.bool (decide (((o : Nat) : Int) = 0))) (Val.cmp .eql 5 _ (.tmp 29) _ rfl .u8 ((o : Nat) : Int) 0 (by kernel_rfl) (by kernel_rfl) (by simp) _ rfl) ?_
      simp only [List.set_cons_zero, List.set_cons_succ]
      refine sv 4 (.bool (decide (((o : Nat) : Int) = 0))) .of ?_
      simp only [List.set_cons_zero, List.set_cons_succ]
      refine wpList_nil ?_
      refine hK12 _ _ ?_
      refine wp_ret ?_
      (try simp only [Exit.then, Exit.inBlock])
      refine bodyPost_ret (v := .bool (decide (((o : Nat) : Int) = 0))) rT rfl ?_
      have hR : decide (xs = ys) = decide (((o : Nat) : Int) = 0) := decide_eq_decide.2 (by rw [← hc0_2]; omega)
      rw [hR]
      exact ⟨rfl, BL.b⟩

set_option maxHeartbeats 4000000 in
theorem ofb_any (b n : Nat) (hb : b < 256) (hn : n ≤ 1000) (w : World) :
    Calls Try.prog 24 #[.int .u8 ((b : Nat) : Int), .int .i64 ((n : Nat) : Int)] w fun e w' => ∃ u, e = .returned u ∧ Own 5 .u8 w.heap.size w' u (nn (List.replicate n b)) ∧ Below w.heap.size w w' := by
  have BL := Bl.refl w
  have OA := Own.nil 5 .u8 w.heap.size w
  have lOA_1 := OA.ge
  go_enter Try.func24, Try.ntmps24
  refine wp_seq_k fun K1 hK1 => ?_
  refine cPlain ?_
  refine sv 4 (.slice none 0 0) .of ?_
  simp only [List.set_cons_zero, List.set_cons_succ]
  refine wpList_nil ?_
  refine hK1 _ _ ?_
  refine wp_seq_k fun K2 hK2 => ?_
  refine cPlain ?_
  refine sv 5 (.slice none 0 0) .of ?_
  simp only [List.set_cons_zero, List.set_cons_succ]
  refine wpList_nil ?_
  refine hK2 _ _ ?_
  refine wp_seq_k fun K3 hK3 => ?_
  refine wp_seq_k fun K4 hK4 => ?_
  refine cPlain ?_
  refine sv 6 (.int .i64 ((n : Nat) : Int)) .of ?_
  simp only [List.set_cons_zero, List.set_cons_succ]
  refine sv 7 (.int .i64 0) .of ?_
  simp only [List.set_cons_zero, List.set_cons_succ]
  refine wpList_nil ?_
  refine hK4 _ _ ?_
  refine wp_block ?_
  refine cLoop (fun N_ A_ w_ => ∃ (k : Nat) (u : Value), (N_ = n - k ∧ (k ≤ n) ∧ (∃ s1 : Nat → Value, A_ = ⟨[.int .u8 ((b : Nat) : Int), .int .i64 ((n : Nat) : Int), undef, undef, .slice none 0 0, u, .int .i64 ((n : Nat) : Int), .int .i64 ((k : Nat) : Int), (s1 8), (s1 9), (s1 10), (s1 11), (s1 12), (s1 13), undef].toArray, []⟩) ∧ Bl w.heap.size w w_ ∧ Own 5 .u8 w.heap.size w_ u (nn (List.replicate k b)) ∧ w.heap.size ≤ w_.heap.size)) _ ⟨0, .slice none 0 0, rfl, (Nat.zero_le _), cutE, BL, OA, Nat.le_refl _⟩ ?_
  clear BL OA
  rintro n_ a_ wl0 ⟨k, u, rfl, hc0_0, ⟨s1, rfl⟩, BL, OA, zl0⟩
  have lOA_2 := OA.ge
  refine wp_seq_k fun K5 hK5 => ?_
  refine cPlain ?_
  refine sv 8 (.bool (decide (((k : Nat) : Int) < ((n : Nat) : Int)))) (Val.cmp .lss 3 _ (.tmp 7) (.tmp 6) rfl .i64 ((k : Nat) : Int) ((n : Nat) : Int) (by kernel_rfl) (by kernel_rfl) (by simp) _ rfl) ?_
  simp only [List.set_cons_zero, List.set_cons_succ]
  refine wpList_nil ?_
  refine hK5 _ _ ?_
  refine wp_seq_k fun K6 hK6 => ?_
  refine cDec (((k : Nat) : Int) < ((n : Nat) : Int)) (by kernel_rfl) (fun c8 => ?_) (fun c8 => ?_)
  · skip
    refine wp_skip ?_
    refine hK6 _ _ ?_
    refine wp_seq_k fun K7 hK7 => ?_
    refine wp_block ?_
    refine cPlain ?_
    refine sv 9 (u) .of ?_
    simp only [List.set_cons_zero, List.set_cons_succ]
    refine sv 10 (.int .u8 ((b : Nat) : Int)) .of ?_
    simp only [List.set_cons_zero, List.set_cons_succ]
    refine xLit 11 30 5 1 _ #[(0, .int .u8 ((b : Nat) : Int))] [.int .u8 ((b : Nat) : Int)] rfl (by kernel_rfl) (by kernel_rfl) ?_
    intro w1 n1
    have zn1 := n1.z
    have b11 := n1.c
    replace b11 : Blk .u8 w1 wl0.heap.size 5 [((b : Nat) : Int)] := b11
    replace BL := BL.e0 n1.e
    replace OA := OA.e0 n1.e
    have sb11 : SL .u8 w1 (.slice (some ⟨wl0.heap.size, 0, none⟩) 1 1) [((b : Nat) : Int)] := SL.ofBlk b11 rfl (by unfold maxLen; omega)
    have lb11 : ∀ i, Value.ownBlock (.slice (some ⟨wl0.heap.size, 0, none⟩) 1 1) = some i → wl0.heap.size ≤ i ∧ i < w1.heap.size := ownB_lit (by omega)
    simp only [List.set_cons_zero, List.set_cons_succ]
    refine xApp 12 (.tmp 9) (.tmp 11) 30 5 .u8 1 rfl Try.underlying30 (by kernel_rfl) w.heap.size u (nn (List.replicate k b)) (by kernel_rfl) OA (.slice (some ⟨wl0.heap.size, 0, none⟩) 1 1) [((b : Nat) : Int)] (by kernel_rfl) sb11 ?va1_1 ?va1_2 ?va1_3 ?_
    case va1_1 => (simp only [nn_len, List.length_replicate, List.length_cons, List.length_nil]; omega)
    case va1_2 => (simp only [nn_len, List.length_replicate, List.length_cons, List.length_nil]; unfold maxLen; omega)
    case va1_3 => omega
    intro va1 w2 rva1 e1
    have ze1 := e1.size
    have BL_ := BL.ev e1 (fun i h => by have := lOA_2 _ h; omega)
    have b11_ := b11.ev e1 (fun h => by have := lOA_2 _ h; omega)
    have sb11_ := sb11.ev e1 (fun i hi h => by have := lb11 i hi; have := lOA_2 _ h; omega)
    replace BL := BL_; clear BL_
    replace b11 := b11_; clear b11_
    replace sb11 := sb11_; clear sb11_
    replace OA := rva1
    clear rva1 e1
    have lOA_3 := OA.ge
    simp only [List.set_cons_zero, List.set_cons_succ]
    refine sv 5 (va1) .of ?_
    simp only [List.set_cons_zero, List.set_cons_succ]
    refine wpList_nil ?_
    refine hK7 _ _ ?_
    refine cPlain ?_
    refine sv 13 (.int .i64 (((k : Nat) : Int) + 1)) (Val.add 3 _ (.tmp 7) _ rfl ((k : Nat) : Int) 1 (by kernel_rfl) (by kernel_rfl) (by omega)) ?_
    simp only [List.set_cons_zero, List.set_cons_succ]
    refine sv 7 (.int .i64 (((k : Nat) : Int) + 1)) .of ?_
    simp only [List.set_cons_zero, List.set_cons_succ]
    refine wpList_nil ?_
    refine ⟨_, ?_, k + 1, va1, rfl, (by omega), cutE, BL, (OA.cast (by rw [List.replicate_succ', nn_app]; rfl)), by omega⟩
    omega
  · skip
    have hkn : k = n := by omega
    subst hkn
    refine wp_exit ?_
    simp only [Exit.then, Exit.inBlock, ↓reduceIte, Nat.reduceEqDiff]
    refine hK3 _ _ ?_
    refine wp_seq_k fun K8 hK8 => ?_
    refine cPlain ?_
    refine sv 14 (u) .of ?_
    simp only [List.set_cons_zero, List.set_cons_succ]
    refine sv 4 (u) .of ?_
    simp only [List.set_cons_zero, List.set_cons_succ]
    refine wpList_nil ?_
    refine hK8 _ _ ?_
    refine wp_ret ?_
    (try simp only [Exit.then, Exit.inBlock])
    refine bodyPost_ret (v := u) rT rfl ?_
    exact ⟨_, rfl, OA, BL.b⟩

theorem macN_lt (tab key bs : List Nat) (k : Nat) : (macN tab key bs).getD k 0 < 256 := ofN_lt _ _ _
set_option maxHeartbeats 4000000 in
theorem hexm_any (T : Nat) (tab : List Nat) (ht : tab.length = 72) (w : World) (TB : Blk .u32 w T 26 (nn tab)) (key ns : List Nat) (v : Value) (D0 : SL .u8 w v (nn key)) (hlk : key.length ≤ 140737488355328) (hb : ∀ n ∈ ns, n < 256) (hl : ns.length ≤ 1000000000000) :
    Calls Try.prog 93 #[.pointer (some ⟨T, 0, none⟩), v, .string (strN ns)] w fun e w' => e = .returned (.string (hexA (macN tab key ns) 32)) ∧ Below w.heap.size w w' := by
  have BL := Bl.refl w
  have hT := TB.lt
  have hd0 := D0.lt
  have hol := macN_len tab key ns
  go_enter Try.func93, Try.ntmps93
  refine wp_seq_k fun K1 hK1 => ?_
  refine cPlain ?_
  refine sv 6 (.string {data := #[]}) .of ?_
  simp only [List.set_cons_zero, List.set_cons_succ]
  refine wpList_nil ?_
  refine hK1 _ _ ?_
  refine wp_seq_k fun K2 hK2 => ?_
  refine cPlain ?_
  refine sv 8 (.pointer (some ⟨T, 0, none⟩)) .of ?_
  simp only [List.set_cons_zero, List.set_cons_succ]
  refine sv 9 (v) .of ?_
  simp only [List.set_cons_zero, List.set_cons_succ]
  refine sv 10 (.string (strN ns)) .of ?_
  simp only [List.set_cons_zero, List.set_cons_succ]
  refine xBytes 11 9 30 5 (.tmp 10) rfl Try.underlying9 Try.underlying30 Try.underlying5 ns (by kernel_rfl) hb (by unfold maxLen; omega) ?_
  intro c w1 hD he hz8
  have hdl := hD.lt
  have e1 : E0 w w1 := he
  have ze1 := e1.size
  replace BL := BL.e0 e1
  replace TB := TB.e0 e1
  replace D0 := D0.e0 e1
  clear e1
  have D : SL .u8 w1 (.slice (some ⟨w.heap.size, 0, none⟩) ns.length c) (nn ns) := hD
  simp only [List.set_cons_zero, List.set_cons_succ]
  refine xCall 12 25 #[.pointer (some ⟨T, 0, none⟩), v, .slice (some ⟨w.heap.size, 0, none⟩) ns.length c] (by kernel_rfl) ?_
  refine (mac_any T tab ht w1 TB key ns v _ D0 hlk D hl).mono ?_
  rintro en w2 ⟨rfl, hb1⟩
  have e2 := belE0 hb1
  have ze2 := e2.size
  replace BL := BL.e0 e2
  replace TB := TB.e0 e2
  replace D0 := D0.e0 e2
  replace D := D.e0 e2
  clear e2
  refine ⟨.agg (cellsOf .u8 (nn (macN tab key ns))), rfl, ?_⟩
  simp only [List.set_cons_zero, List.set_cons_succ]
  refine xAlloc 7 37 ((nn (List.replicate 32 0)).map (Value.int .u8)) rfl (by kernel_rfl) ?_
  intro w3 n1
  have zn1 := n1.z
  have b7 := n1.c
  replace b7 : Blk .u8 w3 w2.heap.size 37 (nn (List.replicate 32 0)) := b7
  replace BL := BL.e0 n1.e
  replace TB := TB.e0 n1.e
  replace D0 := D0.e0 n1.e
  replace D := D.e0 n1.e
  simp only [List.set_cons_zero, List.set_cons_succ]
  refine xStoreA 37 (.tmp 7) (.tmp 12) rfl .u8 w2.heap.size 37 (nn (List.replicate 32 0)) 0 (nn (macN tab key ns)) (by kernel_rfl) (by kernel_rfl) b7 (by rw [show (nn (macN tab key ns)).length = 32 by ((try simp only [nn_len, List.length_cons, List.length_nil, List.length_set, List.length_replicate]); try omega)]; kernel_rfl) (by (try simp only [nn_len, List.length_cons, List.length_nil, List.length_set, List.length_replicate]); try omega) (nn (macN tab key ns)) (over_whole _ _ (by (try simp only [nn_len, List.length_cons, List.length_nil, List.length_set, List.length_replicate]); try omega)) ?_
  intro w4 t1
  have zt1 := t1.z
  have BL_ := BL.ev t1.e (fun i h => show w.heap.size ≤ i by have h : i = w2.heap.size := h; omega)
  have TB_ := TB.ev t1.e (show ¬ (T = w2.heap.size) by omega)
  have D0_ := D0.ev t1.e (fun i hi => show ¬ (i = w2.heap.size) by have := hd0 i hi; omega)
  have D_ := D.ev t1.e (fun i hi => show ¬ (i = w2.heap.size) by have := hdl i hi; omega)
  replace BL := BL_; clear BL_
  replace TB := TB_; clear TB_
  replace D0 := D0_; clear D0_
  replace D := D_; clear D_
  replace b7 : Blk .u8 w4 w2.heap.size 37 (nn (macN tab key ns)) := t1.c
  clear t1
  refine wpList_nil ?_
  refine hK2 _ _ ?_
  refine wp_seq_k fun K3 hK3 => ?_
  refine cPlain ?_
  refine sv 13 (.slice (some ⟨w2.heap.size, 0, none⟩) 32 32) .of ?_
  simp only [List.set_cons_zero, List.set_cons_succ]
  refine xCall 14 80 #[.slice (some ⟨w2.heap.size, 0, none⟩) 32 32] (by kernel_rfl) ?_
  refine (hex_any (macN tab key ns) _ w4 (SL.ofBlk b7 (by rw [nn_len]; exact hol) (by unfold maxLen; omega)) (fun k _ => macN_lt tab key ns k) (by omega)).mono ?_
  rintro en w5 ⟨he, hb1⟩
  rw [hol] at he
  subst he
  have e3 := belE0 hb1
  have ze3 := e3.size
  replace BL := BL.e0 e3
  replace TB := TB.e0 e3
  replace D0 := D0.e0 e3
  replace D := D.e0 e3
  replace b7 := b7.e0 e3
  clear e3
  refine ⟨.string (hexA (macN tab key ns) 32), rfl, ?_⟩
  simp only [List.set_cons_zero, List.set_cons_succ]
  refine sv 6 (.string (hexA (macN tab key ns) 32)) .of ?_
  simp only [List.set_cons_zero, List.set_cons_succ]
  refine wpList_nil ?_
  refine hK3 _ _ ?_
  refine wp_ret ?_
  (try simp only [Exit.then, Exit.inBlock])
  refine bodyPost_ret (v := .string (hexA (macN tab key ns) 32)) rT rfl ?_
  exact ⟨rfl, BL.b⟩

theorem hexm1 : hexA (macN tabL (List.replicate 20 11) [72, 105, 32, 84, 104, 101, 114, 101]) 32 = {data := #[98, 48, 51, 52, 52, 99, 54, 49, 100, 56, 100, 98, 51, 56, 53, 51, 53, 99, 97, 56, 97, 102, 99, 101, 97, 102, 48, 98, 102, 49, 50, 98, 56, 56, 49, 100, 99, 50, 48, 48, 99, 57, 56, 51, 51, 100, 97, 55, 50, 54, 101, 57, 51, 55, 54, 99, 50, 101, 51, 50, 99, 102, 102, 55]} := by kernel_rfl
theorem hexm2 : hexA (macN tabL [74, 101, 102, 101] [119, 104, 97, 116, 32, 100, 111, 32, 121, 97, 32, 119, 97, 110, 116, 32, 102, 111, 114, 32, 110, 111, 116, 104, 105, 110, 103, 63]) 32 = {data := #[53, 98, 100, 99, 99, 49, 52, 54, 98, 102, 54, 48, 55, 53, 52, 101, 54, 97, 48, 52, 50, 52, 50, 54, 48, 56, 57, 53, 55, 53, 99, 55, 53, 97, 48, 48, 51, 102, 48, 56, 57, 100, 50, 55, 51, 57, 56, 51, 57, 100, 101, 99, 53, 56, 98, 57, 54, 52, 101, 99, 51, 56, 52, 51]} := by kernel_rfl
theorem hbl : (blobsB ([[97, 98], []].map nn)).length ≤ 140737488350000 := by decide
theorem strm1 : strN [72, 105, 32, 84, 104, 101, 114, 101] = {data := #[72, 105, 32, 84, 104, 101, 114, 101]} := by kernel_rfl
theorem strm2 : strN [119, 104, 97, 116, 32, 100, 111, 32, 121, 97, 32, 119, 97, 110, 116, 32, 102, 111, 114, 32, 110, 111, 116, 104, 105, 110, 103, 63] = {data := #[119, 104, 97, 116, 32, 100, 111, 32, 121, 97, 32, 119, 97, 110, 116, 32, 102, 111, 114, 32, 110, 111, 116, 104, 105, 110, 103, 63]} := by kernel_rfl
theorem textm : textN 7 [[97, 98], []] = [75, 7, 2, 2, 97, 98, 0] := by kernel_rfl
attribute [local irreducible] macN hexA textN tabL strN blobsB
set_option maxHeartbeats 1000000 in
theorem awake03_any (w : World) :
    Calls Try.prog 31 #[] w fun e w' => e = .returned (.bool true) ∧ Below w.heap.size w w' := by
  have BL := Bl.refl w
  have hTL := tabL_len
  go_enter Try.func31, Try.ntmps31
  refine wp_seq_k fun K1 hK1 => ?_
  refine cPlain ?_
  refine sv 0 (.bool false) .of ?_
  simp only [List.set_cons_zero, List.set_cons_succ]
  refine wpList_nil ?_
  refine hK1 _ _ ?_
  refine wp_seq_k fun K2 hK2 => ?_
  refine cPlain ?_
  refine xCall 4 13 #[] (by kernel_rfl) ?_
  refine (table_any w).mono ?_
  rintro en w1 ⟨he, hb1⟩
  rw [tableN_eq] at he
  subst he
  have e1 := belE0 hb1
  have ze1 := e1.size
  replace BL := BL.e0 e1
  clear e1
  refine ⟨.agg (cellsOf .u32 (nn tabL)), rfl, ?_⟩
  simp only [List.set_cons_zero, List.set_cons_succ]
  refine xAlloc 1 26 ((nn (List.replicate 72 0)).map (Value.int .u32)) rfl (by kernel_rfl) ?_
  intro w2 n1
  have zn1 := n1.z
  have b1 := n1.c
  replace b1 : Blk .u32 w2 w1.heap.size 26 (nn (List.replicate 72 0)) := b1
  replace BL := BL.e0 n1.e
  simp only [List.set_cons_zero, List.set_cons_succ]
  refine xStoreA 26 (.tmp 1) (.tmp 4) rfl .u32 w1.heap.size 26 (nn (List.replicate 72 0)) 0 (nn tabL) (by kernel_rfl) (by kernel_rfl) b1 (by rw [show (nn tabL).length = 72 by ((try simp only [nn_len, List.length_cons, List.length_nil, List.length_set, List.length_replicate]); try omega)]; kernel_rfl) (by (try simp only [nn_len, List.length_cons, List.length_nil, List.length_set, List.length_replicate]); try omega) (nn tabL) (over_whole _ _ (by (try simp only [nn_len, List.length_cons, List.length_nil, List.length_set, List.length_replicate]); try omega)) ?_
  intro w3 t1
  have zt1 := t1.z
  have BL_ := BL.ev t1.e (fun i h => show w.heap.size ≤ i by have h : i = w1.heap.size := h; omega)
  replace BL := BL_; clear BL_
  replace b1 : Blk .u32 w3 w1.heap.size 26 (nn tabL) := t1.c
  clear t1
  refine wpList_nil ?_
  refine hK2 _ _ ?_
  refine wp_seq_k fun K3 hK3 => ?_
  refine cPlain ?_
  refine xLit 5 30 5 2 _ #[(0, .int .u8 97), (1, .int .u8 98)] [.int .u8 97, .int .u8 98] rfl (by kernel_rfl) (by kernel_rfl) ?_
  intro w4 n2
  have zn2 := n2.z
  have b5 := n2.c
  replace b5 : Blk .u8 w4 w3.heap.size 5 [97, 98] := b5
  replace BL := BL.e0 n2.e
  replace b1 := b1.e0 n2.e
  have sb5 : SL .u8 w4 (.slice (some ⟨w3.heap.size, 0, none⟩) 2 2) [97, 98] := SL.ofBlk b5 rfl (by unfold maxLen; omega)
  have lb5 : ∀ i, Value.ownBlock (.slice (some ⟨w3.heap.size, 0, none⟩) 2 2) = some i → w3.heap.size ≤ i ∧ i < w4.heap.size := ownB_lit (by omega)
  simp only [List.set_cons_zero, List.set_cons_succ]
  refine xMark 6 30 5 (.tmp 5) rfl Try.underlying30 Try.underlying5 w3.heap.size 2 [97, 98] (by kernel_rfl) b5 rfl (by unfold maxLen; omega) ?_
  intro w5 b5m e2 ze2
  have BL_ := BL.ev e2 (fun i h => show w.heap.size ≤ i by have h : i = w3.heap.size := h; omega)
  have b1_ := b1.ev e2 (show ¬ (w1.heap.size = w3.heap.size) by omega)
  replace BL := BL_; clear BL_
  replace b1 := b1_; clear b1_
  replace sb5 := b5m; clear b5m b5 e2
  simp only [List.set_cons_zero, List.set_cons_succ]
  refine xLit 7 30 5 2 _ #[(0, .int .u8 97), (1, .int .u8 99)] [.int .u8 97, .int .u8 99] rfl (by kernel_rfl) (by kernel_rfl) ?_
  intro w6 n3
  have zn3 := n3.z
  have b7 := n3.c
  replace b7 : Blk .u8 w6 w5.heap.size 5 [97, 99] := b7
  replace BL := BL.e0 n3.e
  replace b1 := b1.e0 n3.e
  replace sb5 := sb5.e0 n3.e
  have sb7 : SL .u8 w6 (.slice (some ⟨w5.heap.size, 0, none⟩) 2 2) [97, 99] := SL.ofBlk b7 rfl (by unfold maxLen; omega)
  have lb7 : ∀ i, Value.ownBlock (.slice (some ⟨w5.heap.size, 0, none⟩) 2 2) = some i → w5.heap.size ≤ i ∧ i < w6.heap.size := ownB_lit (by omega)
  simp only [List.set_cons_zero, List.set_cons_succ]
  refine xMark 8 30 5 (.tmp 7) rfl Try.underlying30 Try.underlying5 w5.heap.size 2 [97, 99] (by kernel_rfl) b7 rfl (by unfold maxLen; omega) ?_
  intro w7 b7m e3 ze3
  have BL_ := BL.ev e3 (fun i h => show w.heap.size ≤ i by have h : i = w5.heap.size := h; omega)
  have b1_ := b1.ev e3 (show ¬ (w1.heap.size = w5.heap.size) by omega)
  have sb5_ := sb5.ev e3 (fun i hi => show ¬ (i = w5.heap.size) by have := lb5 i hi; omega)
  replace BL := BL_; clear BL_
  replace b1 := b1_; clear b1_
  replace sb5 := sb5_; clear sb5_
  replace sb7 := b7m; clear b7m b7 e3
  simp only [List.set_cons_zero, List.set_cons_succ]
  refine sv 2 (.slice (some ⟨w3.heap.size, 0, none⟩) 2 2) .of ?_
  simp only [List.set_cons_zero, List.set_cons_succ]
  refine sv 3 (.slice (some ⟨w5.heap.size, 0, none⟩) 2 2) .of ?_
  simp only [List.set_cons_zero, List.set_cons_succ]
  refine wpList_nil ?_
  refine hK3 _ _ ?_
  refine wp_seq_k fun K4 hK4 => ?_
  refine cPlain ?_
  refine xCall 9 24 #[.int .u8 11, .int .i64 20] (by kernel_rfl) ?_
  refine (ofb_any 11 20 (by omega) (by omega) w7).mono ?_
  rintro en w8 ⟨u9, rfl, hO9, hb1⟩
  have e4 := belE0 hb1
  have ze4 := e4.size
  replace BL := BL.e0 e4
  replace b1 := b1.e0 e4
  replace sb5 := sb5.e0 e4
  replace sb7 := sb7.e0 e4
  clear e4
  have U9 : Own 5 .u8 w7.heap.size w8 u9 (nn (List.replicate 20 11)) := hO9
  have lU9_1 := U9.ge
  refine ⟨u9, rfl, ?_⟩
  simp only [List.set_cons_zero, List.set_cons_succ]
  refine xCall 10 93 #[.pointer (some ⟨w1.heap.size, 0, none⟩), u9, .string {data := #[72, 105, 32, 84, 104, 101, 114, 101]}] (by kernel_rfl) ?_
  have hm1 := fun W TB v D => hexm_any w1.heap.size tabL tabL_len W TB (List.replicate 20 11) [72, 105, 32, 84, 104, 101, 114, 101] v D (by simp) (by decide) (by simp)
  rw [strm1, hexm1] at hm1
  refine (hm1 w8 b1 _ U9.sl).mono ?_
  rintro en w9 ⟨rfl, hb1⟩
  have e5 := belE0 hb1
  have ze5 := e5.size
  replace BL := BL.e0 e5
  replace b1 := b1.e0 e5
  replace sb5 := sb5.e0 e5
  replace sb7 := sb7.e0 e5
  replace U9 := U9.e0 e5
  clear e5
  refine ⟨.string {data := #[98, 48, 51, 52, 52, 99, 54, 49, 100, 56, 100, 98, 51, 56, 53, 51, 53, 99, 97, 56, 97, 102, 99, 101, 97, 102, 48, 98, 102, 49, 50, 98, 56, 56, 49, 100, 99, 50, 48, 48, 99, 57, 56, 51, 51, 100, 97, 55, 50, 54, 101, 57, 51, 55, 54, 99, 50, 101, 51, 50, 99, 102, 102, 55]}, rfl, ?_⟩
  simp only [List.set_cons_zero, List.set_cons_succ]
  refine sv 11 (.bool true) .of ?_
  simp only [List.set_cons_zero, List.set_cons_succ]
  refine sv 12 (.bool true) .of ?_
  simp only [List.set_cons_zero, List.set_cons_succ]
  refine xLit 13 30 5 4 _ #[(0, .int .u8 74), (1, .int .u8 101), (2, .int .u8 102), (3, .int .u8 101)] [.int .u8 74, .int .u8 101, .int .u8 102, .int .u8 101] rfl (by kernel_rfl) (by kernel_rfl) ?_
  intro w10 n4
  have zn4 := n4.z
  have b13 := n4.c
  replace b13 : Blk .u8 w10 w9.heap.size 5 [74, 101, 102, 101] := b13
  replace BL := BL.e0 n4.e
  replace b1 := b1.e0 n4.e
  replace sb5 := sb5.e0 n4.e
  replace sb7 := sb7.e0 n4.e
  replace U9 := U9.e0 n4.e
  have sb13 : SL .u8 w10 (.slice (some ⟨w9.heap.size, 0, none⟩) 4 4) [74, 101, 102, 101] := SL.ofBlk b13 rfl (by unfold maxLen; omega)
  have lb13 : ∀ i, Value.ownBlock (.slice (some ⟨w9.heap.size, 0, none⟩) 4 4) = some i → w9.heap.size ≤ i ∧ i < w10.heap.size := ownB_lit (by omega)
  simp only [List.set_cons_zero, List.set_cons_succ]
  refine xMark 14 30 5 (.tmp 13) rfl Try.underlying30 Try.underlying5 w9.heap.size 4 [74, 101, 102, 101] (by kernel_rfl) b13 rfl (by unfold maxLen; omega) ?_
  intro w11 b13m e6 ze6
  have BL_ := BL.ev e6 (fun i h => show w.heap.size ≤ i by have h : i = w9.heap.size := h; omega)
  have b1_ := b1.ev e6 (show ¬ (w1.heap.size = w9.heap.size) by omega)
  have sb5_ := sb5.ev e6 (fun i hi => show ¬ (i = w9.heap.size) by have := lb5 i hi; omega)
  have sb7_ := sb7.ev e6 (fun i hi => show ¬ (i = w9.heap.size) by have := lb7 i hi; omega)
  have U9_ := U9.ev e6 (fun i hi => show ¬ (i = w9.heap.size) by have := lU9_1 i hi; omega)
  replace BL := BL_; clear BL_
  replace b1 := b1_; clear b1_
  replace sb5 := sb5_; clear sb5_
  replace sb7 := sb7_; clear sb7_
  replace U9 := U9_; clear U9_
  replace sb13 := b13m; clear b13m b13 e6
  simp only [List.set_cons_zero, List.set_cons_succ]
  refine xCall 15 93 #[.pointer (some ⟨w1.heap.size, 0, none⟩), .slice (some ⟨w9.heap.size, 0, none⟩) 4 4, .string {data := #[119, 104, 97, 116, 32, 100, 111, 32, 121, 97, 32, 119, 97, 110, 116, 32, 102, 111, 114, 32, 110, 111, 116, 104, 105, 110, 103, 63]}] (by kernel_rfl) ?_
  have hm2 := fun W TB v D => hexm_any w1.heap.size tabL tabL_len W TB [74, 101, 102, 101] [119, 104, 97, 116, 32, 100, 111, 32, 121, 97, 32, 119, 97, 110, 116, 32, 102, 111, 114, 32, 110, 111, 116, 104, 105, 110, 103, 63] v D (by simp) (by decide) (by simp)
  rw [strm2, hexm2] at hm2
  refine (hm2 w11 b1 _ sb13).mono ?_
  rintro en w12 ⟨rfl, hb1⟩
  have e7 := belE0 hb1
  have ze7 := e7.size
  replace BL := BL.e0 e7
  replace b1 := b1.e0 e7
  replace sb5 := sb5.e0 e7
  replace sb7 := sb7.e0 e7
  replace U9 := U9.e0 e7
  replace sb13 := sb13.e0 e7
  clear e7
  refine ⟨.string {data := #[53, 98, 100, 99, 99, 49, 52, 54, 98, 102, 54, 48, 55, 53, 52, 101, 54, 97, 48, 52, 50, 52, 50, 54, 48, 56, 57, 53, 55, 53, 99, 55, 53, 97, 48, 48, 51, 102, 48, 56, 57, 100, 50, 55, 51, 57, 56, 51, 57, 100, 101, 99, 53, 56, 98, 57, 54, 52, 101, 99, 51, 56, 52, 51]}, rfl, ?_⟩
  simp only [List.set_cons_zero, List.set_cons_succ]
  refine sv 16 (.bool true) .of ?_
  simp only [List.set_cons_zero, List.set_cons_succ]
  refine sv 17 (.bool true) .of ?_
  simp only [List.set_cons_zero, List.set_cons_succ]
  refine sv 18 (.bool true) .of ?_
  simp only [List.set_cons_zero, List.set_cons_succ]
  refine sv 19 (.slice (some ⟨w3.heap.size, 0, none⟩) 2 2) .of ?_
  simp only [List.set_cons_zero, List.set_cons_succ]
  refine xLit 20 124 30 2 _ #[(0, .slice (some ⟨w3.heap.size, 0, none⟩) 2 2), (1, .slice none 0 0)] [.slice (some ⟨w3.heap.size, 0, none⟩) 2 2, .slice none 0 0] rfl (by kernel_rfl) (by kernel_rfl) ?_
  intro w13 n5
  have zn5 := n5.z
  have b20 := n5.c
  replace BL := BL.e0 n5.e
  replace b1 := b1.e0 n5.e
  replace sb5 := sb5.e0 n5.e
  replace sb7 := sb7.e0 n5.e
  replace U9 := U9.e0 n5.e
  replace sb13 := sb13.e0 n5.e
  simp only [List.set_cons_zero, List.set_cons_succ]
  refine xCall 21 29 #[.int .u8 7, .slice (some ⟨w12.heap.size, 0, none⟩) 2 2] (by kernel_rfl) ?_
  refine (mactext_any ((7 : Nat) : Int) _ [_, .slice none 0 0] ([[97, 98], []].map nn) w13 (SV.ofCelM (n := 2) b20 rfl (by unfold maxLen; omega)) w13.heap.size (by omega) (SLs.two sb5 (fun g hg => by have := lb5 g hg; omega) (SL.nil _ _) (fun g hg => by cases hg)) hbl).mono ?_
  rintro en w14 ⟨u, rfl, hO, hb1⟩
  replace hO := hO.cast ((textN_nn 7 [[97, 98], []]).symm.trans (congrArg nn textm))
  have e8 := belE0 hb1
  have ze8 := e8.size
  replace BL := BL.e0 e8
  replace b1 := b1.e0 e8
  replace sb5 := sb5.e0 e8
  replace sb7 := sb7.e0 e8
  replace U9 := U9.e0 e8
  replace sb13 := sb13.e0 e8
  replace b20 := b20.e0 e8
  clear e8
  have U : Own 5 .u8 w13.heap.size w14 u (nn [75, 7, 2, 2, 97, 98, 0]) := hO
  have lU_1 := U.ge
  refine ⟨u, rfl, ?_⟩
  simp only [List.set_cons_zero, List.set_cons_succ]
  refine xLit 22 30 5 7 _ #[(0, .int .u8 75), (1, .int .u8 7), (2, .int .u8 2), (3, .int .u8 2), (4, .int .u8 97), (5, .int .u8 98), (6, .int .u8 0)] [.int .u8 75, .int .u8 7, .int .u8 2, .int .u8 2, .int .u8 97, .int .u8 98, .int .u8 0] rfl (by kernel_rfl) (by kernel_rfl) ?_
  intro w15 n6
  have zn6 := n6.z
  have b22 := n6.c
  replace b22 : Blk .u8 w15 w14.heap.size 5 [75, 7, 2, 2, 97, 98, 0] := b22
  replace BL := BL.e0 n6.e
  replace b1 := b1.e0 n6.e
  replace sb5 := sb5.e0 n6.e
  replace sb7 := sb7.e0 n6.e
  replace U9 := U9.e0 n6.e
  replace sb13 := sb13.e0 n6.e
  replace b20 := b20.e0 n6.e
  replace U := U.e0 n6.e
  have sb22 : SL .u8 w15 (.slice (some ⟨w14.heap.size, 0, none⟩) 7 7) [75, 7, 2, 2, 97, 98, 0] := SL.ofBlk b22 rfl (by unfold maxLen; omega)
  have lb22 : ∀ i, Value.ownBlock (.slice (some ⟨w14.heap.size, 0, none⟩) 7 7) = some i → w14.heap.size ≤ i ∧ i < w15.heap.size := ownB_lit (by omega)
  simp only [List.set_cons_zero, List.set_cons_succ]
  refine xCall 23 28 #[u, .slice (some ⟨w14.heap.size, 0, none⟩) 7 7] (by kernel_rfl) ?_
  refine (same_any _ _ (nn [75, 7, 2, 2, 97, 98, 0]) (nn [75, 7, 2, 2, 97, 98, 0]) w15 U.sl sb22 (bytes_nn (by decide)) (bytes_nn (by decide))).mono ?_
  rintro en w16 ⟨he, hw⟩
  rw [decide_eq_true rfl] at he
  subst he
  obtain rfl := (hw.symm).symm
  refine ⟨.bool true, rfl, ?_⟩
  simp only [List.set_cons_zero, List.set_cons_succ]
  refine sv 24 (.bool true) .of ?_
  simp only [List.set_cons_zero, List.set_cons_succ]
  refine sv 25 (.bool true) .of ?_
  simp only [List.set_cons_zero, List.set_cons_succ]
  refine sv 26 (.slice (some ⟨w3.heap.size, 0, none⟩) 2 2) .of ?_
  simp only [List.set_cons_zero, List.set_cons_succ]
  refine xLit 27 30 5 2 _ #[(0, .int .u8 97), (1, .int .u8 98)] [.int .u8 97, .int .u8 98] rfl (by kernel_rfl) (by kernel_rfl) ?_
  intro w17 n7
  have zn7 := n7.z
  have b27 := n7.c
  replace b27 : Blk .u8 w17 w15.heap.size 5 [97, 98] := b27
  replace BL := BL.e0 n7.e
  replace b1 := b1.e0 n7.e
  replace sb5 := sb5.e0 n7.e
  replace sb7 := sb7.e0 n7.e
  replace U9 := U9.e0 n7.e
  replace sb13 := sb13.e0 n7.e
  replace b20 := b20.e0 n7.e
  replace U := U.e0 n7.e
  replace b22 := b22.e0 n7.e
  replace sb22 := sb22.e0 n7.e
  have sb27 : SL .u8 w17 (.slice (some ⟨w15.heap.size, 0, none⟩) 2 2) [97, 98] := SL.ofBlk b27 rfl (by unfold maxLen; omega)
  have lb27 : ∀ i, Value.ownBlock (.slice (some ⟨w15.heap.size, 0, none⟩) 2 2) = some i → w15.heap.size ≤ i ∧ i < w17.heap.size := ownB_lit (by omega)
  simp only [List.set_cons_zero, List.set_cons_succ]
  refine xMark 28 30 5 (.tmp 27) rfl Try.underlying30 Try.underlying5 w15.heap.size 2 [97, 98] (by kernel_rfl) b27 rfl (by unfold maxLen; omega) ?_
  intro w18 b27m e9 ze9
  have BL_ := BL.ev e9 (fun i h => show w.heap.size ≤ i by have h : i = w15.heap.size := h; omega)
  have b1_ := b1.ev e9 (show ¬ (w1.heap.size = w15.heap.size) by omega)
  have sb5_ := sb5.ev e9 (fun i hi => show ¬ (i = w15.heap.size) by have := lb5 i hi; omega)
  have sb7_ := sb7.ev e9 (fun i hi => show ¬ (i = w15.heap.size) by have := lb7 i hi; omega)
  have U9_ := U9.ev e9 (fun i hi => show ¬ (i = w15.heap.size) by have := lU9_1 i hi; omega)
  have sb13_ := sb13.ev e9 (fun i hi => show ¬ (i = w15.heap.size) by have := lb13 i hi; omega)
  have b20_ := b20.ev e9 (show ¬ (w12.heap.size = w15.heap.size) by omega)
  have U_ := U.ev e9 (fun i hi => show ¬ (i = w15.heap.size) by have := lU_1 i hi; omega)
  have b22_ := b22.ev e9 (show ¬ (w14.heap.size = w15.heap.size) by omega)
  have sb22_ := sb22.ev e9 (fun i hi => show ¬ (i = w15.heap.size) by have := lb22 i hi; omega)
  replace BL := BL_; clear BL_
  replace b1 := b1_; clear b1_
  replace sb5 := sb5_; clear sb5_
  replace sb7 := sb7_; clear sb7_
  replace U9 := U9_; clear U9_
  replace sb13 := sb13_; clear sb13_
  replace b20 := b20_; clear b20_
  replace U := U_; clear U_
  replace b22 := b22_; clear b22_
  replace sb22 := sb22_; clear sb22_
  replace sb27 := b27m; clear b27m b27 e9
  simp only [List.set_cons_zero, List.set_cons_succ]
  refine xCall 29 30 #[.slice (some ⟨w3.heap.size, 0, none⟩) 2 2, .slice (some ⟨w15.heap.size, 0, none⟩) 2 2] (by kernel_rfl) ?_
  refine (macsame_any _ _ [97, 98] [97, 98] w18 sb5 sb27 (by decide) (by decide) (by simp) (by simp)).mono ?_
  rintro en w19 ⟨rfl, hb1⟩
  have e10 := belE0 hb1
  have ze10 := e10.size
  replace BL := BL.e0 e10
  replace b1 := b1.e0 e10
  replace sb5 := sb5.e0 e10
  replace sb7 := sb7.e0 e10
  replace U9 := U9.e0 e10
  replace sb13 := sb13.e0 e10
  replace b20 := b20.e0 e10
  replace U := U.e0 e10
  replace b22 := b22.e0 e10
  replace sb22 := sb22.e0 e10
  replace sb27 := sb27.e0 e10
  clear e10
  refine ⟨.bool true, rfl, ?_⟩
  simp only [List.set_cons_zero, List.set_cons_succ]
  refine sv 30 (.bool true) .of ?_
  simp only [List.set_cons_zero, List.set_cons_succ]
  refine sv 31 (.bool true) .of ?_
  simp only [List.set_cons_zero, List.set_cons_succ]
  refine sv 32 (.slice (some ⟨w3.heap.size, 0, none⟩) 2 2) .of ?_
  simp only [List.set_cons_zero, List.set_cons_succ]
  refine sv 33 (.slice (some ⟨w5.heap.size, 0, none⟩) 2 2) .of ?_
  simp only [List.set_cons_zero, List.set_cons_succ]
  refine xCall 34 30 #[.slice (some ⟨w3.heap.size, 0, none⟩) 2 2, .slice (some ⟨w5.heap.size, 0, none⟩) 2 2] (by kernel_rfl) ?_
  refine (macsame_any _ _ [97, 98] [97, 99] w19 sb5 sb7 (by decide) (by decide) (by simp) (by simp)).mono ?_
  rintro en w20 ⟨rfl, hb1⟩
  have e11 := belE0 hb1
  have ze11 := e11.size
  replace BL := BL.e0 e11
  replace b1 := b1.e0 e11
  replace sb5 := sb5.e0 e11
  replace sb7 := sb7.e0 e11
  replace U9 := U9.e0 e11
  replace sb13 := sb13.e0 e11
  replace b20 := b20.e0 e11
  replace U := U.e0 e11
  replace b22 := b22.e0 e11
  replace sb22 := sb22.e0 e11
  replace sb27 := sb27.e0 e11
  clear e11
  refine ⟨.bool false, rfl, ?_⟩
  simp only [List.set_cons_zero, List.set_cons_succ]
  refine sv 35 (.bool true) .of ?_
  simp only [List.set_cons_zero, List.set_cons_succ]
  refine sv 36 (.bool true) .of ?_
  simp only [List.set_cons_zero, List.set_cons_succ]
  refine sv 37 (.bool true) .of ?_
  simp only [List.set_cons_zero, List.set_cons_succ]
  refine sv 38 (.slice (some ⟨w3.heap.size, 0, none⟩) 2 2) .of ?_
  simp only [List.set_cons_zero, List.set_cons_succ]
  refine sv 39 (.slice (some ⟨w3.heap.size, 0, none⟩) 2 2) .of ?_
  simp only [List.set_cons_zero, List.set_cons_succ]
  refine sv 40 (sliceV (.slice (some ⟨w3.heap.size, 0, none⟩) 2 2) 0 1) (Val.slc 30 (.tmp 39) none (some _) rfl (.slice (some ⟨w3.heap.size, 0, none⟩) 2 2) (by kernel_rfl) sb5 0 1 (.inr ⟨rfl, rfl⟩) (.inl (by kernel_rfl)) (by omega) (by simp) Try.underlying30 (by kernel_rfl)) ?_
  simp only [List.set_cons_zero, List.set_cons_succ]
  refine xCall 41 30 #[.slice (some ⟨w3.heap.size, 0, none⟩) 2 2, sliceV (.slice (some ⟨w3.heap.size, 0, none⟩) 2 2) 0 1] (by kernel_rfl) ?_
  refine (macsame_any _ _ [97, 98] [97] w20 sb5 (sb5.slice 0 1 (by omega) (by simp)) (by decide) (by decide) (by simp) (by simp)).mono ?_
  rintro en w21 ⟨rfl, hb1⟩
  have e12 := belE0 hb1
  have ze12 := e12.size
  replace BL := BL.e0 e12
  replace b1 := b1.e0 e12
  replace sb5 := sb5.e0 e12
  replace sb7 := sb7.e0 e12
  replace U9 := U9.e0 e12
  replace sb13 := sb13.e0 e12
  replace b20 := b20.e0 e12
  replace U := U.e0 e12
  replace b22 := b22.e0 e12
  replace sb22 := sb22.e0 e12
  replace sb27 := sb27.e0 e12
  clear e12
  refine ⟨.bool false, rfl, ?_⟩
  simp only [List.set_cons_zero, List.set_cons_succ]
  refine sv 42 (.bool true) .of ?_
  simp only [List.set_cons_zero, List.set_cons_succ]
  refine sv 43 (.bool true) .of ?_
  simp only [List.set_cons_zero, List.set_cons_succ]
  refine sv 0 (.bool true) .of ?_
  simp only [List.set_cons_zero, List.set_cons_succ]
  refine wpList_nil ?_
  refine hK4 _ _ ?_
  refine wp_ret ?_
  (try simp only [Exit.then, Exit.inBlock])
  refine bodyPost_ret (v := .bool true) rT rfl ?_
  exact ⟨rfl, BL.b⟩

end Go.Proofs.Yteaijjefbadnbaa
