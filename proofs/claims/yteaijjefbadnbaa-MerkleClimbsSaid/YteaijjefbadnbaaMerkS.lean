/-
  blockhouselow.SameDigests, CopyDigests, SamePath, Pick; law10.grown.
-/
import Derived.Test.YteaijjefbadnbaaMerkX
import Derived.Test.YteaijjefbadnbaaEqA
namespace Go.Proofs.Yteaijjefbadnbaa
open Go.RowKit
set_option linter.unusedVariables false
set_option linter.unusedSimpArgs false
set_option maxRecDepth 100000
attribute [local irreducible] wpList Code.wp wpAnyZ taggedN mnode
theorem neq_nn (a b : List Nat) : (if BinOp.neq = BinOp.eql then decide (nn a = nn b) else !decide (nn a = nn b)) = decide (¬ a = b) := by
  rw [if_neg (by decide)]
  by_cases h : a = b
  · subst h; simp
  · have : ¬ nn a = nn b := fun e => h (nn_inj e)
    simp [h, this]
theorem eql_nn (a b : List Nat) : (if BinOp.eql = BinOp.eql then decide (nn a = nn b) else !decide (nn a = nn b)) = decide (a = b) := by
  rw [if_pos rfl]
  by_cases h : a = b
  · subst h; simp
  · have : ¬ nn a = nn b := fun e => h (nn_inj e)
    simp [h, this]
theorem takeD_next {xs ys : List (List Nat)} {k : Nat} (h : xs.length = ys.length) (hk : k < xs.length) (h1 : xs.take k = ys.take k) (h2 : xs.getD k [] = ys.getD k []) : xs.take (k + 1) = ys.take (k + 1) := by
  have hy : k < ys.length := by omega
  rw [List.take_add_one, List.take_add_one, h1, List.getElem?_eq_getElem hk, List.getElem?_eq_getElem hy]
  rw [List.getD_eq_getElem?_getD, List.getD_eq_getElem?_getD, List.getElem?_eq_getElem hk, List.getElem?_eq_getElem hy] at h2
  simp only [Option.getD_some] at h2
  rw [h2]
theorem Val.remT {P : Program} {w : World} {a : Act} {o : Oper} (t ty : TypeId) (x y : Operand) (ho : o.op = .binOp .rem t x y ty) (p : Int) (q : Nat) (hx : a.eval x = .int .i64 p) (hy : a.eval y = .int .i64 (q : Int)) (hq : 0 < q) : Val P a o (.int .i64 (p.tmod q)) w := by
  refine Val.bin' .rem t ty x y ho hx hy ?_
  have h0 : ¬ (q : Int) = 0 := by omega
  simp only [binOp, ne_eq, not_true_eq_false, if_false, Op.intDiv, h0, Sem.run_pure]
/-- A number of a row of m, whatever n is. -/
def pickN (n : Int) (m : Nat) : Nat := (n % (m : Int)).toNat
theorem pickN_lt (n : Int) {m : Nat} (h : 0 < m) : pickN n m < m := by
  have h1 := Int.emod_lt_of_pos n (show (0 : Int) < m by omega)
  have h2 := Int.emod_nonneg n (show (m : Int) ≠ 0 by omega)
  unfold pickN
  omega
theorem pick_tmod (n : Int) {m : Nat} (h : 0 < m) : (if n.tmod m < 0 then n.tmod m + m else n.tmod m) = ((pickN n m : Nat) : Int) := by
  have h2 := Int.emod_nonneg n (show (m : Int) ≠ 0 by omega)
  have h3 := Int.emod_lt_of_pos n (show (0 : Int) < m by omega)
  have e : ((pickN n m : Nat) : Int) = n % (m : Int) := Int.toNat_of_nonneg h2
  rw [e]
  have h4 := Int.tmod_eq_emod (a := n) (b := (m : Int))
  rcases Int.lt_or_le n 0 with hn | hn
  · by_cases hd : (m : Int) ∣ n
    · have h5 : n % (m : Int) = 0 := Int.emod_eq_zero_of_dvd hd
      have h6 : n.tmod m = 0 := Int.tmod_eq_zero_of_dvd hd
      rw [h6, h5]; simp
    · have h5 : n.tmod m = n % (m : Int) - m := by rw [h4]; simp [hd, show ¬ 0 ≤ n by omega]
      rw [h5]; split <;> omega
  · have h5 : n.tmod m = n % (m : Int) := Int.tmod_eq_emod_of_nonneg hn
    rw [h5]; split <;> omega
/-- A leaf of those that are told, over and over, with its number. -/
def growD (l : List (List Nat)) (i : Nat) : List Nat :=
  (if 0 < l.length then l.getD (i % l.length) [] else List.replicate 32 0).set 0 (((if 0 < l.length then l.getD (i % l.length) [] else List.replicate 32 0).getD 0 0 ^^^ (i % 256)) % 256)
def growN (l : List (List Nat)) (n : Nat) : List (List Nat) := (List.range n).map (growD l)
theorem growN_len (l : List (List Nat)) (n : Nat) : (growN l n).length = n := by simp [growN]
theorem growN_succ (l : List (List Nat)) (n : Nat) : growN l (n + 1) = growN l n ++ [growD l n] := by simp [growN, List.range_succ]
theorem growD_len {l : List (List Nat)} (h : ∀ d ∈ l, d.length = 32) (i : Nat) : (growD l i).length = 32 := by
  unfold growD
  rw [List.length_set]
  split
  · rename_i h0; exact fe_getDN h (Nat.mod_lt _ h0)
  · simp
theorem growN_lens {l : List (List Nat)} (h : ∀ d ∈ l, d.length = 32) (n : Nat) : ∀ d ∈ growN l n, d.length = 32 := fun d hd => by
  obtain ⟨i, _, rfl⟩ := List.mem_map.1 hd
  exact growD_len h i

set_option maxHeartbeats 4000000 in
theorem samedig_any (v0 v1 : Value) (xs ys : List (List Nat)) (w : World) (H0 : SE .u8 32 w v0 (nnd xs)) (H1 : SE .u8 32 w v1 (nnd ys)) :
    Calls Try.prog 49 #[v0, v1] w fun e w' => e = .returned (.bool (decide (xs = ys))) ∧ Below w.heap.size w w' := by
  have BL := Bl.refl w
  have h0 := H0.lt
  have h1 := H1.lt
  have hx := nnd_lens H0.lens
  have hy := nnd_lens H1.lens
  obtain ⟨A0, C0, hv0, hc0⟩ := H0.len
  obtain ⟨A1, C1, hv1, hc1⟩ := H1.len
  rw [nnd_len] at hv0 hv1 hc0 hc1
  subst hv0 hv1
  have hm0 := H0.cap.2.2
  unfold maxLen at hm0
  go_enter Try.func49, Try.ntmps49
  refine wp_seq_k fun K1 hK1 => ?_
  refine cPlain ?_
  refine sv 4 (.bool false) .of ?_
  simp only [List.set_cons_zero, List.set_cons_succ]
  refine wpList_nil ?_
  refine hK1 _ _ ?_
  refine wp_seq_k fun K2 hK2 => ?_
  refine wp_seq_k fun K3 hK3 => ?_
  refine cPlain ?_
  refine sv 6 (.slice A0 xs.length C0) .of ?_
  simp only [List.set_cons_zero, List.set_cons_succ]
  refine sv 7 (.int .i64 (xs.length : Int)) .of ?_
  simp only [List.set_cons_zero, List.set_cons_succ]
  refine sv 8 (.slice A1 ys.length C1) .of ?_
  simp only [List.set_cons_zero, List.set_cons_succ]
  refine sv 9 (.int .i64 (ys.length : Int)) .of ?_
  simp only [List.set_cons_zero, List.set_cons_succ]
  refine sv 10 (.bool (decide (¬ ((xs.length : Int) = (ys.length : Int))))) (Val.cmp .neq 3 _ (.tmp 7) (.tmp 9) rfl .i64 (xs.length : Int) (ys.length : Int) (by kernel_rfl) (by kernel_rfl) (by simp) _ (by simp [cmpB])) ?_
  simp only [List.set_cons_zero, List.set_cons_succ]
  refine wpList_nil ?_
  refine hK3 _ _ ?_
  refine cDec (¬ ((xs.length : Int) = (ys.length : Int))) (by kernel_rfl) (fun c10 => ?_) (fun c10 => ?_)
  · skip
    refine wp_seq_k fun K4 hK4 => ?_
    refine cPlain ?_
    refine sv 4 (.bool false) .of ?_
    simp only [List.set_cons_zero, List.set_cons_succ]
    refine wpList_nil ?_
    refine hK4 _ _ ?_
    refine wp_ret ?_
    (try simp only [Exit.then, Exit.inBlock])
    refine bodyPost_ret (v := .bool false) rT rfl ?_
    rw [decide_eq_false (fun h => by subst h; first | exact c10 rfl | exact c25 rfl)]
    exact ⟨rfl, BL.b⟩
  · skip
    refine wp_skip ?_
    refine hK2 _ _ ?_
    refine wp_seq_k fun K5 hK5 => ?_
    refine wp_seq_k fun K6 hK6 => ?_
    refine cPlain ?_
    refine sv 5 (.int .i64 0) .of ?_
    simp only [List.set_cons_zero, List.set_cons_succ]
    refine wpList_nil ?_
    refine hK6 _ _ ?_
    refine wp_block ?_
    refine cLoop (fun N_ A_ w_ => ∃ (k : Nat), (N_ = xs.length - k ∧ (k ≤ xs.length) ∧ (xs.take k = ys.take k) ∧ (∃ s1 : Nat → Value, A_ = ⟨[.slice A0 xs.length C0, .slice A1 ys.length C1, undef, undef, (s1 4), .int .i64 ((k : Nat) : Int), .slice A0 xs.length C0, .int .i64 (xs.length : Int), .slice A1 ys.length C1, .int .i64 (ys.length : Int), .bool (decide (¬ ((xs.length : Int) = (ys.length : Int)))), (s1 11), (s1 12), (s1 13), (s1 14), (s1 15), (s1 16), (s1 17), (s1 18), (s1 19), (s1 20), (s1 21), (s1 22), (s1 23), (s1 24), (s1 25)].toArray, []⟩) ∧ Bl w.heap.size w w_ ∧ SE .u8 32 w_ (.slice A0 xs.length C0) (nnd xs) ∧ SE .u8 32 w_ (.slice A1 ys.length C1) (nnd ys) ∧ w.heap.size ≤ w_.heap.size)) _ ⟨0, rfl, (Nat.zero_le _), (by simp), cutE, BL, H0, H1, Nat.le_refl _⟩ ?_
    clear BL H0 H1
    rintro n_ a_ wl0 ⟨k, rfl, hc0_0, hc0_1, ⟨s1, rfl⟩, BL, H0, H1, zl0⟩
    refine wp_seq_k fun K7 hK7 => ?_
    refine wp_seq_k fun K8 hK8 => ?_
    refine cPlain ?_
    refine sv 11 (.int .i64 ((k : Nat) : Int)) .of ?_
    simp only [List.set_cons_zero, List.set_cons_succ]
    refine sv 12 (.slice A0 xs.length C0) .of ?_
    simp only [List.set_cons_zero, List.set_cons_succ]
    refine sv 13 (.int .i64 (xs.length : Int)) .of ?_
    simp only [List.set_cons_zero, List.set_cons_succ]
    refine sv 14 (.bool (decide (((k : Nat) : Int) < (xs.length : Int)))) (Val.cmp .lss 3 _ (.tmp 11) (.tmp 13) rfl .i64 ((k : Nat) : Int) (xs.length : Int) (by kernel_rfl) (by kernel_rfl) (by simp) _ rfl) ?_
    simp only [List.set_cons_zero, List.set_cons_succ]
    refine wpList_nil ?_
    refine hK8 _ _ ?_
    refine cDec (((k : Nat) : Int) < (xs.length : Int)) (by kernel_rfl) (fun c14 => ?_) (fun c14 => ?_)
    · skip
      refine wp_skip ?_
      refine hK7 _ _ ?_
      refine wp_seq_k fun K9 hK9 => ?_
      refine wp_block ?_
      refine wp_seq_k fun K10 hK10 => ?_
      have e1 := drew_e0 wl0
      refine zg (fun w_ => Bl w.heap.size w w_ ∧ SE .u8 32 w_ (.slice A0 xs.length C0) (nnd xs) ∧ SE .u8 32 w_ (.slice A1 ys.length C1) (nnd ys) ∧ wl0.heap.size ≤ w_.heap.size) (fun w_ => Bl w.heap.size w w_ ∧ SE .u8 32 w_ (.slice A0 xs.length C0) (nnd xs) ∧ SE .u8 32 w_ (.slice A1 ys.length C1) (nnd ys) ∧ wl0.heap.size ≤ w_.heap.size) 100000 9 ⟨BL.e0 e1, H0.e0 e1, H1.e0 e1, Nat.le_refl _⟩ ?_
      clear BL H0 H1
      clear e1
      intro w1
      rintro ⟨BL, H0, H1, z1⟩
      refine zv 0 17 (.slice A0 xs.length C0) (fun _ _ => .of) ⟨BL, H0, H1, by omega⟩ ?_
      simp only [List.set_cons_zero, List.set_cons_succ]
      refine zv 1 18 (.int .i64 ((k : Nat) : Int)) (fun _ _ => .of) ⟨BL, H0, H1, by omega⟩ ?_
      simp only [List.set_cons_zero, List.set_cons_succ]
      refine zv 2 19 (elemE 32 (.slice A0 xs.length C0) k) (fun _ ⟨BL, H0, H1, z1⟩ => Val.ixE 63 (.tmp 17) (.tmp 18) rfl (.slice A0 xs.length C0) k (by kernel_rfl) (by kernel_rfl) H0 Try.underlying63 (by kernel_rfl) (by simp only [nnd_len]; omega)) ⟨BL, H0, H1, by omega⟩ ?_
      simp only [List.set_cons_zero, List.set_cons_succ]
      refine zv 3 20 (.agg (cellsOf .u8 (nn (xs.getD k [])))) (fun _ ⟨BL, H0, H1, z1⟩ => Val.ldGN 37 _ rfl (.slice A0 xs.length C0) k (by kernel_rfl) H0 _ Try.underlying37 rfl (by kernel_rfl) (by simp only [nnd_len]; omega)) ⟨BL, H0, H1, by omega⟩ ?_
      simp only [List.set_cons_zero, List.set_cons_succ]
      refine zv 4 21 (.slice A1 ys.length C1) (fun _ _ => .of) ⟨BL, H0, H1, by omega⟩ ?_
      simp only [List.set_cons_zero, List.set_cons_succ]
      refine zv 5 22 (.int .i64 ((k : Nat) : Int)) (fun _ _ => .of) ⟨BL, H0, H1, by omega⟩ ?_
      simp only [List.set_cons_zero, List.set_cons_succ]
      refine zv 6 23 (elemE 32 (.slice A1 ys.length C1) k) (fun _ ⟨BL, H0, H1, z1⟩ => Val.ixE 63 (.tmp 21) (.tmp 22) rfl (.slice A1 ys.length C1) k (by kernel_rfl) (by kernel_rfl) H1 Try.underlying63 (by kernel_rfl) (by simp only [nnd_len]; omega)) ⟨BL, H0, H1, by omega⟩ ?_
      simp only [List.set_cons_zero, List.set_cons_succ]
      refine zv 7 24 (.agg (cellsOf .u8 (nn (ys.getD k [])))) (fun _ ⟨BL, H0, H1, z1⟩ => Val.ldGN 37 _ rfl (.slice A1 ys.length C1) k (by kernel_rfl) H1 _ Try.underlying37 rfl (by kernel_rfl) (by simp only [nnd_len]; omega)) ⟨BL, H0, H1, by omega⟩ ?_
      simp only [List.set_cons_zero, List.set_cons_succ]
      refine zv 8 25 (.bool (decide (¬ xs.getD k [] = ys.getD k []))) (fun _ ⟨BL, H0, H1, z1⟩ => Val.eqA .neq 37 _ (.tmp 20) (.tmp 24) rfl Try.underlying37 Try.underlying5 (by kernel_rfl) (by kernel_rfl) (nn (xs.getD k [])) (nn (ys.getD k [])) (by kernel_rfl) (by kernel_rfl) (by rw [nn_len]; exact fe_getDN hx (by omega)) (by rw [nn_len]; exact fe_getDN hy (by omega)) (.inr rfl) _ (neq_nn _ _)) ⟨BL, H0, H1, by omega⟩ ?_
      simp only [List.set_cons_zero, List.set_cons_succ]
      refine zd (by kernel_rfl) ?_ _
      refine hK10 _ _ ?_
      refine cDec (¬ xs.getD k [] = ys.getD k []) (by kernel_rfl) (fun c25 => ?_) (fun c25 => ?_)
      · skip
        refine wp_seq_k fun K11 hK11 => ?_
        refine cPlain ?_
        refine sv 4 (.bool false) .of ?_
        simp only [List.set_cons_zero, List.set_cons_succ]
        refine wpList_nil ?_
        refine hK11 _ _ ?_
        refine wp_ret ?_
        (try simp only [Exit.then, Exit.inBlock])
        refine bodyPost_ret (v := .bool false) rT rfl ?_
        rw [decide_eq_false (fun h => by subst h; first | exact c10 rfl | exact c25 rfl)]
        exact ⟨rfl, BL.b⟩
      · skip
        refine wp_skip ?_
        refine hK9 _ _ ?_
        refine cPlain ?_
        refine sv 15 (.int .i64 ((k : Nat) : Int)) .of ?_
        simp only [List.set_cons_zero, List.set_cons_succ]
        refine sv 16 (.int .i64 (((k : Nat) : Int) + 1)) (Val.add 3 _ (.tmp 15) _ rfl ((k : Nat) : Int) 1 (by kernel_rfl) (by kernel_rfl) (by omega)) ?_
        simp only [List.set_cons_zero, List.set_cons_succ]
        refine sv 5 (.int .i64 (((k : Nat) : Int) + 1)) .of ?_
        simp only [List.set_cons_zero, List.set_cons_succ]
        refine wpList_nil ?_
        refine ⟨_, ?_, k + 1, rfl, (by omega), (takeD_next (by omega) (by omega) hc0_1 (Classical.not_not.1 c25)), cutE, BL, H0, H1, by omega⟩
        omega
    · skip
      rw [show k = xs.length by omega, List.take_length, List.take_of_length_le (by omega)] at hc0_1
      refine wp_exit ?_
      simp only [Exit.then, Exit.inBlock, ↓reduceIte, Nat.reduceEqDiff]
      refine hK5 _ _ ?_
      refine wp_seq_k fun K12 hK12 => ?_
      refine cPlain ?_
      refine sv 4 (.bool true) .of ?_
      simp only [List.set_cons_zero, List.set_cons_succ]
      refine wpList_nil ?_
      refine hK12 _ _ ?_
      refine wp_ret ?_
      (try simp only [Exit.then, Exit.inBlock])
      refine bodyPost_ret (v := .bool true) rT rfl ?_
      exact ⟨by rw [decide_eq_true hc0_1], BL.b⟩

theorem copyD_any (v : Value) (es : List (List Nat)) (w : World) (D : SE .u8 32 w v (nnd es)) (hl : es.length ≤ 1000000) :
    Calls Try.prog 48 #[v] w fun e w' => ∃ r, e = .returned r ∧ OwnE 37 .u8 32 w.heap.size w' r (nnd es) ∧ Below w.heap.size w w' := by
  have BL := Bl.refl w
  have hvl := D.lt
  go_enter Try.func48, Try.ntmps48
  refine wp_seq_k fun K1 hK1 => ?_
  refine cPlain ?_
  refine sv 2 (.slice none 0 0) .of ?_
  simp only [List.set_cons_zero, List.set_cons_succ]
  refine wpList_nil ?_
  refine hK1 _ _ ?_
  refine wp_seq_k fun K2 hK2 => ?_
  refine cPlain ?_
  refine sv 3 (.slice none 0 0) .of ?_
  simp only [List.set_cons_zero, List.set_cons_succ]
  refine wpList_nil ?_
  refine hK2 _ _ ?_
  refine wp_seq_k fun K3 hK3 => ?_
  refine cPlain ?_
  refine sv 4 (.slice none 0 0) .of ?_
  simp only [List.set_cons_zero, List.set_cons_succ]
  refine sv 5 (v) .of ?_
  simp only [List.set_cons_zero, List.set_cons_succ]
  have OA : OwnE 37 .u8 32 w.heap.size w (.slice none 0 0) (nnd []) := OwnE.nil _ _ _ _ _
  have lOA_1 := OA.ge
  refine xAppE 6 (.tmp 4) (.tmp 5) 63 37 .u8 32 32 rfl Try.underlying63 (by kernel_rfl) (by omega) w.heap.size (.slice none 0 0) (nnd []) (by kernel_rfl) OA v (nnd es) (by kernel_rfl) D ?va1_1 ?va1_2 ?va1_3 ?_
  case va1_1 => simp only [nnd_len, List.length_append, List.length_cons, List.length_nil]; omega
  case va1_2 => simp only [nnd_len, List.length_append, List.length_cons, List.length_nil]; unfold maxLen; omega
  case va1_3 => omega
  intro va1 w1 rva1 e1
  have ze1 := e1.size
  have BL_ := BL.ev e1 (fun i h => by have := lOA_1 _ h; omega)
  have D_ := D.ev e1 (fun i hi h => by have := hvl i hi; have := lOA_1 _ h; omega)
  replace BL := BL_; clear BL_
  replace D := D_; clear D_
  rw [← nnd_app] at rva1
  replace OA := rva1
  clear rva1 e1
  have lOA_2 := OA.ge
  simp only [List.set_cons_zero, List.set_cons_succ]
  refine sv 2 (va1) .of ?_
  simp only [List.set_cons_zero, List.set_cons_succ]
  refine wpList_nil ?_
  refine hK3 _ _ ?_
  refine wp_ret ?_
  (try simp only [Exit.then, Exit.inBlock])
  refine bodyPost_ret (v := va1) rT rfl ?_
  exact ⟨_, rfl, OA.cast (by rw [List.nil_append]), BL.b⟩

set_option maxHeartbeats 4000000 in
theorem samepath_any (l0 l1 : Int) (A0 A1 : Option Addr) (m0 m1 C0 C1 : Nat) (xs ys : List (List Nat)) (w : World) (H0 : SE .u8 32 w (.slice A0 m0 C0) (nnd xs)) (H1 : SE .u8 32 w (.slice A1 m1 C1) (nnd ys)) :
    Calls Try.prog 53 #[.agg #[.int .i64 l0, .slice A0 m0 C0], .agg #[.int .i64 l1, .slice A1 m1 C1]] w fun e w' => e = .returned (.bool (decide (l0 = l1 ∧ xs = ys))) ∧ Below w.heap.size w w' := by
  have BL := Bl.refl w
  have h0 := H0.lt
  have h1 := H1.lt
  go_enter Try.func53, Try.ntmps53
  refine wp_seq_k fun K1 hK1 => ?_
  refine cPlain ?_
  refine xBox 2 66 _ [.int .i64 l0, .slice A0 m0 C0] rfl (by kernel_rfl) ?_
  intro w1 n1
  have zn1 := n1.z
  have b2 := n1.c
  replace BL := BL.e0 n1.e
  replace H0 := H0.e0 n1.e
  replace H1 := H1.e0 n1.e
  simp only [List.set_cons_zero, List.set_cons_succ]
  refine xBox 3 66 _ [.int .i64 l1, .slice A1 m1 C1] rfl (by kernel_rfl) ?_
  intro w2 n2
  have zn2 := n2.z
  have b3 := n2.c
  replace BL := BL.e0 n2.e
  replace H0 := H0.e0 n2.e
  replace H1 := H1.e0 n2.e
  replace b2 := b2.e0 n2.e
  simp only [List.set_cons_zero, List.set_cons_succ]
  refine sv 4 (.bool false) .of ?_
  simp only [List.set_cons_zero, List.set_cons_succ]
  refine wpList_nil ?_
  refine hK1 _ _ ?_
  refine wp_seq_k fun K2 hK2 => ?_
  refine cPlain ?_
  refine sv 5 (.pointer (some ⟨w.heap.size, 0, none⟩)) .of ?_
  simp only [List.set_cons_zero, List.set_cons_succ]
  refine sv 6 (.int .i64 l0) (Val.cel1 3 _ rfl w.heap.size 0 _ (by kernel_rfl) (fun _ => (by kernel_rfl)) b2 rfl) ?_
  simp only [List.set_cons_zero, List.set_cons_succ]
  refine sv 7 (.pointer (some ⟨w1.heap.size, 0, none⟩)) .of ?_
  simp only [List.set_cons_zero, List.set_cons_succ]
  refine sv 8 (.int .i64 l1) (Val.cel1 3 _ rfl w1.heap.size 0 _ (by kernel_rfl) (fun _ => (by kernel_rfl)) b3 rfl) ?_
  simp only [List.set_cons_zero, List.set_cons_succ]
  refine sv 9 (.bool (decide (l0 = l1))) (Val.cmp .eql 3 _ (.tmp 6) (.tmp 8) rfl .i64 l0 l1 (by kernel_rfl) (by kernel_rfl) (by simp) _ rfl) ?_
  simp only [List.set_cons_zero, List.set_cons_succ]
  refine sv 10 (.bool (decide (l0 = l1))) .of ?_
  simp only [List.set_cons_zero, List.set_cons_succ]
  by_cases g11 : l0 = l1
  · skip
    have dg11 : decide (l0 = l1) = true := decide_eq_true g11
    simp only [dg11]
    clear dg11
    refine sv 11 (.pointer (some ⟨w.heap.size, 1, none⟩)) .of ?_
    simp only [List.set_cons_zero, List.set_cons_succ]
    refine sv 12 (.slice A0 m0 C0) (Val.cel1 63 _ rfl w.heap.size 1 _ (by kernel_rfl) (fun _ => (by kernel_rfl)) b2 rfl) ?_
    simp only [List.set_cons_zero, List.set_cons_succ]
    refine sv 13 (.pointer (some ⟨w1.heap.size, 1, none⟩)) .of ?_
    simp only [List.set_cons_zero, List.set_cons_succ]
    refine sv 14 (.slice A1 m1 C1) (Val.cel1 63 _ rfl w1.heap.size 1 _ (by kernel_rfl) (fun _ => (by kernel_rfl)) b3 rfl) ?_
    simp only [List.set_cons_zero, List.set_cons_succ]
    refine xCall 15 49 #[.slice A0 m0 C0, .slice A1 m1 C1] (by kernel_rfl) ?_
    refine (samedig_any _ _ xs ys w2 H0 H1).mono ?_
    rintro en w3 ⟨rfl, hb1⟩
    have e1 := belE0 hb1
    have ze1 := e1.size
    replace BL := BL.e0 e1
    replace H0 := H0.e0 e1
    replace H1 := H1.e0 e1
    replace b2 := b2.e0 e1
    replace b3 := b3.e0 e1
    clear e1
    refine ⟨.bool (decide (xs = ys)), rfl, ?_⟩
    simp only [List.set_cons_zero, List.set_cons_succ]
    refine sv 16 (.bool (decide (xs = ys))) .of ?_
    simp only [List.set_cons_zero, List.set_cons_succ]
    refine sv 4 (.bool (decide (xs = ys))) .of ?_
    simp only [List.set_cons_zero, List.set_cons_succ]
    refine wpList_nil ?_
    refine hK2 _ _ ?_
    refine wp_ret ?_
    (try simp only [Exit.then, Exit.inBlock])
    refine bodyPost_ret (v := .bool (decide (xs = ys))) rT rfl ?_
    refine ⟨congrArg (fun b => Ending.returned (.bool b)) ?_, BL.b⟩
    exact decide_eq_decide.2 ⟨fun h => ⟨g11, h⟩, fun h => h.2⟩
  · skip
    have dg11 : decide (l0 = l1) = false := decide_eq_false g11
    simp only [dg11]
    clear dg11
    refine xSkip 11 ?_
    simp only [List.set_cons_zero, List.set_cons_succ]
    refine xSkip 12 ?_
    simp only [List.set_cons_zero, List.set_cons_succ]
    refine xSkip 13 ?_
    simp only [List.set_cons_zero, List.set_cons_succ]
    refine xSkip 14 ?_
    simp only [List.set_cons_zero, List.set_cons_succ]
    refine xSkip 15 ?_
    simp only [List.set_cons_zero, List.set_cons_succ]
    refine sv 16 (.bool false) .of ?_
    simp only [List.set_cons_zero, List.set_cons_succ]
    refine sv 4 (.bool false) .of ?_
    simp only [List.set_cons_zero, List.set_cons_succ]
    refine wpList_nil ?_
    refine hK2 _ _ ?_
    refine wp_ret ?_
    (try simp only [Exit.then, Exit.inBlock])
    refine bodyPost_ret (v := .bool false) rT rfl ?_
    refine ⟨congrArg (fun b => Ending.returned (.bool b)) ?_, BL.b⟩
    exact (decide_eq_false (fun h => g11 h.1)).symm

set_option maxHeartbeats 4000000 in
theorem pickM_any (n : Int) (m : Nat) (hm : 0 < m) (hm2 : m ≤ 1000000) (w : World) :
    Calls Try.prog 42 #[.int .i64 n, .int .i64 ((m : Nat) : Int)] w fun e w' => e = .returned (.int .i64 ((pickN n m : Nat) : Int)) ∧ w' = w := by
  have hp := pick_tmod n hm
  have hlt := Int.tmod_lt_of_pos n (show (0 : Int) < m by omega)
  obtain ⟨q, hq⟩ : ∃ q, n.tmod m = q := ⟨_, rfl⟩
  rw [hq] at hp hlt
  go_enter Try.func42, Try.ntmps42
  refine wp_seq_k fun K1 hK1 => ?_
  refine cPlain ?_
  refine sv 4 (.int .i64 0) .of ?_
  simp only [List.set_cons_zero, List.set_cons_succ]
  refine wpList_nil ?_
  refine hK1 _ _ ?_
  refine wp_seq_k fun K2 hK2 => ?_
  refine wp_seq_k fun K3 hK3 => ?_
  refine cPlain ?_
  refine sv 5 (.int .i64 ((m : Nat) : Int)) .of ?_
  simp only [List.set_cons_zero, List.set_cons_succ]
  refine sv 6 (.bool false) (Val.cmp .leq 3 _ (.tmp 5) _ rfl .i64 ((m : Nat) : Int) 0 (by kernel_rfl) (by kernel_rfl) (by simp) _ (by simp [cmpB]; omega)) ?_
  simp only [List.set_cons_zero, List.set_cons_succ]
  refine wpList_nil ?_
  refine hK3 _ _ ?_
  refine cF ?_
  refine wp_skip ?_
  refine hK2 _ _ ?_
  refine wp_seq_k fun K4 hK4 => ?_
  refine cPlain ?_
  refine sv 7 (.int .i64 n) .of ?_
  simp only [List.set_cons_zero, List.set_cons_succ]
  refine sv 8 (.int .i64 ((m : Nat) : Int)) .of ?_
  simp only [List.set_cons_zero, List.set_cons_succ]
  refine sv 9 (.int .i64 q) (Val.as (Val.remT 3 _ (.tmp 7) (.tmp 8) rfl n m (by kernel_rfl) (by kernel_rfl) hm) (congrArg (Value.int .i64) hq)) ?_
  simp only [List.set_cons_zero, List.set_cons_succ]
  refine sv 0 (.int .i64 q) .of ?_
  simp only [List.set_cons_zero, List.set_cons_succ]
  refine wpList_nil ?_
  refine hK4 _ _ ?_
  refine wp_seq_k fun K5 hK5 => ?_
  refine wp_seq_k fun K6 hK6 => ?_
  refine cPlain ?_
  refine sv 10 (.int .i64 q) .of ?_
  simp only [List.set_cons_zero, List.set_cons_succ]
  refine sv 11 (.bool (decide (q < 0))) (Val.cmp .lss 3 _ (.tmp 10) _ rfl .i64 q 0 (by kernel_rfl) (by kernel_rfl) (by simp) _ rfl) ?_
  simp only [List.set_cons_zero, List.set_cons_succ]
  refine wpList_nil ?_
  refine hK6 _ _ ?_
  refine cDec (q < 0) (by kernel_rfl) (fun c11 => ?_) (fun c11 => ?_)
  · skip
    refine cPlain ?_
    refine sv 12 (.int .i64 q) .of ?_
    simp only [List.set_cons_zero, List.set_cons_succ]
    refine sv 13 (.int .i64 ((m : Nat) : Int)) .of ?_
    simp only [List.set_cons_zero, List.set_cons_succ]
    refine sv 14 (.int .i64 (q + ((m : Nat) : Int))) (Val.add 3 _ (.tmp 12) (.tmp 13) rfl q ((m : Nat) : Int) (by kernel_rfl) (by kernel_rfl) (by omega)) ?_
    simp only [List.set_cons_zero, List.set_cons_succ]
    refine sv 0 (.int .i64 (q + ((m : Nat) : Int))) .of ?_
    simp only [List.set_cons_zero, List.set_cons_succ]
    refine wpList_nil ?_
    refine hK5 _ _ ?_
    refine wp_seq_k fun K7 hK7 => ?_
    refine cPlain ?_
    refine sv 15 (.int .i64 (q + ((m : Nat) : Int))) .of ?_
    simp only [List.set_cons_zero, List.set_cons_succ]
    refine sv 4 (.int .i64 (q + ((m : Nat) : Int))) .of ?_
    simp only [List.set_cons_zero, List.set_cons_succ]
    refine wpList_nil ?_
    refine hK7 _ _ ?_
    refine wp_ret ?_
    (try simp only [Exit.then, Exit.inBlock])
    refine bodyPost_ret (v := .int .i64 (q + ((m : Nat) : Int))) rT rfl ?_
    first | rw [if_pos c11] at hp | rw [if_neg c11] at hp
    rw [hp]
    exact ⟨rfl, rfl⟩
  · skip
    refine wp_skip ?_
    refine hK5 _ _ ?_
    refine wp_seq_k fun K8 hK8 => ?_
    refine cPlain ?_
    refine sv 15 (.int .i64 q) .of ?_
    simp only [List.set_cons_zero, List.set_cons_succ]
    refine sv 4 (.int .i64 q) .of ?_
    simp only [List.set_cons_zero, List.set_cons_succ]
    refine wpList_nil ?_
    refine hK8 _ _ ?_
    refine wp_ret ?_
    (try simp only [Exit.then, Exit.inBlock])
    refine bodyPost_ret (v := .int .i64 q) rT rfl ?_
    first | rw [if_pos c11] at hp | rw [if_neg c11] at hp
    rw [hp]
    exact ⟨rfl, rfl⟩

set_option maxHeartbeats 4000000 in
theorem grown_any (v : Value) (l : List (List Nat)) (hb : Nat) (hb8 : hb < 256) (w : World) (D : SE .u8 32 w v (nnd l)) :
    Calls Try.prog 44 #[v, .int .u8 ((hb : Nat) : Int)] w fun e w' => ∃ r, e = .returned r ∧ OwnE 37 .u8 32 w.heap.size w' r (nnd (growN l (2 ^ (hb % 6)))) ∧ Below w.heap.size w w' := by
  have BL := Bl.refl w
  have hvl := D.lt
  have hes := nnd_lens D.lens
  have hpw : 2 ^ (hb % 6) ≤ 2 ^ 5 := Nat.pow_le_pow_right (by omega) (by omega)
  have O := OwnE.nil 37 .u8 32 w.heap.size w
  obtain ⟨A0, C0, hv, hc⟩ := D.len
  rw [nnd_len] at hv hc
  subst hv
  have hm0 := D.cap.2.2
  unfold maxLen at hm0
  have lO_1 := O.ge
  go_enter Try.func44, Try.ntmps44
  refine wp_seq_k fun K1 hK1 => ?_
  refine cPlain ?_
  refine sv 4 (.slice none 0 0) .of ?_
  simp only [List.set_cons_zero, List.set_cons_succ]
  refine wpList_nil ?_
  refine hK1 _ _ ?_
  refine wp_seq_k fun K2 hK2 => ?_
  refine cPlain ?_
  refine sv 5 (.slice none 0 0) .of ?_
  simp only [List.set_cons_zero, List.set_cons_succ]
  refine wpList_nil ?_
  refine hK2 _ _ ?_
  refine wp_seq_k fun K3 hK3 => ?_
  refine wp_seq_k fun K4 hK4 => ?_
  refine cPlain ?_
  refine sv 6 (.int .i64 0) .of ?_
  simp only [List.set_cons_zero, List.set_cons_succ]
  refine wpList_nil ?_
  refine hK4 _ _ ?_
  refine wp_block ?_
  refine cLoop (fun N_ A_ w_ => ∃ (i : Nat) (OA_ : Option Addr) (OC on : Nat), (N_ = 2 ^ (hb % 6) - i ∧ (i ≤ 2 ^ (hb % 6)) ∧ (∃ s1 : Nat → Value, A_ = ⟨[.slice A0 l.length C0, .int .u8 ((hb : Nat) : Int), undef, undef, .slice none 0 0, .slice OA_ on OC, .int .i64 ((i : Nat) : Int), (s1 7), (s1 8), (s1 9), (s1 10), (s1 11), (s1 12), (s1 13), (s1 14), (s1 15), (s1 16), (s1 17), (s1 18), (s1 19), (s1 20), (s1 21), (s1 22), (s1 23), (s1 24), (s1 25), (s1 26), (s1 27), (s1 28), (s1 29), (s1 30), (s1 31), (s1 32), (s1 33), (s1 34), undef].toArray, []⟩) ∧ Bl w.heap.size w w_ ∧ SE .u8 32 w_ (.slice A0 l.length C0) (nnd l) ∧ OwnE 37 .u8 32 w.heap.size w_ (.slice OA_ on OC) (nnd (growN l i)) ∧ w.heap.size ≤ w_.heap.size)) _ ⟨0, none, 0, 0, rfl, (Nat.zero_le _), cutE, BL, D, O, Nat.le_refl _⟩ ?_
  clear BL D O
  rintro n_ a_ wl0 ⟨i, OA_, OC, on, rfl, hc0_0, ⟨s1, rfl⟩, BL, D, O, zl0⟩
  have lO_2 := O.ge
  refine wp_seq_k fun K5 hK5 => ?_
  refine wp_seq_k fun K6 hK6 => ?_
  refine cPlain ?_
  refine sv 8 (.int .i64 ((i : Nat) : Int)) .of ?_
  simp only [List.set_cons_zero, List.set_cons_succ]
  refine sv 9 (.int .u8 ((hb : Nat) : Int)) .of ?_
  simp only [List.set_cons_zero, List.set_cons_succ]
  refine sv 10 (.int .u8 ((hb % 6 : Nat) : Int)) (Val.remN 5 _ (.tmp 9) _ rfl .u8 hb 6 (by kernel_rfl) (by kernel_rfl) (by omega)) ?_
  simp only [List.set_cons_zero, List.set_cons_succ]
  refine sv 11 (.int .i64 ((2 ^ (hb % 6) : Nat) : Int)) (Val.shl1 3 _ _ (.tmp 10) rfl .u8 (hb % 6) (by omega) (by kernel_rfl) (by kernel_rfl)) ?_
  simp only [List.set_cons_zero, List.set_cons_succ]
  refine sv 12 (.bool (decide (((i : Nat) : Int) < ((2 ^ (hb % 6) : Nat) : Int)))) (Val.cmp .lss 3 _ (.tmp 8) (.tmp 11) rfl .i64 ((i : Nat) : Int) ((2 ^ (hb % 6) : Nat) : Int) (by kernel_rfl) (by kernel_rfl) (by simp) _ rfl) ?_
  simp only [List.set_cons_zero, List.set_cons_succ]
  refine wpList_nil ?_
  refine hK6 _ _ ?_
  refine cDec (((i : Nat) : Int) < ((2 ^ (hb % 6) : Nat) : Int)) (by kernel_rfl) (fun c12 => ?_) (fun c12 => ?_)
  · skip
    refine wp_skip ?_
    refine hK5 _ _ ?_
    refine wp_seq_k fun K7 hK7 => ?_
    refine wp_block ?_
    refine wp_seq_k fun K8 hK8 => ?_
    refine cPlain ?_
    refine xAlloc 7 37 ((nn (List.replicate 32 0)).map (Value.int .u8)) rfl (by kernel_rfl) ?_
    intro w1 n1
    have zn1 := n1.z
    have b7 := n1.c
    replace b7 : Blk .u8 w1 wl0.heap.size 37 (nn (List.replicate 32 0)) := b7
    replace BL := BL.e0 n1.e
    replace D := D.e0 n1.e
    replace O := O.e0 n1.e
    simp only [List.set_cons_zero, List.set_cons_succ]
    refine wpList_nil ?_
    refine hK8 _ _ ?_
    refine wp_seq_k fun K9 hK9 => ?_
    refine wp_seq_k fun K10 hK10 => ?_
    refine cPlain ?_
    refine sv 15 (.slice A0 l.length C0) .of ?_
    simp only [List.set_cons_zero, List.set_cons_succ]
    refine sv 16 (.int .i64 (l.length : Int)) .of ?_
    simp only [List.set_cons_zero, List.set_cons_succ]
    refine sv 17 (.bool (decide (0 < (l.length : Int)))) (Val.cmp .gtr 3 _ (.tmp 16) _ rfl .i64 (l.length : Int) 0 (by kernel_rfl) (by kernel_rfl) (by simp) _ rfl) ?_
    simp only [List.set_cons_zero, List.set_cons_succ]
    refine wpList_nil ?_
    refine hK10 _ _ ?_
    refine cDec (0 < (l.length : Int)) (by kernel_rfl) (fun c17 => ?_) (fun c17 => ?_)
    · skip
      have hgl : (l.getD (i % l.length) []).length = 32 := fe_getDN hes (Nat.mod_lt _ (by omega))
      have hgd : growD l i = (l.getD (i % l.length) []).set 0 (((l.getD (i % l.length) []).getD 0 0 ^^^ (i % 256)) % 256) := by unfold growD; rw [if_pos (by omega)]
      have hml : i % l.length < l.length := Nat.mod_lt _ (by omega)
      refine cPlain ?_
      refine sv 18 (.slice A0 l.length C0) .of ?_
      simp only [List.set_cons_zero, List.set_cons_succ]
      refine sv 19 (.int .i64 ((i : Nat) : Int)) .of ?_
      simp only [List.set_cons_zero, List.set_cons_succ]
      refine sv 20 (.slice A0 l.length C0) .of ?_
      simp only [List.set_cons_zero, List.set_cons_succ]
      refine sv 21 (.int .i64 (l.length : Int)) .of ?_
      simp only [List.set_cons_zero, List.set_cons_succ]
      refine sv 22 (.int .i64 ((i % l.length : Nat) : Int)) (Val.remN 3 _ (.tmp 19) (.tmp 21) rfl .i64 i l.length (by kernel_rfl) (by kernel_rfl) (by omega)) ?_
      simp only [List.set_cons_zero, List.set_cons_succ]
      refine sv 23 (elemE 32 (.slice A0 l.length C0) (i % l.length)) (Val.ixE 63 (.tmp 18) (.tmp 22) rfl (.slice A0 l.length C0) (i % l.length) (by kernel_rfl) (by kernel_rfl) D Try.underlying63 (by kernel_rfl) (by simp only [nnd_len]; omega)) ?_
      simp only [List.set_cons_zero, List.set_cons_succ]
      refine sv 24 (.agg (cellsOf .u8 (nn (l.getD (i % l.length) [])))) (Val.ldGN 37 _ rfl (.slice A0 l.length C0) (i % l.length) (by kernel_rfl) D _ Try.underlying37 rfl (by kernel_rfl) (by simp only [nnd_len]; omega)) ?_
      simp only [List.set_cons_zero, List.set_cons_succ]
      refine xStoreA 37 (.tmp 7) (.tmp 24) rfl .u8 wl0.heap.size 37 (nn (List.replicate 32 0)) 0 (nn (l.getD (i % l.length) [])) (by kernel_rfl) (by kernel_rfl) b7 (by rw [show (nn (l.getD (i % l.length) [])).length = 32 by ((try simp only [nn_len, List.length_set, List.length_replicate]); try omega)]; kernel_rfl) (by (try simp only [nn_len, List.length_set, List.length_replicate]); try omega) (nn (l.getD (i % l.length) [])) (over_whole _ _ (by (try simp only [nn_len, List.length_set, List.length_replicate]); try omega)) ?_
      intro w2 t1
      have zt1 := t1.z
      have BL_ := BL.ev t1.e (fun i h => show w.heap.size ≤ i by have h : i = wl0.heap.size := h; omega)
      have D_ := D.ev t1.e (fun i hi => show ¬ (i = wl0.heap.size) by have := hvl i hi; omega)
      have O_ := O.ev t1.e (fun i hi => show ¬ (i = wl0.heap.size) by have := lO_2 i hi; omega)
      replace BL := BL_; clear BL_
      replace D := D_; clear D_
      replace O := O_; clear O_
      replace b7 : Blk .u8 w2 wl0.heap.size 37 (nn (l.getD (i % l.length) [])) := t1.c
      clear t1
      refine wpList_nil ?_
      refine hK9 _ _ ?_
      refine wp_seq_k fun K11 hK11 => ?_
      refine cPlain ?_
      refine sv 25 (.pointer (some ⟨wl0.heap.size, 0, none⟩)) .of ?_
      simp only [List.set_cons_zero, List.set_cons_succ]
      refine sv 26 (.int .u8 (((l.getD (i % l.length) []).getD 0 0 : Nat) : Int)) (Val.nblk1 5 _ rfl wl0.heap.size 0 (by kernel_rfl) (fun _ => (by kernel_rfl)) b7 (by first | omega | (simp only [List.length_replicate]; omega))) ?_
      simp only [List.set_cons_zero, List.set_cons_succ]
      refine sv 27 (.int .i64 ((i : Nat) : Int)) .of ?_
      simp only [List.set_cons_zero, List.set_cons_succ]
      refine sv 28 (.int .u8 ((i % 256 : Nat) : Int)) (Val.convN 3 5 (.tmp 27) rfl .u8 i 256 Try.underlying3 Try.underlying5 (by kernel_rfl)) ?_
      simp only [List.set_cons_zero, List.set_cons_succ]
      refine sv 29 (.int .u8 (((((l.getD (i % l.length) []).getD 0 0) ^^^ (i % 256)) % 256 : Nat) : Int)) (Val.xorN 5 _ (.tmp 26) (.tmp 28) rfl .u8 ((l.getD (i % l.length) []).getD 0 0) (i % 256) 256 (by kernel_rfl) (by kernel_rfl)) ?_
      simp only [List.set_cons_zero, List.set_cons_succ]
      refine sv 30 (.pointer (some ⟨wl0.heap.size, 0, none⟩)) .of ?_
      simp only [List.set_cons_zero, List.set_cons_succ]
      refine xStoreNN 5 (.tmp 30) (.tmp 29) rfl .u8 wl0.heap.size 37 (l.getD (i % l.length) []) 0 ((((l.getD (i % l.length) []).getD 0 0) ^^^ (i % 256)) % 256) (by kernel_rfl) (by kernel_rfl) b7 (by kernel_rfl) (by first | omega | (simp only [List.length_replicate]; omega)) ?_
      intro w3 t2
      have zt2 := t2.z
      have BL_ := BL.ev t2.e (fun i h => show w.heap.size ≤ i by have h : i = wl0.heap.size := h; omega)
      have D_ := D.ev t2.e (fun i hi => show ¬ (i = wl0.heap.size) by have := hvl i hi; omega)
      have O_ := O.ev t2.e (fun i hi => show ¬ (i = wl0.heap.size) by have := lO_2 i hi; omega)
      replace BL := BL_; clear BL_
      replace D := D_; clear D_
      replace O := O_; clear O_
      replace b7 : Blk .u8 w3 wl0.heap.size 37 (nn ((l.getD (i % l.length) []).set 0 ((((l.getD (i % l.length) []).getD 0 0) ^^^ (i % 256)) % 256))) := t2.c
      clear t2
      refine wpList_nil ?_
      refine hK11 _ _ ?_
      have hgl2 := growN_len l i
      refine cPlain ?_
      refine sv 31 (.slice OA_ on OC) .of ?_
      simp only [List.set_cons_zero, List.set_cons_succ]
      refine sv 32 (.agg (cellsOf .u8 (nn ((l.getD (i % l.length) []).set 0 ((((l.getD (i % l.length) []).getD 0 0) ^^^ (i % 256)) % 256))))) (Val.blk 37 _ rfl 0 32 (by kernel_rfl) b7 _ Try.underlying37 rfl (by kernel_rfl) (by (try simp only [nn_len, List.length_set, List.length_replicate]); try omega) _ (seg_all' _ (by (try simp only [nn_len, List.length_set, List.length_replicate]); try omega))) ?_
      simp only [List.set_cons_zero, List.set_cons_succ]
      refine xLitE 33 63 37 1 _ rfl .u8 32 (nnd [((l.getD (i % l.length) []).set 0 ((((l.getD (i % l.length) []).getD 0 0) ^^^ (i % 256)) % 256))]) (by kernel_rfl) Try.underlying63 (by kernel_rfl) (by omega) rfl (by omega) (by omega) (lenC (by (try simp only [nn_len, List.length_set, List.length_replicate]); try omega) lenN) ?_
      intro w4 n2 b33
      have zn2 := n2.z
      replace BL := BL.e0 n2.e
      replace D := D.e0 n2.e
      replace O := O.e0 n2.e
      replace b7 := b7.e0 n2.e
      have lb33_1 := b33.ge
      simp only [List.set_cons_zero, List.set_cons_succ]
      refine xAppE 34 (.tmp 31) (.tmp 33) 63 37 .u8 32 32 rfl Try.underlying63 (by kernel_rfl) (by omega) w.heap.size (.slice OA_ on OC) (nnd (growN l i)) (by kernel_rfl) O (.slice (some ⟨w3.heap.size, 0, none⟩) 1 1) (nnd [((l.getD (i % l.length) []).set 0 ((((l.getD (i % l.length) []).getD 0 0) ^^^ (i % 256)) % 256))]) (by kernel_rfl) b33.se ?va1_1 ?va1_2 ?va1_3 ?_
      case va1_1 => simp only [nnd_len, List.length_append, List.length_cons, List.length_nil]; omega
      case va1_2 => simp only [nnd_len, List.length_append, List.length_cons, List.length_nil]; unfold maxLen; omega
      case va1_3 => omega
      intro va1 w5 rva1 e1
      have ze1 := e1.size
      have BL_ := BL.ev e1 (fun i h => by have := lO_2 _ h; omega)
      have D_ := D.ev e1 (fun i hi h => by have := hvl i hi; have := lO_2 _ h; omega)
      have b7_ := b7.ev e1 (fun h => by have := lO_2 _ h; omega)
      have b33_ := b33.ev e1 (fun i hi h => by have := lb33_1 i hi; have := lO_2 _ h; omega)
      replace BL := BL_; clear BL_
      replace D := D_; clear D_
      replace b7 := b7_; clear b7_
      replace b33 := b33_; clear b33_
      rw [← nnd_app] at rva1
      obtain ⟨Ao, Co, hAo, hlAo⟩ := rva1.len; rw [nnd_len] at hAo hlAo
      subst hAo
      replace O := rva1
      clear rva1 e1
      have lO_3 := O.ge
      simp only [List.set_cons_zero, List.set_cons_succ]
      refine sv 5 (.slice Ao (((growN l i) ++ [((l.getD (i % l.length) []).set 0 ((((l.getD (i % l.length) []).getD 0 0) ^^^ (i % 256)) % 256))])).length Co) .of ?_
      simp only [List.set_cons_zero, List.set_cons_succ]
      refine wpList_nil ?_
      refine hK7 _ _ ?_
      refine cPlain ?_
      refine sv 13 (.int .i64 ((i : Nat) : Int)) .of ?_
      simp only [List.set_cons_zero, List.set_cons_succ]
      refine sv 14 (.int .i64 ((i + 1 : Nat) : Int)) (Val.as (Val.add 3 _ (.tmp 13) _ rfl ((i : Nat) : Int) 1 (by kernel_rfl) (by kernel_rfl) (by omega)) (congrArg (Value.int .i64) (by omega))) ?_
      simp only [List.set_cons_zero, List.set_cons_succ]
      refine sv 6 (.int .i64 ((i + 1 : Nat) : Int)) .of ?_
      simp only [List.set_cons_zero, List.set_cons_succ]
      refine wpList_nil ?_
      refine ⟨_, ?_, i + 1, Ao, Co, (((growN l i) ++ [((l.getD (i % l.length) []).set 0 ((((l.getD (i % l.length) []).getD 0 0) ^^^ (i % 256)) % 256))])).length, rfl, by omega, cutE, BL, D, (O.cast (by rw [growN_succ, hgd])), by omega⟩
      omega
    · skip
      have hgd : growD l i = (List.replicate 32 0).set 0 (((List.replicate 32 0).getD 0 0 ^^^ (i % 256)) % 256) := by unfold growD; rw [if_neg (by omega)]
      refine wp_skip ?_
      refine hK9 _ _ ?_
      refine wp_seq_k fun K12 hK12 => ?_
      refine cPlain ?_
      refine sv 25 (.pointer (some ⟨wl0.heap.size, 0, none⟩)) .of ?_
      simp only [List.set_cons_zero, List.set_cons_succ]
      refine sv 26 (.int .u8 (((List.replicate 32 0).getD 0 0 : Nat) : Int)) (Val.nblk1 5 _ rfl wl0.heap.size 0 (by kernel_rfl) (fun _ => (by kernel_rfl)) b7 (by first | omega | (simp only [List.length_replicate]; omega))) ?_
      simp only [List.set_cons_zero, List.set_cons_succ]
      refine sv 27 (.int .i64 ((i : Nat) : Int)) .of ?_
      simp only [List.set_cons_zero, List.set_cons_succ]
      refine sv 28 (.int .u8 ((i % 256 : Nat) : Int)) (Val.convN 3 5 (.tmp 27) rfl .u8 i 256 Try.underlying3 Try.underlying5 (by kernel_rfl)) ?_
      simp only [List.set_cons_zero, List.set_cons_succ]
      refine sv 29 (.int .u8 (((((List.replicate 32 0).getD 0 0) ^^^ (i % 256)) % 256 : Nat) : Int)) (Val.xorN 5 _ (.tmp 26) (.tmp 28) rfl .u8 ((List.replicate 32 0).getD 0 0) (i % 256) 256 (by kernel_rfl) (by kernel_rfl)) ?_
      simp only [List.set_cons_zero, List.set_cons_succ]
      refine sv 30 (.pointer (some ⟨wl0.heap.size, 0, none⟩)) .of ?_
      simp only [List.set_cons_zero, List.set_cons_succ]
      refine xStoreNN 5 (.tmp 30) (.tmp 29) rfl .u8 wl0.heap.size 37 (List.replicate 32 0) 0 ((((List.replicate 32 0).getD 0 0) ^^^ (i % 256)) % 256) (by kernel_rfl) (by kernel_rfl) b7 (by kernel_rfl) (by first | omega | (simp only [List.length_replicate]; omega)) ?_
      intro w6 t3
      have zt3 := t3.z
      have BL_ := BL.ev t3.e (fun i h => show w.heap.size ≤ i by have h : i = wl0.heap.size := h; omega)
      have D_ := D.ev t3.e (fun i hi => show ¬ (i = wl0.heap.size) by have := hvl i hi; omega)
      have O_ := O.ev t3.e (fun i hi => show ¬ (i = wl0.heap.size) by have := lO_2 i hi; omega)
      replace BL := BL_; clear BL_
      replace D := D_; clear D_
      replace O := O_; clear O_
      replace b7 : Blk .u8 w6 wl0.heap.size 37 (nn ((List.replicate 32 0).set 0 ((((List.replicate 32 0).getD 0 0) ^^^ (i % 256)) % 256))) := t3.c
      clear t3
      refine wpList_nil ?_
      refine hK12 _ _ ?_
      have hgl2 := growN_len l i
      refine cPlain ?_
      refine sv 31 (.slice OA_ on OC) .of ?_
      simp only [List.set_cons_zero, List.set_cons_succ]
      refine sv 32 (.agg (cellsOf .u8 (nn ((List.replicate 32 0).set 0 ((((List.replicate 32 0).getD 0 0) ^^^ (i % 256)) % 256))))) (Val.blk 37 _ rfl 0 32 (by kernel_rfl) b7 _ Try.underlying37 rfl (by kernel_rfl) (by (try simp only [nn_len, List.length_set, List.length_replicate]); try omega) _ (seg_all' _ (by (try simp only [nn_len, List.length_set, List.length_replicate]); try omega))) ?_
      simp only [List.set_cons_zero, List.set_cons_succ]
      refine xLitE 33 63 37 1 _ rfl .u8 32 (nnd [((List.replicate 32 0).set 0 ((((List.replicate 32 0).getD 0 0) ^^^ (i % 256)) % 256))]) (by kernel_rfl) Try.underlying63 (by kernel_rfl) (by omega) rfl (by omega) (by omega) (lenC (by (try simp only [nn_len, List.length_set, List.length_replicate]); try omega) lenN) ?_
      intro w7 n3 b33
      have zn3 := n3.z
      replace BL := BL.e0 n3.e
      replace D := D.e0 n3.e
      replace O := O.e0 n3.e
      replace b7 := b7.e0 n3.e
      have lb33_2 := b33.ge
      simp only [List.set_cons_zero, List.set_cons_succ]
      refine xAppE 34 (.tmp 31) (.tmp 33) 63 37 .u8 32 32 rfl Try.underlying63 (by kernel_rfl) (by omega) w.heap.size (.slice OA_ on OC) (nnd (growN l i)) (by kernel_rfl) O (.slice (some ⟨w6.heap.size, 0, none⟩) 1 1) (nnd [((List.replicate 32 0).set 0 ((((List.replicate 32 0).getD 0 0) ^^^ (i % 256)) % 256))]) (by kernel_rfl) b33.se ?va2_1 ?va2_2 ?va2_3 ?_
      case va2_1 => simp only [nnd_len, List.length_append, List.length_cons, List.length_nil]; omega
      case va2_2 => simp only [nnd_len, List.length_append, List.length_cons, List.length_nil]; unfold maxLen; omega
      case va2_3 => omega
      intro va2 w8 rva2 e2
      have ze2 := e2.size
      have BL_ := BL.ev e2 (fun i h => by have := lO_2 _ h; omega)
      have D_ := D.ev e2 (fun i hi h => by have := hvl i hi; have := lO_2 _ h; omega)
      have b7_ := b7.ev e2 (fun h => by have := lO_2 _ h; omega)
      have b33_ := b33.ev e2 (fun i hi h => by have := lb33_2 i hi; have := lO_2 _ h; omega)
      replace BL := BL_; clear BL_
      replace D := D_; clear D_
      replace b7 := b7_; clear b7_
      replace b33 := b33_; clear b33_
      rw [← nnd_app] at rva2
      obtain ⟨Ao, Co, hAo, hlAo⟩ := rva2.len; rw [nnd_len] at hAo hlAo
      subst hAo
      replace O := rva2
      clear rva2 e2
      have lO_4 := O.ge
      simp only [List.set_cons_zero, List.set_cons_succ]
      refine sv 5 (.slice Ao (((growN l i) ++ [((List.replicate 32 0).set 0 ((((List.replicate 32 0).getD 0 0) ^^^ (i % 256)) % 256))])).length Co) .of ?_
      simp only [List.set_cons_zero, List.set_cons_succ]
      refine wpList_nil ?_
      refine hK7 _ _ ?_
      refine cPlain ?_
      refine sv 13 (.int .i64 ((i : Nat) : Int)) .of ?_
      simp only [List.set_cons_zero, List.set_cons_succ]
      refine sv 14 (.int .i64 ((i + 1 : Nat) : Int)) (Val.as (Val.add 3 _ (.tmp 13) _ rfl ((i : Nat) : Int) 1 (by kernel_rfl) (by kernel_rfl) (by omega)) (congrArg (Value.int .i64) (by omega))) ?_
      simp only [List.set_cons_zero, List.set_cons_succ]
      refine sv 6 (.int .i64 ((i + 1 : Nat) : Int)) .of ?_
      simp only [List.set_cons_zero, List.set_cons_succ]
      refine wpList_nil ?_
      refine ⟨_, ?_, i + 1, Ao, Co, (((growN l i) ++ [((List.replicate 32 0).set 0 ((((List.replicate 32 0).getD 0 0) ^^^ (i % 256)) % 256))])).length, rfl, by omega, cutE, BL, D, (O.cast (by rw [growN_succ, hgd])), by omega⟩
      omega
  · skip
    refine wp_exit ?_
    simp only [Exit.then, Exit.inBlock, ↓reduceIte, Nat.reduceEqDiff]
    refine hK3 _ _ ?_
    refine wp_seq_k fun K13 hK13 => ?_
    refine cPlain ?_
    refine sv 35 (.slice OA_ on OC) .of ?_
    simp only [List.set_cons_zero, List.set_cons_succ]
    refine sv 4 (.slice OA_ on OC) .of ?_
    simp only [List.set_cons_zero, List.set_cons_succ]
    refine wpList_nil ?_
    refine hK13 _ _ ?_
    refine wp_ret ?_
    (try simp only [Exit.then, Exit.inBlock])
    refine bodyPost_ret (v := .slice OA_ on OC) rT rfl ?_
    rw [show i = 2 ^ (hb % 6) by omega] at O
    exact ⟨_, rfl, O, BL.b⟩

end Go.Proofs.Yteaijjefbadnbaa
