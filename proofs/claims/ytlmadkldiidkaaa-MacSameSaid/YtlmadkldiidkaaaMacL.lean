/-
  MacSame, MacKeys: the walks.
-/
import Derived.Test.YtlmadkldiidkaaaMacA
import Derived.Test.YtlmadkldiidkaaaCopyB
import Derived.Test.YtlmadkldiidkaaaAppN
import Derived.Test.YtlmadkldiidkaaaMakeL
import Derived.Test.YtlmadkldiidkaaaEqA
import Derived.Test.YtlmadkldiidkaaaEqk
namespace Go.Proofs.Ytlmadkldiidkaaa
open Go.RowKit
set_option linter.unusedVariables false
set_option linter.unusedSimpArgs false
set_option maxRecDepth 100000
attribute [local irreducible] wpList Code.wp wpAnyZ
theorem ne_more (ns : List Nat) (m : Nat) : ¬ ns = ns ++ [m] := fun h => by have := congrArg List.length h; simp at this
theorem turn_set {ns : List Nat} {k t : Nat} (hk : k < ns.length) (hb : ∀ x ∈ ns, x < 256) (ht : t < 256) : ns = ns.set k ((ns.getD k 0 ^^^ t) % 256) ↔ t = 0 := by
  have h1 : ns.getD k 0 ^^^ t < 256 := Nat.xor_lt_two_pow (n := 8) (getD_lt hb k) ht
  rw [Nat.mod_eq_of_lt h1]
  constructor
  · intro h
    have := congrArg (fun l => l.getD k 0) h
    simp only [List.getD_eq_getElem?_getD, List.getElem?_set_self hk, List.getElem?_eq_getElem hk, Option.getD_some] at this
    have e : ns[k] ^^^ ns[k] = ns[k] ^^^ (ns[k] ^^^ t) := by rw [← this]
    rw [Nat.xor_self, ← Nat.xor_assoc, Nat.xor_self, Nat.zero_xor] at e
    exact e.symm
  · rintro rfl
    rw [Nat.xor_zero, List.getD_eq_getElem?_getD, List.getElem?_eq_getElem hk, Option.getD_some, List.set_getElem_self]
theorem keyN_small {tab ks : List Nat} (h : ks.length ≤ 64) : keyN tab ks = ks := by unfold keyN; rw [if_pos h]
theorem padK_more {ks : List Nat} {m : Nat} (h : ks.length + m ≤ 64) : padK (ks ++ List.replicate m 0) = padK ks := by
  unfold padK
  rw [List.length_append, List.length_replicate, List.append_assoc, List.replicate_append_replicate, show m + (64 - (ks.length + m)) = 64 - ks.length by omega]
theorem mac_more {tab key ks : List Nat} (hk : ks = keyN tab key) (m : Nat) (h : ks.length + m ≤ 64) (bs : List Nat) : macN tab (ks ++ List.replicate m 0) bs = macN tab key bs := by
  unfold macN turnedN
  rw [keyN_small (by rw [List.length_append, List.length_replicate]; exact h), ← hk]
  unfold turnK
  rw [padK_more h]
theorem mac_two {tab key ks : List Nat} (hk : ks = keyN tab key) (bs : List Nat) : ofN tab (turnK ks 92 ++ ofN tab (turnK ks 54 ++ bs)) = macN tab key bs := by unfold macN turnedN; rw [hk]
theorem Own.ofBlk {k : IntKind} {w : World} {g : Nat} {e : TypeId} {xs : List Int} (h : Blk k w g e xs) {n : Nat} (hn : xs.length = n) (hm : n ≤ maxLen) : Own e k g w (.slice (some ⟨g, 0, none⟩) n n) xs := by
  subst hn
  exact ⟨by simp [nums], .inr ⟨g, xs.length, _, rfl, Nat.le_refl _, h, Nat.le_refl _, hm, by simp [cellsOf], by simpa [nums, cellsOf] using List.take_of_length_le (by simp)⟩⟩
attribute [local irreducible] keyN macN ofN turnK padK goK

set_option maxHeartbeats 4000000 in
theorem macSame_walk (ns : List Nat) (v : Value) (w : World) (hb : ∀ x ∈ ns, x < 256) (D : SL .u8 w v (nn ns)) (at_ : Int) (ha : -9223372036854775808 ≤ at_ ∧ at_ ≤ 9223372036854775807) (t m : Nat) (ht : t < 256) (hm : m < 256) :
    Calls Try.prog 6 #[v, .int .i64 at_, .int .u8 ((t : Nat) : Int), .int .u8 ((m : Nat) : Int)] w fun e w' => e = .returned (.bool true) ∧ Below w.heap.size w w' := by
  have BL := Bl.refl w
  have hd := D.lt
  have hym : ∀ x ∈ ns ++ [m], x < 256 := fun x hx => by rcases List.mem_append.1 hx with h | h; exact hb x h; rw [List.mem_singleton.1 h]; exact hm
  go_enter Try.func6, Try.ntmps6
  refine wp_seq_k fun K1 hK1 => ?_
  refine cPlain ?_
  refine sv 8 (.bool false) .of ?_
  simp only [List.set_cons_zero, List.set_cons_succ]
  refine wpList_nil ?_
  refine hK1 _ _ ?_
  refine wp_seq_k fun K2 hK2 => ?_
  refine wp_seq_k fun K3 hK3 => ?_
  refine cPlain ?_
  refine sv 11 (v) .of ?_
  simp only [List.set_cons_zero, List.set_cons_succ]
  refine sv 12 (.int .i64 ((ns.length : Nat) : Int)) (Val.lenS (.tmp 11) 43 rfl (by kernel_rfl) D ns.length (nn_len ns) Try.underlying43) ?_
  simp only [List.set_cons_zero, List.set_cons_succ]
  refine sv 13 (.bool (decide (300 < ((ns.length : Nat) : Int)))) (Val.cmp .gtr 3 _ (.tmp 12) _ rfl .i64 ((ns.length : Nat) : Int) 300 (by kernel_rfl) (by kernel_rfl) (by simp) _ rfl) ?_
  simp only [List.set_cons_zero, List.set_cons_succ]
  refine wpList_nil ?_
  refine hK3 _ _ ?_
  refine cDec (300 < ((ns.length : Nat) : Int)) (by kernel_rfl) (fun c13 => ?_) (fun c13 => ?_)
  · skip
    refine wp_seq_k fun K4 hK4 => ?_
    refine cPlain ?_
    refine xCall 14 24 #[] (by kernel_rfl) ?_
    refine (awake03_any w).mono ?_
    rintro en w1 ⟨rfl, hb1⟩
    have e1 := belE0 hb1
    have ze1 := e1.size
    replace BL := BL.e0 e1
    replace D := D.e0 e1
    clear e1
    refine ⟨.bool true, rfl, ?_⟩
    simp only [List.set_cons_zero, List.set_cons_succ]
    refine sv 8 (.bool true) .of ?_
    simp only [List.set_cons_zero, List.set_cons_succ]
    refine wpList_nil ?_
    refine hK4 _ _ ?_
    refine wp_ret ?_
    (try simp only [Exit.then, Exit.inBlock])
    refine bodyPost_ret (v := .bool true) rT rfl ?_
    exact ⟨rfl, BL.b⟩
  · skip
    refine wp_skip ?_
    refine hK2 _ _ ?_
    refine wp_seq_k fun K5 hK5 => ?_
    refine cPlain ?_
    refine sv 15 (v) .of ?_
    simp only [List.set_cons_zero, List.set_cons_succ]
    refine xCall 16 26 #[v] (by kernel_rfl) ?_
    refine (copyB_any _ (nn ns) w D (by rw [nn_len]; omega)).mono ?_
    rintro en w2 ⟨uX, rfl, hOX, hb1⟩
    have e2 := belE0 hb1
    have ze2 := e2.size
    replace BL := BL.e0 e2
    replace D := D.e0 e2
    clear e2
    have X : Own 5 .u8 w.heap.size w2 uX (nn ns) := hOX
    have lX_1 := X.ge
    refine ⟨uX, rfl, ?_⟩
    simp only [List.set_cons_zero, List.set_cons_succ]
    refine sv 9 (uX) .of ?_
    simp only [List.set_cons_zero, List.set_cons_succ]
    refine wpList_nil ?_
    refine hK5 _ _ ?_
    refine wp_seq_k fun K6 hK6 => ?_
    refine cPlain ?_
    refine sv 17 (v) .of ?_
    simp only [List.set_cons_zero, List.set_cons_succ]
    refine xCall 18 26 #[v] (by kernel_rfl) ?_
    refine (copyB_any _ (nn ns) w2 D (by rw [nn_len]; omega)).mono ?_
    rintro en w3 ⟨uY, rfl, hOY, hb1⟩
    have e3 := belE0 hb1
    have ze3 := e3.size
    replace BL := BL.e0 e3
    replace D := D.e0 e3
    replace X := X.e0 e3
    clear e3
    have Y : Own 5 .u8 w2.heap.size w3 uY (nn ns) := hOY
    have lY_1 := Y.ge
    refine ⟨uY, rfl, ?_⟩
    simp only [List.set_cons_zero, List.set_cons_succ]
    refine sv 19 (.int .u8 ((m : Nat) : Int)) .of ?_
    simp only [List.set_cons_zero, List.set_cons_succ]
    refine xLit 20 43 5 1 _ #[(0, .int .u8 ((m : Nat) : Int))] [.int .u8 ((m : Nat) : Int)] rfl (by kernel_rfl) (by kernel_rfl) ?_
    intro w4 n1
    have zn1 := n1.z
    have b20 := n1.c
    replace b20 : Blk .u8 w4 w3.heap.size 5 [((m : Nat) : Int)] := b20
    replace BL := BL.e0 n1.e
    replace D := D.e0 n1.e
    replace X := X.e0 n1.e
    replace Y := Y.e0 n1.e
    have sb20 : SL .u8 w4 (.slice (some ⟨w3.heap.size, 0, none⟩) 1 1) [((m : Nat) : Int)] := SL.ofBlk b20 rfl (by unfold maxLen; omega)
    have lb20 : ∀ i, Value.ownBlock (.slice (some ⟨w3.heap.size, 0, none⟩) 1 1) = some i → w3.heap.size ≤ i ∧ i < w4.heap.size := ownB_lit (by omega)
    simp only [List.set_cons_zero, List.set_cons_succ]
    refine xApp 21 (.tmp 18) (.tmp 20) 43 5 .u8 1 rfl Try.underlying43 (by kernel_rfl) w2.heap.size uY (nn ns) (by kernel_rfl) Y (.slice (some ⟨w3.heap.size, 0, none⟩) 1 1) [((m : Nat) : Int)] (by kernel_rfl) sb20 ?va1_1 ?va1_2 ?va1_3 ?_
    case va1_1 => (simp only [nn_len, List.length_cons, List.length_nil]; omega)
    case va1_2 => (simp only [nn_len, List.length_cons, List.length_nil]; unfold maxLen; omega)
    case va1_3 => omega
    intro va1 w5 rva1 e4
    have ze4 := e4.size
    have BL_ := BL.ev e4 (fun i h => by have := lY_1 _ h; omega)
    have D_ := D.ev e4 (fun i hi h => by have := hd i hi; have := lY_1 _ h; omega)
    have X_ := X.ev e4 (fun i hi h => by have := lX_1 i hi; have := lY_1 _ h; omega)
    have b20_ := b20.ev e4 (fun h => by have := lY_1 _ h; omega)
    have sb20_ := sb20.ev e4 (fun i hi h => by have := lb20 i hi; have := lY_1 _ h; omega)
    replace BL := BL_; clear BL_
    replace D := D_; clear D_
    replace X := X_; clear X_
    replace b20 := b20_; clear b20_
    replace sb20 := sb20_; clear sb20_
    replace Y := rva1
    clear rva1 e4
    have lY_2 := Y.ge
    simp only [List.set_cons_zero, List.set_cons_succ]
    refine sv 10 (va1) .of ?_
    simp only [List.set_cons_zero, List.set_cons_succ]
    refine wpList_nil ?_
    refine hK6 _ _ ?_
    refine wp_seq_k fun K7 hK7 => ?_
    refine wp_seq_k fun K8 hK8 => ?_
    refine cPlain ?_
    refine sv 22 (v) .of ?_
    simp only [List.set_cons_zero, List.set_cons_succ]
    refine sv 23 (uX) .of ?_
    simp only [List.set_cons_zero, List.set_cons_succ]
    refine xCall 24 27 #[v, uX] (by kernel_rfl) ?_
    refine (macsame_any _ _ (ns) (ns) w5 D X.sl hb hb (by first | omega | (simp only [List.length_append, List.length_set, List.length_cons, List.length_nil]; omega)) (by first | omega | (simp only [List.length_append, List.length_set, List.length_cons, List.length_nil]; omega))).mono ?_
    rintro en w6 ⟨he, hb1⟩
    have he2 := he.trans (congrArg (fun b => Ending.returned (Value.bool b)) (decide_eq_true rfl))
    clear he
    subst he2
    have e5 := belE0 hb1
    have ze5 := e5.size
    replace BL := BL.e0 e5
    replace D := D.e0 e5
    replace X := X.e0 e5
    replace Y := Y.e0 e5
    replace b20 := b20.e0 e5
    replace sb20 := sb20.e0 e5
    clear e5
    refine ⟨.bool true, rfl, ?_⟩
    simp only [List.set_cons_zero, List.set_cons_succ]
    refine sv 25 (.bool false) .of ?_
    simp only [List.set_cons_zero, List.set_cons_succ]
    refine sv 26 (.bool false) .of ?_
    simp only [List.set_cons_zero, List.set_cons_succ]
    refine sv 27 (v) .of ?_
    simp only [List.set_cons_zero, List.set_cons_succ]
    refine sv 28 (va1) .of ?_
    simp only [List.set_cons_zero, List.set_cons_succ]
    refine xCall 29 27 #[v, va1] (by kernel_rfl) ?_
    refine (macsame_any _ _ (ns) (ns ++ [m]) w6 D (Y.sl.castM rfl (nn_app ns [m]).symm) hb hym (by first | omega | (simp only [List.length_append, List.length_set, List.length_cons, List.length_nil]; omega)) (by first | omega | (simp only [List.length_append, List.length_set, List.length_cons, List.length_nil]; omega))).mono ?_
    rintro en w7 ⟨he, hb1⟩
    have he2 := he.trans (congrArg (fun b => Ending.returned (Value.bool b)) (decide_eq_false (ne_more _ _)))
    clear he
    subst he2
    have e6 := belE0 hb1
    have ze6 := e6.size
    replace BL := BL.e0 e6
    replace D := D.e0 e6
    replace X := X.e0 e6
    replace Y := Y.e0 e6
    replace b20 := b20.e0 e6
    replace sb20 := sb20.e0 e6
    clear e6
    refine ⟨.bool false, rfl, ?_⟩
    simp only [List.set_cons_zero, List.set_cons_succ]
    refine sv 30 (.bool false) .of ?_
    simp only [List.set_cons_zero, List.set_cons_succ]
    refine sv 31 (.bool false) .of ?_
    simp only [List.set_cons_zero, List.set_cons_succ]
    refine sv 32 (va1) .of ?_
    simp only [List.set_cons_zero, List.set_cons_succ]
    refine sv 33 (v) .of ?_
    simp only [List.set_cons_zero, List.set_cons_succ]
    refine xCall 34 27 #[va1, v] (by kernel_rfl) ?_
    refine (macsame_any _ _ (ns ++ [m]) (ns) w7 (Y.sl.castM rfl (nn_app ns [m]).symm) D hym hb (by first | omega | (simp only [List.length_append, List.length_set, List.length_cons, List.length_nil]; omega)) (by first | omega | (simp only [List.length_append, List.length_set, List.length_cons, List.length_nil]; omega))).mono ?_
    rintro en w8 ⟨he, hb1⟩
    have he2 := he.trans (congrArg (fun b => Ending.returned (Value.bool b)) (decide_eq_false (fun h => ne_more _ _ h.symm)))
    clear he
    subst he2
    have e7 := belE0 hb1
    have ze7 := e7.size
    replace BL := BL.e0 e7
    replace D := D.e0 e7
    replace X := X.e0 e7
    replace Y := Y.e0 e7
    replace b20 := b20.e0 e7
    replace sb20 := sb20.e0 e7
    clear e7
    refine ⟨.bool false, rfl, ?_⟩
    simp only [List.set_cons_zero, List.set_cons_succ]
    refine sv 35 (.bool false) .of ?_
    simp only [List.set_cons_zero, List.set_cons_succ]
    refine wpList_nil ?_
    refine hK8 _ _ ?_
    refine cF ?_
    refine wp_skip ?_
    refine hK7 _ _ ?_
    refine wp_seq_k fun K9 hK9 => ?_
    refine wp_seq_k fun K10 hK10 => ?_
    refine cPlain ?_
    refine sv 36 (v) .of ?_
    simp only [List.set_cons_zero, List.set_cons_succ]
    refine sv 37 (.int .i64 ((ns.length : Nat) : Int)) (Val.lenS (.tmp 36) 43 rfl (by kernel_rfl) D ns.length (nn_len ns) Try.underlying43) ?_
    simp only [List.set_cons_zero, List.set_cons_succ]
    refine sv 38 (.bool (decide (((ns.length : Nat) : Int) = 0))) (Val.cmp .eql 3 _ (.tmp 37) _ rfl .i64 ((ns.length : Nat) : Int) 0 (by kernel_rfl) (by kernel_rfl) (by simp) _ rfl) ?_
    simp only [List.set_cons_zero, List.set_cons_succ]
    refine wpList_nil ?_
    refine hK10 _ _ ?_
    refine cDec (((ns.length : Nat) : Int) = 0) (by kernel_rfl) (fun c38 => ?_) (fun c38 => ?_)
    · skip
      refine wp_seq_k fun K11 hK11 => ?_
      refine cPlain ?_
      refine xCall 39 24 #[] (by kernel_rfl) ?_
      refine (awake03_any w8).mono ?_
      rintro en w9 ⟨rfl, hb1⟩
      have e8 := belE0 hb1
      have ze8 := e8.size
      replace BL := BL.e0 e8
      replace D := D.e0 e8
      replace X := X.e0 e8
      replace Y := Y.e0 e8
      replace b20 := b20.e0 e8
      replace sb20 := sb20.e0 e8
      clear e8
      refine ⟨.bool true, rfl, ?_⟩
      simp only [List.set_cons_zero, List.set_cons_succ]
      refine sv 8 (.bool true) .of ?_
      simp only [List.set_cons_zero, List.set_cons_succ]
      refine wpList_nil ?_
      refine hK11 _ _ ?_
      refine wp_ret ?_
      (try simp only [Exit.then, Exit.inBlock])
      refine bodyPost_ret (v := .bool true) rT rfl ?_
      exact ⟨rfl, BL.b⟩
    · skip
      refine wp_skip ?_
      refine hK9 _ _ ?_
      refine wp_seq_k fun K12 hK12 => ?_
      refine cPlain ?_
      refine sv 40 (uX) .of ?_
      simp only [List.set_cons_zero, List.set_cons_succ]
      refine sv 41 (.int .i64 at_) .of ?_
      simp only [List.set_cons_zero, List.set_cons_succ]
      refine sv 42 (uX) .of ?_
      simp only [List.set_cons_zero, List.set_cons_succ]
      refine sv 43 (.int .i64 ((ns.length : Nat) : Int)) (Val.lenO (.tmp 42) 43 rfl (by kernel_rfl) X ns.length (nn_len _) Try.underlying43) ?_
      simp only [List.set_cons_zero, List.set_cons_succ]
      refine xCall 44 28 #[.int .i64 at_, .int .i64 ((ns.length : Nat) : Int)] (by kernel_rfl) ?_
      refine (pick_any at_ ((ns.length : Nat) : Int) (by omega) (by omega) ha.1 ha.2 w8).mono ?_
      rintro en w10 ⟨he, hw⟩
      have hpr := pickF_range at_ ((ns.length : Nat) : Int) (by omega)
      obtain ⟨k, hk⟩ : ∃ k : Nat, pickF at_ ((ns.length : Nat) : Int) = (k : Int) := ⟨(pickF at_ ((ns.length : Nat) : Int)).toNat, by omega⟩
      rw [hk] at he hpr
      subst he
      obtain rfl := (hw.symm).symm
      refine ⟨.int .i64 ((k : Nat) : Int), rfl, ?_⟩
      simp only [List.set_cons_zero, List.set_cons_succ]
      refine sv 45 (elemP uX k) (Val.idxE 43 (.tmp 40) (.tmp 44) rfl uX k (by kernel_rfl) (by kernel_rfl) X.sl Try.underlying43 (by kernel_rfl) (by rw [nn_len]; omega)) ?_
      simp only [List.set_cons_zero, List.set_cons_succ]
      refine sv 46 (.int .u8 ((ns.getD k 0 : Nat) : Int)) (Val.nldE 5 _ rfl uX k (by kernel_rfl) (fun _ => (by kernel_rfl)) X.sl (by omega)) ?_
      simp only [List.set_cons_zero, List.set_cons_succ]
      refine sv 47 (.int .u8 ((t : Nat) : Int)) .of ?_
      simp only [List.set_cons_zero, List.set_cons_succ]
      refine sv 48 (.int .u8 ((((ns.getD k 0) ^^^ t) % 256 : Nat) : Int)) (Val.xorN 5 _ (.tmp 46) (.tmp 47) rfl .u8 (ns.getD k 0) t 256 (by kernel_rfl) (by kernel_rfl)) ?_
      simp only [List.set_cons_zero, List.set_cons_succ]
      refine sv 49 (elemP uX k) (Val.idxE 43 (.tmp 40) (.tmp 44) rfl uX k (by kernel_rfl) (by kernel_rfl) X.sl Try.underlying43 (by kernel_rfl) (by rw [nn_len]; omega)) ?_
      simp only [List.set_cons_zero, List.set_cons_succ]
      refine xStoreE 5 (.tmp 49) (.tmp 48) rfl uX k ((((ns.getD k 0) ^^^ t) % 256 : Nat) : Int) (by kernel_rfl) (by kernel_rfl) X (by kernel_rfl) (by rw [nn_len]; omega) ?_
      intro w11 X_ e9 ze9
      have BL_ := BL.ev e9 (fun i h => by have := lX_1 _ h; omega)
      have D_ := D.ev e9 (fun i hi h => by have := hd i hi; have := lX_1 _ h; omega)
      have Y_ := Y.ev e9 (fun i hi h => by have := lY_2 i hi; have := lX_1 _ h; omega)
      have b20_ := b20.ev e9 (fun h => by have := lX_1 _ h; omega)
      have sb20_ := sb20.ev e9 (fun i hi h => by have := lb20 i hi; have := lX_1 _ h; omega)
      replace BL := BL_; clear BL_
      replace D := D_; clear D_
      replace Y := Y_; clear Y_
      replace b20 := b20_; clear b20_
      replace sb20 := sb20_; clear sb20_
      replace X := X_; clear X_ e9
      refine wpList_nil ?_
      refine hK12 _ _ ?_
      refine wp_seq_k fun K13 hK13 => ?_
      have hbs : ∀ x ∈ ns.set k ((ns.getD k 0 ^^^ t) % 256), x < 256 := fun x hx => by rcases List.mem_or_eq_of_mem_set hx with h | h; exact hb x h; rw [h]; exact Nat.mod_lt _ (by decide)
      refine cPlain ?_
      refine sv 50 (v) .of ?_
      simp only [List.set_cons_zero, List.set_cons_succ]
      refine sv 51 (uX) .of ?_
      simp only [List.set_cons_zero, List.set_cons_succ]
      refine xCall 52 27 #[v, uX] (by kernel_rfl) ?_
      refine (macsame_any _ _ (ns) (ns.set k ((ns.getD k 0 ^^^ t) % 256)) w11 D (X.sl.castM rfl (nn_set ns k _)) hb hbs (by first | omega | (simp only [List.length_append, List.length_set, List.length_cons, List.length_nil]; omega)) (by first | omega | (simp only [List.length_append, List.length_set, List.length_cons, List.length_nil]; omega))).mono ?_
      rintro en w12 ⟨he, hb1⟩
      have he2 := he.trans (congrArg (fun b => Ending.returned (Value.bool b)) (show decide (ns = ns.set k ((ns.getD k 0 ^^^ t) % 256)) = decide (t = 0) from decide_eq_decide.2 (turn_set (by omega) hb ht)))
      clear he
      subst he2
      have e10 := belE0 hb1
      have ze10 := e10.size
      replace BL := BL.e0 e10
      replace D := D.e0 e10
      replace X := X.e0 e10
      replace Y := Y.e0 e10
      replace b20 := b20.e0 e10
      replace sb20 := sb20.e0 e10
      clear e10
      refine ⟨.bool (decide (t = 0)), rfl, ?_⟩
      simp only [List.set_cons_zero, List.set_cons_succ]
      refine sv 53 (.int .u8 ((t : Nat) : Int)) .of ?_
      simp only [List.set_cons_zero, List.set_cons_succ]
      refine sv 54 (.bool (decide (((t : Nat) : Int) = 0))) (Val.cmp .eql 5 _ (.tmp 53) _ rfl .u8 ((t : Nat) : Int) 0 (by kernel_rfl) (by kernel_rfl) (by simp) _ rfl) ?_
      simp only [List.set_cons_zero, List.set_cons_succ]
      refine sv 55 (.bool true) (Val.bools .eql 4 _ (.tmp 52) (.tmp 54) rfl Try.underlying4 (decide (t = 0)) (decide (((t : Nat) : Int) = 0)) (by kernel_rfl) (by kernel_rfl) (.inl rfl) _ (by rw [if_pos rfl]; by_cases h : t = 0 <;> simp [h])) ?_
      simp only [List.set_cons_zero, List.set_cons_succ]
      refine sv 56 (.bool true) .of ?_
      simp only [List.set_cons_zero, List.set_cons_succ]
      refine sv 57 (uX) .of ?_
      simp only [List.set_cons_zero, List.set_cons_succ]
      refine sv 58 (v) .of ?_
      simp only [List.set_cons_zero, List.set_cons_succ]
      refine xCall 59 27 #[uX, v] (by kernel_rfl) ?_
      refine (macsame_any _ _ (ns.set k ((ns.getD k 0 ^^^ t) % 256)) (ns) w12 (X.sl.castM rfl (nn_set ns k _)) D hbs hb (by first | omega | (simp only [List.length_append, List.length_set, List.length_cons, List.length_nil]; omega)) (by first | omega | (simp only [List.length_append, List.length_set, List.length_cons, List.length_nil]; omega))).mono ?_
      rintro en w13 ⟨he, hb1⟩
      have he2 := he.trans (congrArg (fun b => Ending.returned (Value.bool b)) (show decide (ns.set k ((ns.getD k 0 ^^^ t) % 256) = ns) = decide (t = 0) from decide_eq_decide.2 (eq_comm.trans (turn_set (by omega) hb ht))))
      clear he
      subst he2
      have e11 := belE0 hb1
      have ze11 := e11.size
      replace BL := BL.e0 e11
      replace D := D.e0 e11
      replace X := X.e0 e11
      replace Y := Y.e0 e11
      replace b20 := b20.e0 e11
      replace sb20 := sb20.e0 e11
      clear e11
      refine ⟨.bool (decide (t = 0)), rfl, ?_⟩
      simp only [List.set_cons_zero, List.set_cons_succ]
      refine sv 60 (.int .u8 ((t : Nat) : Int)) .of ?_
      simp only [List.set_cons_zero, List.set_cons_succ]
      refine sv 61 (.bool (decide (((t : Nat) : Int) = 0))) (Val.cmp .eql 5 _ (.tmp 60) _ rfl .u8 ((t : Nat) : Int) 0 (by kernel_rfl) (by kernel_rfl) (by simp) _ rfl) ?_
      simp only [List.set_cons_zero, List.set_cons_succ]
      refine sv 62 (.bool true) (Val.bools .eql 4 _ (.tmp 59) (.tmp 61) rfl Try.underlying4 (decide (t = 0)) (decide (((t : Nat) : Int) = 0)) (by kernel_rfl) (by kernel_rfl) (.inl rfl) _ (by rw [if_pos rfl]; by_cases h : t = 0 <;> simp [h])) ?_
      simp only [List.set_cons_zero, List.set_cons_succ]
      refine sv 63 (.bool true) .of ?_
      simp only [List.set_cons_zero, List.set_cons_succ]
      refine sv 64 (.bool true) .of ?_
      simp only [List.set_cons_zero, List.set_cons_succ]
      refine xCall 65 24 #[] (by kernel_rfl) ?_
      refine (awake03_any w13).mono ?_
      rintro en w14 ⟨rfl, hb1⟩
      have e12 := belE0 hb1
      have ze12 := e12.size
      replace BL := BL.e0 e12
      replace D := D.e0 e12
      replace X := X.e0 e12
      replace Y := Y.e0 e12
      replace b20 := b20.e0 e12
      replace sb20 := sb20.e0 e12
      clear e12
      refine ⟨.bool true, rfl, ?_⟩
      simp only [List.set_cons_zero, List.set_cons_succ]
      refine sv 66 (.bool true) .of ?_
      simp only [List.set_cons_zero, List.set_cons_succ]
      refine sv 8 (.bool true) .of ?_
      simp only [List.set_cons_zero, List.set_cons_succ]
      refine wpList_nil ?_
      refine hK13 _ _ ?_
      refine wp_ret ?_
      (try simp only [Exit.then, Exit.inBlock])
      refine bodyPost_ret (v := .bool true) rT rfl ?_
      exact ⟨rfl, BL.b⟩

set_option maxHeartbeats 4000000 in
theorem macKeys_walk (tab : List Nat) (ht : tab.length = 72) (key bs : List Nat) (v vb : Value) (w : World) (D : SL .u8 w v (nn key)) (D2 : SL .u8 w vb (nn bs)) (m : Nat) (hm : m < 256) :
    Calls Try.prog 5 #[.agg (cellsOf .u32 (nn tab)), v, vb, .int .u8 ((m : Nat) : Int)] w fun e w' => e = .returned (.bool true) ∧ Below w.heap.size w w' := by
  have BL := Bl.refl w
  have hd := D.lt
  have hd2 := D2.lt
  have hol := ofN_32 tab key
  have hml := macN_len tab key bs
  go_enter Try.func5, Try.ntmps5
  refine wp_seq_k fun K1 hK1 => ?_
  refine cPlain ?_
  refine xBox 4 26 _ ((nn tab).map (Value.int .u32)) rfl (cells_toList _ _) ?_
  intro w1 n1
  have zn1 := n1.z
  have b4 := n1.c
  replace b4 : Blk .u32 w1 w.heap.size 26 (nn tab) := b4
  replace BL := BL.e0 n1.e
  replace D := D.e0 n1.e
  replace D2 := D2.e0 n1.e
  simp only [List.set_cons_zero, List.set_cons_succ]
  refine sv 8 (.bool false) .of ?_
  simp only [List.set_cons_zero, List.set_cons_succ]
  refine wpList_nil ?_
  refine hK1 _ _ ?_
  refine wp_seq_k fun K2 hK2 => ?_
  refine wp_seq_k fun K3 hK3 => ?_
  refine cPlain ?_
  refine sv 16 (v) .of ?_
  simp only [List.set_cons_zero, List.set_cons_succ]
  refine sv 17 (.int .i64 ((key.length : Nat) : Int)) (Val.lenS (.tmp 16) 43 rfl (by kernel_rfl) D key.length (nn_len key) Try.underlying43) ?_
  simp only [List.set_cons_zero, List.set_cons_succ]
  refine sv 18 (.bool (decide (200 < ((key.length : Nat) : Int)))) (Val.cmp .gtr 3 _ (.tmp 17) _ rfl .i64 ((key.length : Nat) : Int) 200 (by kernel_rfl) (by kernel_rfl) (by simp) _ rfl) ?_
  simp only [List.set_cons_zero, List.set_cons_succ]
  refine sv 19 (.bool (decide (200 < ((key.length : Nat) : Int)))) .of ?_
  simp only [List.set_cons_zero, List.set_cons_succ]
  by_cases g20 : 200 < ((key.length : Nat) : Int)
  · skip
    have dg20 : decide (200 < ((key.length : Nat) : Int)) = true := decide_eq_true g20
    simp only [dg20]
    clear dg20
    refine xSkip 20 ?_
    simp only [List.set_cons_zero, List.set_cons_succ]
    refine xSkip 21 ?_
    simp only [List.set_cons_zero, List.set_cons_succ]
    refine xSkip 22 ?_
    simp only [List.set_cons_zero, List.set_cons_succ]
    refine sv 23 (.bool true) .of ?_
    simp only [List.set_cons_zero, List.set_cons_succ]
    refine wpList_nil ?_
    refine hK3 _ _ ?_
    refine cT ?_
    refine wp_seq_k fun K4 hK4 => ?_
    refine cPlain ?_
    refine xCall 24 24 #[] (by kernel_rfl) ?_
    refine (awake03_any w1).mono ?_
    rintro en w2 ⟨rfl, hb1⟩
    have e1 := belE0 hb1
    have ze1 := e1.size
    replace BL := BL.e0 e1
    replace D := D.e0 e1
    replace D2 := D2.e0 e1
    replace b4 := b4.e0 e1
    clear e1
    refine ⟨.bool true, rfl, ?_⟩
    simp only [List.set_cons_zero, List.set_cons_succ]
    refine sv 8 (.bool true) .of ?_
    simp only [List.set_cons_zero, List.set_cons_succ]
    refine wpList_nil ?_
    refine hK4 _ _ ?_
    refine wp_ret ?_
    (try simp only [Exit.then, Exit.inBlock])
    refine bodyPost_ret (v := .bool true) rT rfl ?_
    exact ⟨rfl, BL.b⟩
  · skip
    have dg20 : decide (200 < ((key.length : Nat) : Int)) = false := decide_eq_false g20
    simp only [dg20]
    clear dg20
    refine sv 20 (vb) .of ?_
    simp only [List.set_cons_zero, List.set_cons_succ]
    refine sv 21 (.int .i64 ((bs.length : Nat) : Int)) (Val.lenS (.tmp 20) 43 rfl (by kernel_rfl) D2 bs.length (nn_len bs) Try.underlying43) ?_
    simp only [List.set_cons_zero, List.set_cons_succ]
    refine sv 22 (.bool (decide (200 < ((bs.length : Nat) : Int)))) (Val.cmp .gtr 3 _ (.tmp 21) _ rfl .i64 ((bs.length : Nat) : Int) 200 (by kernel_rfl) (by kernel_rfl) (by simp) _ rfl) ?_
    simp only [List.set_cons_zero, List.set_cons_succ]
    refine sv 23 (.bool (decide (200 < ((bs.length : Nat) : Int)))) .of ?_
    simp only [List.set_cons_zero, List.set_cons_succ]
    refine wpList_nil ?_
    refine hK3 _ _ ?_
    refine cDec (200 < ((bs.length : Nat) : Int)) (by kernel_rfl) (fun c23 => ?_) (fun c23 => ?_)
    · skip
      refine wp_seq_k fun K5 hK5 => ?_
      refine cPlain ?_
      refine xCall 24 24 #[] (by kernel_rfl) ?_
      refine (awake03_any w1).mono ?_
      rintro en w3 ⟨rfl, hb1⟩
      have e2 := belE0 hb1
      have ze2 := e2.size
      replace BL := BL.e0 e2
      replace D := D.e0 e2
      replace D2 := D2.e0 e2
      replace b4 := b4.e0 e2
      clear e2
      refine ⟨.bool true, rfl, ?_⟩
      simp only [List.set_cons_zero, List.set_cons_succ]
      refine sv 8 (.bool true) .of ?_
      simp only [List.set_cons_zero, List.set_cons_succ]
      refine wpList_nil ?_
      refine hK5 _ _ ?_
      refine wp_ret ?_
      (try simp only [Exit.then, Exit.inBlock])
      refine bodyPost_ret (v := .bool true) rT rfl ?_
      exact ⟨rfl, BL.b⟩
    · skip
      refine wp_skip ?_
      refine hK2 _ _ ?_
      refine wp_seq_k fun K6 hK6 => ?_
      refine cPlain ?_
      refine sv 25 (v) .of ?_
      simp only [List.set_cons_zero, List.set_cons_succ]
      refine sv 26 (vb) .of ?_
      simp only [List.set_cons_zero, List.set_cons_succ]
      refine xCall 27 25 #[.pointer (some ⟨w.heap.size, 0, none⟩), v, vb] (by kernel_rfl) ?_
      refine (mac_any w.heap.size tab ht w1 b4 key bs v vb D (by omega) D2 (by omega)).mono ?_
      rintro en w4 ⟨rfl, hb1⟩
      have e3 := belE0 hb1
      have ze3 := e3.size
      replace BL := BL.e0 e3
      replace D := D.e0 e3
      replace D2 := D2.e0 e3
      replace b4 := b4.e0 e3
      clear e3
      refine ⟨.agg (cellsOf .u8 (nn (macN tab key bs))), rfl, ?_⟩
      simp only [List.set_cons_zero, List.set_cons_succ]
      refine xAlloc 9 28 ((nn (List.replicate 32 0)).map (Value.int .u8)) rfl (by kernel_rfl) ?_
      intro w5 n2
      have zn2 := n2.z
      have b9 := n2.c
      replace b9 : Blk .u8 w5 w4.heap.size 28 (nn (List.replicate 32 0)) := b9
      replace BL := BL.e0 n2.e
      replace D := D.e0 n2.e
      replace D2 := D2.e0 n2.e
      replace b4 := b4.e0 n2.e
      simp only [List.set_cons_zero, List.set_cons_succ]
      refine xStoreA 28 (.tmp 9) (.tmp 27) rfl .u8 w4.heap.size 28 (nn (List.replicate 32 0)) 0 (nn (macN tab key bs)) (by kernel_rfl) (by kernel_rfl) b9 (by rw [show (nn (macN tab key bs)).length = 32 by ((try simp only [nn_len, List.length_replicate]); try omega)]; kernel_rfl) (by (try simp only [nn_len, List.length_replicate]); try omega) (nn (macN tab key bs)) (over_whole _ _ (by (try simp only [nn_len, List.length_replicate]); try omega)) ?_
      intro w6 t1
      have zt1 := t1.z
      have BL_ := BL.ev t1.e (fun i h => show w.heap.size ≤ i by have h : i = w4.heap.size := h; omega)
      have D_ := D.ev t1.e (fun i hi => show ¬ (i = w4.heap.size) by have := hd i hi; omega)
      have D2_ := D2.ev t1.e (fun i hi => show ¬ (i = w4.heap.size) by have := hd2 i hi; omega)
      have b4_ := b4.ev t1.e (show ¬ (w.heap.size = w4.heap.size) by omega)
      replace BL := BL_; clear BL_
      replace D := D_; clear D_
      replace D2 := D2_; clear D2_
      replace b4 := b4_; clear b4_
      replace b9 : Blk .u8 w6 w4.heap.size 28 (nn (macN tab key bs)) := t1.c
      clear t1
      refine wpList_nil ?_
      refine hK6 _ _ ?_
      refine cCut (fun A_ w_ => ∃ (ks : List Nat) (kv : Value), ((ks = keyN tab key) ∧ (ks.length ≤ 64) ∧ (∃ s1 : Nat → Value, A_ = ⟨[.agg (cellsOf .u32 (nn tab)), kv, vb, .int .u8 ((m : Nat) : Int), .pointer (some ⟨w.heap.size, 0, none⟩), undef, undef, undef, .bool false, .pointer (some ⟨w4.heap.size, 0, none⟩), (s1 10), undef, undef, undef, undef, undef, v, .int .i64 ((key.length : Nat) : Int), .bool false, .bool false, vb, .int .i64 ((bs.length : Nat) : Int), .bool (decide (200 < ((bs.length : Nat) : Int))), .bool (decide (200 < ((bs.length : Nat) : Int))), undef, v, vb, .agg (cellsOf .u8 (nn (macN tab key bs))), (s1 28), (s1 29), (s1 30), (s1 31), (s1 32), (s1 33), undef, undef, undef, undef, undef, undef, undef, undef, undef, undef, undef, undef, undef, undef, undef, undef, undef, undef, undef, undef, undef, undef, undef, undef, undef, undef, undef, undef, undef, undef, undef, undef, undef, undef, undef, undef, undef, undef, undef, undef, undef, undef, undef, undef, undef, undef, undef, undef, undef, undef, undef, undef, undef].toArray, []⟩) ∧ Bl w.heap.size w w_ ∧ SL .u8 w_ vb (nn bs) ∧ Blk .u32 w_ w.heap.size 26 (nn tab) ∧ Blk .u8 w_ w4.heap.size 28 (nn (macN tab key bs)) ∧ SL .u8 w_ kv (nn ks) ∧ w6.heap.size ≤ w_.heap.size)) ?_ ?_
      · skip
        refine wp_seq_k fun K7 hK7 => ?_
        refine cPlain ?_
        refine sv 28 (v) .of ?_
        simp only [List.set_cons_zero, List.set_cons_succ]
        refine sv 29 (.int .i64 ((key.length : Nat) : Int)) (Val.lenS (.tmp 28) 43 rfl (by kernel_rfl) D key.length (nn_len key) Try.underlying43) ?_
        simp only [List.set_cons_zero, List.set_cons_succ]
        refine sv 30 (.bool (decide (64 < ((key.length : Nat) : Int)))) (Val.cmp .gtr 3 _ (.tmp 29) _ rfl .i64 ((key.length : Nat) : Int) 64 (by kernel_rfl) (by kernel_rfl) (by simp) _ rfl) ?_
        simp only [List.set_cons_zero, List.set_cons_succ]
        refine wpList_nil ?_
        refine hK7 _ _ ?_
        refine cDec (64 < ((key.length : Nat) : Int)) (by kernel_rfl) (fun c30 => ?_) (fun c30 => ?_)
        · skip
          refine wp_seq_k fun K8 hK8 => ?_
          refine cPlain ?_
          refine sv 31 (v) .of ?_
          simp only [List.set_cons_zero, List.set_cons_succ]
          refine xCall 32 22 #[.pointer (some ⟨w.heap.size, 0, none⟩), v] (by kernel_rfl) ?_
          refine (of_any w.heap.size tab key v ht w6 b4 D (by omega)).mono ?_
          rintro en w7 ⟨rfl, hb1⟩
          have e4 := belE0 hb1
          have ze4 := e4.size
          replace BL := BL.e0 e4
          replace D := D.e0 e4
          replace D2 := D2.e0 e4
          replace b4 := b4.e0 e4
          replace b9 := b9.e0 e4
          clear e4
          refine ⟨.agg (cellsOf .u8 (nn (ofN tab key))), rfl, ?_⟩
          simp only [List.set_cons_zero, List.set_cons_succ]
          refine xAlloc 10 28 ((nn (List.replicate 32 0)).map (Value.int .u8)) rfl (by kernel_rfl) ?_
          intro w8 n3
          have zn3 := n3.z
          have b10 := n3.c
          replace b10 : Blk .u8 w8 w7.heap.size 28 (nn (List.replicate 32 0)) := b10
          replace BL := BL.e0 n3.e
          replace D := D.e0 n3.e
          replace D2 := D2.e0 n3.e
          replace b4 := b4.e0 n3.e
          replace b9 := b9.e0 n3.e
          simp only [List.set_cons_zero, List.set_cons_succ]
          refine xStoreA 28 (.tmp 10) (.tmp 32) rfl .u8 w7.heap.size 28 (nn (List.replicate 32 0)) 0 (nn (ofN tab key)) (by kernel_rfl) (by kernel_rfl) b10 (by rw [show (nn (ofN tab key)).length = 32 by ((try simp only [nn_len, List.length_replicate]); try omega)]; kernel_rfl) (by (try simp only [nn_len, List.length_replicate]); try omega) (nn (ofN tab key)) (over_whole _ _ (by (try simp only [nn_len, List.length_replicate]); try omega)) ?_
          intro w9 t2
          have zt2 := t2.z
          have BL_ := BL.ev t2.e (fun i h => show w.heap.size ≤ i by have h : i = w7.heap.size := h; omega)
          have D_ := D.ev t2.e (fun i hi => show ¬ (i = w7.heap.size) by have := hd i hi; omega)
          have D2_ := D2.ev t2.e (fun i hi => show ¬ (i = w7.heap.size) by have := hd2 i hi; omega)
          have b4_ := b4.ev t2.e (show ¬ (w.heap.size = w7.heap.size) by omega)
          have b9_ := b9.ev t2.e (show ¬ (w4.heap.size = w7.heap.size) by omega)
          replace BL := BL_; clear BL_
          replace D := D_; clear D_
          replace D2 := D2_; clear D2_
          replace b4 := b4_; clear b4_
          replace b9 := b9_; clear b9_
          replace b10 : Blk .u8 w9 w7.heap.size 28 (nn (ofN tab key)) := t2.c
          clear t2
          refine wpList_nil ?_
          refine hK8 _ _ ?_
          refine cPlain ?_
          refine sv 33 (.slice (some ⟨w7.heap.size, 0, none⟩) 32 32) .of ?_
          simp only [List.set_cons_zero, List.set_cons_succ]
          refine sv 1 (.slice (some ⟨w7.heap.size, 0, none⟩) 32 32) .of ?_
          simp only [List.set_cons_zero, List.set_cons_succ]
          refine wpList_nil ?_
          exact ⟨ofN tab key, .slice (some ⟨w7.heap.size, 0, none⟩) 32 32, (by unfold keyN; first | rw [if_pos (by omega)] | rw [if_neg (by omega)]), (by first | omega | (rw [ofN_32]; omega)), cutE, BL, D2, b4, b9, (by first | exact D | exact SL.ofBlk b10 (by rw [nn_len]; exact ofN_32 _ _) (by unfold maxLen; omega)), by omega⟩
        · skip
          refine wp_skip ?_
          exact ⟨key, v, (by unfold keyN; first | rw [if_pos (by omega)] | rw [if_neg (by omega)]), (by first | omega | (rw [ofN_32]; omega)), cutE, BL, D2, b4, b9, (by first | exact D | exact SL.ofBlk b10 (by rw [nn_len]; exact ofN_32 _ _) (by unfold maxLen; omega)), by omega⟩
      · skip
        clear BL D D2 b4 b9
        rintro a_ wJ1 ⟨ks, kv, hJ1_0, hJ1_1, ⟨s1, rfl⟩, BL, D2, b4, b9, K, zJ1⟩
        have hkl := K.lt
        refine wp_seq_k fun K9 hK9 => ?_
        have hmod := Nat.mod_lt m (show 65 - ks.length > 0 by omega)
        have e5 := drew_e0 wJ1
        refine zg (fun w_ => Bl w.heap.size w w_ ∧ SL .u8 w_ vb (nn bs) ∧ Blk .u32 w_ w.heap.size 26 (nn tab) ∧ Blk .u8 w_ w4.heap.size 28 (nn (macN tab key bs)) ∧ SL .u8 w_ kv (nn ks) ∧ wJ1.heap.size ≤ w_.heap.size) (fun w_ => Bl w.heap.size w w_ ∧ SL .u8 w_ vb (nn bs) ∧ Blk .u32 w_ w.heap.size 26 (nn tab) ∧ Blk .u8 w_ w4.heap.size 28 (nn (macN tab key bs)) ∧ SL .u8 w_ kv (nn ks) ∧ wJ1.heap.size ≤ w_.heap.size) 100000 10 ⟨BL.e0 e5, D2.e0 e5, b4.e0 e5, b9.e0 e5, K.e0 e5, Nat.le_refl _⟩ ?_
        clear BL D2 b4 b9 K
        clear e5
        intro w10
        rintro ⟨BL, D2, b4, b9, K, z1⟩
        refine zv 0 34 (kv) (fun _ _ => .of) ⟨BL, D2, b4, b9, K, by omega⟩ ?_
        simp only [List.set_cons_zero, List.set_cons_succ]
        refine zv 2 36 (.int .u8 ((m : Nat) : Int)) (fun _ _ => .of) ⟨BL, D2, b4, b9, K, by omega⟩ ?_
        simp only [List.set_cons_zero, List.set_cons_succ]
        refine zv 3 37 (.int .i64 ((m : Nat) : Int)) (fun _ ⟨BL, D2, b4, b9, K, z1⟩ => Val.conv64 5 3 (.tmp 36) rfl Try.underlying5 Try.underlying3 ((m : Nat) : Int) (by kernel_rfl) (by omega)) ⟨BL, D2, b4, b9, K, by omega⟩ ?_
        simp only [List.set_cons_zero, List.set_cons_succ]
        refine zv 4 38 (kv) (fun _ _ => .of) ⟨BL, D2, b4, b9, K, by omega⟩ ?_
        simp only [List.set_cons_zero, List.set_cons_succ]
        refine zv 5 39 (.int .i64 ((ks.length : Nat) : Int)) (fun _ ⟨BL, D2, b4, b9, K, z1⟩ => Val.lenS (.tmp 38) 43 rfl (by kernel_rfl) K ks.length (nn_len ks) Try.underlying43) ⟨BL, D2, b4, b9, K, by omega⟩ ?_
        simp only [List.set_cons_zero, List.set_cons_succ]
        refine zv 6 40 (.int .i64 ((65 - ks.length : Nat) : Int)) (fun _ ⟨BL, D2, b4, b9, K, z1⟩ => Val.as (Val.sub 3 _ _ (.tmp 39) rfl 65 ((ks.length : Nat) : Int) (by kernel_rfl) (by kernel_rfl) (by omega)) (congrArg (Value.int .i64) (by omega))) ⟨BL, D2, b4, b9, K, by omega⟩ ?_
        simp only [List.set_cons_zero, List.set_cons_succ]
        refine zv 7 41 (.int .i64 ((m % (65 - ks.length) : Nat) : Int)) (fun _ ⟨BL, D2, b4, b9, K, z1⟩ => Val.remN 3 _ (.tmp 37) (.tmp 40) rfl .i64 m (65 - ks.length) (by kernel_rfl) (by kernel_rfl) (by omega)) ⟨BL, D2, b4, b9, K, by omega⟩ ?_
        simp only [List.set_cons_zero, List.set_cons_succ]
        refine zo1 1 rfl ?_
        refine xCall 35 26 #[kv] (by kernel_rfl) ?_
        refine (copyB_any _ (nn ks) w10 K (by rw [nn_len]; omega)).mono ?_
        rintro en w11 ⟨uL, rfl, hOL, hb1⟩
        have e6 := belE0 hb1
        have ze6 := e6.size
        replace BL := BL.e0 e6
        replace D2 := D2.e0 e6
        replace b4 := b4.e0 e6
        replace b9 := b9.e0 e6
        replace K := K.e0 e6
        clear e6
        have L : Own 5 .u8 w10.heap.size w11 uL (nn ks) := hOL
        have lL_1 := L.ge
        refine ⟨uL, rfl, ?_⟩
        refine ze 1 ⟨BL, D2, b4, b9, K, by omega⟩ ?_
        simp only [List.set_cons_zero, List.set_cons_succ]
        refine zo1 8 rfl ?_
        refine xAppN 42 (.tmp 35) (.tmp 41) 43 3 9 5 _ rfl Try.underlying43 Try.underlying3 Try.underlying9 (by kernel_rfl) w10.heap.size uL (nn ks) (by kernel_rfl) L (m % (65 - ks.length)) (by kernel_rfl) ?va1_1 ?va1_2 ?va1_3 ?_
        case va1_1 => omega
        case va1_2 => (rw [nn_len]; omega)
        case va1_3 => omega
        intro va1 w12 rva1 e7
        have ze7 := e7.size
        have BL_ := BL.ev e7 (fun i h => by have := lL_1 _ h; omega)
        have D2_ := D2.ev e7 (fun i hi h => by have := hd2 i hi; have := lL_1 _ h; omega)
        have b4_ := b4.ev e7 (fun h => by have := lL_1 _ h; omega)
        have b9_ := b9.ev e7 (fun h => by have := lL_1 _ h; omega)
        have K_ := K.ev e7 (fun i hi h => by have := hkl i hi; have := lL_1 _ h; omega)
        replace BL := BL_; clear BL_
        replace D2 := D2_; clear D2_
        replace b4 := b4_; clear b4_
        replace b9 := b9_; clear b9_
        replace K := K_; clear K_
        replace L := rva1
        clear rva1 e7
        have lL_2 := L.ge
        refine ze 8 ⟨BL, D2, b4, b9, K, by omega⟩ ?_
        simp only [List.set_cons_zero, List.set_cons_succ]
        refine zv 9 11 (va1) (fun _ _ => .of) ⟨BL, D2, b4, b9, K, by omega⟩ ?_
        simp only [List.set_cons_zero, List.set_cons_succ]
        refine zd (by kernel_rfl) ?_ _
        refine hK9 _ _ ?_
        refine wp_seq_k fun K10 hK10 => ?_
        refine wp_seq_k fun K11 hK11 => ?_
        have e8 := drew_e0 w12
        refine zg (fun w_ => Bl w.heap.size w w_ ∧ SL .u8 w_ vb (nn bs) ∧ Blk .u32 w_ w.heap.size 26 (nn tab) ∧ Blk .u8 w_ w4.heap.size 28 (nn (macN tab key bs)) ∧ SL .u8 w_ kv (nn ks) ∧ Own 5 .u8 w10.heap.size w_ va1 (nn ks ++ List.replicate (m % (65 - ks.length)) 0) ∧ w12.heap.size ≤ w_.heap.size) (fun w_ => Bl w.heap.size w w_ ∧ SL .u8 w_ vb (nn bs) ∧ Blk .u32 w_ w.heap.size 26 (nn tab) ∧ Blk .u8 w_ w4.heap.size 28 (nn (macN tab key bs)) ∧ SL .u8 w_ kv (nn ks) ∧ Own 5 .u8 w10.heap.size w_ va1 (nn ks ++ List.replicate (m % (65 - ks.length)) 0) ∧ w12.heap.size ≤ w_.heap.size) 100000 5 ⟨BL.e0 e8, D2.e0 e8, b4.e0 e8, b9.e0 e8, K.e0 e8, L.e0 e8, Nat.le_refl _⟩ ?_
        clear BL D2 b4 b9 K L
        clear e8
        intro w13
        rintro ⟨BL, D2, b4, b9, K, L, z2⟩
        refine zv 0 43 (va1) (fun _ _ => .of) ⟨BL, D2, b4, b9, K, L, by omega⟩ ?_
        simp only [List.set_cons_zero, List.set_cons_succ]
        refine zv 1 44 (vb) (fun _ _ => .of) ⟨BL, D2, b4, b9, K, L, by omega⟩ ?_
        simp only [List.set_cons_zero, List.set_cons_succ]
        refine zv 3 46 (.agg (cellsOf .u8 (nn (macN tab key bs)))) (fun _ ⟨BL, D2, b4, b9, K, L, z2⟩ => Val.blk 28 _ rfl 0 32 (by kernel_rfl) b9 _ Try.underlying28 rfl (by kernel_rfl) (by (try simp only [nn_len, List.length_replicate]); try omega) _ (seg_all' _ (by (try simp only [nn_len, List.length_replicate]); try omega))) ⟨BL, D2, b4, b9, K, L, by omega⟩ ?_
        simp only [List.set_cons_zero, List.set_cons_succ]
        refine zo1 2 rfl ?_
        refine xCall 45 25 #[.pointer (some ⟨w.heap.size, 0, none⟩), va1, vb] (by kernel_rfl) ?_
        refine (mac_any w.heap.size tab ht w13 b4 (ks ++ List.replicate (m % (65 - ks.length)) 0) bs _ vb (L.sl.castM rfl (by rw [nn_app, nn_rep])) (by simp only [List.length_append, List.length_replicate]; omega) D2 (by omega)).mono ?_
        rintro en w14 ⟨he, hb1⟩
        rw [mac_more hJ1_0 _ (by omega)] at he
        subst he
        have e9 := belE0 hb1
        have ze9 := e9.size
        replace BL := BL.e0 e9
        replace D2 := D2.e0 e9
        replace b4 := b4.e0 e9
        replace b9 := b9.e0 e9
        replace K := K.e0 e9
        replace L := L.e0 e9
        clear e9
        refine ⟨.agg (cellsOf .u8 (nn (macN tab key bs))), rfl, ?_⟩
        refine ze 2 ⟨BL, D2, b4, b9, K, L, by omega⟩ ?_
        simp only [List.set_cons_zero, List.set_cons_succ]
        refine zv 4 47 (.bool false) (fun _ ⟨BL, D2, b4, b9, K, L, z2⟩ => Val.eqA .neq 28 _ (.tmp 45) (.tmp 46) rfl Try.underlying28 Try.underlying5 (by kernel_rfl) (by kernel_rfl) (nn (macN tab key bs)) (nn (macN tab key bs)) (by kernel_rfl) (by kernel_rfl) (by rw [nn_len]; exact macN_len _ _ _) (by rw [nn_len]; exact macN_len _ _ _) (.inr rfl) false (by simp)) ⟨BL, D2, b4, b9, K, L, by omega⟩ ?_
        simp only [List.set_cons_zero, List.set_cons_succ]
        refine zd (by kernel_rfl) ?_ _
        refine hK11 _ _ ?_
        refine cF ?_
        refine wp_skip ?_
        refine hK10 _ _ ?_
        refine wp_seq_k fun K12 hK12 => ?_
        have e10 := drew_e0 w14
        refine zg (fun w_ => Bl w.heap.size w w_ ∧ SL .u8 w_ vb (nn bs) ∧ Blk .u32 w_ w.heap.size 26 (nn tab) ∧ Blk .u8 w_ w4.heap.size 28 (nn (macN tab key bs)) ∧ SL .u8 w_ kv (nn ks) ∧ Own 5 .u8 w10.heap.size w_ va1 (nn ks ++ List.replicate (m % (65 - ks.length)) 0) ∧ w14.heap.size ≤ w_.heap.size) (fun w_ => Bl w.heap.size w w_ ∧ SL .u8 w_ vb (nn bs) ∧ Blk .u32 w_ w.heap.size 26 (nn tab) ∧ Blk .u8 w_ w4.heap.size 28 (nn (macN tab key bs)) ∧ SL .u8 w_ kv (nn ks) ∧ Own 5 .u8 w10.heap.size w_ va1 (nn ks ++ List.replicate (m % (65 - ks.length)) 0) ∧ w14.heap.size ≤ w_.heap.size) 100000 4 ⟨BL.e0 e10, D2.e0 e10, b4.e0 e10, b9.e0 e10, K.e0 e10, L.e0 e10, Nat.le_refl _⟩ ?_
        clear BL D2 b4 b9 K L
        clear e10
        intro w15
        rintro ⟨BL, D2, b4, b9, K, L, z3⟩
        refine zo2 0 1 rfl rfl ?_ ?_
        · skip
          refine xMakeN 48 _ _ 43 5 .u8 1 rfl Try.underlying43 (by kernel_rfl) 64 (by kernel_rfl) (by kernel_rfl) (by unfold maxLen; omega) (by omega) ?_
          intro w16 n4
          have zn4 := n4.z
          have b48 : Blk .u8 w16 w15.heap.size 5 (nn (List.replicate 64 0)) := by rw [nn_rep]; exact n4.c
          replace BL := BL.e0 n4.e
          replace D2 := D2.e0 n4.e
          replace b4 := b4.e0 n4.e
          replace b9 := b9.e0 n4.e
          replace K := K.e0 n4.e
          replace L := L.e0 n4.e
          refine ze 0 ⟨BL, D2, b4, b9, K, L, by omega⟩ ?_
          simp only [List.set_cons_zero, List.set_cons_succ]
          refine zv 2 12 (.slice (some ⟨w15.heap.size, 0, none⟩) 64 64) (fun _ _ => .of) ⟨BL, D2, b4, b9, K, L, by omega⟩ ?_
          simp only [List.set_cons_zero, List.set_cons_succ]
          refine zo1 1 rfl ?_
          refine xMakeN 49 _ _ 43 5 .u8 1 rfl Try.underlying43 (by kernel_rfl) 64 (by kernel_rfl) (by kernel_rfl) (by unfold maxLen; omega) (by omega) ?_
          intro w17 n5
          have zn5 := n5.z
          have b49 : Blk .u8 w17 w16.heap.size 5 (nn (List.replicate 64 0)) := by rw [nn_rep]; exact n5.c
          replace BL := BL.e0 n5.e
          replace D2 := D2.e0 n5.e
          replace b4 := b4.e0 n5.e
          replace b9 := b9.e0 n5.e
          replace K := K.e0 n5.e
          replace L := L.e0 n5.e
          replace b48 := b48.e0 n5.e
          refine ze 1 ⟨BL, D2, b4, b9, K, L, by omega⟩ ?_
          simp only [List.set_cons_zero, List.set_cons_succ]
          refine zv 3 13 (.slice (some ⟨w16.heap.size, 0, none⟩) 64 64) (fun _ _ => .of) ⟨BL, D2, b4, b9, K, L, by omega⟩ ?_
          simp only [List.set_cons_zero, List.set_cons_succ]
          refine zd (by kernel_rfl) ?_ _
          refine hK12 _ _ ?_
          refine wp_seq_k fun K13 hK13 => ?_
          refine cPlain ?_
          refine sv 50 (.slice (some ⟨w15.heap.size, 0, none⟩) 64 64) .of ?_
          simp only [List.set_cons_zero, List.set_cons_succ]
          refine sv 51 (kv) .of ?_
          simp only [List.set_cons_zero, List.set_cons_succ]
          refine xCopy 52 (.tmp 50) (.tmp 51) 43 43 5 rfl Try.underlying43 (by kernel_rfl) w15.heap.size 0 64 64 5 ((nn (List.replicate 64 0)).map (Value.int .u8)) .u8 kv (nn ks) (by kernel_rfl) (by kernel_rfl) b48.cel K ks.length (by rw [nn_len]; omega) (by rw [List.length_map, nn_len, List.length_replicate]; omega) ((nn (padK ks)).map (Value.int .u8)) (overV_pad hJ1_1) ?_
          intro w18 t3
          have zt3 := t3.z
          have BL_ := BL.ev t3.e (fun i h => show w.heap.size ≤ i by have h : i = w15.heap.size := h; omega)
          have D2_ := D2.ev t3.e (fun i hi => show ¬ (i = w15.heap.size) by have := hd2 i hi; omega)
          have b4_ := b4.ev t3.e (show ¬ (w.heap.size = w15.heap.size) by omega)
          have b9_ := b9.ev t3.e (show ¬ (w4.heap.size = w15.heap.size) by omega)
          have K_ := K.ev t3.e (fun i hi => show ¬ (i = w15.heap.size) by have := hkl i hi; omega)
          have L_ := L.ev t3.e (fun i hi => show ¬ (i = w15.heap.size) by have := lL_2 i hi; omega)
          have b49_ := b49.ev t3.e (show ¬ (w16.heap.size = w15.heap.size) by omega)
          replace BL := BL_; clear BL_
          replace D2 := D2_; clear D2_
          replace b4 := b4_; clear b4_
          replace b9 := b9_; clear b9_
          replace K := K_; clear K_
          replace L := L_; clear L_
          replace b49 := b49_; clear b49_
          replace b48 : Blk .u8 w18 w15.heap.size 5 (nn (padK ks)) := t3.c
          clear t3
          simp only [List.set_cons_zero, List.set_cons_succ]
          refine wpList_nil ?_
          refine hK13 _ _ ?_
          refine wp_seq_k fun K14 hK14 => ?_
          refine cPlain ?_
          refine sv 53 (.slice (some ⟨w16.heap.size, 0, none⟩) 64 64) .of ?_
          simp only [List.set_cons_zero, List.set_cons_succ]
          refine sv 54 (kv) .of ?_
          simp only [List.set_cons_zero, List.set_cons_succ]
          refine xCopy 55 (.tmp 53) (.tmp 54) 43 43 5 rfl Try.underlying43 (by kernel_rfl) w16.heap.size 0 64 64 5 ((nn (List.replicate 64 0)).map (Value.int .u8)) .u8 kv (nn ks) (by kernel_rfl) (by kernel_rfl) b49.cel K ks.length (by rw [nn_len]; omega) (by rw [List.length_map, nn_len, List.length_replicate]; omega) ((nn (padK ks)).map (Value.int .u8)) (overV_pad hJ1_1) ?_
          intro w19 t4
          have zt4 := t4.z
          have BL_ := BL.ev t4.e (fun i h => show w.heap.size ≤ i by have h : i = w16.heap.size := h; omega)
          have D2_ := D2.ev t4.e (fun i hi => show ¬ (i = w16.heap.size) by have := hd2 i hi; omega)
          have b4_ := b4.ev t4.e (show ¬ (w.heap.size = w16.heap.size) by omega)
          have b9_ := b9.ev t4.e (show ¬ (w4.heap.size = w16.heap.size) by omega)
          have K_ := K.ev t4.e (fun i hi => show ¬ (i = w16.heap.size) by have := hkl i hi; omega)
          have L_ := L.ev t4.e (fun i hi => show ¬ (i = w16.heap.size) by have := lL_2 i hi; omega)
          have b48_ := b48.ev t4.e (show ¬ (w15.heap.size = w16.heap.size) by omega)
          replace BL := BL_; clear BL_
          replace D2 := D2_; clear D2_
          replace b4 := b4_; clear b4_
          replace b9 := b9_; clear b9_
          replace K := K_; clear K_
          replace L := L_; clear L_
          replace b48 := b48_; clear b48_
          replace b49 : Blk .u8 w19 w16.heap.size 5 (nn (padK ks)) := t4.c
          clear t4
          simp only [List.set_cons_zero, List.set_cons_succ]
          refine wpList_nil ?_
          refine hK14 _ _ ?_
          refine wp_seq_k fun K15 hK15 => ?_
          refine wp_seq_k fun K16 hK16 => ?_
          refine cPlain ?_
          refine sv 56 (.slice (some ⟨w15.heap.size, 0, none⟩) 64 64) .of ?_
          simp only [List.set_cons_zero, List.set_cons_succ]
          refine sv 57 (.int .i64 ((64 : Nat) : Int)) .of ?_
          simp only [List.set_cons_zero, List.set_cons_succ]
          refine sv 58 (.int .i64 0) .of ?_
          simp only [List.set_cons_zero, List.set_cons_succ]
          refine wpList_nil ?_
          refine hK16 _ _ ?_
          refine wp_block ?_
          refine cLoop (fun N_ A_ w_ => ∃ (k : Nat), (N_ = 64 - k ∧ (k ≤ 64) ∧ (∃ s2 : Nat → Value, A_ = ⟨[.agg (cellsOf .u32 (nn tab)), kv, vb, .int .u8 ((m : Nat) : Int), .pointer (some ⟨w.heap.size, 0, none⟩), undef, undef, undef, .bool false, .pointer (some ⟨w4.heap.size, 0, none⟩), (s1 10), va1, .slice (some ⟨w15.heap.size, 0, none⟩) 64 64, .slice (some ⟨w16.heap.size, 0, none⟩) 64 64, (s2 14), undef, v, .int .i64 ((key.length : Nat) : Int), .bool false, .bool false, vb, .int .i64 ((bs.length : Nat) : Int), .bool (decide (200 < ((bs.length : Nat) : Int))), .bool (decide (200 < ((bs.length : Nat) : Int))), undef, v, vb, .agg (cellsOf .u8 (nn (macN tab key bs))), (s1 28), (s1 29), (s1 30), (s1 31), (s1 32), (s1 33), kv, uL, .int .u8 ((m : Nat) : Int), .int .i64 ((m : Nat) : Int), kv, .int .i64 ((ks.length : Nat) : Int), .int .i64 ((65 - ks.length : Nat) : Int), .int .i64 ((m % (65 - ks.length) : Nat) : Int), va1, va1, vb, .agg (cellsOf .u8 (nn (macN tab key bs))), .agg (cellsOf .u8 (nn (macN tab key bs))), .bool false, .slice (some ⟨w15.heap.size, 0, none⟩) 64 64, .slice (some ⟨w16.heap.size, 0, none⟩) 64 64, .slice (some ⟨w15.heap.size, 0, none⟩) 64 64, kv, .int .i64 (ks.length : Int), .slice (some ⟨w16.heap.size, 0, none⟩) 64 64, kv, .int .i64 (ks.length : Int), .slice (some ⟨w15.heap.size, 0, none⟩) 64 64, .int .i64 ((64 : Nat) : Int), .int .i64 ((k : Nat) : Int), (s2 59), (s2 60), (s2 61), (s2 62), (s2 63), (s2 64), (s2 65), (s2 66), (s2 67), (s2 68), (s2 69), (s2 70), (s2 71), (s2 72), (s2 73), undef, undef, undef, undef, undef, undef, undef, undef, undef, undef, undef, undef, undef].toArray, []⟩) ∧ Bl w.heap.size w w_ ∧ SL .u8 w_ vb (nn bs) ∧ Blk .u32 w_ w.heap.size 26 (nn tab) ∧ Blk .u8 w_ w4.heap.size 28 (nn (macN tab key bs)) ∧ Blk .u8 w_ w15.heap.size 5 (nn (goK ks 54 k)) ∧ Blk .u8 w_ w16.heap.size 5 (nn (goK ks 92 k)) ∧ w19.heap.size ≤ w_.heap.size)) _ ⟨0, rfl, (Nat.zero_le _), cutE, BL, D2, b4, b9, (by rw [goK_0]; exact b48), (by rw [goK_0]; exact b49), Nat.le_refl _⟩ ?_
          clear BL D2 b4 b9 K L b48 b49
          rintro n_ a_ wl0 ⟨k, rfl, hc0_0, ⟨s2, rfl⟩, BL, D2, b4, b9, b48, b49, zl0⟩
          have hg1 := goK_len hJ1_1 54 k
          have hg2 := goK_len hJ1_1 92 k
          refine wp_seq_k fun K17 hK17 => ?_
          refine cPlain ?_
          refine sv 59 (.bool (decide (((k : Nat) : Int) < ((64 : Nat) : Int)))) (Val.cmp .lss 3 _ (.tmp 58) (.tmp 57) rfl .i64 ((k : Nat) : Int) ((64 : Nat) : Int) (by kernel_rfl) (by kernel_rfl) (by simp) _ rfl) ?_
          simp only [List.set_cons_zero, List.set_cons_succ]
          refine wpList_nil ?_
          refine hK17 _ _ ?_
          refine wp_seq_k fun K18 hK18 => ?_
          refine cDec (((k : Nat) : Int) < ((64 : Nat) : Int)) (by kernel_rfl) (fun c59 => ?_) (fun c59 => ?_)
          · skip
            refine wp_skip ?_
            refine hK18 _ _ ?_
            refine wp_seq_k fun K19 hK19 => ?_
            refine wp_block ?_
            refine wp_seq_k fun K20 hK20 => ?_
            refine cPlain ?_
            refine sv 60 (.int .i64 ((k : Nat) : Int)) .of ?_
            simp only [List.set_cons_zero, List.set_cons_succ]
            refine sv 14 (.int .i64 ((k : Nat) : Int)) .of ?_
            simp only [List.set_cons_zero, List.set_cons_succ]
            refine wpList_nil ?_
            refine hK20 _ _ ?_
            refine wp_seq_k fun K21 hK21 => ?_
            refine cPlain ?_
            refine sv 61 (.slice (some ⟨w15.heap.size, 0, none⟩) 64 64) .of ?_
            simp only [List.set_cons_zero, List.set_cons_succ]
            refine sv 62 (.int .i64 ((k : Nat) : Int)) .of ?_
            simp only [List.set_cons_zero, List.set_cons_succ]
            refine sv 63 (.pointer (some ⟨w15.heap.size, 0 + k * 1, none⟩)) (Val.idxS 43 (.tmp 61) (.tmp 62) rfl w15.heap.size 0 64 64 k (by kernel_rfl) (by kernel_rfl) 1 Try.underlying43 (by kernel_rfl) (by omega)) ?_
            simp only [List.set_cons_zero, List.set_cons_succ]
            refine sv 64 (.int .u8 (((goK ks 54 k).getD (0 + k * 1) 0 : Nat) : Int)) (Val.nblk1 5 _ rfl w15.heap.size (0 + k * 1) (by kernel_rfl) (fun _ => (by kernel_rfl)) b48 (by omega)) ?_
            simp only [List.set_cons_zero, List.set_cons_succ]
            refine sv 65 (.int .u8 (((((goK ks 54 k).getD (0 + k * 1) 0) ^^^ 54) % 256 : Nat) : Int)) (Val.xorN 5 _ (.tmp 64) _ rfl .u8 ((goK ks 54 k).getD (0 + k * 1) 0) 54 256 (by kernel_rfl) (by kernel_rfl)) ?_
            simp only [List.set_cons_zero, List.set_cons_succ]
            refine sv 66 (.pointer (some ⟨w15.heap.size, 0 + k * 1, none⟩)) (Val.idxS 43 (.tmp 61) (.tmp 62) rfl w15.heap.size 0 64 64 k (by kernel_rfl) (by kernel_rfl) 1 Try.underlying43 (by kernel_rfl) (by omega)) ?_
            simp only [List.set_cons_zero, List.set_cons_succ]
            refine xStoreNN 5 (.tmp 66) (.tmp 65) rfl .u8 w15.heap.size 5 (goK ks 54 k) (0 + k * 1) ((((goK ks 54 k).getD (0 + k * 1) 0) ^^^ 54) % 256) (by kernel_rfl) (by kernel_rfl) b48 (by kernel_rfl) (by omega) ?_
            intro w20 t5
            have zt5 := t5.z
            have BL_ := BL.ev t5.e (fun i h => show w.heap.size ≤ i by have h : i = w15.heap.size := h; omega)
            have D2_ := D2.ev t5.e (fun i hi => show ¬ (i = w15.heap.size) by have := hd2 i hi; omega)
            have b4_ := b4.ev t5.e (show ¬ (w.heap.size = w15.heap.size) by omega)
            have b9_ := b9.ev t5.e (show ¬ (w4.heap.size = w15.heap.size) by omega)
            have b49_ := b49.ev t5.e (show ¬ (w16.heap.size = w15.heap.size) by omega)
            replace BL := BL_; clear BL_
            replace D2 := D2_; clear D2_
            replace b4 := b4_; clear b4_
            replace b9 := b9_; clear b9_
            replace b49 := b49_; clear b49_
            replace b48 : Blk .u8 w20 w15.heap.size 5 (nn ((goK ks 54 k).set (0 + k * 1) ((((goK ks 54 k).getD (0 + k * 1) 0) ^^^ 54) % 256))) := t5.c
            clear t5
            refine wpList_nil ?_
            refine hK21 _ _ ?_
            refine cPlain ?_
            refine sv 67 (.slice (some ⟨w16.heap.size, 0, none⟩) 64 64) .of ?_
            simp only [List.set_cons_zero, List.set_cons_succ]
            refine sv 68 (.int .i64 ((k : Nat) : Int)) .of ?_
            simp only [List.set_cons_zero, List.set_cons_succ]
            refine sv 69 (.pointer (some ⟨w16.heap.size, 0 + k * 1, none⟩)) (Val.idxS 43 (.tmp 67) (.tmp 68) rfl w16.heap.size 0 64 64 k (by kernel_rfl) (by kernel_rfl) 1 Try.underlying43 (by kernel_rfl) (by omega)) ?_
            simp only [List.set_cons_zero, List.set_cons_succ]
            refine sv 70 (.int .u8 (((goK ks 92 k).getD (0 + k * 1) 0 : Nat) : Int)) (Val.nblk1 5 _ rfl w16.heap.size (0 + k * 1) (by kernel_rfl) (fun _ => (by kernel_rfl)) b49 (by omega)) ?_
            simp only [List.set_cons_zero, List.set_cons_succ]
            refine sv 71 (.int .u8 (((((goK ks 92 k).getD (0 + k * 1) 0) ^^^ 92) % 256 : Nat) : Int)) (Val.xorN 5 _ (.tmp 70) _ rfl .u8 ((goK ks 92 k).getD (0 + k * 1) 0) 92 256 (by kernel_rfl) (by kernel_rfl)) ?_
            simp only [List.set_cons_zero, List.set_cons_succ]
            refine sv 72 (.pointer (some ⟨w16.heap.size, 0 + k * 1, none⟩)) (Val.idxS 43 (.tmp 67) (.tmp 68) rfl w16.heap.size 0 64 64 k (by kernel_rfl) (by kernel_rfl) 1 Try.underlying43 (by kernel_rfl) (by omega)) ?_
            simp only [List.set_cons_zero, List.set_cons_succ]
            refine xStoreNN 5 (.tmp 72) (.tmp 71) rfl .u8 w16.heap.size 5 (goK ks 92 k) (0 + k * 1) ((((goK ks 92 k).getD (0 + k * 1) 0) ^^^ 92) % 256) (by kernel_rfl) (by kernel_rfl) b49 (by kernel_rfl) (by omega) ?_
            intro w21 t6
            have zt6 := t6.z
            have BL_ := BL.ev t6.e (fun i h => show w.heap.size ≤ i by have h : i = w16.heap.size := h; omega)
            have D2_ := D2.ev t6.e (fun i hi => show ¬ (i = w16.heap.size) by have := hd2 i hi; omega)
            have b4_ := b4.ev t6.e (show ¬ (w.heap.size = w16.heap.size) by omega)
            have b9_ := b9.ev t6.e (show ¬ (w4.heap.size = w16.heap.size) by omega)
            have b48_ := b48.ev t6.e (show ¬ (w15.heap.size = w16.heap.size) by omega)
            replace BL := BL_; clear BL_
            replace D2 := D2_; clear D2_
            replace b4 := b4_; clear b4_
            replace b9 := b9_; clear b9_
            replace b48 := b48_; clear b48_
            replace b49 : Blk .u8 w21 w16.heap.size 5 (nn ((goK ks 92 k).set (0 + k * 1) ((((goK ks 92 k).getD (0 + k * 1) 0) ^^^ 92) % 256))) := t6.c
            clear t6
            refine wpList_nil ?_
            refine hK19 _ _ ?_
            refine cPlain ?_
            refine sv 73 (.int .i64 (((k : Nat) : Int) + 1)) (Val.add 3 _ (.tmp 58) _ rfl ((k : Nat) : Int) 1 (by kernel_rfl) (by kernel_rfl) (by omega)) ?_
            simp only [List.set_cons_zero, List.set_cons_succ]
            refine sv 58 (.int .i64 (((k : Nat) : Int) + 1)) .of ?_
            simp only [List.set_cons_zero, List.set_cons_succ]
            refine wpList_nil ?_
            refine ⟨_, ?_, k + 1, rfl, (by omega), cutE, BL, D2, b4, b9, (by rw [← goK_step hJ1_1 54 k (by omega)]; simpa only [Nat.zero_add, Nat.mul_one] using b48), (by rw [← goK_step hJ1_1 92 k (by omega)]; simpa only [Nat.zero_add, Nat.mul_one] using b49), by omega⟩
            omega
          · skip
            have hk54 : nn (goK ks 54 k) = nn (turnK ks 54) := by rw [show k = 64 by omega, goK_64 hJ1_1]
            have hk92 : nn (goK ks 92 k) = nn (turnK ks 92) := by rw [show k = 64 by omega, goK_64 hJ1_1]
            refine wp_exit ?_
            simp only [Exit.then, Exit.inBlock, ↓reduceIte, Nat.reduceEqDiff]
            refine hK15 _ _ ?_
            refine wp_seq_k fun K22 hK22 => ?_
            have ht54 := turnK_len hJ1_1 54
            have ht92 := turnK_len hJ1_1 92
            have hof := ofN_32 tab (turnK ks 54 ++ bs)
            have lI0 : ∀ i, Value.ownBlock (.slice (some ⟨w15.heap.size, 0, none⟩) 64 64) = some i → w15.heap.size ≤ i ∧ i < w15.heap.size + 1 := ownB_lit (by omega)
            have I : Own 5 .u8 w15.heap.size wl0 (.slice (some ⟨w15.heap.size, 0, none⟩) 64 64) (nn (turnK ks 54)) := (Own.ofBlk (by rw [← hk54]; exact b48) (by rw [nn_len]; exact turnK_len hJ1_1 _) (by unfold maxLen; omega))
            clear b48
            have lO0 : ∀ i, Value.ownBlock (.slice (some ⟨w16.heap.size, 0, none⟩) 64 64) = some i → w16.heap.size ≤ i ∧ i < w16.heap.size + 1 := ownB_lit (by omega)
            have O : Own 5 .u8 w16.heap.size wl0 (.slice (some ⟨w16.heap.size, 0, none⟩) 64 64) (nn (turnK ks 92)) := (Own.ofBlk (by rw [← hk92]; exact b49) (by rw [nn_len]; exact turnK_len hJ1_1 _) (by unfold maxLen; omega))
            clear b49
            refine cPlain ?_
            refine sv 74 (.slice (some ⟨w15.heap.size, 0, none⟩) 64 64) .of ?_
            simp only [List.set_cons_zero, List.set_cons_succ]
            refine sv 75 (vb) .of ?_
            simp only [List.set_cons_zero, List.set_cons_succ]
            refine xApp 76 (.tmp 74) (.tmp 75) 43 5 .u8 1 rfl Try.underlying43 (by kernel_rfl) w15.heap.size (.slice (some ⟨w15.heap.size, 0, none⟩) 64 64) (nn (turnK ks 54)) (by kernel_rfl) I vb (nn bs) (by kernel_rfl) D2 ?va2_1 ?va2_2 ?va2_3 ?_
            case va2_1 => (simp only [nn_len, List.length_append]; omega)
            case va2_2 => (simp only [nn_len, List.length_append]; unfold maxLen; omega)
            case va2_3 => omega
            intro va2 w22 rva2 e11
            have ze11 := e11.size
            have BL_ := BL.ev e11 (fun i h => by have := lI0 _ h; omega)
            have D2_ := D2.ev e11 (fun i hi h => by have := hd2 i hi; have := lI0 _ h; omega)
            have b4_ := b4.ev e11 (fun h => by have := lI0 _ h; omega)
            have b9_ := b9.ev e11 (fun h => by have := lI0 _ h; omega)
            have O_ := O.ev e11 (fun i hi h => by have := lO0 i hi; have := lI0 _ h; omega)
            replace BL := BL_; clear BL_
            replace D2 := D2_; clear D2_
            replace b4 := b4_; clear b4_
            replace b9 := b9_; clear b9_
            replace O := O_; clear O_
            replace I := rva2
            clear rva2 e11
            have lI_1 := I.ge
            simp only [List.set_cons_zero, List.set_cons_succ]
            refine xCall 77 22 #[.pointer (some ⟨w.heap.size, 0, none⟩), va2] (by kernel_rfl) ?_
            refine (of_any w.heap.size tab (turnK ks 54 ++ bs) _ ht w22 b4 (I.sl.castM rfl (nn_app _ _).symm) (by rw [List.length_append, turnK_len hJ1_1]; omega)).mono ?_
            rintro en w23 ⟨rfl, hb1⟩
            have e12 := belE0 hb1
            have ze12 := e12.size
            replace BL := BL.e0 e12
            replace D2 := D2.e0 e12
            replace b4 := b4.e0 e12
            replace b9 := b9.e0 e12
            replace I := I.e0 e12
            replace O := O.e0 e12
            clear e12
            refine ⟨.agg (cellsOf .u8 (nn (ofN tab (turnK ks 54 ++ bs)))), rfl, ?_⟩
            simp only [List.set_cons_zero, List.set_cons_succ]
            refine xAlloc 15 28 ((nn (List.replicate 32 0)).map (Value.int .u8)) rfl (by kernel_rfl) ?_
            intro w24 n6
            have zn6 := n6.z
            have b15 := n6.c
            replace b15 : Blk .u8 w24 w23.heap.size 28 (nn (List.replicate 32 0)) := b15
            replace BL := BL.e0 n6.e
            replace D2 := D2.e0 n6.e
            replace b4 := b4.e0 n6.e
            replace b9 := b9.e0 n6.e
            replace I := I.e0 n6.e
            replace O := O.e0 n6.e
            simp only [List.set_cons_zero, List.set_cons_succ]
            refine xStoreA 28 (.tmp 15) (.tmp 77) rfl .u8 w23.heap.size 28 (nn (List.replicate 32 0)) 0 (nn (ofN tab (turnK ks 54 ++ bs))) (by kernel_rfl) (by kernel_rfl) b15 (by rw [show (nn (ofN tab (turnK ks 54 ++ bs))).length = 32 by ((try simp only [nn_len, List.length_replicate]); try omega)]; kernel_rfl) (by (try simp only [nn_len, List.length_replicate]); try omega) (nn (ofN tab (turnK ks 54 ++ bs))) (over_whole _ _ (by (try simp only [nn_len, List.length_replicate]); try omega)) ?_
            intro w25 t7
            have zt7 := t7.z
            have BL_ := BL.ev t7.e (fun i h => show w.heap.size ≤ i by have h : i = w23.heap.size := h; omega)
            have D2_ := D2.ev t7.e (fun i hi => show ¬ (i = w23.heap.size) by have := hd2 i hi; omega)
            have b4_ := b4.ev t7.e (show ¬ (w.heap.size = w23.heap.size) by omega)
            have b9_ := b9.ev t7.e (show ¬ (w4.heap.size = w23.heap.size) by omega)
            have I_ := I.ev t7.e (fun i hi => show ¬ (i = w23.heap.size) by have := lI_1 i hi; omega)
            have O_ := O.ev t7.e (fun i hi => show ¬ (i = w23.heap.size) by have := lO0 i hi; omega)
            replace BL := BL_; clear BL_
            replace D2 := D2_; clear D2_
            replace b4 := b4_; clear b4_
            replace b9 := b9_; clear b9_
            replace I := I_; clear I_
            replace O := O_; clear O_
            replace b15 : Blk .u8 w25 w23.heap.size 28 (nn (ofN tab (turnK ks 54 ++ bs))) := t7.c
            clear t7
            refine wpList_nil ?_
            refine hK22 _ _ ?_
            refine wp_seq_k fun K23 hK23 => ?_
            clear I
            have e13 := drew_e0 w25
            refine zg (fun w_ => Bl w.heap.size w w_ ∧ SL .u8 w_ vb (nn bs) ∧ Blk .u32 w_ w.heap.size 26 (nn tab) ∧ Blk .u8 w_ w4.heap.size 28 (nn (macN tab key bs)) ∧ Blk .u8 w_ w23.heap.size 28 (nn (ofN tab (turnK ks 54 ++ bs))) ∧ w25.heap.size ≤ w_.heap.size) (fun w_ => Bl w.heap.size w w_ ∧ SL .u8 w_ vb (nn bs) ∧ Blk .u32 w_ w.heap.size 26 (nn tab) ∧ Blk .u8 w_ w4.heap.size 28 (nn (macN tab key bs)) ∧ Own 5 .u8 w16.heap.size w_ (.slice (some ⟨w16.heap.size, 0, none⟩) 64 64) (nn (turnK ks 92)) ∧ Blk .u8 w_ w23.heap.size 28 (nn (ofN tab (turnK ks 54 ++ bs))) ∧ w25.heap.size ≤ w_.heap.size) 100000 10 ⟨BL.e0 e13, D2.e0 e13, b4.e0 e13, b9.e0 e13, O.e0 e13, b15.e0 e13, Nat.le_refl _⟩ ?_
            clear BL D2 b4 b9 O b15
            clear e13
            intro w26
            rintro ⟨BL, D2, b4, b9, O, b15, z4⟩
            refine zv 0 78 (.slice (some ⟨w16.heap.size, 0, none⟩) 64 64) (fun _ _ => .of) ⟨BL, D2, b4, b9, b15, by omega⟩ ?_
            simp only [List.set_cons_zero, List.set_cons_succ]
            refine zv 1 79 (.slice (some ⟨w23.heap.size, 0, none⟩) 32 32) (fun _ _ => .of) ⟨BL, D2, b4, b9, b15, by omega⟩ ?_
            simp only [List.set_cons_zero, List.set_cons_succ]
            refine zv 4 82 (.agg (cellsOf .u8 (nn (macN tab key bs)))) (fun _ ⟨BL, D2, b4, b9, b15, z4⟩ => Val.blk 28 _ rfl 0 32 (by kernel_rfl) b9 _ Try.underlying28 rfl (by kernel_rfl) (by (try simp only [nn_len, List.length_replicate]); try omega) _ (seg_all' _ (by (try simp only [nn_len, List.length_replicate]); try omega))) ⟨BL, D2, b4, b9, b15, by omega⟩ ?_
            simp only [List.set_cons_zero, List.set_cons_succ]
            refine zo1 2 rfl ?_
            refine xApp 80 (.tmp 78) (.tmp 79) 43 5 .u8 1 rfl Try.underlying43 (by kernel_rfl) w16.heap.size (.slice (some ⟨w16.heap.size, 0, none⟩) 64 64) (nn (turnK ks 92)) (by kernel_rfl) O (.slice (some ⟨w23.heap.size, 0, none⟩) 32 32) (nn (ofN tab (turnK ks 54 ++ bs))) (by kernel_rfl) (SL.ofBlk b15 (by (try simp only [nn_len, List.length_replicate]); try omega) (by unfold maxLen; omega)) ?va3_1 ?va3_2 ?va3_3 ?_
            case va3_1 => (simp only [nn_len, List.length_append]; omega)
            case va3_2 => (simp only [nn_len, List.length_append]; unfold maxLen; omega)
            case va3_3 => omega
            intro va3 w27 rva3 e14
            have ze14 := e14.size
            have BL_ := BL.ev e14 (fun i h => by have := lO0 _ h; omega)
            have D2_ := D2.ev e14 (fun i hi h => by have := hd2 i hi; have := lO0 _ h; omega)
            have b4_ := b4.ev e14 (fun h => by have := lO0 _ h; omega)
            have b9_ := b9.ev e14 (fun h => by have := lO0 _ h; omega)
            have b15_ := b15.ev e14 (fun h => by have := lO0 _ h; omega)
            replace BL := BL_; clear BL_
            replace D2 := D2_; clear D2_
            replace b4 := b4_; clear b4_
            replace b9 := b9_; clear b9_
            replace b15 := b15_; clear b15_
            replace O := rva3
            clear rva3 e14
            have lO_1 := O.ge
            refine ze 2 ⟨BL, D2, b4, b9, b15, by omega⟩ ?_
            simp only [List.set_cons_zero, List.set_cons_succ]
            refine zo1 3 rfl ?_
            refine xCall 81 22 #[.pointer (some ⟨w.heap.size, 0, none⟩), va3] (by kernel_rfl) ?_
            refine (of_any w.heap.size tab (turnK ks 92 ++ ofN tab (turnK ks 54 ++ bs)) _ ht w27 b4 (O.sl.castM rfl (nn_app _ _).symm) (by rw [List.length_append, turnK_len hJ1_1, ofN_32]; omega)).mono ?_
            rintro en w28 ⟨he, hb1⟩
            rw [mac_two hJ1_0] at he
            subst he
            have e15 := belE0 hb1
            have ze15 := e15.size
            replace BL := BL.e0 e15
            replace D2 := D2.e0 e15
            replace b4 := b4.e0 e15
            replace b9 := b9.e0 e15
            replace O := O.e0 e15
            replace b15 := b15.e0 e15
            clear e15
            refine ⟨.agg (cellsOf .u8 (nn (macN tab key bs))), rfl, ?_⟩
            refine ze 3 ⟨BL, D2, b4, b9, b15, by omega⟩ ?_
            simp only [List.set_cons_zero, List.set_cons_succ]
            refine zv 5 83 (.bool true) (fun _ ⟨BL, D2, b4, b9, b15, z4⟩ => Val.eqA .eql 28 _ (.tmp 81) (.tmp 82) rfl Try.underlying28 Try.underlying5 (by kernel_rfl) (by kernel_rfl) (nn (macN tab key bs)) (nn (macN tab key bs)) (by kernel_rfl) (by kernel_rfl) (by rw [nn_len]; exact macN_len _ _ _) (by rw [nn_len]; exact macN_len _ _ _) (.inl rfl) true (by simp)) ⟨BL, D2, b4, b9, b15, by omega⟩ ?_
            simp only [List.set_cons_zero, List.set_cons_succ]
            refine zv 6 84 (.bool true) (fun _ _ => .of) ⟨BL, D2, b4, b9, b15, by omega⟩ ?_
            simp only [List.set_cons_zero, List.set_cons_succ]
            refine zo1 7 rfl ?_
            refine xCall 85 24 #[] (by kernel_rfl) ?_
            refine (awake03_any w28).mono ?_
            rintro en w29 ⟨rfl, hb1⟩
            have e16 := belE0 hb1
            have ze16 := e16.size
            replace BL := BL.e0 e16
            replace D2 := D2.e0 e16
            replace b4 := b4.e0 e16
            replace b9 := b9.e0 e16
            replace O := O.e0 e16
            replace b15 := b15.e0 e16
            clear e16
            refine ⟨.bool true, rfl, ?_⟩
            refine ze 7 ⟨BL, D2, b4, b9, b15, by omega⟩ ?_
            simp only [List.set_cons_zero, List.set_cons_succ]
            refine zv 8 86 (.bool true) (fun _ _ => .of) ⟨BL, D2, b4, b9, b15, by omega⟩ ?_
            simp only [List.set_cons_zero, List.set_cons_succ]
            refine zv 9 8 (.bool true) (fun _ _ => .of) ⟨BL, D2, b4, b9, b15, by omega⟩ ?_
            simp only [List.set_cons_zero, List.set_cons_succ]
            refine zd (by kernel_rfl) ?_ _
            refine hK23 _ _ ?_
            refine wp_ret ?_
            (try simp only [Exit.then, Exit.inBlock])
            refine bodyPost_ret (v := .bool true) rT rfl ?_
            exact ⟨rfl, BL.b⟩
        · skip
          refine xMakeN 49 _ _ 43 5 .u8 1 rfl Try.underlying43 (by kernel_rfl) 64 (by kernel_rfl) (by kernel_rfl) (by unfold maxLen; omega) (by omega) ?_
          intro w30 n7
          have zn7 := n7.z
          have b49 : Blk .u8 w30 w15.heap.size 5 (nn (List.replicate 64 0)) := by rw [nn_rep]; exact n7.c
          replace BL := BL.e0 n7.e
          replace D2 := D2.e0 n7.e
          replace b4 := b4.e0 n7.e
          replace b9 := b9.e0 n7.e
          replace K := K.e0 n7.e
          replace L := L.e0 n7.e
          refine ze 1 ⟨BL, D2, b4, b9, K, L, by omega⟩ ?_
          simp only [List.set_cons_zero, List.set_cons_succ]
          refine zo1 0 rfl ?_
          refine xMakeN 48 _ _ 43 5 .u8 1 rfl Try.underlying43 (by kernel_rfl) 64 (by kernel_rfl) (by kernel_rfl) (by unfold maxLen; omega) (by omega) ?_
          intro w31 n8
          have zn8 := n8.z
          have b48 : Blk .u8 w31 w30.heap.size 5 (nn (List.replicate 64 0)) := by rw [nn_rep]; exact n8.c
          replace BL := BL.e0 n8.e
          replace D2 := D2.e0 n8.e
          replace b4 := b4.e0 n8.e
          replace b9 := b9.e0 n8.e
          replace K := K.e0 n8.e
          replace L := L.e0 n8.e
          replace b49 := b49.e0 n8.e
          refine ze 0 ⟨BL, D2, b4, b9, K, L, by omega⟩ ?_
          simp only [List.set_cons_zero, List.set_cons_succ]
          refine zv 2 12 (.slice (some ⟨w30.heap.size, 0, none⟩) 64 64) (fun _ _ => .of) ⟨BL, D2, b4, b9, K, L, by omega⟩ ?_
          simp only [List.set_cons_zero, List.set_cons_succ]
          refine zv 3 13 (.slice (some ⟨w15.heap.size, 0, none⟩) 64 64) (fun _ _ => .of) ⟨BL, D2, b4, b9, K, L, by omega⟩ ?_
          simp only [List.set_cons_zero, List.set_cons_succ]
          refine zd (by kernel_rfl) ?_ _
          refine hK12 _ _ ?_
          refine wp_seq_k fun K24 hK24 => ?_
          refine cPlain ?_
          refine sv 50 (.slice (some ⟨w30.heap.size, 0, none⟩) 64 64) .of ?_
          simp only [List.set_cons_zero, List.set_cons_succ]
          refine sv 51 (kv) .of ?_
          simp only [List.set_cons_zero, List.set_cons_succ]
          refine xCopy 52 (.tmp 50) (.tmp 51) 43 43 5 rfl Try.underlying43 (by kernel_rfl) w30.heap.size 0 64 64 5 ((nn (List.replicate 64 0)).map (Value.int .u8)) .u8 kv (nn ks) (by kernel_rfl) (by kernel_rfl) b48.cel K ks.length (by rw [nn_len]; omega) (by rw [List.length_map, nn_len, List.length_replicate]; omega) ((nn (padK ks)).map (Value.int .u8)) (overV_pad hJ1_1) ?_
          intro w32 t8
          have zt8 := t8.z
          have BL_ := BL.ev t8.e (fun i h => show w.heap.size ≤ i by have h : i = w30.heap.size := h; omega)
          have D2_ := D2.ev t8.e (fun i hi => show ¬ (i = w30.heap.size) by have := hd2 i hi; omega)
          have b4_ := b4.ev t8.e (show ¬ (w.heap.size = w30.heap.size) by omega)
          have b9_ := b9.ev t8.e (show ¬ (w4.heap.size = w30.heap.size) by omega)
          have K_ := K.ev t8.e (fun i hi => show ¬ (i = w30.heap.size) by have := hkl i hi; omega)
          have L_ := L.ev t8.e (fun i hi => show ¬ (i = w30.heap.size) by have := lL_2 i hi; omega)
          have b49_ := b49.ev t8.e (show ¬ (w15.heap.size = w30.heap.size) by omega)
          replace BL := BL_; clear BL_
          replace D2 := D2_; clear D2_
          replace b4 := b4_; clear b4_
          replace b9 := b9_; clear b9_
          replace K := K_; clear K_
          replace L := L_; clear L_
          replace b49 := b49_; clear b49_
          replace b48 : Blk .u8 w32 w30.heap.size 5 (nn (padK ks)) := t8.c
          clear t8
          simp only [List.set_cons_zero, List.set_cons_succ]
          refine wpList_nil ?_
          refine hK24 _ _ ?_
          refine wp_seq_k fun K25 hK25 => ?_
          refine cPlain ?_
          refine sv 53 (.slice (some ⟨w15.heap.size, 0, none⟩) 64 64) .of ?_
          simp only [List.set_cons_zero, List.set_cons_succ]
          refine sv 54 (kv) .of ?_
          simp only [List.set_cons_zero, List.set_cons_succ]
          refine xCopy 55 (.tmp 53) (.tmp 54) 43 43 5 rfl Try.underlying43 (by kernel_rfl) w15.heap.size 0 64 64 5 ((nn (List.replicate 64 0)).map (Value.int .u8)) .u8 kv (nn ks) (by kernel_rfl) (by kernel_rfl) b49.cel K ks.length (by rw [nn_len]; omega) (by rw [List.length_map, nn_len, List.length_replicate]; omega) ((nn (padK ks)).map (Value.int .u8)) (overV_pad hJ1_1) ?_
          intro w33 t9
          have zt9 := t9.z
          have BL_ := BL.ev t9.e (fun i h => show w.heap.size ≤ i by have h : i = w15.heap.size := h; omega)
          have D2_ := D2.ev t9.e (fun i hi => show ¬ (i = w15.heap.size) by have := hd2 i hi; omega)
          have b4_ := b4.ev t9.e (show ¬ (w.heap.size = w15.heap.size) by omega)
          have b9_ := b9.ev t9.e (show ¬ (w4.heap.size = w15.heap.size) by omega)
          have K_ := K.ev t9.e (fun i hi => show ¬ (i = w15.heap.size) by have := hkl i hi; omega)
          have L_ := L.ev t9.e (fun i hi => show ¬ (i = w15.heap.size) by have := lL_2 i hi; omega)
          have b48_ := b48.ev t9.e (show ¬ (w30.heap.size = w15.heap.size) by omega)
          replace BL := BL_; clear BL_
          replace D2 := D2_; clear D2_
          replace b4 := b4_; clear b4_
          replace b9 := b9_; clear b9_
          replace K := K_; clear K_
          replace L := L_; clear L_
          replace b48 := b48_; clear b48_
          replace b49 : Blk .u8 w33 w15.heap.size 5 (nn (padK ks)) := t9.c
          clear t9
          simp only [List.set_cons_zero, List.set_cons_succ]
          refine wpList_nil ?_
          refine hK25 _ _ ?_
          refine wp_seq_k fun K26 hK26 => ?_
          refine wp_seq_k fun K27 hK27 => ?_
          refine cPlain ?_
          refine sv 56 (.slice (some ⟨w30.heap.size, 0, none⟩) 64 64) .of ?_
          simp only [List.set_cons_zero, List.set_cons_succ]
          refine sv 57 (.int .i64 ((64 : Nat) : Int)) .of ?_
          simp only [List.set_cons_zero, List.set_cons_succ]
          refine sv 58 (.int .i64 0) .of ?_
          simp only [List.set_cons_zero, List.set_cons_succ]
          refine wpList_nil ?_
          refine hK27 _ _ ?_
          refine wp_block ?_
          refine cLoop (fun N_ A_ w_ => ∃ (k : Nat), (N_ = 64 - k ∧ (k ≤ 64) ∧ (∃ s3 : Nat → Value, A_ = ⟨[.agg (cellsOf .u32 (nn tab)), kv, vb, .int .u8 ((m : Nat) : Int), .pointer (some ⟨w.heap.size, 0, none⟩), undef, undef, undef, .bool false, .pointer (some ⟨w4.heap.size, 0, none⟩), (s1 10), va1, .slice (some ⟨w30.heap.size, 0, none⟩) 64 64, .slice (some ⟨w15.heap.size, 0, none⟩) 64 64, (s3 14), undef, v, .int .i64 ((key.length : Nat) : Int), .bool false, .bool false, vb, .int .i64 ((bs.length : Nat) : Int), .bool (decide (200 < ((bs.length : Nat) : Int))), .bool (decide (200 < ((bs.length : Nat) : Int))), undef, v, vb, .agg (cellsOf .u8 (nn (macN tab key bs))), (s1 28), (s1 29), (s1 30), (s1 31), (s1 32), (s1 33), kv, uL, .int .u8 ((m : Nat) : Int), .int .i64 ((m : Nat) : Int), kv, .int .i64 ((ks.length : Nat) : Int), .int .i64 ((65 - ks.length : Nat) : Int), .int .i64 ((m % (65 - ks.length) : Nat) : Int), va1, va1, vb, .agg (cellsOf .u8 (nn (macN tab key bs))), .agg (cellsOf .u8 (nn (macN tab key bs))), .bool false, .slice (some ⟨w30.heap.size, 0, none⟩) 64 64, .slice (some ⟨w15.heap.size, 0, none⟩) 64 64, .slice (some ⟨w30.heap.size, 0, none⟩) 64 64, kv, .int .i64 (ks.length : Int), .slice (some ⟨w15.heap.size, 0, none⟩) 64 64, kv, .int .i64 (ks.length : Int), .slice (some ⟨w30.heap.size, 0, none⟩) 64 64, .int .i64 ((64 : Nat) : Int), .int .i64 ((k : Nat) : Int), (s3 59), (s3 60), (s3 61), (s3 62), (s3 63), (s3 64), (s3 65), (s3 66), (s3 67), (s3 68), (s3 69), (s3 70), (s3 71), (s3 72), (s3 73), undef, undef, undef, undef, undef, undef, undef, undef, undef, undef, undef, undef, undef].toArray, []⟩) ∧ Bl w.heap.size w w_ ∧ SL .u8 w_ vb (nn bs) ∧ Blk .u32 w_ w.heap.size 26 (nn tab) ∧ Blk .u8 w_ w4.heap.size 28 (nn (macN tab key bs)) ∧ Blk .u8 w_ w15.heap.size 5 (nn (goK ks 92 k)) ∧ Blk .u8 w_ w30.heap.size 5 (nn (goK ks 54 k)) ∧ w33.heap.size ≤ w_.heap.size)) _ ⟨0, rfl, (Nat.zero_le _), cutE, BL, D2, b4, b9, (by rw [goK_0]; exact b49), (by rw [goK_0]; exact b48), Nat.le_refl _⟩ ?_
          clear BL D2 b4 b9 K L b49 b48
          rintro n_ a_ wl0 ⟨k, rfl, hc0_0, ⟨s3, rfl⟩, BL, D2, b4, b9, b49, b48, zl0⟩
          have hg1 := goK_len hJ1_1 54 k
          have hg2 := goK_len hJ1_1 92 k
          refine wp_seq_k fun K28 hK28 => ?_
          refine cPlain ?_
          refine sv 59 (.bool (decide (((k : Nat) : Int) < ((64 : Nat) : Int)))) (Val.cmp .lss 3 _ (.tmp 58) (.tmp 57) rfl .i64 ((k : Nat) : Int) ((64 : Nat) : Int) (by kernel_rfl) (by kernel_rfl) (by simp) _ rfl) ?_
          simp only [List.set_cons_zero, List.set_cons_succ]
          refine wpList_nil ?_
          refine hK28 _ _ ?_
          refine wp_seq_k fun K29 hK29 => ?_
          refine cDec (((k : Nat) : Int) < ((64 : Nat) : Int)) (by kernel_rfl) (fun c59 => ?_) (fun c59 => ?_)
          · skip
            refine wp_skip ?_
            refine hK29 _ _ ?_
            refine wp_seq_k fun K30 hK30 => ?_
            refine wp_block ?_
            refine wp_seq_k fun K31 hK31 => ?_
            refine cPlain ?_
            refine sv 60 (.int .i64 ((k : Nat) : Int)) .of ?_
            simp only [List.set_cons_zero, List.set_cons_succ]
            refine sv 14 (.int .i64 ((k : Nat) : Int)) .of ?_
            simp only [List.set_cons_zero, List.set_cons_succ]
            refine wpList_nil ?_
            refine hK31 _ _ ?_
            refine wp_seq_k fun K32 hK32 => ?_
            refine cPlain ?_
            refine sv 61 (.slice (some ⟨w30.heap.size, 0, none⟩) 64 64) .of ?_
            simp only [List.set_cons_zero, List.set_cons_succ]
            refine sv 62 (.int .i64 ((k : Nat) : Int)) .of ?_
            simp only [List.set_cons_zero, List.set_cons_succ]
            refine sv 63 (.pointer (some ⟨w30.heap.size, 0 + k * 1, none⟩)) (Val.idxS 43 (.tmp 61) (.tmp 62) rfl w30.heap.size 0 64 64 k (by kernel_rfl) (by kernel_rfl) 1 Try.underlying43 (by kernel_rfl) (by omega)) ?_
            simp only [List.set_cons_zero, List.set_cons_succ]
            refine sv 64 (.int .u8 (((goK ks 54 k).getD (0 + k * 1) 0 : Nat) : Int)) (Val.nblk1 5 _ rfl w30.heap.size (0 + k * 1) (by kernel_rfl) (fun _ => (by kernel_rfl)) b48 (by omega)) ?_
            simp only [List.set_cons_zero, List.set_cons_succ]
            refine sv 65 (.int .u8 (((((goK ks 54 k).getD (0 + k * 1) 0) ^^^ 54) % 256 : Nat) : Int)) (Val.xorN 5 _ (.tmp 64) _ rfl .u8 ((goK ks 54 k).getD (0 + k * 1) 0) 54 256 (by kernel_rfl) (by kernel_rfl)) ?_
            simp only [List.set_cons_zero, List.set_cons_succ]
            refine sv 66 (.pointer (some ⟨w30.heap.size, 0 + k * 1, none⟩)) (Val.idxS 43 (.tmp 61) (.tmp 62) rfl w30.heap.size 0 64 64 k (by kernel_rfl) (by kernel_rfl) 1 Try.underlying43 (by kernel_rfl) (by omega)) ?_
            simp only [List.set_cons_zero, List.set_cons_succ]
            refine xStoreNN 5 (.tmp 66) (.tmp 65) rfl .u8 w30.heap.size 5 (goK ks 54 k) (0 + k * 1) ((((goK ks 54 k).getD (0 + k * 1) 0) ^^^ 54) % 256) (by kernel_rfl) (by kernel_rfl) b48 (by kernel_rfl) (by omega) ?_
            intro w34 t10
            have zt10 := t10.z
            have BL_ := BL.ev t10.e (fun i h => show w.heap.size ≤ i by have h : i = w30.heap.size := h; omega)
            have D2_ := D2.ev t10.e (fun i hi => show ¬ (i = w30.heap.size) by have := hd2 i hi; omega)
            have b4_ := b4.ev t10.e (show ¬ (w.heap.size = w30.heap.size) by omega)
            have b9_ := b9.ev t10.e (show ¬ (w4.heap.size = w30.heap.size) by omega)
            have b49_ := b49.ev t10.e (show ¬ (w15.heap.size = w30.heap.size) by omega)
            replace BL := BL_; clear BL_
            replace D2 := D2_; clear D2_
            replace b4 := b4_; clear b4_
            replace b9 := b9_; clear b9_
            replace b49 := b49_; clear b49_
            replace b48 : Blk .u8 w34 w30.heap.size 5 (nn ((goK ks 54 k).set (0 + k * 1) ((((goK ks 54 k).getD (0 + k * 1) 0) ^^^ 54) % 256))) := t10.c
            clear t10
            refine wpList_nil ?_
            refine hK32 _ _ ?_
            refine cPlain ?_
            refine sv 67 (.slice (some ⟨w15.heap.size, 0, none⟩) 64 64) .of ?_
            simp only [List.set_cons_zero, List.set_cons_succ]
            refine sv 68 (.int .i64 ((k : Nat) : Int)) .of ?_
            simp only [List.set_cons_zero, List.set_cons_succ]
            refine sv 69 (.pointer (some ⟨w15.heap.size, 0 + k * 1, none⟩)) (Val.idxS 43 (.tmp 67) (.tmp 68) rfl w15.heap.size 0 64 64 k (by kernel_rfl) (by kernel_rfl) 1 Try.underlying43 (by kernel_rfl) (by omega)) ?_
            simp only [List.set_cons_zero, List.set_cons_succ]
            refine sv 70 (.int .u8 (((goK ks 92 k).getD (0 + k * 1) 0 : Nat) : Int)) (Val.nblk1 5 _ rfl w15.heap.size (0 + k * 1) (by kernel_rfl) (fun _ => (by kernel_rfl)) b49 (by omega)) ?_
            simp only [List.set_cons_zero, List.set_cons_succ]
            refine sv 71 (.int .u8 (((((goK ks 92 k).getD (0 + k * 1) 0) ^^^ 92) % 256 : Nat) : Int)) (Val.xorN 5 _ (.tmp 70) _ rfl .u8 ((goK ks 92 k).getD (0 + k * 1) 0) 92 256 (by kernel_rfl) (by kernel_rfl)) ?_
            simp only [List.set_cons_zero, List.set_cons_succ]
            refine sv 72 (.pointer (some ⟨w15.heap.size, 0 + k * 1, none⟩)) (Val.idxS 43 (.tmp 67) (.tmp 68) rfl w15.heap.size 0 64 64 k (by kernel_rfl) (by kernel_rfl) 1 Try.underlying43 (by kernel_rfl) (by omega)) ?_
            simp only [List.set_cons_zero, List.set_cons_succ]
            refine xStoreNN 5 (.tmp 72) (.tmp 71) rfl .u8 w15.heap.size 5 (goK ks 92 k) (0 + k * 1) ((((goK ks 92 k).getD (0 + k * 1) 0) ^^^ 92) % 256) (by kernel_rfl) (by kernel_rfl) b49 (by kernel_rfl) (by omega) ?_
            intro w35 t11
            have zt11 := t11.z
            have BL_ := BL.ev t11.e (fun i h => show w.heap.size ≤ i by have h : i = w15.heap.size := h; omega)
            have D2_ := D2.ev t11.e (fun i hi => show ¬ (i = w15.heap.size) by have := hd2 i hi; omega)
            have b4_ := b4.ev t11.e (show ¬ (w.heap.size = w15.heap.size) by omega)
            have b9_ := b9.ev t11.e (show ¬ (w4.heap.size = w15.heap.size) by omega)
            have b48_ := b48.ev t11.e (show ¬ (w30.heap.size = w15.heap.size) by omega)
            replace BL := BL_; clear BL_
            replace D2 := D2_; clear D2_
            replace b4 := b4_; clear b4_
            replace b9 := b9_; clear b9_
            replace b48 := b48_; clear b48_
            replace b49 : Blk .u8 w35 w15.heap.size 5 (nn ((goK ks 92 k).set (0 + k * 1) ((((goK ks 92 k).getD (0 + k * 1) 0) ^^^ 92) % 256))) := t11.c
            clear t11
            refine wpList_nil ?_
            refine hK30 _ _ ?_
            refine cPlain ?_
            refine sv 73 (.int .i64 (((k : Nat) : Int) + 1)) (Val.add 3 _ (.tmp 58) _ rfl ((k : Nat) : Int) 1 (by kernel_rfl) (by kernel_rfl) (by omega)) ?_
            simp only [List.set_cons_zero, List.set_cons_succ]
            refine sv 58 (.int .i64 (((k : Nat) : Int) + 1)) .of ?_
            simp only [List.set_cons_zero, List.set_cons_succ]
            refine wpList_nil ?_
            refine ⟨_, ?_, k + 1, rfl, (by omega), cutE, BL, D2, b4, b9, (by rw [← goK_step hJ1_1 92 k (by omega)]; simpa only [Nat.zero_add, Nat.mul_one] using b49), (by rw [← goK_step hJ1_1 54 k (by omega)]; simpa only [Nat.zero_add, Nat.mul_one] using b48), by omega⟩
            omega
          · skip
            have hk54 : nn (goK ks 54 k) = nn (turnK ks 54) := by rw [show k = 64 by omega, goK_64 hJ1_1]
            have hk92 : nn (goK ks 92 k) = nn (turnK ks 92) := by rw [show k = 64 by omega, goK_64 hJ1_1]
            refine wp_exit ?_
            simp only [Exit.then, Exit.inBlock, ↓reduceIte, Nat.reduceEqDiff]
            refine hK26 _ _ ?_
            refine wp_seq_k fun K33 hK33 => ?_
            have ht54 := turnK_len hJ1_1 54
            have ht92 := turnK_len hJ1_1 92
            have hof := ofN_32 tab (turnK ks 54 ++ bs)
            have lI0 : ∀ i, Value.ownBlock (.slice (some ⟨w30.heap.size, 0, none⟩) 64 64) = some i → w30.heap.size ≤ i ∧ i < w30.heap.size + 1 := ownB_lit (by omega)
            have I : Own 5 .u8 w30.heap.size wl0 (.slice (some ⟨w30.heap.size, 0, none⟩) 64 64) (nn (turnK ks 54)) := (Own.ofBlk (by rw [← hk54]; exact b48) (by rw [nn_len]; exact turnK_len hJ1_1 _) (by unfold maxLen; omega))
            clear b48
            have lO0 : ∀ i, Value.ownBlock (.slice (some ⟨w15.heap.size, 0, none⟩) 64 64) = some i → w15.heap.size ≤ i ∧ i < w15.heap.size + 1 := ownB_lit (by omega)
            have O : Own 5 .u8 w15.heap.size wl0 (.slice (some ⟨w15.heap.size, 0, none⟩) 64 64) (nn (turnK ks 92)) := (Own.ofBlk (by rw [← hk92]; exact b49) (by rw [nn_len]; exact turnK_len hJ1_1 _) (by unfold maxLen; omega))
            clear b49
            refine cPlain ?_
            refine sv 74 (.slice (some ⟨w30.heap.size, 0, none⟩) 64 64) .of ?_
            simp only [List.set_cons_zero, List.set_cons_succ]
            refine sv 75 (vb) .of ?_
            simp only [List.set_cons_zero, List.set_cons_succ]
            refine xApp 76 (.tmp 74) (.tmp 75) 43 5 .u8 1 rfl Try.underlying43 (by kernel_rfl) w30.heap.size (.slice (some ⟨w30.heap.size, 0, none⟩) 64 64) (nn (turnK ks 54)) (by kernel_rfl) I vb (nn bs) (by kernel_rfl) D2 ?va4_1 ?va4_2 ?va4_3 ?_
            case va4_1 => (simp only [nn_len, List.length_append]; omega)
            case va4_2 => (simp only [nn_len, List.length_append]; unfold maxLen; omega)
            case va4_3 => omega
            intro va4 w36 rva4 e17
            have ze17 := e17.size
            have BL_ := BL.ev e17 (fun i h => by have := lI0 _ h; omega)
            have D2_ := D2.ev e17 (fun i hi h => by have := hd2 i hi; have := lI0 _ h; omega)
            have b4_ := b4.ev e17 (fun h => by have := lI0 _ h; omega)
            have b9_ := b9.ev e17 (fun h => by have := lI0 _ h; omega)
            have O_ := O.ev e17 (fun i hi h => by have := lO0 i hi; have := lI0 _ h; omega)
            replace BL := BL_; clear BL_
            replace D2 := D2_; clear D2_
            replace b4 := b4_; clear b4_
            replace b9 := b9_; clear b9_
            replace O := O_; clear O_
            replace I := rva4
            clear rva4 e17
            have lI_2 := I.ge
            simp only [List.set_cons_zero, List.set_cons_succ]
            refine xCall 77 22 #[.pointer (some ⟨w.heap.size, 0, none⟩), va4] (by kernel_rfl) ?_
            refine (of_any w.heap.size tab (turnK ks 54 ++ bs) _ ht w36 b4 (I.sl.castM rfl (nn_app _ _).symm) (by rw [List.length_append, turnK_len hJ1_1]; omega)).mono ?_
            rintro en w37 ⟨rfl, hb1⟩
            have e18 := belE0 hb1
            have ze18 := e18.size
            replace BL := BL.e0 e18
            replace D2 := D2.e0 e18
            replace b4 := b4.e0 e18
            replace b9 := b9.e0 e18
            replace I := I.e0 e18
            replace O := O.e0 e18
            clear e18
            refine ⟨.agg (cellsOf .u8 (nn (ofN tab (turnK ks 54 ++ bs)))), rfl, ?_⟩
            simp only [List.set_cons_zero, List.set_cons_succ]
            refine xAlloc 15 28 ((nn (List.replicate 32 0)).map (Value.int .u8)) rfl (by kernel_rfl) ?_
            intro w38 n9
            have zn9 := n9.z
            have b15 := n9.c
            replace b15 : Blk .u8 w38 w37.heap.size 28 (nn (List.replicate 32 0)) := b15
            replace BL := BL.e0 n9.e
            replace D2 := D2.e0 n9.e
            replace b4 := b4.e0 n9.e
            replace b9 := b9.e0 n9.e
            replace I := I.e0 n9.e
            replace O := O.e0 n9.e
            simp only [List.set_cons_zero, List.set_cons_succ]
            refine xStoreA 28 (.tmp 15) (.tmp 77) rfl .u8 w37.heap.size 28 (nn (List.replicate 32 0)) 0 (nn (ofN tab (turnK ks 54 ++ bs))) (by kernel_rfl) (by kernel_rfl) b15 (by rw [show (nn (ofN tab (turnK ks 54 ++ bs))).length = 32 by ((try simp only [nn_len, List.length_replicate]); try omega)]; kernel_rfl) (by (try simp only [nn_len, List.length_replicate]); try omega) (nn (ofN tab (turnK ks 54 ++ bs))) (over_whole _ _ (by (try simp only [nn_len, List.length_replicate]); try omega)) ?_
            intro w39 t12
            have zt12 := t12.z
            have BL_ := BL.ev t12.e (fun i h => show w.heap.size ≤ i by have h : i = w37.heap.size := h; omega)
            have D2_ := D2.ev t12.e (fun i hi => show ¬ (i = w37.heap.size) by have := hd2 i hi; omega)
            have b4_ := b4.ev t12.e (show ¬ (w.heap.size = w37.heap.size) by omega)
            have b9_ := b9.ev t12.e (show ¬ (w4.heap.size = w37.heap.size) by omega)
            have I_ := I.ev t12.e (fun i hi => show ¬ (i = w37.heap.size) by have := lI_2 i hi; omega)
            have O_ := O.ev t12.e (fun i hi => show ¬ (i = w37.heap.size) by have := lO0 i hi; omega)
            replace BL := BL_; clear BL_
            replace D2 := D2_; clear D2_
            replace b4 := b4_; clear b4_
            replace b9 := b9_; clear b9_
            replace I := I_; clear I_
            replace O := O_; clear O_
            replace b15 : Blk .u8 w39 w37.heap.size 28 (nn (ofN tab (turnK ks 54 ++ bs))) := t12.c
            clear t12
            refine wpList_nil ?_
            refine hK33 _ _ ?_
            refine wp_seq_k fun K34 hK34 => ?_
            clear I
            have e19 := drew_e0 w39
            refine zg (fun w_ => Bl w.heap.size w w_ ∧ SL .u8 w_ vb (nn bs) ∧ Blk .u32 w_ w.heap.size 26 (nn tab) ∧ Blk .u8 w_ w4.heap.size 28 (nn (macN tab key bs)) ∧ Blk .u8 w_ w37.heap.size 28 (nn (ofN tab (turnK ks 54 ++ bs))) ∧ w39.heap.size ≤ w_.heap.size) (fun w_ => Bl w.heap.size w w_ ∧ SL .u8 w_ vb (nn bs) ∧ Blk .u32 w_ w.heap.size 26 (nn tab) ∧ Blk .u8 w_ w4.heap.size 28 (nn (macN tab key bs)) ∧ Own 5 .u8 w15.heap.size w_ (.slice (some ⟨w15.heap.size, 0, none⟩) 64 64) (nn (turnK ks 92)) ∧ Blk .u8 w_ w37.heap.size 28 (nn (ofN tab (turnK ks 54 ++ bs))) ∧ w39.heap.size ≤ w_.heap.size) 100000 10 ⟨BL.e0 e19, D2.e0 e19, b4.e0 e19, b9.e0 e19, O.e0 e19, b15.e0 e19, Nat.le_refl _⟩ ?_
            clear BL D2 b4 b9 O b15
            clear e19
            intro w40
            rintro ⟨BL, D2, b4, b9, O, b15, z5⟩
            refine zv 0 78 (.slice (some ⟨w15.heap.size, 0, none⟩) 64 64) (fun _ _ => .of) ⟨BL, D2, b4, b9, b15, by omega⟩ ?_
            simp only [List.set_cons_zero, List.set_cons_succ]
            refine zv 1 79 (.slice (some ⟨w37.heap.size, 0, none⟩) 32 32) (fun _ _ => .of) ⟨BL, D2, b4, b9, b15, by omega⟩ ?_
            simp only [List.set_cons_zero, List.set_cons_succ]
            refine zv 4 82 (.agg (cellsOf .u8 (nn (macN tab key bs)))) (fun _ ⟨BL, D2, b4, b9, b15, z5⟩ => Val.blk 28 _ rfl 0 32 (by kernel_rfl) b9 _ Try.underlying28 rfl (by kernel_rfl) (by (try simp only [nn_len, List.length_replicate]); try omega) _ (seg_all' _ (by (try simp only [nn_len, List.length_replicate]); try omega))) ⟨BL, D2, b4, b9, b15, by omega⟩ ?_
            simp only [List.set_cons_zero, List.set_cons_succ]
            refine zo1 2 rfl ?_
            refine xApp 80 (.tmp 78) (.tmp 79) 43 5 .u8 1 rfl Try.underlying43 (by kernel_rfl) w15.heap.size (.slice (some ⟨w15.heap.size, 0, none⟩) 64 64) (nn (turnK ks 92)) (by kernel_rfl) O (.slice (some ⟨w37.heap.size, 0, none⟩) 32 32) (nn (ofN tab (turnK ks 54 ++ bs))) (by kernel_rfl) (SL.ofBlk b15 (by (try simp only [nn_len, List.length_replicate]); try omega) (by unfold maxLen; omega)) ?va5_1 ?va5_2 ?va5_3 ?_
            case va5_1 => (simp only [nn_len, List.length_append]; omega)
            case va5_2 => (simp only [nn_len, List.length_append]; unfold maxLen; omega)
            case va5_3 => omega
            intro va5 w41 rva5 e20
            have ze20 := e20.size
            have BL_ := BL.ev e20 (fun i h => by have := lO0 _ h; omega)
            have D2_ := D2.ev e20 (fun i hi h => by have := hd2 i hi; have := lO0 _ h; omega)
            have b4_ := b4.ev e20 (fun h => by have := lO0 _ h; omega)
            have b9_ := b9.ev e20 (fun h => by have := lO0 _ h; omega)
            have b15_ := b15.ev e20 (fun h => by have := lO0 _ h; omega)
            replace BL := BL_; clear BL_
            replace D2 := D2_; clear D2_
            replace b4 := b4_; clear b4_
            replace b9 := b9_; clear b9_
            replace b15 := b15_; clear b15_
            replace O := rva5
            clear rva5 e20
            have lO_2 := O.ge
            refine ze 2 ⟨BL, D2, b4, b9, b15, by omega⟩ ?_
            simp only [List.set_cons_zero, List.set_cons_succ]
            refine zo1 3 rfl ?_
            refine xCall 81 22 #[.pointer (some ⟨w.heap.size, 0, none⟩), va5] (by kernel_rfl) ?_
            refine (of_any w.heap.size tab (turnK ks 92 ++ ofN tab (turnK ks 54 ++ bs)) _ ht w41 b4 (O.sl.castM rfl (nn_app _ _).symm) (by rw [List.length_append, turnK_len hJ1_1, ofN_32]; omega)).mono ?_
            rintro en w42 ⟨he, hb1⟩
            rw [mac_two hJ1_0] at he
            subst he
            have e21 := belE0 hb1
            have ze21 := e21.size
            replace BL := BL.e0 e21
            replace D2 := D2.e0 e21
            replace b4 := b4.e0 e21
            replace b9 := b9.e0 e21
            replace O := O.e0 e21
            replace b15 := b15.e0 e21
            clear e21
            refine ⟨.agg (cellsOf .u8 (nn (macN tab key bs))), rfl, ?_⟩
            refine ze 3 ⟨BL, D2, b4, b9, b15, by omega⟩ ?_
            simp only [List.set_cons_zero, List.set_cons_succ]
            refine zv 5 83 (.bool true) (fun _ ⟨BL, D2, b4, b9, b15, z5⟩ => Val.eqA .eql 28 _ (.tmp 81) (.tmp 82) rfl Try.underlying28 Try.underlying5 (by kernel_rfl) (by kernel_rfl) (nn (macN tab key bs)) (nn (macN tab key bs)) (by kernel_rfl) (by kernel_rfl) (by rw [nn_len]; exact macN_len _ _ _) (by rw [nn_len]; exact macN_len _ _ _) (.inl rfl) true (by simp)) ⟨BL, D2, b4, b9, b15, by omega⟩ ?_
            simp only [List.set_cons_zero, List.set_cons_succ]
            refine zv 6 84 (.bool true) (fun _ _ => .of) ⟨BL, D2, b4, b9, b15, by omega⟩ ?_
            simp only [List.set_cons_zero, List.set_cons_succ]
            refine zo1 7 rfl ?_
            refine xCall 85 24 #[] (by kernel_rfl) ?_
            refine (awake03_any w42).mono ?_
            rintro en w43 ⟨rfl, hb1⟩
            have e22 := belE0 hb1
            have ze22 := e22.size
            replace BL := BL.e0 e22
            replace D2 := D2.e0 e22
            replace b4 := b4.e0 e22
            replace b9 := b9.e0 e22
            replace O := O.e0 e22
            replace b15 := b15.e0 e22
            clear e22
            refine ⟨.bool true, rfl, ?_⟩
            refine ze 7 ⟨BL, D2, b4, b9, b15, by omega⟩ ?_
            simp only [List.set_cons_zero, List.set_cons_succ]
            refine zv 8 86 (.bool true) (fun _ _ => .of) ⟨BL, D2, b4, b9, b15, by omega⟩ ?_
            simp only [List.set_cons_zero, List.set_cons_succ]
            refine zv 9 8 (.bool true) (fun _ _ => .of) ⟨BL, D2, b4, b9, b15, by omega⟩ ?_
            simp only [List.set_cons_zero, List.set_cons_succ]
            refine zd (by kernel_rfl) ?_ _
            refine hK34 _ _ ?_
            refine wp_ret ?_
            (try simp only [Exit.then, Exit.inBlock])
            refine bodyPost_ret (v := .bool true) rT rfl ?_
            exact ⟨rfl, BL.b⟩

end Go.Proofs.Ytlmadkldiidkaaa
