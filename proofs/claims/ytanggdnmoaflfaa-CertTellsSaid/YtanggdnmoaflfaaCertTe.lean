/-
  CertTells, the walk.
-/
import Derived.Test.YtanggdnmoaflfaaCertDg
import Derived.Test.YtanggdnmoaflfaaRef18
import Derived.Test.YtanggdnmoaflfaaShaTl
import Derived.Test.YtanggdnmoaflfaaPk1
namespace Go.Proofs.Ytanggdnmoaflfaa
open Go.RowKit
set_option linter.unusedVariables false
set_option linter.unusedSimpArgs false
set_option maxRecDepth 100000
attribute [local irreducible] wpList Code.wp wpAnyZ taggedN
theorem tabL_32 : ∀ x ∈ tabL, x < 4294967296 := by decide +kernel
def rcK (r : Option (Int × List Int × Int)) : Int := match r with | some t => t.1 | none => 0
def rcR (r : Option (Int × List Int × Int)) : List Int := match r with | some t => t.2.1 | none => List.replicate 32 0
def rcH (r : Option (Int × List Int × Int)) : Int := match r with | some t => t.2.2 | none => 0
def rcE (r : Option (Int × List Int × Int)) : Int := match r with | some t => 0 | none => 180
theorem ReadPost.uni {w : World} {r : Option (Int × List Int × Int)} {e : Ending} {w' : World} (h : ReadPost w r e w') : e = .returned (.tuple #[.agg (certL (rcK r) (rcR r) (rcH r)).toArray, .int .i64 (rcE r)]) ∧ Below w.heap.size w w' := by
  obtain ⟨h1, h2⟩ := h
  cases r with
  | none => exact ⟨h1, h2⟩
  | some t => exact ⟨h1, h2⟩
theorem rc_ok (xs : List Int) (hb : Bytes xs) : COk (rcK (readC xs)) (rcR (readC xs)) (rcH (readC xs)) := by
  rcases readC_cases xs with h | ⟨k, r, g, h⟩
  · rw [h]; exact ⟨by simp [rcR], fun x hx => by have := List.eq_of_mem_replicate hx; omega, fun x hx => by rw [List.eq_of_mem_replicate hx]; decide, by decide, by decide⟩
  · obtain ⟨h1, h2, h3⟩ := readC_get xs hb k g r h
    rw [h]
    exact COk.of h2 (fun x hx => hb x (by rw [h3]; unfold certB; exact List.mem_append_right _ hx)) h1
def rlQ (r : Option (Int × List Int)) : Int := match r with | some t => t.1 | none => 0
def rlK (r : Option (Int × List Int)) : List Int := match r with | some t => t.2 | none => []
def rlE (r : Option (Int × List Int)) : Int := match r with | some t => 0 | none => 180
theorem ReadLPost.uni {w : World} {r : Option (Int × List Int)} {e : Ending} {w' : World} (h : ReadLPost w r e w') : ∃ a c, e = .returned (.tuple #[.agg #[.int .i64 (rlQ r), .slice a (rlK r).length c], .int .i64 (rlE r)]) ∧ Below w.heap.size w w' ∧ SL .i64 w' (.slice a (rlK r).length c) (rlK r) ∧ ∀ i, (Value.slice a (rlK r).length c).ownBlock = some i → w.heap.size ≤ i ∧ i < w'.heap.size := by
  obtain ⟨h1, h2⟩ := h
  cases r with
  | none => exact ⟨none, 0, h1, h2, SL.nil _ _, fun i hi => by cases hi⟩
  | some t =>
    obtain ⟨v, he, ho⟩ := h1
    obtain ⟨a, c, rfl⟩ := ho.len
    exact ⟨a, c, he, h2, ho.sl, ho.ge⟩
theorem neq_refl (x : Int) : cmpB .neq x x = false := by simp [cmpB]
theorem eql_refl (x : Int) : cmpB .eql x x = true := by simp [cmpB]
theorem str_same (a : List Int) : (if BinOp.neq = BinOp.eql then decide (a = a) else !decide (a = a)) = false := by simp
attribute [local irreducible] readC readL rcK rcR rcH rcE rlQ rlK rlE digO certB listB rightC rightL okv ecF tabL
set_option maxHeartbeats 16000000 in
theorem certTells_walk (w : World) (key height : Int) (root : List Int) (C0 : COk key root height) (q : Int) (lv : Value) (x : List Int) (U : SL .i64 w lv x) (bv : Value) (bs : List Nat) (B : SL .u8 w bv (nn bs)) (hbs : ∀ y ∈ bs, y < 256) (key2 : Int) :
    Calls Try.prog 3 #[.agg (certL key root height).toArray, .agg #[.int .i64 q, lv], bv, .int .i64 key2] w fun e w' => e = .returned (.bool true) ∧ Below w.heap.size w w' := by
  obtain ⟨pa, pc, rfl, hm⟩ := U.len
  have lU := U.lt
  have lB := B.lt
  have BL := Bl.refl w
  have hTL := tabL_len
  have CR := rc_ok (nn bs) (bytes_nn hbs)
  have hd1 := digO_len tabL 103 (rightC key height) (certB key root height)
  have hd2 := digO_len tabL 104 (rightL q x) (listB q x)
  unfold maxLen at hm
  go_enter Try.func3, Try.ntmps3
  refine wp_seq_k fun K1 hK1 => ?_
  refine cPlain ?_
  refine xBox 4 25 _ (certL key root height) rfl (by kernel_rfl) ?_
  intro w1 n1
  have zn1 := n1.z
  have b4 := n1.c
  replace BL := BL.e0 n1.e
  replace U := U.e0 n1.e
  replace B := B.e0 n1.e
  simp only [sZ, sS]
  refine xBox 5 28 _ [.int .i64 q, .slice pa x.length pc] rfl (by kernel_rfl) ?_
  intro w2 n2
  have zn2 := n2.z
  have b5 := n2.c
  replace BL := BL.e0 n2.e
  replace U := U.e0 n2.e
  replace B := B.e0 n2.e
  replace b4 := b4.e0 n2.e
  simp only [sZ, sS]
  refine sv 8 (.bool false) .of ?_
  simp only [sZ, sS]
  refine wpList_nil ?_
  refine hK1 _ _ ?_
  refine wp_seq_k fun K2 hK2 => ?_
  refine wp_seq_k fun K3 hK3 => ?_
  refine cPlain ?_
  refine sv 34 (.pointer (some ⟨w1.heap.size, 1, none⟩)) .of ?_
  simp only [sZ, sS]
  refine sv 35 (.slice pa x.length pc) (Val.cel1 26 _ rfl w1.heap.size 1 _ (by kernel_rfl) (fun _ => (by kernel_rfl)) b5 rfl) ?_
  simp only [sZ, sS]
  refine sv 36 (.int .i64 (x.length : Int)) .of ?_
  simp only [sZ, sS]
  refine sv 37 (.bool (decide (80 < (x.length : Int)))) (Val.cmp .gtr 3 _ (.tmp 36) _ rfl .i64 (x.length : Int) 80 (by kernel_rfl) (by kernel_rfl) (by simp) _ rfl) ?_
  simp only [sZ, sS]
  refine sv 38 (.bool (decide (80 < (x.length : Int)))) .of ?_
  simp only [sZ, sS]
  by_cases g39 : 80 < (x.length : Int)
  · skip
    have dg39 : decide (80 < (x.length : Int)) = true := decide_eq_true g39
    simp only [dg39]
    clear dg39
    refine xSkip 39 ?_
    simp only [sZ, sS]
    refine xSkip 40 ?_
    simp only [sZ, sS]
    refine xSkip 41 ?_
    simp only [sZ, sS]
    refine sv 42 (.bool true) .of ?_
    simp only [sZ, sS]
    refine wpList_nil ?_
    refine hK3 _ _ ?_
    refine cT ?_
    refine wp_seq_k fun K4 hK4 => ?_
    refine cPlain ?_
    refine xCall 43 10 #[] (by kernel_rfl) ?_
    refine (awake18 w2).mono ?_
    rintro en w3 ⟨rfl, hb1⟩
    have e1 := belE0 hb1
    have ze1 := e1.size
    replace BL := BL.e0 e1
    replace U := U.e0 e1
    replace B := B.e0 e1
    replace b4 := b4.e0 e1
    replace b5 := b5.e0 e1
    clear e1
    refine ⟨.bool true, rfl, ?_⟩
    simp only [sZ, sS]
    refine sv 8 (.bool true) .of ?_
    simp only [sZ, sS]
    refine wpList_nil ?_
    refine hK4 _ _ ?_
    refine wp_ret ?_
    (try simp only [Exit.then, Exit.inBlock])
    refine bodyPost_ret (v := .bool true) rT rfl ?_
    exact ⟨rfl, BL.b⟩
  · skip
    have dg39 : decide (80 < (x.length : Int)) = false := decide_eq_false g39
    simp only [dg39]
    clear dg39
    refine sv 39 (bv) .of ?_
    simp only [sZ, sS]
    refine sv 40 (.int .i64 ((bs.length : Nat) : Int)) (Val.lenS (.tmp 39) 29 rfl (by kernel_rfl) B bs.length (nn_len bs) Try.underlying29) ?_
    simp only [sZ, sS]
    refine sv 41 (.bool (decide (3000 < ((bs.length : Nat) : Int)))) (Val.cmp .gtr 3 _ (.tmp 40) _ rfl .i64 ((bs.length : Nat) : Int) 3000 (by kernel_rfl) (by kernel_rfl) (by simp) _ rfl) ?_
    simp only [sZ, sS]
    refine sv 42 (.bool (decide (3000 < ((bs.length : Nat) : Int)))) .of ?_
    simp only [sZ, sS]
    refine wpList_nil ?_
    refine hK3 _ _ ?_
    refine cDec (3000 < ((bs.length : Nat) : Int)) (by kernel_rfl) (fun c42 => ?_) (fun c42 => ?_)
    · skip
      refine wp_seq_k fun K5 hK5 => ?_
      refine cPlain ?_
      refine xCall 43 10 #[] (by kernel_rfl) ?_
      refine (awake18 w2).mono ?_
      rintro en w4 ⟨rfl, hb1⟩
      have e2 := belE0 hb1
      have ze2 := e2.size
      replace BL := BL.e0 e2
      replace U := U.e0 e2
      replace B := B.e0 e2
      replace b4 := b4.e0 e2
      replace b5 := b5.e0 e2
      clear e2
      refine ⟨.bool true, rfl, ?_⟩
      simp only [sZ, sS]
      refine sv 8 (.bool true) .of ?_
      simp only [sZ, sS]
      refine wpList_nil ?_
      refine hK5 _ _ ?_
      refine wp_ret ?_
      (try simp only [Exit.then, Exit.inBlock])
      refine bodyPost_ret (v := .bool true) rT rfl ?_
      exact ⟨rfl, BL.b⟩
    · skip
      refine wp_skip ?_
      refine hK2 _ _ ?_
      refine wp_seq_k fun K6 hK6 => ?_
      refine cPlain ?_
      refine xCall 44 11 #[] (by kernel_rfl) ?_
      refine (table_any w2).mono ?_
      rintro en w5 ⟨he, hb1⟩
      rw [tableN_eq] at he
      subst he
      have e3 := belE0 hb1
      have ze3 := e3.size
      replace BL := BL.e0 e3
      replace U := U.e0 e3
      replace B := B.e0 e3
      replace b4 := b4.e0 e3
      replace b5 := b5.e0 e3
      clear e3
      refine ⟨.agg (cellsOf .u32 (nn tabL)), rfl, ?_⟩
      simp only [sZ, sS]
      refine xAlloc 9 35 ((nn (List.replicate 72 0)).map (Value.int .u32)) rfl (by kernel_rfl) ?_
      intro w6 n3
      have zn3 := n3.z
      have b9 := n3.c
      replace b9 : Blk .u32 w6 w5.heap.size 35 (nn (List.replicate 72 0)) := b9
      replace BL := BL.e0 n3.e
      replace U := U.e0 n3.e
      replace B := B.e0 n3.e
      replace b4 := b4.e0 n3.e
      replace b5 := b5.e0 n3.e
      simp only [sZ, sS]
      refine xStoreA 35 (.tmp 9) (.tmp 44) rfl .u32 w5.heap.size 35 (nn (List.replicate 72 0)) 0 (nn tabL) (by kernel_rfl) (by kernel_rfl) b9 (by rw [show (nn tabL).length = 72 by ((try simp only [nn_len, List.length_cons, List.length_nil, List.length_set, List.length_replicate]); try omega)]; kernel_rfl) (by (try simp only [nn_len, List.length_cons, List.length_nil, List.length_set, List.length_replicate]); try omega) (nn tabL) (over_whole _ _ (by (try simp only [nn_len, List.length_cons, List.length_nil, List.length_set, List.length_replicate]); try omega)) ?_
      intro w7 t1
      have zt1 := t1.z
      have BL_ := BL.ev t1.e (fun i h => show w.heap.size ≤ i by have h : i = w5.heap.size := h; omega)
      have U_ := U.ev t1.e (fun i hi => show ¬ (i = w5.heap.size) by have := lU i hi; omega)
      have B_ := B.ev t1.e (fun i hi => show ¬ (i = w5.heap.size) by have := lB i hi; omega)
      have b4_ := b4.ev t1.e (show ¬ (w.heap.size = w5.heap.size) by omega)
      have b5_ := b5.ev t1.e (show ¬ (w1.heap.size = w5.heap.size) by omega)
      replace BL := BL_; clear BL_
      replace U := U_; clear U_
      replace B := B_; clear B_
      replace b4 := b4_; clear b4_
      replace b5 := b5_; clear b5_
      replace b9 : Blk .u32 w7 w5.heap.size 35 (nn tabL) := t1.c
      clear t1
      refine wpList_nil ?_
      refine hK6 _ _ ?_
      refine wp_seq_k fun K7 hK7 => ?_
      refine cPlain ?_
      refine sv 46 (.agg (certL key root height).toArray) (Val.cel 25 _ rfl 0 34 (by kernel_rfl) b4 _ Try.underlying25 rfl (by kernel_rfl) (by rw [certL_len _ _ _ C0.l]; omega) _ (certL_seg _ _ _ C0.l)) ?_
      simp only [sZ, sS]
      refine xCall 47 12 #[.agg (certL key root height).toArray] (by kernel_rfl) ?_
      refine (certbytes_any key height root C0.l w7).mono ?_
      rintro en w8 hp
      rw [certB_def] at hp
      obtain ⟨ax1, cx1, he, hb1, X1, lX1⟩ := hp.uni
      subst he
      clear hp
      replace X1 : SL .u8 w8 (.slice ax1 (okv (rightC key height) (certB key root height)).length cx1) (okv (rightC key height) (certB key root height)) := X1
      have e4 := belE0 hb1
      have ze4 := e4.size
      replace BL := BL.e0 e4
      replace U := U.e0 e4
      replace B := B.e0 e4
      replace b4 := b4.e0 e4
      replace b5 := b5.e0 e4
      replace b9 := b9.e0 e4
      clear e4
      refine ⟨.tuple #[.slice ax1 (okv (rightC key height) (certB key root height)).length cx1, .int .i64 (ecF (rightC key height))], rfl, ?_⟩
      simp only [sZ, sS]
      refine sv 45 (.tuple #[.slice ax1 (okv (rightC key height) (certB key root height)).length cx1, .int .i64 (ecF (rightC key height))]) .of ?_
      simp only [sZ, sS]
      refine sv 48 (.slice ax1 (okv (rightC key height) (certB key root height)).length cx1) .of ?_
      simp only [sZ, sS]
      refine sv 49 (.int .i64 (ecF (rightC key height))) .of ?_
      simp only [sZ, sS]
      refine sv 10 (.slice ax1 (okv (rightC key height) (certB key root height)).length cx1) .of ?_
      simp only [sZ, sS]
      refine sv 11 (.int .i64 (ecF (rightC key height))) .of ?_
      simp only [sZ, sS]
      refine wpList_nil ?_
      refine hK7 _ _ ?_
      refine wp_seq_k fun K8 hK8 => ?_
      refine cPlain ?_
      refine sv 51 (.agg (certL key root height).toArray) (Val.cel 25 _ rfl 0 34 (by kernel_rfl) b4 _ Try.underlying25 rfl (by kernel_rfl) (by rw [certL_len _ _ _ C0.l]; omega) _ (certL_seg _ _ _ C0.l)) ?_
      simp only [sZ, sS]
      refine xCall 52 13 #[.agg (certL key root height).toArray] (by kernel_rfl) ?_
      refine (r18bytes_bp key height root C0.l C0.b w8).mono ?_
      rintro en w9 hp
      obtain ⟨ax2, cx2, he, hb1, X2, lX2⟩ := hp.uni
      subst he
      clear hp
      replace X2 : SL .u8 w9 (.slice ax2 (okv (rightC key height) (certB key root height)).length cx2) (okv (rightC key height) (certB key root height)) := X2
      have e5 := belE0 hb1
      have ze5 := e5.size
      replace BL := BL.e0 e5
      replace U := U.e0 e5
      replace B := B.e0 e5
      replace b4 := b4.e0 e5
      replace b5 := b5.e0 e5
      replace b9 := b9.e0 e5
      replace X1 := X1.e0 e5
      clear e5
      refine ⟨.tuple #[.slice ax2 (okv (rightC key height) (certB key root height)).length cx2, .int .i64 (ecF (rightC key height))], rfl, ?_⟩
      simp only [sZ, sS]
      refine sv 50 (.tuple #[.slice ax2 (okv (rightC key height) (certB key root height)).length cx2, .int .i64 (ecF (rightC key height))]) .of ?_
      simp only [sZ, sS]
      refine sv 53 (.slice ax2 (okv (rightC key height) (certB key root height)).length cx2) .of ?_
      simp only [sZ, sS]
      refine sv 54 (.int .i64 (ecF (rightC key height))) .of ?_
      simp only [sZ, sS]
      refine sv 12 (.slice ax2 (okv (rightC key height) (certB key root height)).length cx2) .of ?_
      simp only [sZ, sS]
      refine sv 13 (.int .i64 (ecF (rightC key height))) .of ?_
      simp only [sZ, sS]
      refine wpList_nil ?_
      refine hK8 _ _ ?_
      refine wp_seq_k fun K9 hK9 => ?_
      refine cPlain ?_
      refine sv 56 (.agg #[.int .i64 q, .slice pa x.length pc]) (Val.cel 28 _ rfl 0 2 (by kernel_rfl) b5 _ Try.underlying28 rfl (by kernel_rfl) (by simp) [.int .i64 q, .slice pa x.length pc] rfl) ?_
      simp only [sZ, sS]
      refine xCall 57 14 #[.agg #[.int .i64 q, .slice pa x.length pc]] (by kernel_rfl) ?_
      refine (listbytes_any q _ x w9 U).mono ?_
      rintro en w10 hp
      rw [listB_def] at hp
      obtain ⟨ax3, cx3, he, hb1, X3, lX3⟩ := hp.uni
      subst he
      clear hp
      replace X3 : SL .u8 w10 (.slice ax3 (okv (rightL q x) (listB q x)).length cx3) (okv (rightL q x) (listB q x)) := X3
      have e6 := belE0 hb1
      have ze6 := e6.size
      replace BL := BL.e0 e6
      replace U := U.e0 e6
      replace B := B.e0 e6
      replace b4 := b4.e0 e6
      replace b5 := b5.e0 e6
      replace b9 := b9.e0 e6
      replace X1 := X1.e0 e6
      replace X2 := X2.e0 e6
      clear e6
      refine ⟨.tuple #[.slice ax3 (okv (rightL q x) (listB q x)).length cx3, .int .i64 (ecF (rightL q x))], rfl, ?_⟩
      simp only [sZ, sS]
      refine sv 55 (.tuple #[.slice ax3 (okv (rightL q x) (listB q x)).length cx3, .int .i64 (ecF (rightL q x))]) .of ?_
      simp only [sZ, sS]
      refine sv 58 (.slice ax3 (okv (rightL q x) (listB q x)).length cx3) .of ?_
      simp only [sZ, sS]
      refine sv 59 (.int .i64 (ecF (rightL q x))) .of ?_
      simp only [sZ, sS]
      refine sv 14 (.slice ax3 (okv (rightL q x) (listB q x)).length cx3) .of ?_
      simp only [sZ, sS]
      refine sv 15 (.int .i64 (ecF (rightL q x))) .of ?_
      simp only [sZ, sS]
      refine wpList_nil ?_
      refine hK9 _ _ ?_
      refine wp_seq_k fun K10 hK10 => ?_
      refine cPlain ?_
      refine sv 61 (.agg #[.int .i64 q, .slice pa x.length pc]) (Val.cel 28 _ rfl 0 2 (by kernel_rfl) b5 _ Try.underlying28 rfl (by kernel_rfl) (by simp) [.int .i64 q, .slice pa x.length pc] rfl) ?_
      simp only [sZ, sS]
      refine xCall 62 15 #[.agg #[.int .i64 q, .slice pa x.length pc]] (by kernel_rfl) ?_
      refine (r18listbytes_bp q _ x w10 U).mono ?_
      rintro en w11 hp
      obtain ⟨ax4, cx4, he, hb1, X4, lX4⟩ := hp.uni
      subst he
      clear hp
      replace X4 : SL .u8 w11 (.slice ax4 (okv (rightL q x) (listB q x)).length cx4) (okv (rightL q x) (listB q x)) := X4
      have e7 := belE0 hb1
      have ze7 := e7.size
      replace BL := BL.e0 e7
      replace U := U.e0 e7
      replace B := B.e0 e7
      replace b4 := b4.e0 e7
      replace b5 := b5.e0 e7
      replace b9 := b9.e0 e7
      replace X1 := X1.e0 e7
      replace X2 := X2.e0 e7
      replace X3 := X3.e0 e7
      clear e7
      refine ⟨.tuple #[.slice ax4 (okv (rightL q x) (listB q x)).length cx4, .int .i64 (ecF (rightL q x))], rfl, ?_⟩
      simp only [sZ, sS]
      refine sv 60 (.tuple #[.slice ax4 (okv (rightL q x) (listB q x)).length cx4, .int .i64 (ecF (rightL q x))]) .of ?_
      simp only [sZ, sS]
      refine sv 63 (.slice ax4 (okv (rightL q x) (listB q x)).length cx4) .of ?_
      simp only [sZ, sS]
      refine sv 64 (.int .i64 (ecF (rightL q x))) .of ?_
      simp only [sZ, sS]
      refine sv 16 (.slice ax4 (okv (rightL q x) (listB q x)).length cx4) .of ?_
      simp only [sZ, sS]
      refine sv 17 (.int .i64 (ecF (rightL q x))) .of ?_
      simp only [sZ, sS]
      refine wpList_nil ?_
      refine hK10 _ _ ?_
      refine wp_seq_k fun K11 hK11 => ?_
      refine wp_seq_k fun K12 hK12 => ?_
      have e8 := drew_e0 w11
      refine zg (fun w_ => Bl w.heap.size w w_ ∧ SL .i64 w_ (.slice pa x.length pc) x ∧ SL .u8 w_ bv (nn bs) ∧ Cel w_ w.heap.size 25 (certL key root height) ∧ Cel w_ w1.heap.size 28 [.int .i64 q, .slice pa x.length pc] ∧ Blk .u32 w_ w5.heap.size 35 (nn tabL) ∧ SL .u8 w_ (.slice ax1 (okv (rightC key height) (certB key root height)).length cx1) (okv (rightC key height) (certB key root height)) ∧ SL .u8 w_ (.slice ax2 (okv (rightC key height) (certB key root height)).length cx2) (okv (rightC key height) (certB key root height)) ∧ SL .u8 w_ (.slice ax3 (okv (rightL q x) (listB q x)).length cx3) (okv (rightL q x) (listB q x)) ∧ SL .u8 w_ (.slice ax4 (okv (rightL q x) (listB q x)).length cx4) (okv (rightL q x) (listB q x)) ∧ w11.heap.size ≤ w_.heap.size) (fun w_ => Bl w.heap.size w w_ ∧ SL .i64 w_ (.slice pa x.length pc) x ∧ SL .u8 w_ bv (nn bs) ∧ Cel w_ w.heap.size 25 (certL key root height) ∧ Cel w_ w1.heap.size 28 [.int .i64 q, .slice pa x.length pc] ∧ Blk .u32 w_ w5.heap.size 35 (nn tabL) ∧ SL .u8 w_ (.slice ax1 (okv (rightC key height) (certB key root height)).length cx1) (okv (rightC key height) (certB key root height)) ∧ SL .u8 w_ (.slice ax2 (okv (rightC key height) (certB key root height)).length cx2) (okv (rightC key height) (certB key root height)) ∧ SL .u8 w_ (.slice ax3 (okv (rightL q x) (listB q x)).length cx3) (okv (rightL q x) (listB q x)) ∧ SL .u8 w_ (.slice ax4 (okv (rightL q x) (listB q x)).length cx4) (okv (rightL q x) (listB q x)) ∧ w11.heap.size ≤ w_.heap.size) 100000 45 ⟨BL.e0 e8, U.e0 e8, B.e0 e8, b4.e0 e8, b5.e0 e8, b9.e0 e8, X1.e0 e8, X2.e0 e8, X3.e0 e8, X4.e0 e8, Nat.le_refl _⟩ ?_
      clear BL U B b4 b5 b9 X1 X2 X3 X4
      clear e8
      intro w12
      rintro ⟨BL, U, B, b4, b5, b9, X1, X2, X3, X4, z1⟩
      refine zv 0 65 (.slice ax1 (okv (rightC key height) (certB key root height)).length cx1) (fun _ _ => .of) ⟨BL, U, B, b4, b5, b9, X1, X2, X3, X4, by omega⟩ ?_
      simp only [sZ, sS]
      refine zv 1 66 (.string (strOf (okv (rightC key height) (certB key root height)))) (fun _ ⟨BL, U, B, b4, b5, b9, X1, X2, X3, X4, z1⟩ => Val.str 29 9 5 (.tmp 65) rfl Try.underlying29 Try.underlying5 Try.underlying9 (.slice ax1 (okv (rightC key height) (certB key root height)).length cx1) _ (by kernel_rfl) X1) ⟨BL, U, B, b4, b5, b9, X1, X2, X3, X4, by omega⟩ ?_
      simp only [sZ, sS]
      refine zv 2 67 (.slice ax2 (okv (rightC key height) (certB key root height)).length cx2) (fun _ _ => .of) ⟨BL, U, B, b4, b5, b9, X1, X2, X3, X4, by omega⟩ ?_
      simp only [sZ, sS]
      refine zv 3 68 (.string (strOf (okv (rightC key height) (certB key root height)))) (fun _ ⟨BL, U, B, b4, b5, b9, X1, X2, X3, X4, z1⟩ => Val.str 29 9 5 (.tmp 67) rfl Try.underlying29 Try.underlying5 Try.underlying9 (.slice ax2 (okv (rightC key height) (certB key root height)).length cx2) _ (by kernel_rfl) X2) ⟨BL, U, B, b4, b5, b9, X1, X2, X3, X4, by omega⟩ ?_
      simp only [sZ, sS]
      refine zv 4 69 (.bool false) (fun _ ⟨BL, U, B, b4, b5, b9, X1, X2, X3, X4, z1⟩ => Val.eqStr .neq 9 _ (.tmp 66) (.tmp 68) rfl (okv (rightC key height) (certB key root height)) (okv (rightC key height) (certB key root height)) (by kernel_rfl) (by kernel_rfl) (bytes_cert C0.b) (bytes_cert C0.b) (.inr rfl) _ (str_same _)) ⟨BL, U, B, b4, b5, b9, X1, X2, X3, X4, by omega⟩ ?_
      simp only [sZ, sS]
      refine zv 5 70 (.bool false) (fun _ _ => .of) ⟨BL, U, B, b4, b5, b9, X1, X2, X3, X4, by omega⟩ ?_
      simp only [sZ, sS]
      refine zv 6 71 (.int .i64 (ecF (rightC key height))) (fun _ _ => .of) ⟨BL, U, B, b4, b5, b9, X1, X2, X3, X4, by omega⟩ ?_
      simp only [sZ, sS]
      refine zv 7 72 (.int .i64 (ecF (rightC key height))) (fun _ _ => .of) ⟨BL, U, B, b4, b5, b9, X1, X2, X3, X4, by omega⟩ ?_
      simp only [sZ, sS]
      refine zv 8 73 (.bool false) (fun _ ⟨BL, U, B, b4, b5, b9, X1, X2, X3, X4, z1⟩ => Val.cmp .neq 37 _ (.tmp 71) (.tmp 72) rfl .i64 (ecF (rightC key height)) (ecF (rightC key height)) (by kernel_rfl) (by kernel_rfl) (by simp) _ (neq_refl _)) ⟨BL, U, B, b4, b5, b9, X1, X2, X3, X4, by omega⟩ ?_
      simp only [sZ, sS]
      refine zv 9 74 (.bool false) (fun _ _ => .of) ⟨BL, U, B, b4, b5, b9, X1, X2, X3, X4, by omega⟩ ?_
      simp only [sZ, sS]
      refine zv 10 75 (.bool false) (fun _ _ => .of) ⟨BL, U, B, b4, b5, b9, X1, X2, X3, X4, by omega⟩ ?_
      simp only [sZ, sS]
      refine zv 11 76 (.slice ax3 (okv (rightL q x) (listB q x)).length cx3) (fun _ _ => .of) ⟨BL, U, B, b4, b5, b9, X1, X2, X3, X4, by omega⟩ ?_
      simp only [sZ, sS]
      refine zv 12 77 (.string (strOf (okv (rightL q x) (listB q x)))) (fun _ ⟨BL, U, B, b4, b5, b9, X1, X2, X3, X4, z1⟩ => Val.str 29 9 5 (.tmp 76) rfl Try.underlying29 Try.underlying5 Try.underlying9 (.slice ax3 (okv (rightL q x) (listB q x)).length cx3) _ (by kernel_rfl) X3) ⟨BL, U, B, b4, b5, b9, X1, X2, X3, X4, by omega⟩ ?_
      simp only [sZ, sS]
      refine zv 13 78 (.slice ax4 (okv (rightL q x) (listB q x)).length cx4) (fun _ _ => .of) ⟨BL, U, B, b4, b5, b9, X1, X2, X3, X4, by omega⟩ ?_
      simp only [sZ, sS]
      refine zv 14 79 (.string (strOf (okv (rightL q x) (listB q x)))) (fun _ ⟨BL, U, B, b4, b5, b9, X1, X2, X3, X4, z1⟩ => Val.str 29 9 5 (.tmp 78) rfl Try.underlying29 Try.underlying5 Try.underlying9 (.slice ax4 (okv (rightL q x) (listB q x)).length cx4) _ (by kernel_rfl) X4) ⟨BL, U, B, b4, b5, b9, X1, X2, X3, X4, by omega⟩ ?_
      simp only [sZ, sS]
      refine zv 15 80 (.bool false) (fun _ ⟨BL, U, B, b4, b5, b9, X1, X2, X3, X4, z1⟩ => Val.eqStr .neq 9 _ (.tmp 77) (.tmp 79) rfl (okv (rightL q x) (listB q x)) (okv (rightL q x) (listB q x)) (by kernel_rfl) (by kernel_rfl) bytes_list bytes_list (.inr rfl) _ (str_same _)) ⟨BL, U, B, b4, b5, b9, X1, X2, X3, X4, by omega⟩ ?_
      simp only [sZ, sS]
      refine zv 16 81 (.bool false) (fun _ _ => .of) ⟨BL, U, B, b4, b5, b9, X1, X2, X3, X4, by omega⟩ ?_
      simp only [sZ, sS]
      refine zv 17 82 (.bool false) (fun _ _ => .of) ⟨BL, U, B, b4, b5, b9, X1, X2, X3, X4, by omega⟩ ?_
      simp only [sZ, sS]
      refine zv 18 83 (.int .i64 (ecF (rightL q x))) (fun _ _ => .of) ⟨BL, U, B, b4, b5, b9, X1, X2, X3, X4, by omega⟩ ?_
      simp only [sZ, sS]
      refine zv 19 84 (.int .i64 (ecF (rightL q x))) (fun _ _ => .of) ⟨BL, U, B, b4, b5, b9, X1, X2, X3, X4, by omega⟩ ?_
      simp only [sZ, sS]
      refine zv 20 85 (.bool false) (fun _ ⟨BL, U, B, b4, b5, b9, X1, X2, X3, X4, z1⟩ => Val.cmp .neq 37 _ (.tmp 83) (.tmp 84) rfl .i64 (ecF (rightL q x)) (ecF (rightL q x)) (by kernel_rfl) (by kernel_rfl) (by simp) _ (neq_refl _)) ⟨BL, U, B, b4, b5, b9, X1, X2, X3, X4, by omega⟩ ?_
      simp only [sZ, sS]
      refine zv 21 86 (.bool false) (fun _ _ => .of) ⟨BL, U, B, b4, b5, b9, X1, X2, X3, X4, by omega⟩ ?_
      simp only [sZ, sS]
      refine zv 22 87 (.bool false) (fun _ _ => .of) ⟨BL, U, B, b4, b5, b9, X1, X2, X3, X4, by omega⟩ ?_
      simp only [sZ, sS]
      refine zv 23 88 (.agg (certL key root height).toArray) (fun _ ⟨BL, U, B, b4, b5, b9, X1, X2, X3, X4, z1⟩ => Val.cel 25 _ rfl 0 34 (by kernel_rfl) b4 _ Try.underlying25 rfl (by kernel_rfl) (by rw [certL_len _ _ _ C0.l]; omega) _ (certL_seg _ _ _ C0.l)) ⟨BL, U, B, b4, b5, b9, X1, X2, X3, X4, by omega⟩ ?_
      simp only [sZ, sS]
      refine zv 25 90 (.agg (certL key root height).toArray) (fun _ ⟨BL, U, B, b4, b5, b9, X1, X2, X3, X4, z1⟩ => Val.cel 25 _ rfl 0 34 (by kernel_rfl) b4 _ Try.underlying25 rfl (by kernel_rfl) (by rw [certL_len _ _ _ C0.l]; omega) _ (certL_seg _ _ _ C0.l)) ⟨BL, U, B, b4, b5, b9, X1, X2, X3, X4, by omega⟩ ?_
      simp only [sZ, sS]
      refine zo1 24 rfl ?_
      refine xCall 89 16 #[.agg (certL key root height).toArray] (by kernel_rfl) ?_
      refine (certright_any key height root C0.l w12).mono ?_
      rintro en w13 ⟨rfl, hb1⟩
      have e9 := belE0 hb1
      have ze9 := e9.size
      replace BL := BL.e0 e9
      replace U := U.e0 e9
      replace B := B.e0 e9
      replace b4 := b4.e0 e9
      replace b5 := b5.e0 e9
      replace b9 := b9.e0 e9
      replace X1 := X1.e0 e9
      replace X2 := X2.e0 e9
      replace X3 := X3.e0 e9
      replace X4 := X4.e0 e9
      clear e9
      refine ⟨.bool (rightC key height), rfl, ?_⟩
      refine ze 24 ⟨BL, U, B, b4, b5, b9, X1, X2, X3, X4, by omega⟩ ?_
      simp only [sZ, sS]
      refine zo1 26 rfl ?_
      refine xCall 91 17 #[.agg (certL key root height).toArray] (by kernel_rfl) ?_
      refine (r18right_any key height root C0.l w13).mono ?_
      rintro en w14 ⟨rfl, hb1⟩
      have e10 := belE0 hb1
      have ze10 := e10.size
      replace BL := BL.e0 e10
      replace U := U.e0 e10
      replace B := B.e0 e10
      replace b4 := b4.e0 e10
      replace b5 := b5.e0 e10
      replace b9 := b9.e0 e10
      replace X1 := X1.e0 e10
      replace X2 := X2.e0 e10
      replace X3 := X3.e0 e10
      replace X4 := X4.e0 e10
      clear e10
      refine ⟨.bool (rightC key height), rfl, ?_⟩
      refine ze 26 ⟨BL, U, B, b4, b5, b9, X1, X2, X3, X4, by omega⟩ ?_
      simp only [sZ, sS]
      refine zv 27 92 (.bool false) (fun _ ⟨BL, U, B, b4, b5, b9, X1, X2, X3, X4, z1⟩ => Val.bools .neq 4 _ (.tmp 89) (.tmp 91) rfl Try.underlying4 (rightC key height) (rightC key height) (by kernel_rfl) (by kernel_rfl) (.inr rfl) _ (by simp)) ⟨BL, U, B, b4, b5, b9, X1, X2, X3, X4, by omega⟩ ?_
      simp only [sZ, sS]
      refine zv 28 93 (.bool false) (fun _ _ => .of) ⟨BL, U, B, b4, b5, b9, X1, X2, X3, X4, by omega⟩ ?_
      simp only [sZ, sS]
      refine zv 29 94 (.bool false) (fun _ _ => .of) ⟨BL, U, B, b4, b5, b9, X1, X2, X3, X4, by omega⟩ ?_
      simp only [sZ, sS]
      refine zv 30 95 (.agg #[.int .i64 q, .slice pa x.length pc]) (fun _ ⟨BL, U, B, b4, b5, b9, X1, X2, X3, X4, z1⟩ => Val.cel 28 _ rfl 0 2 (by kernel_rfl) b5 _ Try.underlying28 rfl (by kernel_rfl) (by simp) [.int .i64 q, .slice pa x.length pc] rfl) ⟨BL, U, B, b4, b5, b9, X1, X2, X3, X4, by omega⟩ ?_
      simp only [sZ, sS]
      refine zv 32 97 (.agg #[.int .i64 q, .slice pa x.length pc]) (fun _ ⟨BL, U, B, b4, b5, b9, X1, X2, X3, X4, z1⟩ => Val.cel 28 _ rfl 0 2 (by kernel_rfl) b5 _ Try.underlying28 rfl (by kernel_rfl) (by simp) [.int .i64 q, .slice pa x.length pc] rfl) ⟨BL, U, B, b4, b5, b9, X1, X2, X3, X4, by omega⟩ ?_
      simp only [sZ, sS]
      refine zo1 31 rfl ?_
      refine xCall 96 18 #[.agg #[.int .i64 q, .slice pa x.length pc]] (by kernel_rfl) ?_
      refine (rightlist_any q _ x w14 U).mono ?_
      rintro en w15 ⟨rfl, hb1⟩
      have e11 := belE0 hb1
      have ze11 := e11.size
      replace BL := BL.e0 e11
      replace U := U.e0 e11
      replace B := B.e0 e11
      replace b4 := b4.e0 e11
      replace b5 := b5.e0 e11
      replace b9 := b9.e0 e11
      replace X1 := X1.e0 e11
      replace X2 := X2.e0 e11
      replace X3 := X3.e0 e11
      replace X4 := X4.e0 e11
      clear e11
      refine ⟨.bool (rightL q x), rfl, ?_⟩
      refine ze 31 ⟨BL, U, B, b4, b5, b9, X1, X2, X3, X4, by omega⟩ ?_
      simp only [sZ, sS]
      refine zo1 33 rfl ?_
      refine xCall 98 19 #[.agg #[.int .i64 q, .slice pa x.length pc]] (by kernel_rfl) ?_
      refine (r18rightlist_any q pa pc x w15 U).mono ?_
      rintro en w16 ⟨rfl, hb1⟩
      have e12 := belE0 hb1
      have ze12 := e12.size
      replace BL := BL.e0 e12
      replace U := U.e0 e12
      replace B := B.e0 e12
      replace b4 := b4.e0 e12
      replace b5 := b5.e0 e12
      replace b9 := b9.e0 e12
      replace X1 := X1.e0 e12
      replace X2 := X2.e0 e12
      replace X3 := X3.e0 e12
      replace X4 := X4.e0 e12
      clear e12
      refine ⟨.bool (rightL q x), rfl, ?_⟩
      refine ze 33 ⟨BL, U, B, b4, b5, b9, X1, X2, X3, X4, by omega⟩ ?_
      simp only [sZ, sS]
      refine zv 34 99 (.bool false) (fun _ ⟨BL, U, B, b4, b5, b9, X1, X2, X3, X4, z1⟩ => Val.bools .neq 4 _ (.tmp 96) (.tmp 98) rfl Try.underlying4 (rightL q x) (rightL q x) (by kernel_rfl) (by kernel_rfl) (.inr rfl) _ (by simp)) ⟨BL, U, B, b4, b5, b9, X1, X2, X3, X4, by omega⟩ ?_
      simp only [sZ, sS]
      refine zv 35 100 (.bool false) (fun _ _ => .of) ⟨BL, U, B, b4, b5, b9, X1, X2, X3, X4, by omega⟩ ?_
      simp only [sZ, sS]
      refine zv 36 101 (.bool false) (fun _ _ => .of) ⟨BL, U, B, b4, b5, b9, X1, X2, X3, X4, by omega⟩ ?_
      simp only [sZ, sS]
      refine zv 37 102 (.agg #[.int .i64 q, .slice pa x.length pc]) (fun _ ⟨BL, U, B, b4, b5, b9, X1, X2, X3, X4, z1⟩ => Val.cel 28 _ rfl 0 2 (by kernel_rfl) b5 _ Try.underlying28 rfl (by kernel_rfl) (by simp) [.int .i64 q, .slice pa x.length pc] rfl) ⟨BL, U, B, b4, b5, b9, X1, X2, X3, X4, by omega⟩ ?_
      simp only [sZ, sS]
      refine zv 38 103 (.int .i64 key2) (fun _ _ => .of) ⟨BL, U, B, b4, b5, b9, X1, X2, X3, X4, by omega⟩ ?_
      simp only [sZ, sS]
      refine zv 40 105 (.agg #[.int .i64 q, .slice pa x.length pc]) (fun _ ⟨BL, U, B, b4, b5, b9, X1, X2, X3, X4, z1⟩ => Val.cel 28 _ rfl 0 2 (by kernel_rfl) b5 _ Try.underlying28 rfl (by kernel_rfl) (by simp) [.int .i64 q, .slice pa x.length pc] rfl) ⟨BL, U, B, b4, b5, b9, X1, X2, X3, X4, by omega⟩ ?_
      simp only [sZ, sS]
      refine zv 41 106 (.int .i64 key2) (fun _ _ => .of) ⟨BL, U, B, b4, b5, b9, X1, X2, X3, X4, by omega⟩ ?_
      simp only [sZ, sS]
      refine zo1 39 rfl ?_
      refine xCall 104 20 #[.agg #[.int .i64 q, .slice pa x.length pc], .int .i64 key2] (by kernel_rfl) ?_
      refine (has_any q _ x key2 w16 U).mono ?_
      rintro en w17 ⟨rfl, hb1⟩
      have e13 := belE0 hb1
      have ze13 := e13.size
      replace BL := BL.e0 e13
      replace U := U.e0 e13
      replace B := B.e0 e13
      replace b4 := b4.e0 e13
      replace b5 := b5.e0 e13
      replace b9 := b9.e0 e13
      replace X1 := X1.e0 e13
      replace X2 := X2.e0 e13
      replace X3 := X3.e0 e13
      replace X4 := X4.e0 e13
      clear e13
      refine ⟨.bool (rightL q x && decide (key2 ∈ x)), rfl, ?_⟩
      refine ze 39 ⟨BL, U, B, b4, b5, b9, X1, X2, X3, X4, by omega⟩ ?_
      simp only [sZ, sS]
      refine zo1 42 rfl ?_
      refine xCall 107 21 #[.agg #[.int .i64 q, .slice pa x.length pc], .int .i64 key2] (by kernel_rfl) ?_
      refine (r18has_any q pa pc x key2 w17 U).mono ?_
      rintro en w18 ⟨rfl, hb1⟩
      have e14 := belE0 hb1
      have ze14 := e14.size
      replace BL := BL.e0 e14
      replace U := U.e0 e14
      replace B := B.e0 e14
      replace b4 := b4.e0 e14
      replace b5 := b5.e0 e14
      replace b9 := b9.e0 e14
      replace X1 := X1.e0 e14
      replace X2 := X2.e0 e14
      replace X3 := X3.e0 e14
      replace X4 := X4.e0 e14
      clear e14
      refine ⟨.bool (rightL q x && decide (key2 ∈ x)), rfl, ?_⟩
      refine ze 42 ⟨BL, U, B, b4, b5, b9, X1, X2, X3, X4, by omega⟩ ?_
      simp only [sZ, sS]
      refine zv 43 108 (.bool false) (fun _ ⟨BL, U, B, b4, b5, b9, X1, X2, X3, X4, z1⟩ => Val.bools .neq 4 _ (.tmp 104) (.tmp 107) rfl Try.underlying4 (rightL q x && decide (key2 ∈ x)) (rightL q x && decide (key2 ∈ x)) (by kernel_rfl) (by kernel_rfl) (.inr rfl) _ (by simp)) ⟨BL, U, B, b4, b5, b9, X1, X2, X3, X4, by omega⟩ ?_
      simp only [sZ, sS]
      refine zv 44 109 (.bool false) (fun _ _ => .of) ⟨BL, U, B, b4, b5, b9, X1, X2, X3, X4, by omega⟩ ?_
      simp only [sZ, sS]
      refine zd (by kernel_rfl) ?_ _
      refine hK12 _ _ ?_
      refine cF ?_
      refine wp_skip ?_
      refine hK11 _ _ ?_
      refine wp_seq_k fun K13 hK13 => ?_
      refine cPlain ?_
      refine sv 111 (bv) .of ?_
      simp only [sZ, sS]
      refine xCall 112 22 #[bv] (by kernel_rfl) ?_
      refine (read_any _ (nn bs) (bytes_nn hbs) w18 B).mono ?_
      rintro en w19 hp
      obtain ⟨he, hb1⟩ := hp.uni
      subst he
      clear hp
      have e15 := belE0 hb1
      have ze15 := e15.size
      replace BL := BL.e0 e15
      replace U := U.e0 e15
      replace B := B.e0 e15
      replace b4 := b4.e0 e15
      replace b5 := b5.e0 e15
      replace b9 := b9.e0 e15
      replace X1 := X1.e0 e15
      replace X2 := X2.e0 e15
      replace X3 := X3.e0 e15
      replace X4 := X4.e0 e15
      clear e15
      refine ⟨.tuple #[.agg (certL (rcK (readC (nn bs))) (rcR (readC (nn bs))) (rcH (readC (nn bs)))).toArray, .int .i64 (rcE (readC (nn bs)))], rfl, ?_⟩
      simp only [sZ, sS]
      refine sv 110 (.tuple #[.agg (certL (rcK (readC (nn bs))) (rcR (readC (nn bs))) (rcH (readC (nn bs)))).toArray, .int .i64 (rcE (readC (nn bs)))]) .of ?_
      simp only [sZ, sS]
      refine sv 113 (.agg (certL (rcK (readC (nn bs))) (rcR (readC (nn bs))) (rcH (readC (nn bs)))).toArray) .of ?_
      simp only [sZ, sS]
      refine sv 114 (.int .i64 (rcE (readC (nn bs)))) .of ?_
      simp only [sZ, sS]
      refine xAlloc 18 25 (certL 0 (List.replicate 32 0) 0) rfl (by kernel_rfl) ?_
      intro w20 n4
      have zn4 := n4.z
      have b18 := n4.c
      replace BL := BL.e0 n4.e
      replace U := U.e0 n4.e
      replace B := B.e0 n4.e
      replace b4 := b4.e0 n4.e
      replace b5 := b5.e0 n4.e
      replace b9 := b9.e0 n4.e
      replace X1 := X1.e0 n4.e
      replace X2 := X2.e0 n4.e
      replace X3 := X3.e0 n4.e
      replace X4 := X4.e0 n4.e
      simp only [sZ, sS]
      refine xStoreR 25 _ _ rfl w19.heap.size 25 (certL 0 (List.replicate 32 0) 0) 0 (certL (rcK (readC (nn bs))) (rcR (readC (nn bs))) (rcH (readC (nn bs)))) (by kernel_rfl) (by kernel_rfl) b18 (by rw [certL_len _ _ _ CR.l]; kernel_rfl) (by rw [certL_len _ _ _ z32, certL_len _ _ _ CR.l]; omega) (certL_one _ _ _) (certL (rcK (readC (nn bs))) (rcR (readC (nn bs))) (rcH (readC (nn bs)))) (certL_whole _ _ _ _ _ _ z32 CR.l) ?_
      intro w21 t2
      have zt2 := t2.z
      have BL_ := BL.ev t2.e (fun i h => show w.heap.size ≤ i by have h : i = w19.heap.size := h; omega)
      have U_ := U.ev t2.e (fun i hi => show ¬ (i = w19.heap.size) by have := lU i hi; omega)
      have B_ := B.ev t2.e (fun i hi => show ¬ (i = w19.heap.size) by have := lB i hi; omega)
      have b4_ := b4.ev t2.e (show ¬ (w.heap.size = w19.heap.size) by omega)
      have b5_ := b5.ev t2.e (show ¬ (w1.heap.size = w19.heap.size) by omega)
      have b9_ := b9.ev t2.e (show ¬ (w5.heap.size = w19.heap.size) by omega)
      have X1_ := X1.ev t2.e (fun i hi => show ¬ (i = w19.heap.size) by have := lX1 i hi; omega)
      have X2_ := X2.ev t2.e (fun i hi => show ¬ (i = w19.heap.size) by have := lX2 i hi; omega)
      have X3_ := X3.ev t2.e (fun i hi => show ¬ (i = w19.heap.size) by have := lX3 i hi; omega)
      have X4_ := X4.ev t2.e (fun i hi => show ¬ (i = w19.heap.size) by have := lX4 i hi; omega)
      replace BL := BL_; clear BL_
      replace U := U_; clear U_
      replace B := B_; clear B_
      replace b4 := b4_; clear b4_
      replace b5 := b5_; clear b5_
      replace b9 := b9_; clear b9_
      replace X1 := X1_; clear X1_
      replace X2 := X2_; clear X2_
      replace X3 := X3_; clear X3_
      replace X4 := X4_; clear X4_
      replace b18 : Cel w21 w19.heap.size 25 (certL (rcK (readC (nn bs))) (rcR (readC (nn bs))) (rcH (readC (nn bs)))) := t2.c
      clear t2
      refine sv 19 (.int .i64 (rcE (readC (nn bs)))) .of ?_
      simp only [sZ, sS]
      refine wpList_nil ?_
      refine hK13 _ _ ?_
      refine wp_seq_k fun K14 hK14 => ?_
      refine cPlain ?_
      refine sv 116 (bv) .of ?_
      simp only [sZ, sS]
      refine xCall 117 23 #[bv] (by kernel_rfl) ?_
      refine (r18read_any _ bs w21 B (by omega) hbs).mono ?_
      rintro en w22 hp
      obtain ⟨he, hb1⟩ := hp.uni
      subst he
      clear hp
      have e16 := belE0 hb1
      have ze16 := e16.size
      replace BL := BL.e0 e16
      replace U := U.e0 e16
      replace B := B.e0 e16
      replace b4 := b4.e0 e16
      replace b5 := b5.e0 e16
      replace b9 := b9.e0 e16
      replace X1 := X1.e0 e16
      replace X2 := X2.e0 e16
      replace X3 := X3.e0 e16
      replace X4 := X4.e0 e16
      replace b18 := b18.e0 e16
      clear e16
      refine ⟨.tuple #[.agg (certL (rcK (readC (nn bs))) (rcR (readC (nn bs))) (rcH (readC (nn bs)))).toArray, .int .i64 (rcE (readC (nn bs)))], rfl, ?_⟩
      simp only [sZ, sS]
      refine sv 115 (.tuple #[.agg (certL (rcK (readC (nn bs))) (rcR (readC (nn bs))) (rcH (readC (nn bs)))).toArray, .int .i64 (rcE (readC (nn bs)))]) .of ?_
      simp only [sZ, sS]
      refine sv 118 (.agg (certL (rcK (readC (nn bs))) (rcR (readC (nn bs))) (rcH (readC (nn bs)))).toArray) .of ?_
      simp only [sZ, sS]
      refine sv 119 (.int .i64 (rcE (readC (nn bs)))) .of ?_
      simp only [sZ, sS]
      refine xAlloc 20 25 (certL 0 (List.replicate 32 0) 0) rfl (by kernel_rfl) ?_
      intro w23 n5
      have zn5 := n5.z
      have b20 := n5.c
      replace BL := BL.e0 n5.e
      replace U := U.e0 n5.e
      replace B := B.e0 n5.e
      replace b4 := b4.e0 n5.e
      replace b5 := b5.e0 n5.e
      replace b9 := b9.e0 n5.e
      replace X1 := X1.e0 n5.e
      replace X2 := X2.e0 n5.e
      replace X3 := X3.e0 n5.e
      replace X4 := X4.e0 n5.e
      replace b18 := b18.e0 n5.e
      simp only [sZ, sS]
      refine xStoreR 25 _ _ rfl w22.heap.size 25 (certL 0 (List.replicate 32 0) 0) 0 (certL (rcK (readC (nn bs))) (rcR (readC (nn bs))) (rcH (readC (nn bs)))) (by kernel_rfl) (by kernel_rfl) b20 (by rw [certL_len _ _ _ CR.l]; kernel_rfl) (by rw [certL_len _ _ _ z32, certL_len _ _ _ CR.l]; omega) (certL_one _ _ _) (certL (rcK (readC (nn bs))) (rcR (readC (nn bs))) (rcH (readC (nn bs)))) (certL_whole _ _ _ _ _ _ z32 CR.l) ?_
      intro w24 t3
      have zt3 := t3.z
      have BL_ := BL.ev t3.e (fun i h => show w.heap.size ≤ i by have h : i = w22.heap.size := h; omega)
      have U_ := U.ev t3.e (fun i hi => show ¬ (i = w22.heap.size) by have := lU i hi; omega)
      have B_ := B.ev t3.e (fun i hi => show ¬ (i = w22.heap.size) by have := lB i hi; omega)
      have b4_ := b4.ev t3.e (show ¬ (w.heap.size = w22.heap.size) by omega)
      have b5_ := b5.ev t3.e (show ¬ (w1.heap.size = w22.heap.size) by omega)
      have b9_ := b9.ev t3.e (show ¬ (w5.heap.size = w22.heap.size) by omega)
      have X1_ := X1.ev t3.e (fun i hi => show ¬ (i = w22.heap.size) by have := lX1 i hi; omega)
      have X2_ := X2.ev t3.e (fun i hi => show ¬ (i = w22.heap.size) by have := lX2 i hi; omega)
      have X3_ := X3.ev t3.e (fun i hi => show ¬ (i = w22.heap.size) by have := lX3 i hi; omega)
      have X4_ := X4.ev t3.e (fun i hi => show ¬ (i = w22.heap.size) by have := lX4 i hi; omega)
      have b18_ := b18.ev t3.e (show ¬ (w19.heap.size = w22.heap.size) by omega)
      replace BL := BL_; clear BL_
      replace U := U_; clear U_
      replace B := B_; clear B_
      replace b4 := b4_; clear b4_
      replace b5 := b5_; clear b5_
      replace b9 := b9_; clear b9_
      replace X1 := X1_; clear X1_
      replace X2 := X2_; clear X2_
      replace X3 := X3_; clear X3_
      replace X4 := X4_; clear X4_
      replace b18 := b18_; clear b18_
      replace b20 : Cel w24 w22.heap.size 25 (certL (rcK (readC (nn bs))) (rcR (readC (nn bs))) (rcH (readC (nn bs)))) := t3.c
      clear t3
      refine sv 21 (.int .i64 (rcE (readC (nn bs)))) .of ?_
      simp only [sZ, sS]
      refine wpList_nil ?_
      refine hK14 _ _ ?_
      refine wp_seq_k fun K15 hK15 => ?_
      refine cPlain ?_
      refine sv 121 (bv) .of ?_
      simp only [sZ, sS]
      refine xCall 122 24 #[bv] (by kernel_rfl) ?_
      refine (readlist_any _ (nn bs) (bytes_nn hbs) w24 B).mono ?_
      rintro en w25 hp
      obtain ⟨al1, cl1, he, hb1, Y1, lY1⟩ := hp.uni
      subst he
      clear hp
      have e17 := belE0 hb1
      have ze17 := e17.size
      replace BL := BL.e0 e17
      replace U := U.e0 e17
      replace B := B.e0 e17
      replace b4 := b4.e0 e17
      replace b5 := b5.e0 e17
      replace b9 := b9.e0 e17
      replace X1 := X1.e0 e17
      replace X2 := X2.e0 e17
      replace X3 := X3.e0 e17
      replace X4 := X4.e0 e17
      replace b18 := b18.e0 e17
      replace b20 := b20.e0 e17
      clear e17
      refine ⟨.tuple #[.agg #[.int .i64 (rlQ (readL (nn bs))), .slice al1 (rlK (readL (nn bs))).length cl1], .int .i64 (rlE (readL (nn bs)))], rfl, ?_⟩
      simp only [sZ, sS]
      refine sv 120 (.tuple #[.agg #[.int .i64 (rlQ (readL (nn bs))), .slice al1 (rlK (readL (nn bs))).length cl1], .int .i64 (rlE (readL (nn bs)))]) .of ?_
      simp only [sZ, sS]
      refine sv 123 (.agg #[.int .i64 (rlQ (readL (nn bs))), .slice al1 (rlK (readL (nn bs))).length cl1]) .of ?_
      simp only [sZ, sS]
      refine sv 124 (.int .i64 (rlE (readL (nn bs)))) .of ?_
      simp only [sZ, sS]
      refine xAlloc 22 28 [.int .i64 0, .slice none 0 0] rfl (by kernel_rfl) ?_
      intro w26 n6
      have zn6 := n6.z
      have b22 := n6.c
      replace BL := BL.e0 n6.e
      replace U := U.e0 n6.e
      replace B := B.e0 n6.e
      replace b4 := b4.e0 n6.e
      replace b5 := b5.e0 n6.e
      replace b9 := b9.e0 n6.e
      replace X1 := X1.e0 n6.e
      replace X2 := X2.e0 n6.e
      replace X3 := X3.e0 n6.e
      replace X4 := X4.e0 n6.e
      replace b18 := b18.e0 n6.e
      replace b20 := b20.e0 n6.e
      replace Y1 := Y1.e0 n6.e
      simp only [sZ, sS]
      refine xStoreR 28 (.tmp 22) (.tmp 123) rfl w25.heap.size 28 [.int .i64 0, .slice none 0 0] 0 [.int .i64 (rlQ (readL (nn bs))), .slice al1 (rlK (readL (nn bs))).length cl1] (by kernel_rfl) (by kernel_rfl) b22 (by kernel_rfl) (by simp) rfl [.int .i64 (rlQ (readL (nn bs))), .slice al1 (rlK (readL (nn bs))).length cl1] rfl ?_
      intro w27 t4
      have zt4 := t4.z
      have BL_ := BL.ev t4.e (fun i h => show w.heap.size ≤ i by have h : i = w25.heap.size := h; omega)
      have U_ := U.ev t4.e (fun i hi => show ¬ (i = w25.heap.size) by have := lU i hi; omega)
      have B_ := B.ev t4.e (fun i hi => show ¬ (i = w25.heap.size) by have := lB i hi; omega)
      have b4_ := b4.ev t4.e (show ¬ (w.heap.size = w25.heap.size) by omega)
      have b5_ := b5.ev t4.e (show ¬ (w1.heap.size = w25.heap.size) by omega)
      have b9_ := b9.ev t4.e (show ¬ (w5.heap.size = w25.heap.size) by omega)
      have X1_ := X1.ev t4.e (fun i hi => show ¬ (i = w25.heap.size) by have := lX1 i hi; omega)
      have X2_ := X2.ev t4.e (fun i hi => show ¬ (i = w25.heap.size) by have := lX2 i hi; omega)
      have X3_ := X3.ev t4.e (fun i hi => show ¬ (i = w25.heap.size) by have := lX3 i hi; omega)
      have X4_ := X4.ev t4.e (fun i hi => show ¬ (i = w25.heap.size) by have := lX4 i hi; omega)
      have b18_ := b18.ev t4.e (show ¬ (w19.heap.size = w25.heap.size) by omega)
      have b20_ := b20.ev t4.e (show ¬ (w22.heap.size = w25.heap.size) by omega)
      have Y1_ := Y1.ev t4.e (fun i hi => show ¬ (i = w25.heap.size) by have := lY1 i hi; omega)
      replace BL := BL_; clear BL_
      replace U := U_; clear U_
      replace B := B_; clear B_
      replace b4 := b4_; clear b4_
      replace b5 := b5_; clear b5_
      replace b9 := b9_; clear b9_
      replace X1 := X1_; clear X1_
      replace X2 := X2_; clear X2_
      replace X3 := X3_; clear X3_
      replace X4 := X4_; clear X4_
      replace b18 := b18_; clear b18_
      replace b20 := b20_; clear b20_
      replace Y1 := Y1_; clear Y1_
      replace b22 : Cel w27 w25.heap.size 28 [.int .i64 (rlQ (readL (nn bs))), .slice al1 (rlK (readL (nn bs))).length cl1] := t4.c
      clear t4
      refine sv 23 (.int .i64 (rlE (readL (nn bs)))) .of ?_
      simp only [sZ, sS]
      refine wpList_nil ?_
      refine hK15 _ _ ?_
      refine wp_seq_k fun K16 hK16 => ?_
      refine cPlain ?_
      refine sv 126 (bv) .of ?_
      simp only [sZ, sS]
      refine xCall 127 25 #[bv] (by kernel_rfl) ?_
      refine (r18readlist_any _ bs w27 B (by omega) hbs).mono ?_
      rintro en w28 hp
      obtain ⟨al2, cl2, he, hb1, Y2, lY2⟩ := hp.uni
      subst he
      clear hp
      have e18 := belE0 hb1
      have ze18 := e18.size
      replace BL := BL.e0 e18
      replace U := U.e0 e18
      replace B := B.e0 e18
      replace b4 := b4.e0 e18
      replace b5 := b5.e0 e18
      replace b9 := b9.e0 e18
      replace X1 := X1.e0 e18
      replace X2 := X2.e0 e18
      replace X3 := X3.e0 e18
      replace X4 := X4.e0 e18
      replace b18 := b18.e0 e18
      replace b20 := b20.e0 e18
      replace Y1 := Y1.e0 e18
      replace b22 := b22.e0 e18
      clear e18
      refine ⟨.tuple #[.agg #[.int .i64 (rlQ (readL (nn bs))), .slice al2 (rlK (readL (nn bs))).length cl2], .int .i64 (rlE (readL (nn bs)))], rfl, ?_⟩
      simp only [sZ, sS]
      refine sv 125 (.tuple #[.agg #[.int .i64 (rlQ (readL (nn bs))), .slice al2 (rlK (readL (nn bs))).length cl2], .int .i64 (rlE (readL (nn bs)))]) .of ?_
      simp only [sZ, sS]
      refine sv 128 (.agg #[.int .i64 (rlQ (readL (nn bs))), .slice al2 (rlK (readL (nn bs))).length cl2]) .of ?_
      simp only [sZ, sS]
      refine sv 129 (.int .i64 (rlE (readL (nn bs)))) .of ?_
      simp only [sZ, sS]
      refine xAlloc 24 28 [.int .i64 0, .slice none 0 0] rfl (by kernel_rfl) ?_
      intro w29 n7
      have zn7 := n7.z
      have b24 := n7.c
      replace BL := BL.e0 n7.e
      replace U := U.e0 n7.e
      replace B := B.e0 n7.e
      replace b4 := b4.e0 n7.e
      replace b5 := b5.e0 n7.e
      replace b9 := b9.e0 n7.e
      replace X1 := X1.e0 n7.e
      replace X2 := X2.e0 n7.e
      replace X3 := X3.e0 n7.e
      replace X4 := X4.e0 n7.e
      replace b18 := b18.e0 n7.e
      replace b20 := b20.e0 n7.e
      replace Y1 := Y1.e0 n7.e
      replace b22 := b22.e0 n7.e
      replace Y2 := Y2.e0 n7.e
      simp only [sZ, sS]
      refine xStoreR 28 (.tmp 24) (.tmp 128) rfl w28.heap.size 28 [.int .i64 0, .slice none 0 0] 0 [.int .i64 (rlQ (readL (nn bs))), .slice al2 (rlK (readL (nn bs))).length cl2] (by kernel_rfl) (by kernel_rfl) b24 (by kernel_rfl) (by simp) rfl [.int .i64 (rlQ (readL (nn bs))), .slice al2 (rlK (readL (nn bs))).length cl2] rfl ?_
      intro w30 t5
      have zt5 := t5.z
      have BL_ := BL.ev t5.e (fun i h => show w.heap.size ≤ i by have h : i = w28.heap.size := h; omega)
      have U_ := U.ev t5.e (fun i hi => show ¬ (i = w28.heap.size) by have := lU i hi; omega)
      have B_ := B.ev t5.e (fun i hi => show ¬ (i = w28.heap.size) by have := lB i hi; omega)
      have b4_ := b4.ev t5.e (show ¬ (w.heap.size = w28.heap.size) by omega)
      have b5_ := b5.ev t5.e (show ¬ (w1.heap.size = w28.heap.size) by omega)
      have b9_ := b9.ev t5.e (show ¬ (w5.heap.size = w28.heap.size) by omega)
      have X1_ := X1.ev t5.e (fun i hi => show ¬ (i = w28.heap.size) by have := lX1 i hi; omega)
      have X2_ := X2.ev t5.e (fun i hi => show ¬ (i = w28.heap.size) by have := lX2 i hi; omega)
      have X3_ := X3.ev t5.e (fun i hi => show ¬ (i = w28.heap.size) by have := lX3 i hi; omega)
      have X4_ := X4.ev t5.e (fun i hi => show ¬ (i = w28.heap.size) by have := lX4 i hi; omega)
      have b18_ := b18.ev t5.e (show ¬ (w19.heap.size = w28.heap.size) by omega)
      have b20_ := b20.ev t5.e (show ¬ (w22.heap.size = w28.heap.size) by omega)
      have Y1_ := Y1.ev t5.e (fun i hi => show ¬ (i = w28.heap.size) by have := lY1 i hi; omega)
      have b22_ := b22.ev t5.e (show ¬ (w25.heap.size = w28.heap.size) by omega)
      have Y2_ := Y2.ev t5.e (fun i hi => show ¬ (i = w28.heap.size) by have := lY2 i hi; omega)
      replace BL := BL_; clear BL_
      replace U := U_; clear U_
      replace B := B_; clear B_
      replace b4 := b4_; clear b4_
      replace b5 := b5_; clear b5_
      replace b9 := b9_; clear b9_
      replace X1 := X1_; clear X1_
      replace X2 := X2_; clear X2_
      replace X3 := X3_; clear X3_
      replace X4 := X4_; clear X4_
      replace b18 := b18_; clear b18_
      replace b20 := b20_; clear b20_
      replace Y1 := Y1_; clear Y1_
      replace b22 := b22_; clear b22_
      replace Y2 := Y2_; clear Y2_
      replace b24 : Cel w30 w28.heap.size 28 [.int .i64 (rlQ (readL (nn bs))), .slice al2 (rlK (readL (nn bs))).length cl2] := t5.c
      clear t5
      refine sv 25 (.int .i64 (rlE (readL (nn bs)))) .of ?_
      simp only [sZ, sS]
      refine wpList_nil ?_
      refine hK16 _ _ ?_
      refine wp_seq_k fun K17 hK17 => ?_
      refine wp_seq_k fun K18 hK18 => ?_
      refine cPlain ?_
      refine sv 130 (.agg (certL (rcK (readC (nn bs))) (rcR (readC (nn bs))) (rcH (readC (nn bs)))).toArray) (Val.cel 25 _ rfl 0 34 (by kernel_rfl) b18 _ Try.underlying25 rfl (by kernel_rfl) (by rw [certL_len _ _ _ CR.l]; omega) _ (certL_seg _ _ _ CR.l)) ?_
      simp only [sZ, sS]
      refine sv 131 (.agg (certL (rcK (readC (nn bs))) (rcR (readC (nn bs))) (rcH (readC (nn bs)))).toArray) (Val.cel 25 _ rfl 0 34 (by kernel_rfl) b20 _ Try.underlying25 rfl (by kernel_rfl) (by rw [certL_len _ _ _ CR.l]; omega) _ (certL_seg _ _ _ CR.l)) ?_
      simp only [sZ, sS]
      refine sv 132 (.bool false) (Val.eqK .neq 25 _ (.tmp 130) (.tmp 131) rfl kt_cert 5 (by kernel_rfl) (by decide) Try.underlying25 rfl (by kernel_rfl) (by kernel_rfl) ([rcK (readC (nn bs))] ++ (rcR (readC (nn bs)) ++ ([rcH (readC (nn bs))] ++ []))) ([rcK (readC (nn bs))] ++ (rcR (readC (nn bs)) ++ ([rcH (readC (nn bs))] ++ []))) (by rw [← certL_zip _ _ _ CR.l]; kernel_rfl) (by rw [← certL_zip _ _ _ CR.l]; kernel_rfl) (certN_len _ _ _ CR.l) (certN_len _ _ _ CR.l) (certN_wf _ _ _ CR.l CR.wb CR.wk CR.wh) (certN_wf _ _ _ CR.l CR.wb CR.wk CR.wh) (.inr rfl) _ (by simp)) ?_
      simp only [sZ, sS]
      refine sv 133 (.bool false) .of ?_
      simp only [sZ, sS]
      refine sv 134 (.int .i64 (rcE (readC (nn bs)))) .of ?_
      simp only [sZ, sS]
      refine sv 135 (.int .i64 (rcE (readC (nn bs)))) .of ?_
      simp only [sZ, sS]
      refine sv 136 (.bool false) (Val.cmp .neq 37 _ (.tmp 134) (.tmp 135) rfl .i64 (rcE (readC (nn bs))) (rcE (readC (nn bs))) (by kernel_rfl) (by kernel_rfl) (by simp) _ (neq_refl _)) ?_
      simp only [sZ, sS]
      refine sv 137 (.bool false) .of ?_
      simp only [sZ, sS]
      refine sv 138 (.bool false) .of ?_
      simp only [sZ, sS]
      refine sv 139 (.agg #[.int .i64 (rlQ (readL (nn bs))), .slice al1 (rlK (readL (nn bs))).length cl1]) (Val.cel 28 _ rfl 0 2 (by kernel_rfl) b22 _ Try.underlying28 rfl (by kernel_rfl) (by simp) [.int .i64 (rlQ (readL (nn bs))), .slice al1 (rlK (readL (nn bs))).length cl1] rfl) ?_
      simp only [sZ, sS]
      refine sv 140 (.agg #[.int .i64 (rlQ (readL (nn bs))), .slice al2 (rlK (readL (nn bs))).length cl2]) (Val.cel 28 _ rfl 0 2 (by kernel_rfl) b24 _ Try.underlying28 rfl (by kernel_rfl) (by simp) [.int .i64 (rlQ (readL (nn bs))), .slice al2 (rlK (readL (nn bs))).length cl2] rfl) ?_
      simp only [sZ, sS]
      refine xCall 141 26 #[.agg #[.int .i64 (rlQ (readL (nn bs))), .slice al1 (rlK (readL (nn bs))).length cl1], .agg #[.int .i64 (rlQ (readL (nn bs))), .slice al2 (rlK (readL (nn bs))).length cl2]] (by kernel_rfl) ?_
      refine (samelist_any (rlQ (readL (nn bs))) (rlQ (readL (nn bs))) _ _ (rlK (readL (nn bs))) (rlK (readL (nn bs))) w30 Y1 Y2).mono ?_
      rintro en w31 ⟨he, hb1⟩
      rw [decide_eq_true (show rlQ (readL (nn bs)) = rlQ (readL (nn bs)) ∧ rlK (readL (nn bs)) = rlK (readL (nn bs)) from ⟨rfl, rfl⟩)] at he
      subst he
      have e19 := belE0 hb1
      have ze19 := e19.size
      replace BL := BL.e0 e19
      replace U := U.e0 e19
      replace B := B.e0 e19
      replace b4 := b4.e0 e19
      replace b5 := b5.e0 e19
      replace b9 := b9.e0 e19
      replace X1 := X1.e0 e19
      replace X2 := X2.e0 e19
      replace X3 := X3.e0 e19
      replace X4 := X4.e0 e19
      replace b18 := b18.e0 e19
      replace b20 := b20.e0 e19
      replace Y1 := Y1.e0 e19
      replace b22 := b22.e0 e19
      replace Y2 := Y2.e0 e19
      replace b24 := b24.e0 e19
      clear e19
      refine ⟨.bool true, rfl, ?_⟩
      simp only [sZ, sS]
      refine sv 142 (.bool false) .of ?_
      simp only [sZ, sS]
      refine sv 143 (.bool false) .of ?_
      simp only [sZ, sS]
      refine sv 144 (.bool false) .of ?_
      simp only [sZ, sS]
      refine sv 145 (.int .i64 (rlE (readL (nn bs)))) .of ?_
      simp only [sZ, sS]
      refine sv 146 (.int .i64 (rlE (readL (nn bs)))) .of ?_
      simp only [sZ, sS]
      refine sv 147 (.bool false) (Val.cmp .neq 37 _ (.tmp 145) (.tmp 146) rfl .i64 (rlE (readL (nn bs))) (rlE (readL (nn bs))) (by kernel_rfl) (by kernel_rfl) (by simp) _ (neq_refl _)) ?_
      simp only [sZ, sS]
      refine sv 148 (.bool false) .of ?_
      simp only [sZ, sS]
      refine wpList_nil ?_
      refine hK18 _ _ ?_
      refine cF ?_
      refine wp_skip ?_
      refine hK17 _ _ ?_
      refine wp_seq_k fun K19 hK19 => ?_
      refine cPlain ?_
      refine sv 150 (.agg (certL key root height).toArray) (Val.cel 25 _ rfl 0 34 (by kernel_rfl) b4 _ Try.underlying25 rfl (by kernel_rfl) (by rw [certL_len _ _ _ C0.l]; omega) _ (certL_seg _ _ _ C0.l)) ?_
      simp only [sZ, sS]
      refine xCall 151 27 #[.pointer (some ⟨w5.heap.size, 0, none⟩), .agg (certL key root height).toArray] (by kernel_rfl) ?_
      refine (cdigest_any (w5.heap.size) tabL hTL tabL_32 w31 b9 key height root C0.l C0.b).mono ?_
      rintro en w32 ⟨rfl, hb1⟩
      have e20 := belE0 hb1
      have ze20 := e20.size
      replace BL := BL.e0 e20
      replace U := U.e0 e20
      replace B := B.e0 e20
      replace b4 := b4.e0 e20
      replace b5 := b5.e0 e20
      replace b9 := b9.e0 e20
      replace X1 := X1.e0 e20
      replace X2 := X2.e0 e20
      replace X3 := X3.e0 e20
      replace X4 := X4.e0 e20
      replace b18 := b18.e0 e20
      replace b20 := b20.e0 e20
      replace Y1 := Y1.e0 e20
      replace b22 := b22.e0 e20
      replace Y2 := Y2.e0 e20
      replace b24 := b24.e0 e20
      clear e20
      refine ⟨.tuple #[.agg (cellsOf .u8 (nn (digO tabL 103 (rightC key height) (certB key root height)))), .int .i64 (ecF (rightC key height))], rfl, ?_⟩
      simp only [sZ, sS]
      refine sv 149 (.tuple #[.agg (cellsOf .u8 (nn (digO tabL 103 (rightC key height) (certB key root height)))), .int .i64 (ecF (rightC key height))]) .of ?_
      simp only [sZ, sS]
      refine sv 152 (.agg (cellsOf .u8 (nn (digO tabL 103 (rightC key height) (certB key root height))))) .of ?_
      simp only [sZ, sS]
      refine sv 153 (.int .i64 (ecF (rightC key height))) .of ?_
      simp only [sZ, sS]
      refine xAlloc 26 23 ((nn (List.replicate 32 0)).map (Value.int .u8)) rfl (by kernel_rfl) ?_
      intro w33 n8
      have zn8 := n8.z
      have b26 := n8.c
      replace b26 : Blk .u8 w33 w32.heap.size 23 (nn (List.replicate 32 0)) := b26
      replace BL := BL.e0 n8.e
      replace U := U.e0 n8.e
      replace B := B.e0 n8.e
      replace b4 := b4.e0 n8.e
      replace b5 := b5.e0 n8.e
      replace b9 := b9.e0 n8.e
      replace X1 := X1.e0 n8.e
      replace X2 := X2.e0 n8.e
      replace X3 := X3.e0 n8.e
      replace X4 := X4.e0 n8.e
      replace b18 := b18.e0 n8.e
      replace b20 := b20.e0 n8.e
      replace Y1 := Y1.e0 n8.e
      replace b22 := b22.e0 n8.e
      replace Y2 := Y2.e0 n8.e
      replace b24 := b24.e0 n8.e
      simp only [sZ, sS]
      refine xStoreA 23 (.tmp 26) (.tmp 152) rfl .u8 w32.heap.size 23 (nn (List.replicate 32 0)) 0 (nn (digO tabL 103 (rightC key height) (certB key root height))) (by kernel_rfl) (by kernel_rfl) b26 (by rw [show (nn (digO tabL 103 (rightC key height) (certB key root height))).length = 32 by ((try simp only [nn_len, List.length_cons, List.length_nil, List.length_set, List.length_replicate]); try omega)]; kernel_rfl) (by (try simp only [nn_len, List.length_cons, List.length_nil, List.length_set, List.length_replicate]); try omega) (nn (digO tabL 103 (rightC key height) (certB key root height))) (over_whole _ _ (by (try simp only [nn_len, List.length_cons, List.length_nil, List.length_set, List.length_replicate]); try omega)) ?_
      intro w34 t6
      have zt6 := t6.z
      have BL_ := BL.ev t6.e (fun i h => show w.heap.size ≤ i by have h : i = w32.heap.size := h; omega)
      have U_ := U.ev t6.e (fun i hi => show ¬ (i = w32.heap.size) by have := lU i hi; omega)
      have B_ := B.ev t6.e (fun i hi => show ¬ (i = w32.heap.size) by have := lB i hi; omega)
      have b4_ := b4.ev t6.e (show ¬ (w.heap.size = w32.heap.size) by omega)
      have b5_ := b5.ev t6.e (show ¬ (w1.heap.size = w32.heap.size) by omega)
      have b9_ := b9.ev t6.e (show ¬ (w5.heap.size = w32.heap.size) by omega)
      have X1_ := X1.ev t6.e (fun i hi => show ¬ (i = w32.heap.size) by have := lX1 i hi; omega)
      have X2_ := X2.ev t6.e (fun i hi => show ¬ (i = w32.heap.size) by have := lX2 i hi; omega)
      have X3_ := X3.ev t6.e (fun i hi => show ¬ (i = w32.heap.size) by have := lX3 i hi; omega)
      have X4_ := X4.ev t6.e (fun i hi => show ¬ (i = w32.heap.size) by have := lX4 i hi; omega)
      have b18_ := b18.ev t6.e (show ¬ (w19.heap.size = w32.heap.size) by omega)
      have b20_ := b20.ev t6.e (show ¬ (w22.heap.size = w32.heap.size) by omega)
      have Y1_ := Y1.ev t6.e (fun i hi => show ¬ (i = w32.heap.size) by have := lY1 i hi; omega)
      have b22_ := b22.ev t6.e (show ¬ (w25.heap.size = w32.heap.size) by omega)
      have Y2_ := Y2.ev t6.e (fun i hi => show ¬ (i = w32.heap.size) by have := lY2 i hi; omega)
      have b24_ := b24.ev t6.e (show ¬ (w28.heap.size = w32.heap.size) by omega)
      replace BL := BL_; clear BL_
      replace U := U_; clear U_
      replace B := B_; clear B_
      replace b4 := b4_; clear b4_
      replace b5 := b5_; clear b5_
      replace b9 := b9_; clear b9_
      replace X1 := X1_; clear X1_
      replace X2 := X2_; clear X2_
      replace X3 := X3_; clear X3_
      replace X4 := X4_; clear X4_
      replace b18 := b18_; clear b18_
      replace b20 := b20_; clear b20_
      replace Y1 := Y1_; clear Y1_
      replace b22 := b22_; clear b22_
      replace Y2 := Y2_; clear Y2_
      replace b24 := b24_; clear b24_
      replace b26 : Blk .u8 w34 w32.heap.size 23 (nn (digO tabL 103 (rightC key height) (certB key root height))) := t6.c
      clear t6
      refine sv 27 (.int .i64 (ecF (rightC key height))) .of ?_
      simp only [sZ, sS]
      refine wpList_nil ?_
      refine hK19 _ _ ?_
      refine wp_seq_k fun K20 hK20 => ?_
      refine cPlain ?_
      refine sv 155 (.agg (certL key root height).toArray) (Val.cel 25 _ rfl 0 34 (by kernel_rfl) b4 _ Try.underlying25 rfl (by kernel_rfl) (by rw [certL_len _ _ _ C0.l]; omega) _ (certL_seg _ _ _ C0.l)) ?_
      simp only [sZ, sS]
      refine xCall 156 28 #[.pointer (some ⟨w5.heap.size, 0, none⟩), .agg (certL key root height).toArray] (by kernel_rfl) ?_
      refine (r18digest_any (w5.heap.size) tabL hTL tabL_32 w34 b9 key height root C0.l C0.b).mono ?_
      rintro en w35 ⟨rfl, hb1⟩
      have e21 := belE0 hb1
      have ze21 := e21.size
      replace BL := BL.e0 e21
      replace U := U.e0 e21
      replace B := B.e0 e21
      replace b4 := b4.e0 e21
      replace b5 := b5.e0 e21
      replace b9 := b9.e0 e21
      replace X1 := X1.e0 e21
      replace X2 := X2.e0 e21
      replace X3 := X3.e0 e21
      replace X4 := X4.e0 e21
      replace b18 := b18.e0 e21
      replace b20 := b20.e0 e21
      replace Y1 := Y1.e0 e21
      replace b22 := b22.e0 e21
      replace Y2 := Y2.e0 e21
      replace b24 := b24.e0 e21
      replace b26 := b26.e0 e21
      clear e21
      refine ⟨.tuple #[.agg (cellsOf .u8 (nn (digO tabL 103 (rightC key height) (certB key root height)))), .int .i64 (ecF (rightC key height))], rfl, ?_⟩
      simp only [sZ, sS]
      refine sv 154 (.tuple #[.agg (cellsOf .u8 (nn (digO tabL 103 (rightC key height) (certB key root height)))), .int .i64 (ecF (rightC key height))]) .of ?_
      simp only [sZ, sS]
      refine sv 157 (.agg (cellsOf .u8 (nn (digO tabL 103 (rightC key height) (certB key root height))))) .of ?_
      simp only [sZ, sS]
      refine sv 158 (.int .i64 (ecF (rightC key height))) .of ?_
      simp only [sZ, sS]
      refine xAlloc 28 23 ((nn (List.replicate 32 0)).map (Value.int .u8)) rfl (by kernel_rfl) ?_
      intro w36 n9
      have zn9 := n9.z
      have b28 := n9.c
      replace b28 : Blk .u8 w36 w35.heap.size 23 (nn (List.replicate 32 0)) := b28
      replace BL := BL.e0 n9.e
      replace U := U.e0 n9.e
      replace B := B.e0 n9.e
      replace b4 := b4.e0 n9.e
      replace b5 := b5.e0 n9.e
      replace b9 := b9.e0 n9.e
      replace X1 := X1.e0 n9.e
      replace X2 := X2.e0 n9.e
      replace X3 := X3.e0 n9.e
      replace X4 := X4.e0 n9.e
      replace b18 := b18.e0 n9.e
      replace b20 := b20.e0 n9.e
      replace Y1 := Y1.e0 n9.e
      replace b22 := b22.e0 n9.e
      replace Y2 := Y2.e0 n9.e
      replace b24 := b24.e0 n9.e
      replace b26 := b26.e0 n9.e
      simp only [sZ, sS]
      refine xStoreA 23 (.tmp 28) (.tmp 157) rfl .u8 w35.heap.size 23 (nn (List.replicate 32 0)) 0 (nn (digO tabL 103 (rightC key height) (certB key root height))) (by kernel_rfl) (by kernel_rfl) b28 (by rw [show (nn (digO tabL 103 (rightC key height) (certB key root height))).length = 32 by ((try simp only [nn_len, List.length_cons, List.length_nil, List.length_set, List.length_replicate]); try omega)]; kernel_rfl) (by (try simp only [nn_len, List.length_cons, List.length_nil, List.length_set, List.length_replicate]); try omega) (nn (digO tabL 103 (rightC key height) (certB key root height))) (over_whole _ _ (by (try simp only [nn_len, List.length_cons, List.length_nil, List.length_set, List.length_replicate]); try omega)) ?_
      intro w37 t7
      have zt7 := t7.z
      have BL_ := BL.ev t7.e (fun i h => show w.heap.size ≤ i by have h : i = w35.heap.size := h; omega)
      have U_ := U.ev t7.e (fun i hi => show ¬ (i = w35.heap.size) by have := lU i hi; omega)
      have B_ := B.ev t7.e (fun i hi => show ¬ (i = w35.heap.size) by have := lB i hi; omega)
      have b4_ := b4.ev t7.e (show ¬ (w.heap.size = w35.heap.size) by omega)
      have b5_ := b5.ev t7.e (show ¬ (w1.heap.size = w35.heap.size) by omega)
      have b9_ := b9.ev t7.e (show ¬ (w5.heap.size = w35.heap.size) by omega)
      have X1_ := X1.ev t7.e (fun i hi => show ¬ (i = w35.heap.size) by have := lX1 i hi; omega)
      have X2_ := X2.ev t7.e (fun i hi => show ¬ (i = w35.heap.size) by have := lX2 i hi; omega)
      have X3_ := X3.ev t7.e (fun i hi => show ¬ (i = w35.heap.size) by have := lX3 i hi; omega)
      have X4_ := X4.ev t7.e (fun i hi => show ¬ (i = w35.heap.size) by have := lX4 i hi; omega)
      have b18_ := b18.ev t7.e (show ¬ (w19.heap.size = w35.heap.size) by omega)
      have b20_ := b20.ev t7.e (show ¬ (w22.heap.size = w35.heap.size) by omega)
      have Y1_ := Y1.ev t7.e (fun i hi => show ¬ (i = w35.heap.size) by have := lY1 i hi; omega)
      have b22_ := b22.ev t7.e (show ¬ (w25.heap.size = w35.heap.size) by omega)
      have Y2_ := Y2.ev t7.e (fun i hi => show ¬ (i = w35.heap.size) by have := lY2 i hi; omega)
      have b24_ := b24.ev t7.e (show ¬ (w28.heap.size = w35.heap.size) by omega)
      have b26_ := b26.ev t7.e (show ¬ (w32.heap.size = w35.heap.size) by omega)
      replace BL := BL_; clear BL_
      replace U := U_; clear U_
      replace B := B_; clear B_
      replace b4 := b4_; clear b4_
      replace b5 := b5_; clear b5_
      replace b9 := b9_; clear b9_
      replace X1 := X1_; clear X1_
      replace X2 := X2_; clear X2_
      replace X3 := X3_; clear X3_
      replace X4 := X4_; clear X4_
      replace b18 := b18_; clear b18_
      replace b20 := b20_; clear b20_
      replace Y1 := Y1_; clear Y1_
      replace b22 := b22_; clear b22_
      replace Y2 := Y2_; clear Y2_
      replace b24 := b24_; clear b24_
      replace b26 := b26_; clear b26_
      replace b28 : Blk .u8 w37 w35.heap.size 23 (nn (digO tabL 103 (rightC key height) (certB key root height))) := t7.c
      clear t7
      refine sv 29 (.int .i64 (ecF (rightC key height))) .of ?_
      simp only [sZ, sS]
      refine wpList_nil ?_
      refine hK20 _ _ ?_
      refine wp_seq_k fun K21 hK21 => ?_
      refine cPlain ?_
      refine sv 160 (.agg #[.int .i64 q, .slice pa x.length pc]) (Val.cel 28 _ rfl 0 2 (by kernel_rfl) b5 _ Try.underlying28 rfl (by kernel_rfl) (by simp) [.int .i64 q, .slice pa x.length pc] rfl) ?_
      simp only [sZ, sS]
      refine xCall 161 29 #[.pointer (some ⟨w5.heap.size, 0, none⟩), .agg #[.int .i64 q, .slice pa x.length pc]] (by kernel_rfl) ?_
      refine (cldigest_any (w5.heap.size) tabL hTL tabL_32 w37 b9 q _ x U).mono ?_
      rintro en w38 ⟨rfl, hb1⟩
      have e22 := belE0 hb1
      have ze22 := e22.size
      replace BL := BL.e0 e22
      replace U := U.e0 e22
      replace B := B.e0 e22
      replace b4 := b4.e0 e22
      replace b5 := b5.e0 e22
      replace b9 := b9.e0 e22
      replace X1 := X1.e0 e22
      replace X2 := X2.e0 e22
      replace X3 := X3.e0 e22
      replace X4 := X4.e0 e22
      replace b18 := b18.e0 e22
      replace b20 := b20.e0 e22
      replace Y1 := Y1.e0 e22
      replace b22 := b22.e0 e22
      replace Y2 := Y2.e0 e22
      replace b24 := b24.e0 e22
      replace b26 := b26.e0 e22
      replace b28 := b28.e0 e22
      clear e22
      refine ⟨.tuple #[.agg (cellsOf .u8 (nn (digO tabL 104 (rightL q x) (listB q x)))), .int .i64 (ecF (rightL q x))], rfl, ?_⟩
      simp only [sZ, sS]
      refine sv 159 (.tuple #[.agg (cellsOf .u8 (nn (digO tabL 104 (rightL q x) (listB q x)))), .int .i64 (ecF (rightL q x))]) .of ?_
      simp only [sZ, sS]
      refine sv 162 (.agg (cellsOf .u8 (nn (digO tabL 104 (rightL q x) (listB q x))))) .of ?_
      simp only [sZ, sS]
      refine sv 163 (.int .i64 (ecF (rightL q x))) .of ?_
      simp only [sZ, sS]
      refine xAlloc 30 23 ((nn (List.replicate 32 0)).map (Value.int .u8)) rfl (by kernel_rfl) ?_
      intro w39 n10
      have zn10 := n10.z
      have b30 := n10.c
      replace b30 : Blk .u8 w39 w38.heap.size 23 (nn (List.replicate 32 0)) := b30
      replace BL := BL.e0 n10.e
      replace U := U.e0 n10.e
      replace B := B.e0 n10.e
      replace b4 := b4.e0 n10.e
      replace b5 := b5.e0 n10.e
      replace b9 := b9.e0 n10.e
      replace X1 := X1.e0 n10.e
      replace X2 := X2.e0 n10.e
      replace X3 := X3.e0 n10.e
      replace X4 := X4.e0 n10.e
      replace b18 := b18.e0 n10.e
      replace b20 := b20.e0 n10.e
      replace Y1 := Y1.e0 n10.e
      replace b22 := b22.e0 n10.e
      replace Y2 := Y2.e0 n10.e
      replace b24 := b24.e0 n10.e
      replace b26 := b26.e0 n10.e
      replace b28 := b28.e0 n10.e
      simp only [sZ, sS]
      refine xStoreA 23 (.tmp 30) (.tmp 162) rfl .u8 w38.heap.size 23 (nn (List.replicate 32 0)) 0 (nn (digO tabL 104 (rightL q x) (listB q x))) (by kernel_rfl) (by kernel_rfl) b30 (by rw [show (nn (digO tabL 104 (rightL q x) (listB q x))).length = 32 by ((try simp only [nn_len, List.length_cons, List.length_nil, List.length_set, List.length_replicate]); try omega)]; kernel_rfl) (by (try simp only [nn_len, List.length_cons, List.length_nil, List.length_set, List.length_replicate]); try omega) (nn (digO tabL 104 (rightL q x) (listB q x))) (over_whole _ _ (by (try simp only [nn_len, List.length_cons, List.length_nil, List.length_set, List.length_replicate]); try omega)) ?_
      intro w40 t8
      have zt8 := t8.z
      have BL_ := BL.ev t8.e (fun i h => show w.heap.size ≤ i by have h : i = w38.heap.size := h; omega)
      have U_ := U.ev t8.e (fun i hi => show ¬ (i = w38.heap.size) by have := lU i hi; omega)
      have B_ := B.ev t8.e (fun i hi => show ¬ (i = w38.heap.size) by have := lB i hi; omega)
      have b4_ := b4.ev t8.e (show ¬ (w.heap.size = w38.heap.size) by omega)
      have b5_ := b5.ev t8.e (show ¬ (w1.heap.size = w38.heap.size) by omega)
      have b9_ := b9.ev t8.e (show ¬ (w5.heap.size = w38.heap.size) by omega)
      have X1_ := X1.ev t8.e (fun i hi => show ¬ (i = w38.heap.size) by have := lX1 i hi; omega)
      have X2_ := X2.ev t8.e (fun i hi => show ¬ (i = w38.heap.size) by have := lX2 i hi; omega)
      have X3_ := X3.ev t8.e (fun i hi => show ¬ (i = w38.heap.size) by have := lX3 i hi; omega)
      have X4_ := X4.ev t8.e (fun i hi => show ¬ (i = w38.heap.size) by have := lX4 i hi; omega)
      have b18_ := b18.ev t8.e (show ¬ (w19.heap.size = w38.heap.size) by omega)
      have b20_ := b20.ev t8.e (show ¬ (w22.heap.size = w38.heap.size) by omega)
      have Y1_ := Y1.ev t8.e (fun i hi => show ¬ (i = w38.heap.size) by have := lY1 i hi; omega)
      have b22_ := b22.ev t8.e (show ¬ (w25.heap.size = w38.heap.size) by omega)
      have Y2_ := Y2.ev t8.e (fun i hi => show ¬ (i = w38.heap.size) by have := lY2 i hi; omega)
      have b24_ := b24.ev t8.e (show ¬ (w28.heap.size = w38.heap.size) by omega)
      have b26_ := b26.ev t8.e (show ¬ (w32.heap.size = w38.heap.size) by omega)
      have b28_ := b28.ev t8.e (show ¬ (w35.heap.size = w38.heap.size) by omega)
      replace BL := BL_; clear BL_
      replace U := U_; clear U_
      replace B := B_; clear B_
      replace b4 := b4_; clear b4_
      replace b5 := b5_; clear b5_
      replace b9 := b9_; clear b9_
      replace X1 := X1_; clear X1_
      replace X2 := X2_; clear X2_
      replace X3 := X3_; clear X3_
      replace X4 := X4_; clear X4_
      replace b18 := b18_; clear b18_
      replace b20 := b20_; clear b20_
      replace Y1 := Y1_; clear Y1_
      replace b22 := b22_; clear b22_
      replace Y2 := Y2_; clear Y2_
      replace b24 := b24_; clear b24_
      replace b26 := b26_; clear b26_
      replace b28 := b28_; clear b28_
      replace b30 : Blk .u8 w40 w38.heap.size 23 (nn (digO tabL 104 (rightL q x) (listB q x))) := t8.c
      clear t8
      refine sv 31 (.int .i64 (ecF (rightL q x))) .of ?_
      simp only [sZ, sS]
      refine wpList_nil ?_
      refine hK21 _ _ ?_
      refine wp_seq_k fun K22 hK22 => ?_
      refine cPlain ?_
      refine sv 165 (.agg #[.int .i64 q, .slice pa x.length pc]) (Val.cel 28 _ rfl 0 2 (by kernel_rfl) b5 _ Try.underlying28 rfl (by kernel_rfl) (by simp) [.int .i64 q, .slice pa x.length pc] rfl) ?_
      simp only [sZ, sS]
      refine xCall 166 30 #[.pointer (some ⟨w5.heap.size, 0, none⟩), .agg #[.int .i64 q, .slice pa x.length pc]] (by kernel_rfl) ?_
      refine (r18ldigest_any (w5.heap.size) tabL hTL tabL_32 w40 b9 q _ x U).mono ?_
      rintro en w41 ⟨rfl, hb1⟩
      have e23 := belE0 hb1
      have ze23 := e23.size
      replace BL := BL.e0 e23
      replace U := U.e0 e23
      replace B := B.e0 e23
      replace b4 := b4.e0 e23
      replace b5 := b5.e0 e23
      replace b9 := b9.e0 e23
      replace X1 := X1.e0 e23
      replace X2 := X2.e0 e23
      replace X3 := X3.e0 e23
      replace X4 := X4.e0 e23
      replace b18 := b18.e0 e23
      replace b20 := b20.e0 e23
      replace Y1 := Y1.e0 e23
      replace b22 := b22.e0 e23
      replace Y2 := Y2.e0 e23
      replace b24 := b24.e0 e23
      replace b26 := b26.e0 e23
      replace b28 := b28.e0 e23
      replace b30 := b30.e0 e23
      clear e23
      refine ⟨.tuple #[.agg (cellsOf .u8 (nn (digO tabL 104 (rightL q x) (listB q x)))), .int .i64 (ecF (rightL q x))], rfl, ?_⟩
      simp only [sZ, sS]
      refine sv 164 (.tuple #[.agg (cellsOf .u8 (nn (digO tabL 104 (rightL q x) (listB q x)))), .int .i64 (ecF (rightL q x))]) .of ?_
      simp only [sZ, sS]
      refine sv 167 (.agg (cellsOf .u8 (nn (digO tabL 104 (rightL q x) (listB q x))))) .of ?_
      simp only [sZ, sS]
      refine sv 168 (.int .i64 (ecF (rightL q x))) .of ?_
      simp only [sZ, sS]
      refine xAlloc 32 23 ((nn (List.replicate 32 0)).map (Value.int .u8)) rfl (by kernel_rfl) ?_
      intro w42 n11
      have zn11 := n11.z
      have b32 := n11.c
      replace b32 : Blk .u8 w42 w41.heap.size 23 (nn (List.replicate 32 0)) := b32
      replace BL := BL.e0 n11.e
      replace U := U.e0 n11.e
      replace B := B.e0 n11.e
      replace b4 := b4.e0 n11.e
      replace b5 := b5.e0 n11.e
      replace b9 := b9.e0 n11.e
      replace X1 := X1.e0 n11.e
      replace X2 := X2.e0 n11.e
      replace X3 := X3.e0 n11.e
      replace X4 := X4.e0 n11.e
      replace b18 := b18.e0 n11.e
      replace b20 := b20.e0 n11.e
      replace Y1 := Y1.e0 n11.e
      replace b22 := b22.e0 n11.e
      replace Y2 := Y2.e0 n11.e
      replace b24 := b24.e0 n11.e
      replace b26 := b26.e0 n11.e
      replace b28 := b28.e0 n11.e
      replace b30 := b30.e0 n11.e
      simp only [sZ, sS]
      refine xStoreA 23 (.tmp 32) (.tmp 167) rfl .u8 w41.heap.size 23 (nn (List.replicate 32 0)) 0 (nn (digO tabL 104 (rightL q x) (listB q x))) (by kernel_rfl) (by kernel_rfl) b32 (by rw [show (nn (digO tabL 104 (rightL q x) (listB q x))).length = 32 by ((try simp only [nn_len, List.length_cons, List.length_nil, List.length_set, List.length_replicate]); try omega)]; kernel_rfl) (by (try simp only [nn_len, List.length_cons, List.length_nil, List.length_set, List.length_replicate]); try omega) (nn (digO tabL 104 (rightL q x) (listB q x))) (over_whole _ _ (by (try simp only [nn_len, List.length_cons, List.length_nil, List.length_set, List.length_replicate]); try omega)) ?_
      intro w43 t9
      have zt9 := t9.z
      have BL_ := BL.ev t9.e (fun i h => show w.heap.size ≤ i by have h : i = w41.heap.size := h; omega)
      have U_ := U.ev t9.e (fun i hi => show ¬ (i = w41.heap.size) by have := lU i hi; omega)
      have B_ := B.ev t9.e (fun i hi => show ¬ (i = w41.heap.size) by have := lB i hi; omega)
      have b4_ := b4.ev t9.e (show ¬ (w.heap.size = w41.heap.size) by omega)
      have b5_ := b5.ev t9.e (show ¬ (w1.heap.size = w41.heap.size) by omega)
      have b9_ := b9.ev t9.e (show ¬ (w5.heap.size = w41.heap.size) by omega)
      have X1_ := X1.ev t9.e (fun i hi => show ¬ (i = w41.heap.size) by have := lX1 i hi; omega)
      have X2_ := X2.ev t9.e (fun i hi => show ¬ (i = w41.heap.size) by have := lX2 i hi; omega)
      have X3_ := X3.ev t9.e (fun i hi => show ¬ (i = w41.heap.size) by have := lX3 i hi; omega)
      have X4_ := X4.ev t9.e (fun i hi => show ¬ (i = w41.heap.size) by have := lX4 i hi; omega)
      have b18_ := b18.ev t9.e (show ¬ (w19.heap.size = w41.heap.size) by omega)
      have b20_ := b20.ev t9.e (show ¬ (w22.heap.size = w41.heap.size) by omega)
      have Y1_ := Y1.ev t9.e (fun i hi => show ¬ (i = w41.heap.size) by have := lY1 i hi; omega)
      have b22_ := b22.ev t9.e (show ¬ (w25.heap.size = w41.heap.size) by omega)
      have Y2_ := Y2.ev t9.e (fun i hi => show ¬ (i = w41.heap.size) by have := lY2 i hi; omega)
      have b24_ := b24.ev t9.e (show ¬ (w28.heap.size = w41.heap.size) by omega)
      have b26_ := b26.ev t9.e (show ¬ (w32.heap.size = w41.heap.size) by omega)
      have b28_ := b28.ev t9.e (show ¬ (w35.heap.size = w41.heap.size) by omega)
      have b30_ := b30.ev t9.e (show ¬ (w38.heap.size = w41.heap.size) by omega)
      replace BL := BL_; clear BL_
      replace U := U_; clear U_
      replace B := B_; clear B_
      replace b4 := b4_; clear b4_
      replace b5 := b5_; clear b5_
      replace b9 := b9_; clear b9_
      replace X1 := X1_; clear X1_
      replace X2 := X2_; clear X2_
      replace X3 := X3_; clear X3_
      replace X4 := X4_; clear X4_
      replace b18 := b18_; clear b18_
      replace b20 := b20_; clear b20_
      replace Y1 := Y1_; clear Y1_
      replace b22 := b22_; clear b22_
      replace Y2 := Y2_; clear Y2_
      replace b24 := b24_; clear b24_
      replace b26 := b26_; clear b26_
      replace b28 := b28_; clear b28_
      replace b30 := b30_; clear b30_
      replace b32 : Blk .u8 w43 w41.heap.size 23 (nn (digO tabL 104 (rightL q x) (listB q x))) := t9.c
      clear t9
      refine sv 33 (.int .i64 (ecF (rightL q x))) .of ?_
      simp only [sZ, sS]
      refine wpList_nil ?_
      refine hK22 _ _ ?_
      refine wp_seq_k fun K23 hK23 => ?_
      refine cPlain ?_
      refine sv 169 (.agg (cellsOf .u8 (nn (digO tabL 103 (rightC key height) (certB key root height))))) (Val.blk 23 _ rfl 0 32 (by kernel_rfl) b26 _ Try.underlying23 rfl (by kernel_rfl) (by (try simp only [nn_len, List.length_cons, List.length_nil, List.length_set, List.length_replicate]); try omega) _ (seg_all' _ (by (try simp only [nn_len, List.length_cons, List.length_nil, List.length_set, List.length_replicate]); try omega))) ?_
      simp only [sZ, sS]
      refine sv 170 (.agg (cellsOf .u8 (nn (digO tabL 103 (rightC key height) (certB key root height))))) (Val.blk 23 _ rfl 0 32 (by kernel_rfl) b28 _ Try.underlying23 rfl (by kernel_rfl) (by (try simp only [nn_len, List.length_cons, List.length_nil, List.length_set, List.length_replicate]); try omega) _ (seg_all' _ (by (try simp only [nn_len, List.length_cons, List.length_nil, List.length_set, List.length_replicate]); try omega))) ?_
      simp only [sZ, sS]
      refine sv 171 (.bool true) (Val.eqA .eql 23 _ (.tmp 169) (.tmp 170) rfl Try.underlying23 Try.underlying5 (by kernel_rfl) (by kernel_rfl) (nn (digO tabL 103 (rightC key height) (certB key root height))) (nn (digO tabL 103 (rightC key height) (certB key root height))) (by kernel_rfl) (by kernel_rfl) (by rw [nn_len]; exact digO_len _ _ _ _) (by rw [nn_len]; exact digO_len _ _ _ _) (.inl rfl) true (by simp)) ?_
      simp only [sZ, sS]
      refine sv 172 (.bool true) .of ?_
      simp only [sZ, sS]
      refine sv 173 (.int .i64 (ecF (rightC key height))) .of ?_
      simp only [sZ, sS]
      refine sv 174 (.int .i64 (ecF (rightC key height))) .of ?_
      simp only [sZ, sS]
      refine sv 175 (.bool true) (Val.cmp .eql 37 _ (.tmp 173) (.tmp 174) rfl .i64 (ecF (rightC key height)) (ecF (rightC key height)) (by kernel_rfl) (by kernel_rfl) (by simp) _ (eql_refl _)) ?_
      simp only [sZ, sS]
      refine sv 176 (.bool true) .of ?_
      simp only [sZ, sS]
      refine sv 177 (.bool true) .of ?_
      simp only [sZ, sS]
      refine sv 178 (.agg (cellsOf .u8 (nn (digO tabL 104 (rightL q x) (listB q x))))) (Val.blk 23 _ rfl 0 32 (by kernel_rfl) b30 _ Try.underlying23 rfl (by kernel_rfl) (by (try simp only [nn_len, List.length_cons, List.length_nil, List.length_set, List.length_replicate]); try omega) _ (seg_all' _ (by (try simp only [nn_len, List.length_cons, List.length_nil, List.length_set, List.length_replicate]); try omega))) ?_
      simp only [sZ, sS]
      refine sv 179 (.agg (cellsOf .u8 (nn (digO tabL 104 (rightL q x) (listB q x))))) (Val.blk 23 _ rfl 0 32 (by kernel_rfl) b32 _ Try.underlying23 rfl (by kernel_rfl) (by (try simp only [nn_len, List.length_cons, List.length_nil, List.length_set, List.length_replicate]); try omega) _ (seg_all' _ (by (try simp only [nn_len, List.length_cons, List.length_nil, List.length_set, List.length_replicate]); try omega))) ?_
      simp only [sZ, sS]
      refine sv 180 (.bool true) (Val.eqA .eql 23 _ (.tmp 178) (.tmp 179) rfl Try.underlying23 Try.underlying5 (by kernel_rfl) (by kernel_rfl) (nn (digO tabL 104 (rightL q x) (listB q x))) (nn (digO tabL 104 (rightL q x) (listB q x))) (by kernel_rfl) (by kernel_rfl) (by rw [nn_len]; exact digO_len _ _ _ _) (by rw [nn_len]; exact digO_len _ _ _ _) (.inl rfl) true (by simp)) ?_
      simp only [sZ, sS]
      refine sv 181 (.bool true) .of ?_
      simp only [sZ, sS]
      refine sv 182 (.bool true) .of ?_
      simp only [sZ, sS]
      refine sv 183 (.int .i64 (ecF (rightL q x))) .of ?_
      simp only [sZ, sS]
      refine sv 184 (.int .i64 (ecF (rightL q x))) .of ?_
      simp only [sZ, sS]
      refine sv 185 (.bool true) (Val.cmp .eql 37 _ (.tmp 183) (.tmp 184) rfl .i64 (ecF (rightL q x)) (ecF (rightL q x)) (by kernel_rfl) (by kernel_rfl) (by simp) _ (eql_refl _)) ?_
      simp only [sZ, sS]
      refine sv 186 (.bool true) .of ?_
      simp only [sZ, sS]
      refine sv 187 (.bool true) .of ?_
      simp only [sZ, sS]
      refine xCall 188 10 #[] (by kernel_rfl) ?_
      refine (awake18 w43).mono ?_
      rintro en w44 ⟨rfl, hb1⟩
      have e24 := belE0 hb1
      have ze24 := e24.size
      replace BL := BL.e0 e24
      replace U := U.e0 e24
      replace B := B.e0 e24
      replace b4 := b4.e0 e24
      replace b5 := b5.e0 e24
      replace b9 := b9.e0 e24
      replace X1 := X1.e0 e24
      replace X2 := X2.e0 e24
      replace X3 := X3.e0 e24
      replace X4 := X4.e0 e24
      replace b18 := b18.e0 e24
      replace b20 := b20.e0 e24
      replace Y1 := Y1.e0 e24
      replace b22 := b22.e0 e24
      replace Y2 := Y2.e0 e24
      replace b24 := b24.e0 e24
      replace b26 := b26.e0 e24
      replace b28 := b28.e0 e24
      replace b30 := b30.e0 e24
      replace b32 := b32.e0 e24
      clear e24
      refine ⟨.bool true, rfl, ?_⟩
      simp only [sZ, sS]
      refine sv 189 (.bool true) .of ?_
      simp only [sZ, sS]
      refine sv 8 (.bool true) .of ?_
      simp only [sZ, sS]
      refine wpList_nil ?_
      refine hK23 _ _ ?_
      refine wp_ret ?_
      (try simp only [Exit.then, Exit.inBlock])
      refine bodyPost_ret (v := .bool true) rT rfl ?_
      exact ⟨rfl, BL.b⟩

theorem certTells_any (w : World) (c0 : List Value) (R0 : RFields [(1, RInt .i64), (32, RInts .u8 32), (1, RInt .i64)] w c0) (c1 : List Value) (R1 : RFields [(1, RInt .i64), (1, RRow .i64)] w c1) (bv : Value) (xs : List Int) (B : SL .u8 w bv xs) (hb : ∀ y ∈ xs, 0 ≤ y ∧ y < 256) (key2 : Int) (hk2 : -9223372036854775808 ≤ key2 ∧ key2 ≤ 9223372036854775807) :
    Calls Try.prog 3 #[.agg c0.toArray, .agg c1.toArray, bv, .int .i64 key2] w fun e w' => e = .returned (.bool true) ∧ Below w.heap.size w w' := by
  obtain ⟨k, r, h, rfl, C0⟩ := rcert R0
  obtain ⟨q, lv, x, rfl, U⟩ := rrev R1
  obtain ⟨bs, rfl, hl⟩ := nn_of (fun y hy => (hb y hy).1)
  exact certTells_walk w k h r C0 q lv x U bv bs B (fun y hy => by have := hb (y : Int) (by unfold nn; exact List.mem_map.2 ⟨y, hy, rfl⟩); omega) key2
end Go.Proofs.Ytanggdnmoaflfaa
