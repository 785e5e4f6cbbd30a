/-
  cert.Digest, cert.ListDigest, ref18.Digest, ref18.ListDigest.
-/
import Derived.Test.YtanggdnmoaflfaaRef18S
import Derived.Test.YtanggdnmoaflfaaRef9
namespace Go.Proofs.Ytanggdnmoaflfaa
open Go.RowKit
set_option linter.unusedVariables false
set_option linter.unusedSimpArgs false
set_option maxRecDepth 100000
attribute [local irreducible] wpList Code.wp wpAnyZ taggedN
/-- A digest under a tag, if there are bytes. -/
def digO (tab : List Nat) (tag : Nat) (ok : Bool) (xs : List Int) : List Nat := if ok then taggedN tab tag [xs.map Int.toNat] else List.replicate 32 0
theorem digO_len (tab : List Nat) (tag : Nat) (ok : Bool) (xs : List Int) : (digO tab tag ok xs).length = 32 := by
  unfold digO
  split
  · unfold taggedN; exact ofN_32 _ _
  · exact List.length_replicate
theorem toNat_lt {xs : List Int} (h : Bytes xs) : ∀ x ∈ xs.map Int.toNat, x < 256 := fun x hx => by
  obtain ⟨y, hy, rfl⟩ := List.mem_map.1 hx
  have := h y hy
  omega
theorem toNat_nn {xs : List Int} (h : Bytes xs) : nn (xs.map Int.toNat) = xs := nn_toNat fun x hx => (h x hx).1
theorem certB_small {k h : Int} {root : List Int} (hr : root.length = 32) : (certB k root h).length ≤ 100 := by
  have := certB_len k root h
  have h1 := uintB_len k.toNat
  have h2 := uintB_len h.toNat
  omega
theorem listB_small {q : Int} {ks : List Int} (hok : rightL q ks = true) : (listB q ks).length ≤ 1000 := by
  have := listB_len q ks
  have h1 := uintB_len q.toNat
  have h2 := uintB_len ks.length
  have h3 := uintsB_len ks
  have h4 := (rightL_all hok).2.1
  omega
theorem one_small {xs : List Int} (h : xs.length ≤ 1000) : (blobsB ([xs.map Int.toNat].map nn)).length ≤ 1000000000000 := by
  have := blobsB_small [xs.map Int.toNat] 1000 (fun p hp => by rw [List.mem_singleton.1 hp, List.length_map]; exact h) (by omega)
  simp only [List.length_cons, List.length_nil] at this
  omega
theorem one_le {xs : List Int} (h : xs.length ≤ 1000) : ∀ p ∈ [xs.map Int.toNat], p.length ≤ 1000000 := fun p hp => by rw [List.mem_singleton.1 hp, List.length_map]; omega
theorem one_b {xs : List Int} (h : Bytes xs) : ∀ p ∈ [xs.map Int.toNat], ∀ x ∈ p, x < 256 := fun p hp => by rw [List.mem_singleton.1 hp]; exact toNat_lt h
theorem digO_t (tab : List Nat) (tag : Nat) (xs : List Int) : digO tab tag true xs = taggedN tab tag [xs.map Int.toNat] := by unfold digO; rw [if_pos rfl]
theorem digO_f (tab : List Nat) (tag : Nat) (xs : List Int) : digO tab tag false xs = List.replicate 32 0 := by unfold digO; rw [if_neg (by decide)]
theorem certB_def (k h : Int) (root : List Int) : ([1] ++ uintsB [k, h]) ++ root = certB k root h := rfl
theorem listB_def (q : Int) (ks : List Int) : [2] ++ uintsB [q, ks.length] ++ uintsB ks = listB q ks := rfl
attribute [local irreducible] digO certB listB rightC rightL
set_option maxHeartbeats 8000000 in
theorem cdigest_any (T : Nat) (tab : List Nat) (ht : tab.length = 72) (h32 : ∀ x ∈ tab, x < 4294967296) (w : World) (TB : Blk .u32 w T 35 (nn tab)) (key height : Int) (root : List Int) (hr : root.length = 32) (hb : Bytes root) :
    Calls Try.prog 27 #[.pointer (some ⟨T, 0, none⟩), .agg (certL key root height).toArray] w fun e w' => e = .returned (.tuple #[.agg (cellsOf .u8 (nn (digO tab 103 (rightC key height) (certB key root height)))), .int .i64 (ecF (rightC key height))]) ∧ Below w.heap.size w w' := by
  have BL := Bl.refl w
  have hT := TB.lt
  go_enter Try.func27, Try.ntmps27
  refine wp_seq_k fun K1 hK1 => ?_
  refine cPlain ?_
  refine xBox 3 25 _ (certL key root height) rfl (by kernel_rfl) ?_
  intro w1 n1
  have zn1 := n1.z
  have b3 := n1.c
  replace BL := BL.e0 n1.e
  replace TB := TB.e0 n1.e
  simp only [sZ, sS]
  refine xAlloc 4 23 ((nn (List.replicate 32 0)).map (Value.int .u8)) rfl (by kernel_rfl) ?_
  intro w2 n2
  have zn2 := n2.z
  have b4 := n2.c
  replace b4 : Blk .u8 w2 w1.heap.size 23 (nn (List.replicate 32 0)) := b4
  replace BL := BL.e0 n2.e
  replace TB := TB.e0 n2.e
  replace b3 := b3.e0 n2.e
  simp only [sZ, sS]
  refine sv 5 (.int .i64 0) .of ?_
  simp only [sZ, sS]
  refine wpList_nil ?_
  refine hK1 _ _ ?_
  refine wp_seq_k fun K2 hK2 => ?_
  refine cPlain ?_
  refine sv 9 (.agg (certL key root height).toArray) (Val.cel 25 _ rfl 0 34 (by kernel_rfl) b3 _ Try.underlying25 rfl (by kernel_rfl) (by rw [certL_len _ _ _ hr]; omega) _ (certL_seg _ _ _ hr)) ?_
  simp only [sZ, sS]
  refine xCall 10 12 #[.agg (certL key root height).toArray] (by kernel_rfl) ?_
  refine (certbytes_any key height root hr w2).mono ?_
  rintro en w3 hp
  rcases hp.2 with ⟨hok, rfl⟩ | ⟨hok, u, rfl, hO⟩
  · skip
    have e1 := belE0 hp.1
    have ze1 := e1.size
    replace BL := BL.e0 e1
    replace TB := TB.e0 e1
    replace b3 := b3.e0 e1
    replace b4 := b4.e0 e1
    clear e1
    refine ⟨.tuple #[.slice none 0 0, .int .i64 180], rfl, ?_⟩
    simp only [sZ, sS]
    refine sv 8 (.tuple #[.slice none 0 0, .int .i64 180]) .of ?_
    simp only [sZ, sS]
    refine sv 11 (.slice none 0 0) .of ?_
    simp only [sZ, sS]
    refine sv 12 (.int .i64 180) .of ?_
    simp only [sZ, sS]
    refine sv 6 (.slice none 0 0) .of ?_
    simp only [sZ, sS]
    refine sv 7 (.int .i64 180) .of ?_
    simp only [sZ, sS]
    refine wpList_nil ?_
    refine hK2 _ _ ?_
    refine wp_seq_k fun K3 hK3 => ?_
    refine wp_seq_k fun K4 hK4 => ?_
    refine cPlain ?_
    refine sv 13 (.int .i64 180) .of ?_
    simp only [sZ, sS]
    refine sv 14 (.bool true) (Val.cmp .neq 37 _ (.tmp 13) _ rfl .i64 180 0 (by kernel_rfl) (by kernel_rfl) (by simp) _ rfl) ?_
    simp only [sZ, sS]
    refine wpList_nil ?_
    refine hK4 _ _ ?_
    refine cT ?_
    refine wp_seq_k fun K5 hK5 => ?_
    refine cPlain ?_
    refine sv 15 (.agg (cellsOf .u8 (nn [0, 0, 0, 0, 0, 0, 0, 0, 0, 0, 0, 0, 0, 0, 0, 0, 0, 0, 0, 0, 0, 0, 0, 0, 0, 0, 0, 0, 0, 0, 0, 0]))) .of ?_
    simp only [sZ, sS]
    refine sv 16 (.int .i64 180) .of ?_
    simp only [sZ, sS]
    refine xStoreA 23 (.tmp 4) (.tmp 15) rfl .u8 w1.heap.size 23 (nn (List.replicate 32 0)) 0 (nn [0, 0, 0, 0, 0, 0, 0, 0, 0, 0, 0, 0, 0, 0, 0, 0, 0, 0, 0, 0, 0, 0, 0, 0, 0, 0, 0, 0, 0, 0, 0, 0]) (by kernel_rfl) (by kernel_rfl) b4 (by rw [show (nn [0, 0, 0, 0, 0, 0, 0, 0, 0, 0, 0, 0, 0, 0, 0, 0, 0, 0, 0, 0, 0, 0, 0, 0, 0, 0, 0, 0, 0, 0, 0, 0]).length = 32 by ((try simp only [nn_len, List.length_cons, List.length_nil, List.length_set, List.length_replicate]); try omega)]; kernel_rfl) (by (try simp only [nn_len, List.length_cons, List.length_nil, List.length_set, List.length_replicate]); try omega) (nn [0, 0, 0, 0, 0, 0, 0, 0, 0, 0, 0, 0, 0, 0, 0, 0, 0, 0, 0, 0, 0, 0, 0, 0, 0, 0, 0, 0, 0, 0, 0, 0]) (over_whole _ _ (by (try simp only [nn_len, List.length_cons, List.length_nil, List.length_set, List.length_replicate]); try omega)) ?_
    intro w4 t1
    have zt1 := t1.z
    have BL_ := BL.ev t1.e (fun i h => show w.heap.size ≤ i by have h : i = w1.heap.size := h; omega)
    have TB_ := TB.ev t1.e (show ¬ (T = w1.heap.size) by omega)
    have b3_ := b3.ev t1.e (show ¬ (w.heap.size = w1.heap.size) by omega)
    replace BL := BL_; clear BL_
    replace TB := TB_; clear TB_
    replace b3 := b3_; clear b3_
    replace b4 : Blk .u8 w4 w1.heap.size 23 (nn [0, 0, 0, 0, 0, 0, 0, 0, 0, 0, 0, 0, 0, 0, 0, 0, 0, 0, 0, 0, 0, 0, 0, 0, 0, 0, 0, 0, 0, 0, 0, 0]) := t1.c
    clear t1
    refine sv 5 (.int .i64 180) .of ?_
    simp only [sZ, sS]
    refine wpList_nil ?_
    refine hK5 _ _ ?_
    refine wp_ret ?_
    (try simp only [Exit.then, Exit.inBlock])
    refine bodyPost_ret (rCT rfl _ w1.heap.size _ _ (.int .i64 180) (by kernel_rfl) (by kernel_rfl) b4.cel _ Try.underlying23 rfl (by rw [List.length_map, show (nn [0, 0, 0, 0, 0, 0, 0, 0, 0, 0, 0, 0, 0, 0, 0, 0, 0, 0, 0, 0, 0, 0, 0, 0, 0, 0, 0, 0, 0, 0, 0, 0]).length = 32 by ((try simp only [nn_len, List.length_cons, List.length_nil, List.length_set, List.length_replicate]); try omega)]; kernel_rfl)) rfl ?_
    rw [hok, digO_f]
    exact ⟨rfl, BL.b⟩
  · skip
    rw [certB_def] at hO
    replace hO := hO.cast (toNat_nn (certB_bytes hb hok)).symm
    obtain ⟨ua, uc, rfl⟩ := hO.len
    have e2 := belE0 hp.1
    have ze2 := e2.size
    replace BL := BL.e0 e2
    replace TB := TB.e0 e2
    replace b3 := b3.e0 e2
    replace b4 := b4.e0 e2
    clear e2
    have U : Own 5 .u8 w2.heap.size w3 (.slice ua (nn ((certB key root height).map Int.toNat)).length uc) (nn ((certB key root height).map Int.toNat)) := hO
    have lU_1 := U.ge
    refine ⟨.tuple #[.slice ua (nn ((certB key root height).map Int.toNat)).length uc, .int .i64 0], rfl, ?_⟩
    simp only [sZ, sS]
    refine sv 8 (.tuple #[.slice ua (nn ((certB key root height).map Int.toNat)).length uc, .int .i64 0]) .of ?_
    simp only [sZ, sS]
    refine sv 11 (.slice ua (nn ((certB key root height).map Int.toNat)).length uc) .of ?_
    simp only [sZ, sS]
    refine sv 12 (.int .i64 0) .of ?_
    simp only [sZ, sS]
    refine sv 6 (.slice ua (nn ((certB key root height).map Int.toNat)).length uc) .of ?_
    simp only [sZ, sS]
    refine sv 7 (.int .i64 0) .of ?_
    simp only [sZ, sS]
    refine wpList_nil ?_
    refine hK2 _ _ ?_
    refine wp_seq_k fun K6 hK6 => ?_
    refine wp_seq_k fun K7 hK7 => ?_
    refine cPlain ?_
    refine sv 13 (.int .i64 0) .of ?_
    simp only [sZ, sS]
    refine sv 14 (.bool false) (Val.cmp .neq 37 _ (.tmp 13) _ rfl .i64 0 0 (by kernel_rfl) (by kernel_rfl) (by simp) _ rfl) ?_
    simp only [sZ, sS]
    refine wpList_nil ?_
    refine hK7 _ _ ?_
    refine cF ?_
    refine wp_skip ?_
    refine hK6 _ _ ?_
    refine wp_seq_k fun K8 hK8 => ?_
    refine cPlain ?_
    refine sv 17 (.pointer (some ⟨T, 0, none⟩)) .of ?_
    simp only [sZ, sS]
    refine sv 18 (.slice ua (nn ((certB key root height).map Int.toNat)).length uc) .of ?_
    simp only [sZ, sS]
    refine xLit 19 99 29 1 _ #[(0, .slice ua (nn ((certB key root height).map Int.toNat)).length uc)] [.slice ua (nn ((certB key root height).map Int.toNat)).length uc] rfl (by kernel_rfl) (by kernel_rfl) ?_
    intro w5 n3
    have zn3 := n3.z
    have b19 := n3.c
    replace BL := BL.e0 n3.e
    replace TB := TB.e0 n3.e
    replace b3 := b3.e0 n3.e
    replace b4 := b4.e0 n3.e
    replace U := U.e0 n3.e
    simp only [sZ, sS]
    refine xCall 20 55 #[.pointer (some ⟨T, 0, none⟩), .int .u8 103, .slice (some ⟨w3.heap.size, 0, none⟩) 1 1] (by kernel_rfl) ?_
    refine (tagged_any T tab ht w5 TB 103 _ [.slice ua (nn ((certB key root height).map Int.toNat)).length uc] [(certB key root height).map Int.toNat] (SV.ofCelM (n := 1) b19 rfl (by unfold maxLen; omega)) (SLs.one U.sl (fun g hg => by have := lU_1 g hg; omega)) (one_small (Nat.le_trans (certB_small hr) (by omega))) (by simp)).mono ?_
    rintro en w6 ⟨rfl, hb1⟩
    have e3 := belE0 hb1
    have ze3 := e3.size
    replace BL := BL.e0 e3
    replace TB := TB.e0 e3
    replace b3 := b3.e0 e3
    replace b4 := b4.e0 e3
    replace U := U.e0 e3
    replace b19 := b19.e0 e3
    clear e3
    have hdl : (taggedN tab 103 [(certB key root height).map Int.toNat]).length = 32 := by unfold taggedN; exact ofN_32 _ _
    refine ⟨.agg (cellsOf .u8 (nn (taggedN tab 103 [(certB key root height).map Int.toNat]))), rfl, ?_⟩
    simp only [sZ, sS]
    refine xStoreA 23 (.tmp 4) (.tmp 20) rfl .u8 w1.heap.size 23 (nn (List.replicate 32 0)) 0 (nn (taggedN tab 103 [(certB key root height).map Int.toNat])) (by kernel_rfl) (by kernel_rfl) b4 (by rw [show (nn (taggedN tab 103 [(certB key root height).map Int.toNat])).length = 32 by ((try simp only [nn_len, List.length_cons, List.length_nil, List.length_set, List.length_replicate]); try omega)]; kernel_rfl) (by (try simp only [nn_len, List.length_cons, List.length_nil, List.length_set, List.length_replicate]); try omega) (nn (taggedN tab 103 [(certB key root height).map Int.toNat])) (over_whole _ _ (by (try simp only [nn_len, List.length_cons, List.length_nil, List.length_set, List.length_replicate]); try omega)) ?_
    intro w7 t2
    have zt2 := t2.z
    have BL_ := BL.ev t2.e (fun i h => show w.heap.size ≤ i by have h : i = w1.heap.size := h; omega)
    have TB_ := TB.ev t2.e (show ¬ (T = w1.heap.size) by omega)
    have b3_ := b3.ev t2.e (show ¬ (w.heap.size = w1.heap.size) by omega)
    have U_ := U.ev t2.e (fun i hi => show ¬ (i = w1.heap.size) by have := lU_1 i hi; omega)
    have b19_ := b19.ev t2.e (show ¬ (w3.heap.size = w1.heap.size) by omega)
    replace BL := BL_; clear BL_
    replace TB := TB_; clear TB_
    replace b3 := b3_; clear b3_
    replace U := U_; clear U_
    replace b19 := b19_; clear b19_
    replace b4 : Blk .u8 w7 w1.heap.size 23 (nn (taggedN tab 103 [(certB key root height).map Int.toNat])) := t2.c
    clear t2
    refine sv 5 (.int .i64 0) .of ?_
    simp only [sZ, sS]
    refine wpList_nil ?_
    refine hK8 _ _ ?_
    refine wp_ret ?_
    (try simp only [Exit.then, Exit.inBlock])
    refine bodyPost_ret (rCT rfl _ w1.heap.size _ _ (.int .i64 0) (by kernel_rfl) (by kernel_rfl) b4.cel _ Try.underlying23 rfl (by rw [List.length_map, show (nn (taggedN tab 103 [(certB key root height).map Int.toNat])).length = 32 by ((try simp only [nn_len, List.length_cons, List.length_nil, List.length_set, List.length_replicate]); try omega)]; kernel_rfl)) rfl ?_
    rw [hok, digO_t]
    exact ⟨rfl, BL.b⟩

set_option maxHeartbeats 8000000 in
theorem cldigest_any (T : Nat) (tab : List Nat) (ht : tab.length = 72) (h32 : ∀ x ∈ tab, x < 4294967296) (w : World) (TB : Blk .u32 w T 35 (nn tab)) (seq : Int) (v : Value) (xs : List Int) (D : SL .i64 w v xs) :
    Calls Try.prog 29 #[.pointer (some ⟨T, 0, none⟩), .agg #[.int .i64 seq, v]] w fun e w' => e = .returned (.tuple #[.agg (cellsOf .u8 (nn (digO tab 104 (rightL seq xs) (listB seq xs)))), .int .i64 (ecF (rightL seq xs))]) ∧ Below w.heap.size w w' := by
  have BL := Bl.refl w
  have hT := TB.lt
  obtain ⟨pa, pc, rfl, hm⟩ := D.len
  have hvl := D.lt
  go_enter Try.func29, Try.ntmps29
  refine wp_seq_k fun K1 hK1 => ?_
  refine cPlain ?_
  refine xBox 3 28 _ [.int .i64 seq, .slice pa xs.length pc] rfl (by kernel_rfl) ?_
  intro w1 n1
  have zn1 := n1.z
  have b3 := n1.c
  replace BL := BL.e0 n1.e
  replace TB := TB.e0 n1.e
  replace D := D.e0 n1.e
  simp only [sZ, sS]
  refine xAlloc 4 23 ((nn (List.replicate 32 0)).map (Value.int .u8)) rfl (by kernel_rfl) ?_
  intro w2 n2
  have zn2 := n2.z
  have b4 := n2.c
  replace b4 : Blk .u8 w2 w1.heap.size 23 (nn (List.replicate 32 0)) := b4
  replace BL := BL.e0 n2.e
  replace TB := TB.e0 n2.e
  replace D := D.e0 n2.e
  replace b3 := b3.e0 n2.e
  simp only [sZ, sS]
  refine sv 5 (.int .i64 0) .of ?_
  simp only [sZ, sS]
  refine wpList_nil ?_
  refine hK1 _ _ ?_
  refine wp_seq_k fun K2 hK2 => ?_
  refine cPlain ?_
  refine sv 9 (.agg #[.int .i64 seq, .slice pa xs.length pc]) (Val.cel 28 _ rfl 0 2 (by kernel_rfl) b3 _ Try.underlying28 rfl (by kernel_rfl) (by simp) [.int .i64 seq, .slice pa xs.length pc] rfl) ?_
  simp only [sZ, sS]
  refine xCall 10 14 #[.agg #[.int .i64 seq, .slice pa xs.length pc]] (by kernel_rfl) ?_
  refine (listbytes_any seq _ xs w2 D).mono ?_
  rintro en w3 hp
  rcases hp.2 with ⟨hok, rfl⟩ | ⟨hok, u, rfl, hO⟩
  · skip
    have e1 := belE0 hp.1
    have ze1 := e1.size
    replace BL := BL.e0 e1
    replace TB := TB.e0 e1
    replace D := D.e0 e1
    replace b3 := b3.e0 e1
    replace b4 := b4.e0 e1
    clear e1
    refine ⟨.tuple #[.slice none 0 0, .int .i64 180], rfl, ?_⟩
    simp only [sZ, sS]
    refine sv 8 (.tuple #[.slice none 0 0, .int .i64 180]) .of ?_
    simp only [sZ, sS]
    refine sv 11 (.slice none 0 0) .of ?_
    simp only [sZ, sS]
    refine sv 12 (.int .i64 180) .of ?_
    simp only [sZ, sS]
    refine sv 6 (.slice none 0 0) .of ?_
    simp only [sZ, sS]
    refine sv 7 (.int .i64 180) .of ?_
    simp only [sZ, sS]
    refine wpList_nil ?_
    refine hK2 _ _ ?_
    refine wp_seq_k fun K3 hK3 => ?_
    refine wp_seq_k fun K4 hK4 => ?_
    refine cPlain ?_
    refine sv 13 (.int .i64 180) .of ?_
    simp only [sZ, sS]
    refine sv 14 (.bool true) (Val.cmp .neq 37 _ (.tmp 13) _ rfl .i64 180 0 (by kernel_rfl) (by kernel_rfl) (by simp) _ rfl) ?_
    simp only [sZ, sS]
    refine wpList_nil ?_
    refine hK4 _ _ ?_
    refine cT ?_
    refine wp_seq_k fun K5 hK5 => ?_
    refine cPlain ?_
    refine sv 15 (.agg (cellsOf .u8 (nn [0, 0, 0, 0, 0, 0, 0, 0, 0, 0, 0, 0, 0, 0, 0, 0, 0, 0, 0, 0, 0, 0, 0, 0, 0, 0, 0, 0, 0, 0, 0, 0]))) .of ?_
    simp only [sZ, sS]
    refine sv 16 (.int .i64 180) .of ?_
    simp only [sZ, sS]
    refine xStoreA 23 (.tmp 4) (.tmp 15) rfl .u8 w1.heap.size 23 (nn (List.replicate 32 0)) 0 (nn [0, 0, 0, 0, 0, 0, 0, 0, 0, 0, 0, 0, 0, 0, 0, 0, 0, 0, 0, 0, 0, 0, 0, 0, 0, 0, 0, 0, 0, 0, 0, 0]) (by kernel_rfl) (by kernel_rfl) b4 (by rw [show (nn [0, 0, 0, 0, 0, 0, 0, 0, 0, 0, 0, 0, 0, 0, 0, 0, 0, 0, 0, 0, 0, 0, 0, 0, 0, 0, 0, 0, 0, 0, 0, 0]).length = 32 by ((try simp only [nn_len, List.length_cons, List.length_nil, List.length_set, List.length_replicate]); try omega)]; kernel_rfl) (by (try simp only [nn_len, List.length_cons, List.length_nil, List.length_set, List.length_replicate]); try omega) (nn [0, 0, 0, 0, 0, 0, 0, 0, 0, 0, 0, 0, 0, 0, 0, 0, 0, 0, 0, 0, 0, 0, 0, 0, 0, 0, 0, 0, 0, 0, 0, 0]) (over_whole _ _ (by (try simp only [nn_len, List.length_cons, List.length_nil, List.length_set, List.length_replicate]); try omega)) ?_
    intro w4 t1
    have zt1 := t1.z
    have BL_ := BL.ev t1.e (fun i h => show w.heap.size ≤ i by have h : i = w1.heap.size := h; omega)
    have TB_ := TB.ev t1.e (show ¬ (T = w1.heap.size) by omega)
    have D_ := D.ev t1.e (fun i hi => show ¬ (i = w1.heap.size) by have := hvl i hi; omega)
    have b3_ := b3.ev t1.e (show ¬ (w.heap.size = w1.heap.size) by omega)
    replace BL := BL_; clear BL_
    replace TB := TB_; clear TB_
    replace D := D_; clear D_
    replace b3 := b3_; clear b3_
    replace b4 : Blk .u8 w4 w1.heap.size 23 (nn [0, 0, 0, 0, 0, 0, 0, 0, 0, 0, 0, 0, 0, 0, 0, 0, 0, 0, 0, 0, 0, 0, 0, 0, 0, 0, 0, 0, 0, 0, 0, 0]) := t1.c
    clear t1
    refine sv 5 (.int .i64 180) .of ?_
    simp only [sZ, sS]
    refine wpList_nil ?_
    refine hK5 _ _ ?_
    refine wp_ret ?_
    (try simp only [Exit.then, Exit.inBlock])
    refine bodyPost_ret (rCT rfl _ w1.heap.size _ _ (.int .i64 180) (by kernel_rfl) (by kernel_rfl) b4.cel _ Try.underlying23 rfl (by rw [List.length_map, show (nn [0, 0, 0, 0, 0, 0, 0, 0, 0, 0, 0, 0, 0, 0, 0, 0, 0, 0, 0, 0, 0, 0, 0, 0, 0, 0, 0, 0, 0, 0, 0, 0]).length = 32 by ((try simp only [nn_len, List.length_cons, List.length_nil, List.length_set, List.length_replicate]); try omega)]; kernel_rfl)) rfl ?_
    rw [hok, digO_f]
    exact ⟨rfl, BL.b⟩
  · skip
    rw [listB_def] at hO
    replace hO := hO.cast (toNat_nn (listB_bytes hok)).symm
    obtain ⟨ua, uc, rfl⟩ := hO.len
    have e2 := belE0 hp.1
    have ze2 := e2.size
    replace BL := BL.e0 e2
    replace TB := TB.e0 e2
    replace D := D.e0 e2
    replace b3 := b3.e0 e2
    replace b4 := b4.e0 e2
    clear e2
    have U : Own 5 .u8 w2.heap.size w3 (.slice ua (nn ((listB seq xs).map Int.toNat)).length uc) (nn ((listB seq xs).map Int.toNat)) := hO
    have lU_1 := U.ge
    refine ⟨.tuple #[.slice ua (nn ((listB seq xs).map Int.toNat)).length uc, .int .i64 0], rfl, ?_⟩
    simp only [sZ, sS]
    refine sv 8 (.tuple #[.slice ua (nn ((listB seq xs).map Int.toNat)).length uc, .int .i64 0]) .of ?_
    simp only [sZ, sS]
    refine sv 11 (.slice ua (nn ((listB seq xs).map Int.toNat)).length uc) .of ?_
    simp only [sZ, sS]
    refine sv 12 (.int .i64 0) .of ?_
    simp only [sZ, sS]
    refine sv 6 (.slice ua (nn ((listB seq xs).map Int.toNat)).length uc) .of ?_
    simp only [sZ, sS]
    refine sv 7 (.int .i64 0) .of ?_
    simp only [sZ, sS]
    refine wpList_nil ?_
    refine hK2 _ _ ?_
    refine wp_seq_k fun K6 hK6 => ?_
    refine wp_seq_k fun K7 hK7 => ?_
    refine cPlain ?_
    refine sv 13 (.int .i64 0) .of ?_
    simp only [sZ, sS]
    refine sv 14 (.bool false) (Val.cmp .neq 37 _ (.tmp 13) _ rfl .i64 0 0 (by kernel_rfl) (by kernel_rfl) (by simp) _ rfl) ?_
    simp only [sZ, sS]
    refine wpList_nil ?_
    refine hK7 _ _ ?_
    refine cF ?_
    refine wp_skip ?_
    refine hK6 _ _ ?_
    refine wp_seq_k fun K8 hK8 => ?_
    refine cPlain ?_
    refine sv 17 (.pointer (some ⟨T, 0, none⟩)) .of ?_
    simp only [sZ, sS]
    refine sv 18 (.slice ua (nn ((listB seq xs).map Int.toNat)).length uc) .of ?_
    simp only [sZ, sS]
    refine xLit 19 99 29 1 _ #[(0, .slice ua (nn ((listB seq xs).map Int.toNat)).length uc)] [.slice ua (nn ((listB seq xs).map Int.toNat)).length uc] rfl (by kernel_rfl) (by kernel_rfl) ?_
    intro w5 n3
    have zn3 := n3.z
    have b19 := n3.c
    replace BL := BL.e0 n3.e
    replace TB := TB.e0 n3.e
    replace D := D.e0 n3.e
    replace b3 := b3.e0 n3.e
    replace b4 := b4.e0 n3.e
    replace U := U.e0 n3.e
    simp only [sZ, sS]
    refine xCall 20 55 #[.pointer (some ⟨T, 0, none⟩), .int .u8 104, .slice (some ⟨w3.heap.size, 0, none⟩) 1 1] (by kernel_rfl) ?_
    refine (tagged_any T tab ht w5 TB 104 _ [.slice ua (nn ((listB seq xs).map Int.toNat)).length uc] [(listB seq xs).map Int.toNat] (SV.ofCelM (n := 1) b19 rfl (by unfold maxLen; omega)) (SLs.one U.sl (fun g hg => by have := lU_1 g hg; omega)) (one_small (listB_small hok)) (by simp)).mono ?_
    rintro en w6 ⟨rfl, hb1⟩
    have e3 := belE0 hb1
    have ze3 := e3.size
    replace BL := BL.e0 e3
    replace TB := TB.e0 e3
    replace D := D.e0 e3
    replace b3 := b3.e0 e3
    replace b4 := b4.e0 e3
    replace U := U.e0 e3
    replace b19 := b19.e0 e3
    clear e3
    have hdl : (taggedN tab 104 [(listB seq xs).map Int.toNat]).length = 32 := by unfold taggedN; exact ofN_32 _ _
    refine ⟨.agg (cellsOf .u8 (nn (taggedN tab 104 [(listB seq xs).map Int.toNat]))), rfl, ?_⟩
    simp only [sZ, sS]
    refine xStoreA 23 (.tmp 4) (.tmp 20) rfl .u8 w1.heap.size 23 (nn (List.replicate 32 0)) 0 (nn (taggedN tab 104 [(listB seq xs).map Int.toNat])) (by kernel_rfl) (by kernel_rfl) b4 (by rw [show (nn (taggedN tab 104 [(listB seq xs).map Int.toNat])).length = 32 by ((try simp only [nn_len, List.length_cons, List.length_nil, List.length_set, List.length_replicate]); try omega)]; kernel_rfl) (by (try simp only [nn_len, List.length_cons, List.length_nil, List.length_set, List.length_replicate]); try omega) (nn (taggedN tab 104 [(listB seq xs).map Int.toNat])) (over_whole _ _ (by (try simp only [nn_len, List.length_cons, List.length_nil, List.length_set, List.length_replicate]); try omega)) ?_
    intro w7 t2
    have zt2 := t2.z
    have BL_ := BL.ev t2.e (fun i h => show w.heap.size ≤ i by have h : i = w1.heap.size := h; omega)
    have TB_ := TB.ev t2.e (show ¬ (T = w1.heap.size) by omega)
    have D_ := D.ev t2.e (fun i hi => show ¬ (i = w1.heap.size) by have := hvl i hi; omega)
    have b3_ := b3.ev t2.e (show ¬ (w.heap.size = w1.heap.size) by omega)
    have U_ := U.ev t2.e (fun i hi => show ¬ (i = w1.heap.size) by have := lU_1 i hi; omega)
    have b19_ := b19.ev t2.e (show ¬ (w3.heap.size = w1.heap.size) by omega)
    replace BL := BL_; clear BL_
    replace TB := TB_; clear TB_
    replace D := D_; clear D_
    replace b3 := b3_; clear b3_
    replace U := U_; clear U_
    replace b19 := b19_; clear b19_
    replace b4 : Blk .u8 w7 w1.heap.size 23 (nn (taggedN tab 104 [(listB seq xs).map Int.toNat])) := t2.c
    clear t2
    refine sv 5 (.int .i64 0) .of ?_
    simp only [sZ, sS]
    refine wpList_nil ?_
    refine hK8 _ _ ?_
    refine wp_ret ?_
    (try simp only [Exit.then, Exit.inBlock])
    refine bodyPost_ret (rCT rfl _ w1.heap.size _ _ (.int .i64 0) (by kernel_rfl) (by kernel_rfl) b4.cel _ Try.underlying23 rfl (by rw [List.length_map, show (nn (taggedN tab 104 [(listB seq xs).map Int.toNat])).length = 32 by ((try simp only [nn_len, List.length_cons, List.length_nil, List.length_set, List.length_replicate]); try omega)]; kernel_rfl)) rfl ?_
    rw [hok, digO_t]
    exact ⟨rfl, BL.b⟩

set_option maxHeartbeats 8000000 in
theorem r18digest_any (T : Nat) (tab : List Nat) (ht : tab.length = 72) (h32 : ∀ x ∈ tab, x < 4294967296) (w : World) (TB : Blk .u32 w T 35 (nn tab)) (key height : Int) (root : List Int) (hr : root.length = 32) (hb : Bytes root) :
    Calls Try.prog 28 #[.pointer (some ⟨T, 0, none⟩), .agg (certL key root height).toArray] w fun e w' => e = .returned (.tuple #[.agg (cellsOf .u8 (nn (digO tab 103 (rightC key height) (certB key root height)))), .int .i64 (ecF (rightC key height))]) ∧ Below w.heap.size w w' := by
  have BL := Bl.refl w
  have hT := TB.lt
  go_enter Try.func28, Try.ntmps28
  refine wp_seq_k fun K1 hK1 => ?_
  refine cPlain ?_
  refine xBox 3 25 _ (certL key root height) rfl (by kernel_rfl) ?_
  intro w1 n1
  have zn1 := n1.z
  have b3 := n1.c
  replace BL := BL.e0 n1.e
  replace TB := TB.e0 n1.e
  simp only [sZ, sS]
  refine xAlloc 4 23 ((nn (List.replicate 32 0)).map (Value.int .u8)) rfl (by kernel_rfl) ?_
  intro w2 n2
  have zn2 := n2.z
  have b4 := n2.c
  replace b4 : Blk .u8 w2 w1.heap.size 23 (nn (List.replicate 32 0)) := b4
  replace BL := BL.e0 n2.e
  replace TB := TB.e0 n2.e
  replace b3 := b3.e0 n2.e
  simp only [sZ, sS]
  refine sv 5 (.int .i64 0) .of ?_
  simp only [sZ, sS]
  refine wpList_nil ?_
  refine hK1 _ _ ?_
  refine wp_seq_k fun K2 hK2 => ?_
  refine cPlain ?_
  refine sv 9 (.agg (certL key root height).toArray) (Val.cel 25 _ rfl 0 34 (by kernel_rfl) b3 _ Try.underlying25 rfl (by kernel_rfl) (by rw [certL_len _ _ _ hr]; omega) _ (certL_seg _ _ _ hr)) ?_
  simp only [sZ, sS]
  refine xCall 10 13 #[.agg (certL key root height).toArray] (by kernel_rfl) ?_
  refine (r18bytes_bp key height root hr hb w2).mono ?_
  rintro en w3 hp
  rcases hp.2 with ⟨hok, rfl⟩ | ⟨hok, u, rfl, hO⟩
  · skip
    have e1 := belE0 hp.1
    have ze1 := e1.size
    replace BL := BL.e0 e1
    replace TB := TB.e0 e1
    replace b3 := b3.e0 e1
    replace b4 := b4.e0 e1
    clear e1
    refine ⟨.tuple #[.slice none 0 0, .int .i64 180], rfl, ?_⟩
    simp only [sZ, sS]
    refine sv 8 (.tuple #[.slice none 0 0, .int .i64 180]) .of ?_
    simp only [sZ, sS]
    refine sv 11 (.slice none 0 0) .of ?_
    simp only [sZ, sS]
    refine sv 12 (.int .i64 180) .of ?_
    simp only [sZ, sS]
    refine sv 6 (.slice none 0 0) .of ?_
    simp only [sZ, sS]
    refine sv 7 (.int .i64 180) .of ?_
    simp only [sZ, sS]
    refine wpList_nil ?_
    refine hK2 _ _ ?_
    refine wp_seq_k fun K3 hK3 => ?_
    refine wp_seq_k fun K4 hK4 => ?_
    refine cPlain ?_
    refine sv 13 (.int .i64 180) .of ?_
    simp only [sZ, sS]
    refine sv 14 (.bool true) (Val.cmp .neq 37 _ (.tmp 13) _ rfl .i64 180 0 (by kernel_rfl) (by kernel_rfl) (by simp) _ rfl) ?_
    simp only [sZ, sS]
    refine wpList_nil ?_
    refine hK4 _ _ ?_
    refine cT ?_
    refine wp_seq_k fun K5 hK5 => ?_
    refine cPlain ?_
    refine sv 15 (.agg (cellsOf .u8 (nn [0, 0, 0, 0, 0, 0, 0, 0, 0, 0, 0, 0, 0, 0, 0, 0, 0, 0, 0, 0, 0, 0, 0, 0, 0, 0, 0, 0, 0, 0, 0, 0]))) .of ?_
    simp only [sZ, sS]
    refine sv 16 (.int .i64 180) .of ?_
    simp only [sZ, sS]
    refine xStoreA 23 (.tmp 4) (.tmp 15) rfl .u8 w1.heap.size 23 (nn (List.replicate 32 0)) 0 (nn [0, 0, 0, 0, 0, 0, 0, 0, 0, 0, 0, 0, 0, 0, 0, 0, 0, 0, 0, 0, 0, 0, 0, 0, 0, 0, 0, 0, 0, 0, 0, 0]) (by kernel_rfl) (by kernel_rfl) b4 (by rw [show (nn [0, 0, 0, 0, 0, 0, 0, 0, 0, 0, 0, 0, 0, 0, 0, 0, 0, 0, 0, 0, 0, 0, 0, 0, 0, 0, 0, 0, 0, 0, 0, 0]).length = 32 by ((try simp only [nn_len, List.length_cons, List.length_nil, List.length_set, List.length_replicate]); try omega)]; kernel_rfl) (by (try simp only [nn_len, List.length_cons, List.length_nil, List.length_set, List.length_replicate]); try omega) (nn [0, 0, 0, 0, 0, 0, 0, 0, 0, 0, 0, 0, 0, 0, 0, 0, 0, 0, 0, 0, 0, 0, 0, 0, 0, 0, 0, 0, 0, 0, 0, 0]) (over_whole _ _ (by (try simp only [nn_len, List.length_cons, List.length_nil, List.length_set, List.length_replicate]); try omega)) ?_
    intro w4 t1
    have zt1 := t1.z
    have BL_ := BL.ev t1.e (fun i h => show w.heap.size ≤ i by have h : i = w1.heap.size := h; omega)
    have TB_ := TB.ev t1.e (show ¬ (T = w1.heap.size) by omega)
    have b3_ := b3.ev t1.e (show ¬ (w.heap.size = w1.heap.size) by omega)
    replace BL := BL_; clear BL_
    replace TB := TB_; clear TB_
    replace b3 := b3_; clear b3_
    replace b4 : Blk .u8 w4 w1.heap.size 23 (nn [0, 0, 0, 0, 0, 0, 0, 0, 0, 0, 0, 0, 0, 0, 0, 0, 0, 0, 0, 0, 0, 0, 0, 0, 0, 0, 0, 0, 0, 0, 0, 0]) := t1.c
    clear t1
    refine sv 5 (.int .i64 180) .of ?_
    simp only [sZ, sS]
    refine wpList_nil ?_
    refine hK5 _ _ ?_
    refine wp_ret ?_
    (try simp only [Exit.then, Exit.inBlock])
    refine bodyPost_ret (rCT rfl _ w1.heap.size _ _ (.int .i64 180) (by kernel_rfl) (by kernel_rfl) b4.cel _ Try.underlying23 rfl (by rw [List.length_map, show (nn [0, 0, 0, 0, 0, 0, 0, 0, 0, 0, 0, 0, 0, 0, 0, 0, 0, 0, 0, 0, 0, 0, 0, 0, 0, 0, 0, 0, 0, 0, 0, 0]).length = 32 by ((try simp only [nn_len, List.length_cons, List.length_nil, List.length_set, List.length_replicate]); try omega)]; kernel_rfl)) rfl ?_
    rw [hok, digO_f]
    exact ⟨rfl, BL.b⟩
  · skip
    replace hO := hO.cast (toNat_nn (certB_bytes hb hok)).symm
    obtain ⟨ua, uc, rfl⟩ := hO.len
    have e2 := belE0 hp.1
    have ze2 := e2.size
    replace BL := BL.e0 e2
    replace TB := TB.e0 e2
    replace b3 := b3.e0 e2
    replace b4 := b4.e0 e2
    clear e2
    have U : Own 5 .u8 w2.heap.size w3 (.slice ua (nn ((certB key root height).map Int.toNat)).length uc) (nn ((certB key root height).map Int.toNat)) := hO
    have lU_1 := U.ge
    refine ⟨.tuple #[.slice ua (nn ((certB key root height).map Int.toNat)).length uc, .int .i64 0], rfl, ?_⟩
    simp only [sZ, sS]
    refine sv 8 (.tuple #[.slice ua (nn ((certB key root height).map Int.toNat)).length uc, .int .i64 0]) .of ?_
    simp only [sZ, sS]
    refine sv 11 (.slice ua (nn ((certB key root height).map Int.toNat)).length uc) .of ?_
    simp only [sZ, sS]
    refine sv 12 (.int .i64 0) .of ?_
    simp only [sZ, sS]
    refine sv 6 (.slice ua (nn ((certB key root height).map Int.toNat)).length uc) .of ?_
    simp only [sZ, sS]
    refine sv 7 (.int .i64 0) .of ?_
    simp only [sZ, sS]
    refine wpList_nil ?_
    refine hK2 _ _ ?_
    refine wp_seq_k fun K6 hK6 => ?_
    refine wp_seq_k fun K7 hK7 => ?_
    refine cPlain ?_
    refine sv 13 (.int .i64 0) .of ?_
    simp only [sZ, sS]
    refine sv 14 (.bool false) (Val.cmp .neq 37 _ (.tmp 13) _ rfl .i64 0 0 (by kernel_rfl) (by kernel_rfl) (by simp) _ rfl) ?_
    simp only [sZ, sS]
    refine wpList_nil ?_
    refine hK7 _ _ ?_
    refine cF ?_
    refine wp_skip ?_
    refine hK6 _ _ ?_
    refine wp_seq_k fun K8 hK8 => ?_
    refine cPlain ?_
    refine sv 17 (.pointer (some ⟨T, 0, none⟩)) .of ?_
    simp only [sZ, sS]
    refine sv 18 (.pointer (some ⟨T, 0, none⟩)) .of ?_
    simp only [sZ, sS]
    refine sv 19 (.agg (cellsOf .u32 (nn tab))) (Val.blk 35 _ rfl 0 72 (by kernel_rfl) TB _ Try.underlying35 rfl (by kernel_rfl) (by (try simp only [nn_len, List.length_cons, List.length_nil, List.length_set, List.length_replicate]); try omega) _ (seg_all' _ (by (try simp only [nn_len, List.length_cons, List.length_nil, List.length_set, List.length_replicate]); try omega))) ?_
    simp only [sZ, sS]
    refine sv 20 (.slice ua (nn ((certB key root height).map Int.toNat)).length uc) .of ?_
    simp only [sZ, sS]
    refine xLit 21 99 29 1 _ #[(0, .slice ua (nn ((certB key root height).map Int.toNat)).length uc)] [.slice ua (nn ((certB key root height).map Int.toNat)).length uc] rfl (by kernel_rfl) (by kernel_rfl) ?_
    intro w5 n3
    have zn3 := n3.z
    have b21 := n3.c
    replace BL := BL.e0 n3.e
    replace TB := TB.e0 n3.e
    replace b3 := b3.e0 n3.e
    replace b4 := b4.e0 n3.e
    replace U := U.e0 n3.e
    simp only [sZ, sS]
    refine xCall 22 56 #[.agg (cellsOf .u32 (nn tab)), .int .u8 103, .slice (some ⟨w3.heap.size, 0, none⟩) 1 1] (by kernel_rfl) ?_
    refine (rtagged_any tab ht h32 w5 103 (by omega) _ [.slice ua (nn ((certB key root height).map Int.toNat)).length uc] [(certB key root height).map Int.toNat] (SV.ofCelM (n := 1) b21 rfl (by unfold maxLen; omega)) (SLs.one U.sl (fun g hg => by have := lU_1 g hg; omega)) (one_le (Nat.le_trans (certB_small hr) (by omega))) (by simp) (one_b (certB_bytes hb hok))).mono ?_
    rintro en w6 ⟨rfl, hb1⟩
    have e3 := belE0 hb1
    have ze3 := e3.size
    replace BL := BL.e0 e3
    replace TB := TB.e0 e3
    replace b3 := b3.e0 e3
    replace b4 := b4.e0 e3
    replace U := U.e0 e3
    replace b21 := b21.e0 e3
    clear e3
    have hdl : (taggedN tab 103 [(certB key root height).map Int.toNat]).length = 32 := by unfold taggedN; exact ofN_32 _ _
    refine ⟨.agg (cellsOf .u8 (nn (taggedN tab 103 [(certB key root height).map Int.toNat]))), rfl, ?_⟩
    simp only [sZ, sS]
    refine xStoreA 23 (.tmp 4) (.tmp 22) rfl .u8 w1.heap.size 23 (nn (List.replicate 32 0)) 0 (nn (taggedN tab 103 [(certB key root height).map Int.toNat])) (by kernel_rfl) (by kernel_rfl) b4 (by rw [show (nn (taggedN tab 103 [(certB key root height).map Int.toNat])).length = 32 by ((try simp only [nn_len, List.length_cons, List.length_nil, List.length_set, List.length_replicate]); try omega)]; kernel_rfl) (by (try simp only [nn_len, List.length_cons, List.length_nil, List.length_set, List.length_replicate]); try omega) (nn (taggedN tab 103 [(certB key root height).map Int.toNat])) (over_whole _ _ (by (try simp only [nn_len, List.length_cons, List.length_nil, List.length_set, List.length_replicate]); try omega)) ?_
    intro w7 t2
    have zt2 := t2.z
    have BL_ := BL.ev t2.e (fun i h => show w.heap.size ≤ i by have h : i = w1.heap.size := h; omega)
    have TB_ := TB.ev t2.e (show ¬ (T = w1.heap.size) by omega)
    have b3_ := b3.ev t2.e (show ¬ (w.heap.size = w1.heap.size) by omega)
    have U_ := U.ev t2.e (fun i hi => show ¬ (i = w1.heap.size) by have := lU_1 i hi; omega)
    have b21_ := b21.ev t2.e (show ¬ (w3.heap.size = w1.heap.size) by omega)
    replace BL := BL_; clear BL_
    replace TB := TB_; clear TB_
    replace b3 := b3_; clear b3_
    replace U := U_; clear U_
    replace b21 := b21_; clear b21_
    replace b4 : Blk .u8 w7 w1.heap.size 23 (nn (taggedN tab 103 [(certB key root height).map Int.toNat])) := t2.c
    clear t2
    refine sv 5 (.int .i64 0) .of ?_
    simp only [sZ, sS]
    refine wpList_nil ?_
    refine hK8 _ _ ?_
    refine wp_ret ?_
    (try simp only [Exit.then, Exit.inBlock])
    refine bodyPost_ret (rCT rfl _ w1.heap.size _ _ (.int .i64 0) (by kernel_rfl) (by kernel_rfl) b4.cel _ Try.underlying23 rfl (by rw [List.length_map, show (nn (taggedN tab 103 [(certB key root height).map Int.toNat])).length = 32 by ((try simp only [nn_len, List.length_cons, List.length_nil, List.length_set, List.length_replicate]); try omega)]; kernel_rfl)) rfl ?_
    rw [hok, digO_t]
    exact ⟨rfl, BL.b⟩

set_option maxHeartbeats 8000000 in
theorem r18ldigest_any (T : Nat) (tab : List Nat) (ht : tab.length = 72) (h32 : ∀ x ∈ tab, x < 4294967296) (w : World) (TB : Blk .u32 w T 35 (nn tab)) (seq : Int) (v : Value) (xs : List Int) (D : SL .i64 w v xs) :
    Calls Try.prog 30 #[.pointer (some ⟨T, 0, none⟩), .agg #[.int .i64 seq, v]] w fun e w' => e = .returned (.tuple #[.agg (cellsOf .u8 (nn (digO tab 104 (rightL seq xs) (listB seq xs)))), .int .i64 (ecF (rightL seq xs))]) ∧ Below w.heap.size w w' := by
  have BL := Bl.refl w
  have hT := TB.lt
  obtain ⟨pa, pc, rfl, hm⟩ := D.len
  have hvl := D.lt
  go_enter Try.func30, Try.ntmps30
  refine wp_seq_k fun K1 hK1 => ?_
  refine cPlain ?_
  refine xBox 3 28 _ [.int .i64 seq, .slice pa xs.length pc] rfl (by kernel_rfl) ?_
  intro w1 n1
  have zn1 := n1.z
  have b3 := n1.c
  replace BL := BL.e0 n1.e
  replace TB := TB.e0 n1.e
  replace D := D.e0 n1.e
  simp only [sZ, sS]
  refine xAlloc 4 23 ((nn (List.replicate 32 0)).map (Value.int .u8)) rfl (by kernel_rfl) ?_
  intro w2 n2
  have zn2 := n2.z
  have b4 := n2.c
  replace b4 : Blk .u8 w2 w1.heap.size 23 (nn (List.replicate 32 0)) := b4
  replace BL := BL.e0 n2.e
  replace TB := TB.e0 n2.e
  replace D := D.e0 n2.e
  replace b3 := b3.e0 n2.e
  simp only [sZ, sS]
  refine sv 5 (.int .i64 0) .of ?_
  simp only [sZ, sS]
  refine wpList_nil ?_
  refine hK1 _ _ ?_
  refine wp_seq_k fun K2 hK2 => ?_
  refine cPlain ?_
  refine sv 9 (.agg #[.int .i64 seq, .slice pa xs.length pc]) (Val.cel 28 _ rfl 0 2 (by kernel_rfl) b3 _ Try.underlying28 rfl (by kernel_rfl) (by simp) [.int .i64 seq, .slice pa xs.length pc] rfl) ?_
  simp only [sZ, sS]
  refine xCall 10 15 #[.agg #[.int .i64 seq, .slice pa xs.length pc]] (by kernel_rfl) ?_
  refine (r18listbytes_bp seq _ xs w2 D).mono ?_
  rintro en w3 hp
  rcases hp.2 with ⟨hok, rfl⟩ | ⟨hok, u, rfl, hO⟩
  · skip
    have e1 := belE0 hp.1
    have ze1 := e1.size
    replace BL := BL.e0 e1
    replace TB := TB.e0 e1
    replace D := D.e0 e1
    replace b3 := b3.e0 e1
    replace b4 := b4.e0 e1
    clear e1
    refine ⟨.tuple #[.slice none 0 0, .int .i64 180], rfl, ?_⟩
    simp only [sZ, sS]
    refine sv 8 (.tuple #[.slice none 0 0, .int .i64 180]) .of ?_
    simp only [sZ, sS]
    refine sv 11 (.slice none 0 0) .of ?_
    simp only [sZ, sS]
    refine sv 12 (.int .i64 180) .of ?_
    simp only [sZ, sS]
    refine sv 6 (.slice none 0 0) .of ?_
    simp only [sZ, sS]
    refine sv 7 (.int .i64 180) .of ?_
    simp only [sZ, sS]
    refine wpList_nil ?_
    refine hK2 _ _ ?_
    refine wp_seq_k fun K3 hK3 => ?_
    refine wp_seq_k fun K4 hK4 => ?_
    refine cPlain ?_
    refine sv 13 (.int .i64 180) .of ?_
    simp only [sZ, sS]
    refine sv 14 (.bool true) (Val.cmp .neq 37 _ (.tmp 13) _ rfl .i64 180 0 (by kernel_rfl) (by kernel_rfl) (by simp) _ rfl) ?_
    simp only [sZ, sS]
    refine wpList_nil ?_
    refine hK4 _ _ ?_
    refine cT ?_
    refine wp_seq_k fun K5 hK5 => ?_
    refine cPlain ?_
    refine sv 15 (.agg (cellsOf .u8 (nn [0, 0, 0, 0, 0, 0, 0, 0, 0, 0, 0, 0, 0, 0, 0, 0, 0, 0, 0, 0, 0, 0, 0, 0, 0, 0, 0, 0, 0, 0, 0, 0]))) .of ?_
    simp only [sZ, sS]
    refine sv 16 (.int .i64 180) .of ?_
    simp only [sZ, sS]
    refine xStoreA 23 (.tmp 4) (.tmp 15) rfl .u8 w1.heap.size 23 (nn (List.replicate 32 0)) 0 (nn [0, 0, 0, 0, 0, 0, 0, 0, 0, 0, 0, 0, 0, 0, 0, 0, 0, 0, 0, 0, 0, 0, 0, 0, 0, 0, 0, 0, 0, 0, 0, 0]) (by kernel_rfl) (by kernel_rfl) b4 (by rw [show (nn [0, 0, 0, 0, 0, 0, 0, 0, 0, 0, 0, 0, 0, 0, 0, 0, 0, 0, 0, 0, 0, 0, 0, 0, 0, 0, 0, 0, 0, 0, 0, 0]).length = 32 by ((try simp only [nn_len, List.length_cons, List.length_nil, List.length_set, List.length_replicate]); try omega)]; kernel_rfl) (by (try simp only [nn_len, List.length_cons, List.length_nil, List.length_set, List.length_replicate]); try omega) (nn [0, 0, 0, 0, 0, 0, 0, 0, 0, 0, 0, 0, 0, 0, 0, 0, 0, 0, 0, 0, 0, 0, 0, 0, 0, 0, 0, 0, 0, 0, 0, 0]) (over_whole _ _ (by (try simp only [nn_len, List.length_cons, List.length_nil, List.length_set, List.length_replicate]); try omega)) ?_
    intro w4 t1
    have zt1 := t1.z
    have BL_ := BL.ev t1.e (fun i h => show w.heap.size ≤ i by have h : i = w1.heap.size := h; omega)
    have TB_ := TB.ev t1.e (show ¬ (T = w1.heap.size) by omega)
    have D_ := D.ev t1.e (fun i hi => show ¬ (i = w1.heap.size) by have := hvl i hi; omega)
    have b3_ := b3.ev t1.e (show ¬ (w.heap.size = w1.heap.size) by omega)
    replace BL := BL_; clear BL_
    replace TB := TB_; clear TB_
    replace D := D_; clear D_
    replace b3 := b3_; clear b3_
    replace b4 : Blk .u8 w4 w1.heap.size 23 (nn [0, 0, 0, 0, 0, 0, 0, 0, 0, 0, 0, 0, 0, 0, 0, 0, 0, 0, 0, 0, 0, 0, 0, 0, 0, 0, 0, 0, 0, 0, 0, 0]) := t1.c
    clear t1
    refine sv 5 (.int .i64 180) .of ?_
    simp only [sZ, sS]
    refine wpList_nil ?_
    refine hK5 _ _ ?_
    refine wp_ret ?_
    (try simp only [Exit.then, Exit.inBlock])
    refine bodyPost_ret (rCT rfl _ w1.heap.size _ _ (.int .i64 180) (by kernel_rfl) (by kernel_rfl) b4.cel _ Try.underlying23 rfl (by rw [List.length_map, show (nn [0, 0, 0, 0, 0, 0, 0, 0, 0, 0, 0, 0, 0, 0, 0, 0, 0, 0, 0, 0, 0, 0, 0, 0, 0, 0, 0, 0, 0, 0, 0, 0]).length = 32 by ((try simp only [nn_len, List.length_cons, List.length_nil, List.length_set, List.length_replicate]); try omega)]; kernel_rfl)) rfl ?_
    rw [hok, digO_f]
    exact ⟨rfl, BL.b⟩
  · skip
    replace hO := hO.cast (toNat_nn (listB_bytes hok)).symm
    obtain ⟨ua, uc, rfl⟩ := hO.len
    have e2 := belE0 hp.1
    have ze2 := e2.size
    replace BL := BL.e0 e2
    replace TB := TB.e0 e2
    replace D := D.e0 e2
    replace b3 := b3.e0 e2
    replace b4 := b4.e0 e2
    clear e2
    have U : Own 5 .u8 w2.heap.size w3 (.slice ua (nn ((listB seq xs).map Int.toNat)).length uc) (nn ((listB seq xs).map Int.toNat)) := hO
    have lU_1 := U.ge
    refine ⟨.tuple #[.slice ua (nn ((listB seq xs).map Int.toNat)).length uc, .int .i64 0], rfl, ?_⟩
    simp only [sZ, sS]
    refine sv 8 (.tuple #[.slice ua (nn ((listB seq xs).map Int.toNat)).length uc, .int .i64 0]) .of ?_
    simp only [sZ, sS]
    refine sv 11 (.slice ua (nn ((listB seq xs).map Int.toNat)).length uc) .of ?_
    simp only [sZ, sS]
    refine sv 12 (.int .i64 0) .of ?_
    simp only [sZ, sS]
    refine sv 6 (.slice ua (nn ((listB seq xs).map Int.toNat)).length uc) .of ?_
    simp only [sZ, sS]
    refine sv 7 (.int .i64 0) .of ?_
    simp only [sZ, sS]
    refine wpList_nil ?_
    refine hK2 _ _ ?_
    refine wp_seq_k fun K6 hK6 => ?_
    refine wp_seq_k fun K7 hK7 => ?_
    refine cPlain ?_
    refine sv 13 (.int .i64 0) .of ?_
    simp only [sZ, sS]
    refine sv 14 (.bool false) (Val.cmp .neq 37 _ (.tmp 13) _ rfl .i64 0 0 (by kernel_rfl) (by kernel_rfl) (by simp) _ rfl) ?_
    simp only [sZ, sS]
    refine wpList_nil ?_
    refine hK7 _ _ ?_
    refine cF ?_
    refine wp_skip ?_
    refine hK6 _ _ ?_
    refine wp_seq_k fun K8 hK8 => ?_
    refine cPlain ?_
    refine sv 17 (.pointer (some ⟨T, 0, none⟩)) .of ?_
    simp only [sZ, sS]
    refine sv 18 (.pointer (some ⟨T, 0, none⟩)) .of ?_
    simp only [sZ, sS]
    refine sv 19 (.agg (cellsOf .u32 (nn tab))) (Val.blk 35 _ rfl 0 72 (by kernel_rfl) TB _ Try.underlying35 rfl (by kernel_rfl) (by (try simp only [nn_len, List.length_cons, List.length_nil, List.length_set, List.length_replicate]); try omega) _ (seg_all' _ (by (try simp only [nn_len, List.length_cons, List.length_nil, List.length_set, List.length_replicate]); try omega))) ?_
    simp only [sZ, sS]
    refine sv 20 (.slice ua (nn ((listB seq xs).map Int.toNat)).length uc) .of ?_
    simp only [sZ, sS]
    refine xLit 21 99 29 1 _ #[(0, .slice ua (nn ((listB seq xs).map Int.toNat)).length uc)] [.slice ua (nn ((listB seq xs).map Int.toNat)).length uc] rfl (by kernel_rfl) (by kernel_rfl) ?_
    intro w5 n3
    have zn3 := n3.z
    have b21 := n3.c
    replace BL := BL.e0 n3.e
    replace TB := TB.e0 n3.e
    replace D := D.e0 n3.e
    replace b3 := b3.e0 n3.e
    replace b4 := b4.e0 n3.e
    replace U := U.e0 n3.e
    simp only [sZ, sS]
    refine xCall 22 56 #[.agg (cellsOf .u32 (nn tab)), .int .u8 104, .slice (some ⟨w3.heap.size, 0, none⟩) 1 1] (by kernel_rfl) ?_
    refine (rtagged_any tab ht h32 w5 104 (by omega) _ [.slice ua (nn ((listB seq xs).map Int.toNat)).length uc] [(listB seq xs).map Int.toNat] (SV.ofCelM (n := 1) b21 rfl (by unfold maxLen; omega)) (SLs.one U.sl (fun g hg => by have := lU_1 g hg; omega)) (one_le (listB_small hok)) (by simp) (one_b (listB_bytes hok))).mono ?_
    rintro en w6 ⟨rfl, hb1⟩
    have e3 := belE0 hb1
    have ze3 := e3.size
    replace BL := BL.e0 e3
    replace TB := TB.e0 e3
    replace D := D.e0 e3
    replace b3 := b3.e0 e3
    replace b4 := b4.e0 e3
    replace U := U.e0 e3
    replace b21 := b21.e0 e3
    clear e3
    have hdl : (taggedN tab 104 [(listB seq xs).map Int.toNat]).length = 32 := by unfold taggedN; exact ofN_32 _ _
    refine ⟨.agg (cellsOf .u8 (nn (taggedN tab 104 [(listB seq xs).map Int.toNat]))), rfl, ?_⟩
    simp only [sZ, sS]
    refine xStoreA 23 (.tmp 4) (.tmp 22) rfl .u8 w1.heap.size 23 (nn (List.replicate 32 0)) 0 (nn (taggedN tab 104 [(listB seq xs).map Int.toNat])) (by kernel_rfl) (by kernel_rfl) b4 (by rw [show (nn (taggedN tab 104 [(listB seq xs).map Int.toNat])).length = 32 by ((try simp only [nn_len, List.length_cons, List.length_nil, List.length_set, List.length_replicate]); try omega)]; kernel_rfl) (by (try simp only [nn_len, List.length_cons, List.length_nil, List.length_set, List.length_replicate]); try omega) (nn (taggedN tab 104 [(listB seq xs).map Int.toNat])) (over_whole _ _ (by (try simp only [nn_len, List.length_cons, List.length_nil, List.length_set, List.length_replicate]); try omega)) ?_
    intro w7 t2
    have zt2 := t2.z
    have BL_ := BL.ev t2.e (fun i h => show w.heap.size ≤ i by have h : i = w1.heap.size := h; omega)
    have TB_ := TB.ev t2.e (show ¬ (T = w1.heap.size) by omega)
    have D_ := D.ev t2.e (fun i hi => show ¬ (i = w1.heap.size) by have := hvl i hi; omega)
    have b3_ := b3.ev t2.e (show ¬ (w.heap.size = w1.heap.size) by omega)
    have U_ := U.ev t2.e (fun i hi => show ¬ (i = w1.heap.size) by have := lU_1 i hi; omega)
    have b21_ := b21.ev t2.e (show ¬ (w3.heap.size = w1.heap.size) by omega)
    replace BL := BL_; clear BL_
    replace TB := TB_; clear TB_
    replace D := D_; clear D_
    replace b3 := b3_; clear b3_
    replace U := U_; clear U_
    replace b21 := b21_; clear b21_
    replace b4 : Blk .u8 w7 w1.heap.size 23 (nn (taggedN tab 104 [(listB seq xs).map Int.toNat])) := t2.c
    clear t2
    refine sv 5 (.int .i64 0) .of ?_
    simp only [sZ, sS]
    refine wpList_nil ?_
    refine hK8 _ _ ?_
    refine wp_ret ?_
    (try simp only [Exit.then, Exit.inBlock])
    refine bodyPost_ret (rCT rfl _ w1.heap.size _ _ (.int .i64 0) (by kernel_rfl) (by kernel_rfl) b4.cel _ Try.underlying23 rfl (by rw [List.length_map, show (nn (taggedN tab 104 [(listB seq xs).map Int.toNat])).length = 32 by ((try simp only [nn_len, List.length_cons, List.length_nil, List.length_set, List.length_replicate]); try omega)]; kernel_rfl)) rfl ?_
    rw [hok, digO_t]
    exact ⟨rfl, BL.b⟩

end Go.Proofs.Ytanggdnmoaflfaa
