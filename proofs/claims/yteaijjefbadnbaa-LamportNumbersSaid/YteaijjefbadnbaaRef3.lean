/-
  ref03: block, Mac, Text, Tagged; ref09: varint, Secret, Half, Bit.
-/
import Derived.Test.YteaijjefbadnbaaRef1
import Derived.Test.YteaijjefbadnbaaRowsN
namespace Go.Proofs.Yteaijjefbadnbaa
open Go.RowKit
set_option linter.unusedVariables false
set_option linter.unusedSimpArgs false
set_option maxRecDepth 100000
attribute [local irreducible] wpList Code.wp wpAnyZ
theorem ofN_b (tab bs : List Nat) : ∀ x ∈ ofN tab bs, x < 256 := by
  intro x hx
  obtain ⟨i, hi, rfl⟩ := List.getElem_of_mem hx
  have := ofN_lt tab bs i
  rwa [List.getD_eq_getElem?_getD, List.getElem?_eq_getElem hi] at this
theorem keyN_b {tab key : List Nat} (h : ∀ x ∈ key, x < 256) : ∀ x ∈ keyN tab key, x < 256 := by unfold keyN; split; exact h; exact ofN_b _ _
theorem turnK_b (ks : List Nat) (b : Nat) : ∀ x ∈ turnK ks b, x < 256 := by
  intro x hx
  obtain ⟨y, _, rfl⟩ := List.mem_map.1 hx
  exact Nat.mod_lt _ (by decide)
theorem turned_b (tab key : List Nat) (b : Nat) : ∀ x ∈ turnedN tab key b, x < 256 := turnK_b _ _
theorem app_b {xs ys : List Nat} (h : ∀ x ∈ xs, x < 256) (h' : ∀ x ∈ ys, x < 256) : ∀ x ∈ xs ++ ys, x < 256 := by
  intro x hx
  rcases List.mem_append.1 hx with k | k
  · exact h x k
  · exact h' x k
theorem numN_b (n : Int) : ∀ x ∈ numN n, x < 256 := by
  intro x hx
  obtain ⟨y, hy, rfl⟩ := List.mem_map.1 hx
  unfold uintB at hy
  rcases List.mem_append.1 hy with h | h
  · obtain ⟨j, _, rfl⟩ := List.mem_map.1 h
    omega
  · rw [List.mem_singleton.1 h]; omega
def textR (tag : Nat) (ps : List (List Nat)) : List Nat := [75, tag] ++ numN (ps.length : Int) ++ ps.flatMap blobN
theorem flat_nn (ps : List (List Nat)) : nn (ps.flatMap blobN) = blobsB (ps.map nn) := by
  induction ps with
  | nil => rfl
  | cons p ps ih => rw [List.flatMap_cons, nn_app, ih, blobN_nn]; rfl
theorem textR_eq (tag : Nat) (ps : List (List Nat)) : textR tag ps = textN tag ps := by
  apply nn_inj
  rw [textN_nn]
  unfold textR textB
  rw [nn_app, nn_app, flat_nn, numN_of, List.length_map]
  rfl
theorem text_b {tag : Nat} {ps : List (List Nat)} (ht : tag < 256) (h : ∀ p ∈ ps, ∀ x ∈ p, x < 256) : ∀ x ∈ textN tag ps, x < 256 := by
  rw [← textR_eq]
  refine app_b (app_b (fun x hx => ?_) (numN_b _)) (fun x hx => ?_)
  · simp only [List.mem_cons, List.not_mem_nil, or_false] at hx
    rcases hx with h' | h' <;> omega
  · obtain ⟨p, hp, hx⟩ := List.mem_flatMap.1 hx
    exact app_b (numN_b _) (h p hp) x hx
def textK (tag : Nat) (ps : List (List Nat)) (k : Nat) : List Nat := [75, tag] ++ numN (ps.length : Int) ++ (ps.take k).flatMap blobN
theorem textK_step {tag : Nat} {ps : List (List Nat)} {k : Nat} (h : k < ps.length) : textK tag ps k ++ blobN (ps.getD k []) = textK tag ps (k + 1) := by
  unfold textK
  rw [List.take_add_one, List.getElem?_eq_getElem h, List.flatMap_append, List.getD_eq_getElem?_getD, List.getElem?_eq_getElem h]
  simp
theorem textK_all (tag : Nat) (ps : List (List Nat)) : textK tag ps ps.length = textN tag ps := by rw [← textR_eq]; unfold textK textR; rw [List.take_length]
theorem blobs_flat_len {ps : List (List Nat)} {m : Nat} (h : ∀ p ∈ ps, p.length ≤ m) : (ps.flatMap blobN).length ≤ ps.length * (m + 10) := by
  induction ps with
  | nil => simp
  | cons p ps ih =>
    have h1 := h p (List.mem_cons_self ..)
    have h2 := ih fun q hq => h q (List.mem_cons_of_mem _ hq)
    have h3 := blobN_len p
    rw [List.flatMap_cons, List.length_append, List.length_cons, Nat.succ_mul]
    omega
theorem textK_len {tag : Nat} {ps : List (List Nat)} {m : Nat} (h : ∀ p ∈ ps, p.length ≤ m) (hm : m ≤ 1000000) (hn : ps.length ≤ 1000) (k : Nat) : (textK tag ps k).length ≤ 1100000000 := by
  have h1 := numN_len (ps.length : Int)
  have h2 := blobs_flat_len (ps := ps.take k) (m := m) (fun p hp => h p (List.mem_of_mem_take hp))
  have h3 : (ps.take k).length * (m + 10) ≤ 1000 * 1000010 := Nat.mul_le_mul (by rw [List.length_take]; omega) (by omega)
  unfold textK
  rw [List.length_append, List.length_append]
  simp only [List.length_cons, List.length_nil]
  omega
theorem SLs.getN {B : Nat} {w : World} {us : List Value} {ps : List (List Nat)} (h : SLs .u8 B w us (ps.map nn)) (j : Nat) (hj : j < ps.length) : SL .u8 w (us.getD j undef) (nn (ps.getD j [])) ∧ ∀ g, (us.getD j undef).ownBlock = some g → g < B := by
  have hl := h.length
  rw [List.length_map] at hl
  have := h.get j (by omega)
  have e : (ps.map nn).getD j [] = nn (ps.getD j []) := by
    rw [List.getD_eq_getElem?_getD, List.getElem?_map, List.getD_eq_getElem?_getD, List.getElem?_eq_getElem hj]; rfl
  rw [e] at this
  exact this
theorem getD_mem {ps : List (List Nat)} {k : Nat} (h : k < ps.length) : ps.getD k [] ∈ ps := by rw [List.getD_eq_getElem?_getD, List.getElem?_eq_getElem h]; exact List.getElem_mem h
theorem SV.evB {w w' : World} {v : Value} {us : List Value} {X : Nat → Prop} (h : SV w v us) (e : Ev X w w') (B : Nat) (hv : ∀ i, v.ownBlock = some i → i < B) (hX : ∀ i, X i → B ≤ i) : SV w' v us := by
  rcases h with h | ⟨b, o, c, rfl, h1, h2, h3, h4⟩
  · exact .inl h
  · exact .inr ⟨b, o, c, rfl, h1, h2, Nat.lt_of_lt_of_le h3 e.size, fun j hj => by rw [World.cell?_of_block (a := ⟨b, o + j, none⟩) (e.block b h3 (fun x => by have := hX b x; have := hv b rfl; omega))]; exact h4 j hj⟩
theorem SV.lt {w : World} {v : Value} {us : List Value} (h : SV w v us) : ∀ i, v.ownBlock = some i → i < w.heap.size := by
  rcases h with ⟨rfl, _⟩ | ⟨b, o, c, rfl, h1, h2, h3, h4⟩
  · intro i hi; cases hi
  · intro i hi; simp [Value.ownBlock] at hi; omega
theorem SLs.evB {B : Nat} {w w' : World} {X : Nat → Prop} (e : Ev X w w') (hX : ∀ i, X i → B ≤ i) : ∀ {us : List Value} {ys : List (List Int)}, SLs .u8 B w us ys → SLs .u8 B w' us ys
  | [], [], _ => trivial
  | [], _ :: _, h => h.elim
  | _ :: _, [], h => h.elim
  | u :: us, y :: ys, h => ⟨⟨h.1.1.ev e (fun i hi x => by have := h.1.2 i hi; have := hX i x; omega), h.1.2⟩, SLs.evB e hX h.2⟩
theorem goK_fill {ks : List Nat} (h : ks.length ≤ 64) (b : Nat) : goK ks b 0 = ks ++ List.replicate (64 - ks.length) 0 := rfl

attribute [local irreducible] keyN ofN turnK padK goK textN textK blobN numN secretN halfN macN taggedN turnedN
theorem turned_of {tab key ks : List Nat} (h : ks = keyN tab key) (b : Nat) : turnK ks b = turnedN tab key b := by unfold turnedN; rw [h]
theorem turned_64 (tab key : List Nat) (b : Nat) : (turnedN tab key b).length = 64 := turnedN_len _ _ _
set_option maxHeartbeats 4000000 in
theorem rblock3_any (tab : List Nat) (ht : tab.length = 72) (h32 : ∀ x ∈ tab, x < 4294967296) (w : World) (key : List Nat) (v : Value) (b : Nat) (hb : b < 256) (hk8 : ∀ x ∈ key, x < 256) (D : SL .u8 w v (nn key)) (hl : key.length ≤ 100000000) :
    Calls Try.prog 90 #[.agg (cellsOf .u32 (nn tab)), v, .int .u8 ((b : Nat) : Int)] w fun e w' => ∃ u, e = .returned u ∧ Own 5 .u8 w.heap.size w' u (nn (turnedN tab key b)) ∧ Below w.heap.size w w' := by
  have BL := Bl.refl w
  have hd := D.lt
  have hol := ofN_32 tab key
  go_enter Try.func90, Try.ntmps90
  refine wp_seq_k fun K1 hK1 => ?_
  refine cPlain ?_
  refine xBox 3 26 _ ((nn tab).map (Value.int .u32)) rfl (cells_toList _ _) ?_
  intro w1 n1
  have zn1 := n1.z
  have b3 := n1.c
  replace b3 : Blk .u32 w1 w.heap.size 26 (nn tab) := b3
  replace BL := BL.e0 n1.e
  replace D := D.e0 n1.e
  simp only [List.set_cons_zero, List.set_cons_succ]
  refine sv 6 (.slice none 0 0) .of ?_
  simp only [List.set_cons_zero, List.set_cons_succ]
  refine wpList_nil ?_
  refine hK1 _ _ ?_
  refine wp_seq_k fun K2 hK2 => ?_
  refine cPlain ?_
  refine sv 7 (.slice none 0 0) .of ?_
  simp only [List.set_cons_zero, List.set_cons_succ]
  refine wpList_nil ?_
  refine hK2 _ _ ?_
  refine cCut (fun A_ w_ => ∃ (ks : List Nat) (u0 : Value), ((ks = keyN tab key) ∧ (ks.length ≤ 64) ∧ (∃ s1 : Nat → Value, A_ = ⟨[.agg (cellsOf .u32 (nn tab)), v, .int .u8 ((b : Nat) : Int), .pointer (some ⟨w.heap.size, 0, none⟩), undef, undef, .slice none 0 0, u0, (s1 8), undef, (s1 10), (s1 11), (s1 12), (s1 13), (s1 14), (s1 15), (s1 16), (s1 17), (s1 18), (s1 19), (s1 20), (s1 21), undef, undef, undef, undef, undef, undef, undef, undef, undef, undef, undef, undef, undef, undef, undef, undef, undef, undef, undef, undef].toArray, []⟩) ∧ Bl w.heap.size w w_ ∧ Blk .u32 w_ w.heap.size 26 (nn tab) ∧ Own 5 .u8 (w.heap.size + 1) w_ u0 (nn ks) ∧ w1.heap.size ≤ w_.heap.size)) ?_ ?_
  · skip
    refine wp_seq_k fun K3 hK3 => ?_
    refine cPlain ?_
    refine sv 10 (v) .of ?_
    simp only [List.set_cons_zero, List.set_cons_succ]
    refine sv 11 (.int .i64 ((key.length : Nat) : Int)) (Val.lenS (.tmp 10) 30 rfl (by kernel_rfl) D key.length (nn_len key) Try.underlying30) ?_
    simp only [List.set_cons_zero, List.set_cons_succ]
    refine sv 12 (.bool (decide (64 < ((key.length : Nat) : Int)))) (Val.cmp .gtr 3 _ (.tmp 11) _ rfl .i64 ((key.length : Nat) : Int) 64 (by kernel_rfl) (by kernel_rfl) (by simp) _ rfl) ?_
    simp only [List.set_cons_zero, List.set_cons_succ]
    refine wpList_nil ?_
    refine hK3 _ _ ?_
    refine cDec (64 < ((key.length : Nat) : Int)) (by kernel_rfl) (fun c12 => ?_) (fun c12 => ?_)
    · skip
      refine wp_seq_k fun K4 hK4 => ?_
      refine cPlain ?_
      refine sv 13 (.agg (cellsOf .u32 (nn tab))) (Val.blk 26 _ rfl 0 72 (by kernel_rfl) b3 _ Try.underlying26 rfl (by kernel_rfl) (by (try simp only [nn_len, List.length_replicate]); try omega) _ (seg_all' _ (by (try simp only [nn_len, List.length_replicate]); try omega))) ?_
      simp only [List.set_cons_zero, List.set_cons_succ]
      refine sv 14 (v) .of ?_
      simp only [List.set_cons_zero, List.set_cons_succ]
      refine xCall 15 89 #[.agg (cellsOf .u32 (nn tab)), v] (by kernel_rfl) ?_
      refine (rof_any tab key v ht h32 hk8 w1 D (by omega)).mono ?_
      rintro en w2 ⟨rfl, hb1⟩
      have e1 := belE0 hb1
      have ze1 := e1.size
      replace BL := BL.e0 e1
      replace D := D.e0 e1
      replace b3 := b3.e0 e1
      clear e1
      refine ⟨.agg (cellsOf .u8 (nn (ofN tab key))), rfl, ?_⟩
      simp only [List.set_cons_zero, List.set_cons_succ]
      refine xAlloc 8 37 ((nn (List.replicate 32 0)).map (Value.int .u8)) rfl (by kernel_rfl) ?_
      intro w3 n2
      have zn2 := n2.z
      have b8 := n2.c
      replace b8 : Blk .u8 w3 w2.heap.size 37 (nn (List.replicate 32 0)) := b8
      replace BL := BL.e0 n2.e
      replace D := D.e0 n2.e
      replace b3 := b3.e0 n2.e
      simp only [List.set_cons_zero, List.set_cons_succ]
      refine xStoreA 37 (.tmp 8) (.tmp 15) rfl .u8 w2.heap.size 37 (nn (List.replicate 32 0)) 0 (nn (ofN tab key)) (by kernel_rfl) (by kernel_rfl) b8 (by rw [show (nn (ofN tab key)).length = 32 by ((try simp only [nn_len, List.length_replicate]); try omega)]; kernel_rfl) (by (try simp only [nn_len, List.length_replicate]); try omega) (nn (ofN tab key)) (over_whole _ _ (by (try simp only [nn_len, List.length_replicate]); try omega)) ?_
      intro w4 t1
      have zt1 := t1.z
      have BL_ := BL.ev t1.e (fun i h => show w.heap.size ≤ i by have h : i = w2.heap.size := h; omega)
      have D_ := D.ev t1.e (fun i hi => show ¬ (i = w2.heap.size) by have := hd i hi; omega)
      have b3_ := b3.ev t1.e (show ¬ (w.heap.size = w2.heap.size) by omega)
      replace BL := BL_; clear BL_
      replace D := D_; clear D_
      replace b3 := b3_; clear b3_
      replace b8 : Blk .u8 w4 w2.heap.size 37 (nn (ofN tab key)) := t1.c
      clear t1
      refine wpList_nil ?_
      refine hK4 _ _ ?_
      have KO : Own 5 .u8 w4.heap.size w4 (.slice none 0 0) [] := Own.nil _ _ _ _
      have lKO_1 := KO.ge
      refine cPlain ?_
      refine sv 16 (.slice none 0 0) .of ?_
      simp only [List.set_cons_zero, List.set_cons_succ]
      refine sv 17 (.slice (some ⟨w2.heap.size, 0, none⟩) 32 32) .of ?_
      simp only [List.set_cons_zero, List.set_cons_succ]
      refine xApp 18 (.tmp 16) (.tmp 17) 30 5 .u8 1 rfl Try.underlying30 (by kernel_rfl) w4.heap.size (.slice none 0 0) [] (by kernel_rfl) KO (.slice (some ⟨w2.heap.size, 0, none⟩) 32 32) (nn (ofN tab key)) (by kernel_rfl) (SL.ofBlk b8 (by (try simp only [nn_len, List.length_replicate]); try omega) (by unfold maxLen; omega)) ?va1_1 ?va1_2 ?va1_3 ?_
      case va1_1 => (simp only [nn_len, List.length_nil, List.length_append, List.length_replicate, List.length_cons]; omega)
      case va1_2 => (simp only [nn_len, List.length_nil, List.length_append, List.length_replicate, List.length_cons]; unfold maxLen; omega)
      case va1_3 => omega
      intro va1 w5 rva1 e2
      have ze2 := e2.size
      have BL_ := BL.ev e2 (fun i h => by have := lKO_1 _ h; omega)
      have D_ := D.ev e2 (fun i hi h => by have := hd i hi; have := lKO_1 _ h; omega)
      have b3_ := b3.ev e2 (fun h => by have := lKO_1 _ h; omega)
      have b8_ := b8.ev e2 (fun h => by have := lKO_1 _ h; omega)
      replace BL := BL_; clear BL_
      replace D := D_; clear D_
      replace b3 := b3_; clear b3_
      replace b8 := b8_; clear b8_
      replace KO := rva1
      clear rva1 e2
      have lKO_2 := KO.ge
      simp only [List.set_cons_zero, List.set_cons_succ]
      refine sv 7 (va1) .of ?_
      simp only [List.set_cons_zero, List.set_cons_succ]
      refine wpList_nil ?_
      exact ⟨ofN tab key, va1, (by unfold keyN; first | rw [if_pos (by omega)] | rw [if_neg (by omega)]), (by first | omega | (rw [ofN_32]; omega)), cutE, BL, b3, ((KO.cast (by rw [List.nil_append])).mono (by omega)), by omega⟩
    · skip
      have KO : Own 5 .u8 w1.heap.size w1 (.slice none 0 0) [] := Own.nil _ _ _ _
      have lKO_3 := KO.ge
      refine cPlain ?_
      refine sv 19 (.slice none 0 0) .of ?_
      simp only [List.set_cons_zero, List.set_cons_succ]
      refine sv 20 (v) .of ?_
      simp only [List.set_cons_zero, List.set_cons_succ]
      refine xApp 21 (.tmp 19) (.tmp 20) 30 5 .u8 1 rfl Try.underlying30 (by kernel_rfl) w1.heap.size (.slice none 0 0) [] (by kernel_rfl) KO v (nn key) (by kernel_rfl) D ?va2_1 ?va2_2 ?va2_3 ?_
      case va2_1 => (simp only [nn_len, List.length_nil, List.length_append, List.length_replicate, List.length_cons]; omega)
      case va2_2 => (simp only [nn_len, List.length_nil, List.length_append, List.length_replicate, List.length_cons]; unfold maxLen; omega)
      case va2_3 => omega
      intro va2 w6 rva2 e3
      have ze3 := e3.size
      have BL_ := BL.ev e3 (fun i h => by have := lKO_3 _ h; omega)
      have D_ := D.ev e3 (fun i hi h => by have := hd i hi; have := lKO_3 _ h; omega)
      have b3_ := b3.ev e3 (fun h => by have := lKO_3 _ h; omega)
      replace BL := BL_; clear BL_
      replace D := D_; clear D_
      replace b3 := b3_; clear b3_
      replace KO := rva2
      clear rva2 e3
      have lKO_4 := KO.ge
      simp only [List.set_cons_zero, List.set_cons_succ]
      refine sv 7 (va2) .of ?_
      simp only [List.set_cons_zero, List.set_cons_succ]
      refine wpList_nil ?_
      exact ⟨key, va2, (by unfold keyN; first | rw [if_pos (by omega)] | rw [if_neg (by omega)]), (by first | omega | (rw [ofN_32]; omega)), cutE, BL, b3, ((KO.cast (by rw [List.nil_append])).mono (by omega)), by omega⟩
  · skip
    clear BL D b3
    rintro a_ wJ1 ⟨ks, u0, hJ1_0, hJ1_1, ⟨s1, rfl⟩, BL, b3, KO, zJ1⟩
    have lKO_5 := KO.ge
    refine wp_seq_k fun K5 hK5 => ?_
    refine wp_block ?_
    refine cLoop (fun N_ A_ w_ => ∃ (k : Nat) (u : Value), (N_ = 64 - (ks.length + k) ∧ (ks.length + k ≤ 64) ∧ (∃ s2 : Nat → Value, A_ = ⟨[.agg (cellsOf .u32 (nn tab)), v, .int .u8 ((b : Nat) : Int), .pointer (some ⟨w.heap.size, 0, none⟩), undef, undef, .slice none 0 0, u, (s1 8), undef, (s1 10), (s1 11), (s1 12), (s1 13), (s1 14), (s1 15), (s1 16), (s1 17), (s1 18), (s1 19), (s1 20), (s1 21), (s2 22), (s2 23), (s2 24), (s2 25), (s2 26), (s2 27), undef, undef, undef, undef, undef, undef, undef, undef, undef, undef, undef, undef, undef, undef].toArray, []⟩) ∧ Bl w.heap.size w w_ ∧ Blk .u32 w_ w.heap.size 26 (nn tab) ∧ Own 5 .u8 (w.heap.size + 1) w_ u (nn (ks ++ List.replicate k 0)) ∧ wJ1.heap.size ≤ w_.heap.size)) _ ⟨0, u0, rfl, (by omega), cutE, BL, b3, (KO.cast (by simp)), Nat.le_refl _⟩ ?_
    clear BL b3 KO
    rintro n_ a_ wl0 ⟨k, u, rfl, hc0_0, ⟨s2, rfl⟩, BL, b3, KO, zl0⟩
    have lKO_6 := KO.ge
    refine wp_seq_k fun K6 hK6 => ?_
    refine wp_seq_k fun K7 hK7 => ?_
    refine cPlain ?_
    refine sv 22 (u) .of ?_
    simp only [List.set_cons_zero, List.set_cons_succ]
    refine sv 23 (.int .i64 ((ks.length + k : Nat) : Int)) (Val.lenO (.tmp 22) 30 rfl (by kernel_rfl) KO (ks.length + k) (by rw [nn_len, List.length_append, List.length_replicate]) Try.underlying30) ?_
    simp only [List.set_cons_zero, List.set_cons_succ]
    refine sv 24 (.bool (decide (((ks.length + k : Nat) : Int) < 64))) (Val.cmp .lss 3 _ (.tmp 23) _ rfl .i64 ((ks.length + k : Nat) : Int) 64 (by kernel_rfl) (by kernel_rfl) (by simp) _ rfl) ?_
    simp only [List.set_cons_zero, List.set_cons_succ]
    refine wpList_nil ?_
    refine hK7 _ _ ?_
    refine cDec (((ks.length + k : Nat) : Int) < 64) (by kernel_rfl) (fun c24 => ?_) (fun c24 => ?_)
    · skip
      refine wp_skip ?_
      refine hK6 _ _ ?_
      refine wp_block ?_
      refine cPlain ?_
      refine sv 25 (u) .of ?_
      simp only [List.set_cons_zero, List.set_cons_succ]
      refine xLit 26 30 5 1 _ #[(0, .int .u8 0)] [.int .u8 0] rfl (by kernel_rfl) (by kernel_rfl) ?_
      intro w7 n3
      have zn3 := n3.z
      have b26 := n3.c
      replace b26 : Blk .u8 w7 wl0.heap.size 5 [0] := b26
      replace BL := BL.e0 n3.e
      replace b3 := b3.e0 n3.e
      replace KO := KO.e0 n3.e
      have sb26 : SL .u8 w7 (.slice (some ⟨wl0.heap.size, 0, none⟩) 1 1) [0] := SL.ofBlk b26 rfl (by unfold maxLen; omega)
      have lb26 : ∀ i, Value.ownBlock (.slice (some ⟨wl0.heap.size, 0, none⟩) 1 1) = some i → wl0.heap.size ≤ i ∧ i < w7.heap.size := ownB_lit (by omega)
      simp only [List.set_cons_zero, List.set_cons_succ]
      refine xApp 27 (.tmp 25) (.tmp 26) 30 5 .u8 1 rfl Try.underlying30 (by kernel_rfl) (w.heap.size + 1) u (nn (ks ++ List.replicate k 0)) (by kernel_rfl) KO (.slice (some ⟨wl0.heap.size, 0, none⟩) 1 1) [0] (by kernel_rfl) sb26 ?va3_1 ?va3_2 ?va3_3 ?_
      case va3_1 => (simp only [nn_len, List.length_nil, List.length_append, List.length_replicate, List.length_cons]; omega)
      case va3_2 => (simp only [nn_len, List.length_nil, List.length_append, List.length_replicate, List.length_cons]; unfold maxLen; omega)
      case va3_3 => omega
      intro va3 w8 rva3 e4
      have ze4 := e4.size
      have BL_ := BL.ev e4 (fun i h => by have := lKO_6 _ h; omega)
      have b3_ := b3.ev e4 (fun h => by have := lKO_6 _ h; omega)
      have b26_ := b26.ev e4 (fun h => by have := lKO_6 _ h; omega)
      have sb26_ := sb26.ev e4 (fun i hi h => by have := lb26 i hi; have := lKO_6 _ h; omega)
      replace BL := BL_; clear BL_
      replace b3 := b3_; clear b3_
      replace b26 := b26_; clear b26_
      replace sb26 := sb26_; clear sb26_
      replace KO := rva3
      clear rva3 e4
      have lKO_7 := KO.ge
      simp only [List.set_cons_zero, List.set_cons_succ]
      refine sv 7 (va3) .of ?_
      simp only [List.set_cons_zero, List.set_cons_succ]
      refine wpList_nil ?_
      refine ⟨_, ?_, k + 1, va3, rfl, (by omega), cutE, BL, b3, (KO.cast (by rw [List.replicate_succ', ← List.append_assoc, nn_app (ks ++ List.replicate k 0)]; rfl)), by omega⟩
      omega
    · skip
      refine wp_exit ?_
      simp only [Exit.then, Exit.inBlock, ↓reduceIte, Nat.reduceEqDiff]
      refine hK5 _ _ ?_
      refine wp_seq_k fun K8 hK8 => ?_
      refine wp_seq_k fun K9 hK9 => ?_
      refine cPlain ?_
      refine sv 9 (.int .i64 0) .of ?_
      simp only [List.set_cons_zero, List.set_cons_succ]
      refine wpList_nil ?_
      refine hK9 _ _ ?_
      refine wp_block ?_
      refine cLoop (fun N_ A_ w_ => ∃ (i : Nat), (N_ = 64 - i ∧ (i ≤ 64) ∧ (∃ s3 : Nat → Value, A_ = ⟨[.agg (cellsOf .u32 (nn tab)), v, .int .u8 ((b : Nat) : Int), .pointer (some ⟨w.heap.size, 0, none⟩), undef, undef, .slice none 0 0, u, (s1 8), .int .i64 ((i : Nat) : Int), (s1 10), (s1 11), (s1 12), (s1 13), (s1 14), (s1 15), (s1 16), (s1 17), (s1 18), (s1 19), (s1 20), (s1 21), u, .int .i64 ((ks.length + k : Nat) : Int), .bool (decide (((ks.length + k : Nat) : Int) < 64)), (s2 25), (s2 26), (s2 27), (s3 28), (s3 29), (s3 30), (s3 31), (s3 32), (s3 33), (s3 34), (s3 35), (s3 36), (s3 37), (s3 38), (s3 39), (s3 40), undef].toArray, []⟩) ∧ Bl w.heap.size w w_ ∧ Blk .u32 w_ w.heap.size 26 (nn tab) ∧ Own 5 .u8 (w.heap.size + 1) w_ u (nn (goK ks b i)) ∧ wl0.heap.size ≤ w_.heap.size)) _ ⟨0, rfl, (Nat.zero_le _), cutE, BL, b3, (KO.cast (by rw [goK_fill hJ1_1, show k = 64 - ks.length by omega])), Nat.le_refl _⟩ ?_
      clear BL b3 KO
      rintro n_ a_ wl1 ⟨i, rfl, hc1_0, ⟨s3, rfl⟩, BL, b3, KO, zl1⟩
      have lKO_8 := KO.ge
      have hgl := goK_len hJ1_1 b i
      refine wp_seq_k fun K10 hK10 => ?_
      refine wp_seq_k fun K11 hK11 => ?_
      refine cPlain ?_
      refine sv 28 (.int .i64 ((i : Nat) : Int)) .of ?_
      simp only [List.set_cons_zero, List.set_cons_succ]
      refine sv 29 (.bool (decide (((i : Nat) : Int) < 64))) (Val.cmp .lss 3 _ (.tmp 28) _ rfl .i64 ((i : Nat) : Int) 64 (by kernel_rfl) (by kernel_rfl) (by simp) _ rfl) ?_
      simp only [List.set_cons_zero, List.set_cons_succ]
      refine wpList_nil ?_
      refine hK11 _ _ ?_
      refine cDec (((i : Nat) : Int) < 64) (by kernel_rfl) (fun c29 => ?_) (fun c29 => ?_)
      · skip
        refine wp_skip ?_
        refine hK10 _ _ ?_
        refine wp_seq_k fun K12 hK12 => ?_
        refine wp_block ?_
        refine cPlain ?_
        refine sv 32 (u) .of ?_
        simp only [List.set_cons_zero, List.set_cons_succ]
        refine sv 33 (.int .i64 ((i : Nat) : Int)) .of ?_
        simp only [List.set_cons_zero, List.set_cons_succ]
        refine sv 34 (u) .of ?_
        simp only [List.set_cons_zero, List.set_cons_succ]
        refine sv 35 (.int .i64 ((i : Nat) : Int)) .of ?_
        simp only [List.set_cons_zero, List.set_cons_succ]
        refine sv 36 (elemP u i) (Val.idxE 30 (.tmp 34) (.tmp 35) rfl u i (by kernel_rfl) (by kernel_rfl) KO.sl Try.underlying30 (by kernel_rfl) (by rw [nn_len]; omega)) ?_
        simp only [List.set_cons_zero, List.set_cons_succ]
        refine sv 37 (.int .u8 (((goK ks b i).getD i 0 : Nat) : Int)) (Val.nldE 5 _ rfl u i (by kernel_rfl) (fun _ => (by kernel_rfl)) KO.sl (by omega)) ?_
        simp only [List.set_cons_zero, List.set_cons_succ]
        refine sv 38 (.int .u8 ((b : Nat) : Int)) .of ?_
        simp only [List.set_cons_zero, List.set_cons_succ]
        refine sv 39 (.int .u8 (((((goK ks b i).getD i 0) ^^^ b) % 256 : Nat) : Int)) (Val.xorN 5 _ (.tmp 37) (.tmp 38) rfl .u8 ((goK ks b i).getD i 0) b 256 (by kernel_rfl) (by kernel_rfl)) ?_
        simp only [List.set_cons_zero, List.set_cons_succ]
        refine sv 40 (elemP u i) (Val.idxE 30 (.tmp 32) (.tmp 33) rfl u i (by kernel_rfl) (by kernel_rfl) KO.sl Try.underlying30 (by kernel_rfl) (by rw [nn_len]; omega)) ?_
        simp only [List.set_cons_zero, List.set_cons_succ]
        refine xStoreE 5 (.tmp 40) (.tmp 39) rfl u i (((((goK ks b i).getD i 0) ^^^ b) % 256 : Nat) : Int) (by kernel_rfl) (by kernel_rfl) KO (by kernel_rfl) (by rw [nn_len]; omega) ?_
        intro w9 KO_ e5 ze5
        have BL_ := BL.ev e5 (fun i h => by have := lKO_8 _ h; omega)
        have b3_ := b3.ev e5 (fun h => by have := lKO_8 _ h; omega)
        replace BL := BL_; clear BL_
        replace b3 := b3_; clear b3_
        replace KO := KO_; clear KO_ e5
        refine wpList_nil ?_
        refine hK12 _ _ ?_
        refine cPlain ?_
        refine sv 30 (.int .i64 ((i : Nat) : Int)) .of ?_
        simp only [List.set_cons_zero, List.set_cons_succ]
        refine sv 31 (.int .i64 (((i : Nat) : Int) + 1)) (Val.add 3 _ (.tmp 30) _ rfl ((i : Nat) : Int) 1 (by kernel_rfl) (by kernel_rfl) (by omega)) ?_
        simp only [List.set_cons_zero, List.set_cons_succ]
        refine sv 9 (.int .i64 (((i : Nat) : Int) + 1)) .of ?_
        simp only [List.set_cons_zero, List.set_cons_succ]
        refine wpList_nil ?_
        refine ⟨_, ?_, i + 1, rfl, (by omega), cutE, BL, b3, (by rw [← goK_step hJ1_1 b i (by omega), ← nn_set]; exact KO), by omega⟩
        omega
      · skip
        have hfin : goK ks b i = turnedN tab key b := by rw [show i = 64 by omega, goK_64 hJ1_1, turned_of hJ1_0]
        refine wp_exit ?_
        simp only [Exit.then, Exit.inBlock, ↓reduceIte, Nat.reduceEqDiff]
        refine hK8 _ _ ?_
        refine wp_seq_k fun K13 hK13 => ?_
        refine cPlain ?_
        refine sv 41 (u) .of ?_
        simp only [List.set_cons_zero, List.set_cons_succ]
        refine sv 6 (u) .of ?_
        simp only [List.set_cons_zero, List.set_cons_succ]
        refine wpList_nil ?_
        refine hK13 _ _ ?_
        refine wp_ret ?_
        (try simp only [Exit.then, Exit.inBlock])
        refine bodyPost_ret (v := u) rT rfl ?_
        exact ⟨_, rfl, (KO.cast (by rw [hfin])).mono (by omega), BL.b⟩

theorem macN_eq (tab key bs : List Nat) : ofN tab (turnedN tab key 92 ++ ofN tab (turnedN tab key 54 ++ bs)) = macN tab key bs := by unfold macN; rfl
set_option maxHeartbeats 4000000 in
theorem rmac_any (tab : List Nat) (ht : tab.length = 72) (h32 : ∀ x ∈ tab, x < 4294967296) (w : World) (key bs : List Nat) (v vb : Value) (hk8 : ∀ x ∈ key, x < 256) (hb8 : ∀ x ∈ bs, x < 256) (D : SL .u8 w v (nn key)) (hlk : key.length ≤ 100000000) (D2 : SL .u8 w vb (nn bs)) (hl : bs.length ≤ 100000000000) :
    Calls Try.prog 26 #[.agg (cellsOf .u32 (nn tab)), v, vb] w fun e w' => e = .returned (.agg (cellsOf .u8 (nn (macN tab key bs)))) ∧ Below w.heap.size w w' := by
  have BL := Bl.refl w
  have hd := D.lt
  have hd2 := D2.lt
  have h54 := turned_64 tab key 54
  have h92 := turned_64 tab key 92
  have hol := ofN_32 tab (turnedN tab key 54 ++ bs)
  have hml := macN_len tab key bs
  go_enter Try.func26, Try.ntmps26
  refine wp_seq_k fun K1 hK1 => ?_
  refine cPlain ?_
  refine xBox 3 26 _ ((nn tab).map (Value.int .u32)) rfl (cells_toList _ _) ?_
  intro w1 n1
  have zn1 := n1.z
  have b3 := n1.c
  replace b3 : Blk .u32 w1 w.heap.size 26 (nn tab) := b3
  replace BL := BL.e0 n1.e
  replace D := D.e0 n1.e
  replace D2 := D2.e0 n1.e
  simp only [List.set_cons_zero, List.set_cons_succ]
  refine xAlloc 6 37 ((nn (List.replicate 32 0)).map (Value.int .u8)) rfl (by kernel_rfl) ?_
  intro w2 n2
  have zn2 := n2.z
  have b6 := n2.c
  replace b6 : Blk .u8 w2 w1.heap.size 37 (nn (List.replicate 32 0)) := b6
  replace BL := BL.e0 n2.e
  replace D := D.e0 n2.e
  replace D2 := D2.e0 n2.e
  replace b3 := b3.e0 n2.e
  simp only [List.set_cons_zero, List.set_cons_succ]
  refine wpList_nil ?_
  refine hK1 _ _ ?_
  refine cCut (fun A_ w_ => ∃ (g7 : Nat), ((w2.heap.size ≤ g7) ∧ (∃ s1 : Nat → Value, A_ = ⟨[.agg (cellsOf .u32 (nn tab)), v, vb, .pointer (some ⟨w.heap.size, 0, none⟩), undef, undef, .pointer (some ⟨w1.heap.size, 0, none⟩), .pointer (some ⟨g7, 0, none⟩), (s1 8), (s1 9), (s1 10), (s1 11), (s1 12), (s1 13), (s1 14), undef, undef, undef, undef, undef, undef, undef].toArray, []⟩) ∧ Bl w.heap.size w w_ ∧ SL .u8 w_ v (nn key) ∧ Blk .u32 w_ w.heap.size 26 (nn tab) ∧ Blk .u8 w_ w1.heap.size 37 (nn (List.replicate 32 0)) ∧ Blk .u8 w_ g7 37 (nn (ofN tab (turnedN tab key 54 ++ bs))) ∧ w2.heap.size ≤ w_.heap.size)) ?_ ?_
  · skip
    have e1 := drew_e0 w2
    refine zg (fun w_ => Bl w.heap.size w w_ ∧ SL .u8 w_ v (nn key) ∧ SL .u8 w_ vb (nn bs) ∧ Blk .u32 w_ w.heap.size 26 (nn tab) ∧ Blk .u8 w_ w1.heap.size 37 (nn (List.replicate 32 0)) ∧ w2.heap.size ≤ w_.heap.size) (fun w_ => Bl w.heap.size w w_ ∧ SL .u8 w_ v (nn key) ∧ SL .u8 w_ vb (nn bs) ∧ Blk .u32 w_ w.heap.size 26 (nn tab) ∧ Blk .u8 w_ w1.heap.size 37 (nn (List.replicate 32 0)) ∧ w2.heap.size ≤ w_.heap.size) 8 9 ⟨BL.e0 e1, D.e0 e1, D2.e0 e1, b3.e0 e1, b6.e0 e1, Nat.le_refl _⟩ ?_
    clear BL D D2 b3 b6
    clear e1
    intro w3
    rintro ⟨BL, D, D2, b3, b6, z1⟩
    refine zv 0 8 (.agg (cellsOf .u32 (nn tab))) (fun _ ⟨BL, D, D2, b3, b6, z1⟩ => Val.blk 26 _ rfl 0 72 (by kernel_rfl) b3 _ Try.underlying26 rfl (by kernel_rfl) (by (try simp only [nn_len, List.length_cons, List.length_nil, List.length_set, List.length_replicate]); try omega) _ (seg_all' _ (by (try simp only [nn_len, List.length_cons, List.length_nil, List.length_set, List.length_replicate]); try omega))) ⟨BL, D, D2, b3, b6, by omega⟩ ?_
    simp only [List.set_cons_zero, List.set_cons_succ]
    refine zv 1 9 (.agg (cellsOf .u32 (nn tab))) (fun _ ⟨BL, D, D2, b3, b6, z1⟩ => Val.blk 26 _ rfl 0 72 (by kernel_rfl) b3 _ Try.underlying26 rfl (by kernel_rfl) (by (try simp only [nn_len, List.length_cons, List.length_nil, List.length_set, List.length_replicate]); try omega) _ (seg_all' _ (by (try simp only [nn_len, List.length_cons, List.length_nil, List.length_set, List.length_replicate]); try omega))) ⟨BL, D, D2, b3, b6, by omega⟩ ?_
    simp only [List.set_cons_zero, List.set_cons_succ]
    refine zv 2 10 (v) (fun _ _ => .of) ⟨BL, D, D2, b3, b6, by omega⟩ ?_
    simp only [List.set_cons_zero, List.set_cons_succ]
    refine zv 4 12 (vb) (fun _ _ => .of) ⟨BL, D, D2, b3, b6, by omega⟩ ?_
    simp only [List.set_cons_zero, List.set_cons_succ]
    refine zo2 3 7 rfl rfl ?_ ?_
    · skip
      refine xCall 11 90 #[.agg (cellsOf .u32 (nn tab)), v, .int .u8 54] (by kernel_rfl) ?_
      refine (rblock3_any tab ht h32 w3 key v 54 (by omega) hk8 D hlk).mono ?_
      rintro en w4 ⟨ka, rfl, hKa, hb1⟩
      have e2 := belE0 hb1
      have ze2 := e2.size
      replace BL := BL.e0 e2
      replace D := D.e0 e2
      replace D2 := D2.e0 e2
      replace b3 := b3.e0 e2
      replace b6 := b6.e0 e2
      clear e2
      have Ka : Own 5 .u8 w3.heap.size w4 ka (nn (turnedN tab key 54)) := hKa
      have lKa_1 := Ka.ge
      refine ⟨ka, rfl, ?_⟩
      refine ze 3 ⟨BL, D, D2, b3, b6, by omega⟩ ?_
      simp only [List.set_cons_zero, List.set_cons_succ]
      refine zo2 5 7 rfl rfl ?_ ?_
      · skip
        refine xApp 13 (.tmp 11) (.tmp 12) 30 5 .u8 1 rfl Try.underlying30 (by kernel_rfl) w3.heap.size ka (nn (turnedN tab key 54)) (by kernel_rfl) Ka vb (nn bs) (by kernel_rfl) D2 ?va1_1 ?va1_2 ?va1_3 ?_
        case va1_1 => (simp only [nn_len]; omega)
        case va1_2 => (simp only [nn_len]; unfold maxLen; omega)
        case va1_3 => omega
        intro va1 w5 rva1 e3
        have ze3 := e3.size
        have BL_ := BL.ev e3 (fun i h => by have := lKa_1 _ h; omega)
        have D_ := D.ev e3 (fun i hi h => by have := hd i hi; have := lKa_1 _ h; omega)
        have D2_ := D2.ev e3 (fun i hi h => by have := hd2 i hi; have := lKa_1 _ h; omega)
        have b3_ := b3.ev e3 (fun h => by have := lKa_1 _ h; omega)
        have b6_ := b6.ev e3 (fun h => by have := lKa_1 _ h; omega)
        replace BL := BL_; clear BL_
        replace D := D_; clear D_
        replace D2 := D2_; clear D2_
        replace b3 := b3_; clear b3_
        replace b6 := b6_; clear b6_
        replace Ka := rva1
        clear rva1 e3
        have lKa_2 := Ka.ge
        refine ze 5 ⟨BL, D, D2, b3, b6, by omega⟩ ?_
        simp only [List.set_cons_zero, List.set_cons_succ]
        refine zo2 6 7 rfl rfl ?_ ?_
        · skip
          refine xCall 14 89 #[.agg (cellsOf .u32 (nn tab)), va1] (by kernel_rfl) ?_
          refine (rof_any tab (turnedN tab key 54 ++ bs) _ ht h32 (app_b (turned_b _ _ _) hb8) w5 (Ka.sl.castM rfl (nn_app _ _).symm) (by rw [List.length_append]; omega)).mono ?_
          rintro en w6 ⟨rfl, hb1⟩
          have e4 := belE0 hb1
          have ze4 := e4.size
          replace BL := BL.e0 e4
          replace D := D.e0 e4
          replace D2 := D2.e0 e4
          replace b3 := b3.e0 e4
          replace b6 := b6.e0 e4
          replace Ka := Ka.e0 e4
          clear e4
          refine ⟨.agg (cellsOf .u8 (nn (ofN tab (turnedN tab key 54 ++ bs)))), rfl, ?_⟩
          refine ze 6 ⟨BL, D, D2, b3, b6, by omega⟩ ?_
          simp only [List.set_cons_zero, List.set_cons_succ]
          refine zo1 7 rfl ?_
          refine xAlloc 7 37 ((nn (List.replicate 32 0)).map (Value.int .u8)) rfl (by kernel_rfl) ?_
          intro w7 n3
          have zn3 := n3.z
          have b7 := n3.c
          replace b7 : Blk .u8 w7 w6.heap.size 37 (nn (List.replicate 32 0)) := b7
          replace BL := BL.e0 n3.e
          replace D := D.e0 n3.e
          replace D2 := D2.e0 n3.e
          replace b3 := b3.e0 n3.e
          replace b6 := b6.e0 n3.e
          replace Ka := Ka.e0 n3.e
          refine ze 7 ⟨BL, D, D2, b3, b6, by omega⟩ ?_
          simp only [List.set_cons_zero, List.set_cons_succ]
          refine zo1 8 rfl ?_
          refine xStoreA 37 (.tmp 7) (.tmp 14) rfl .u8 w6.heap.size 37 (nn (List.replicate 32 0)) 0 (nn (ofN tab (turnedN tab key 54 ++ bs))) (by kernel_rfl) (by kernel_rfl) b7 (by rw [show (nn (ofN tab (turnedN tab key 54 ++ bs))).length = 32 by ((try simp only [nn_len, List.length_cons, List.length_nil, List.length_set, List.length_replicate]); try omega)]; kernel_rfl) (by (try simp only [nn_len, List.length_cons, List.length_nil, List.length_set, List.length_replicate]); try omega) (nn (ofN tab (turnedN tab key 54 ++ bs))) (over_whole _ _ (by (try simp only [nn_len, List.length_cons, List.length_nil, List.length_set, List.length_replicate]); try omega)) ?_
          intro w8 t1
          have zt1 := t1.z
          have BL_ := BL.ev t1.e (fun i h => show w.heap.size ≤ i by have h : i = w6.heap.size := h; omega)
          have D_ := D.ev t1.e (fun i hi => show ¬ (i = w6.heap.size) by have := hd i hi; omega)
          have D2_ := D2.ev t1.e (fun i hi => show ¬ (i = w6.heap.size) by have := hd2 i hi; omega)
          have b3_ := b3.ev t1.e (show ¬ (w.heap.size = w6.heap.size) by omega)
          have b6_ := b6.ev t1.e (show ¬ (w1.heap.size = w6.heap.size) by omega)
          replace BL := BL_; clear BL_
          replace D := D_; clear D_
          replace D2 := D2_; clear D2_
          replace b3 := b3_; clear b3_
          replace b6 := b6_; clear b6_
          replace b7 : Blk .u8 w8 w6.heap.size 37 (nn (ofN tab (turnedN tab key 54 ++ bs))) := t1.c
          clear t1
          refine zz 8 ?_
          refine zd (by kernel_rfl) ?_ _
          exact ⟨w6.heap.size, by omega, cutE, BL, D, b3, b6, b7, by omega⟩
        · skip
          refine xAlloc 7 37 ((nn (List.replicate 32 0)).map (Value.int .u8)) rfl (by kernel_rfl) ?_
          intro w9 n4
          have zn4 := n4.z
          have b7 := n4.c
          replace b7 : Blk .u8 w9 w5.heap.size 37 (nn (List.replicate 32 0)) := b7
          replace BL := BL.e0 n4.e
          replace D := D.e0 n4.e
          replace D2 := D2.e0 n4.e
          replace b3 := b3.e0 n4.e
          replace b6 := b6.e0 n4.e
          replace Ka := Ka.e0 n4.e
          refine ze 7 ⟨BL, D, D2, b3, b6, by omega⟩ ?_
          simp only [List.set_cons_zero, List.set_cons_succ]
          refine zo1 6 rfl ?_
          refine xCall 14 89 #[.agg (cellsOf .u32 (nn tab)), va1] (by kernel_rfl) ?_
          refine (rof_any tab (turnedN tab key 54 ++ bs) _ ht h32 (app_b (turned_b _ _ _) hb8) w9 (Ka.sl.castM rfl (nn_app _ _).symm) (by rw [List.length_append]; omega)).mono ?_
          rintro en w10 ⟨rfl, hb1⟩
          have e5 := belE0 hb1
          have ze5 := e5.size
          replace BL := BL.e0 e5
          replace D := D.e0 e5
          replace D2 := D2.e0 e5
          replace b3 := b3.e0 e5
          replace b6 := b6.e0 e5
          replace Ka := Ka.e0 e5
          replace b7 := b7.e0 e5
          clear e5
          refine ⟨.agg (cellsOf .u8 (nn (ofN tab (turnedN tab key 54 ++ bs)))), rfl, ?_⟩
          refine ze 6 ⟨BL, D, D2, b3, b6, by omega⟩ ?_
          simp only [List.set_cons_zero, List.set_cons_succ]
          refine zo1 8 rfl ?_
          refine xStoreA 37 (.tmp 7) (.tmp 14) rfl .u8 w5.heap.size 37 (nn (List.replicate 32 0)) 0 (nn (ofN tab (turnedN tab key 54 ++ bs))) (by kernel_rfl) (by kernel_rfl) b7 (by rw [show (nn (ofN tab (turnedN tab key 54 ++ bs))).length = 32 by ((try simp only [nn_len, List.length_cons, List.length_nil, List.length_set, List.length_replicate]); try omega)]; kernel_rfl) (by (try simp only [nn_len, List.length_cons, List.length_nil, List.length_set, List.length_replicate]); try omega) (nn (ofN tab (turnedN tab key 54 ++ bs))) (over_whole _ _ (by (try simp only [nn_len, List.length_cons, List.length_nil, List.length_set, List.length_replicate]); try omega)) ?_
          intro w11 t2
          have zt2 := t2.z
          have BL_ := BL.ev t2.e (fun i h => show w.heap.size ≤ i by have h : i = w5.heap.size := h; omega)
          have D_ := D.ev t2.e (fun i hi => show ¬ (i = w5.heap.size) by have := hd i hi; omega)
          have D2_ := D2.ev t2.e (fun i hi => show ¬ (i = w5.heap.size) by have := hd2 i hi; omega)
          have b3_ := b3.ev t2.e (show ¬ (w.heap.size = w5.heap.size) by omega)
          have b6_ := b6.ev t2.e (show ¬ (w1.heap.size = w5.heap.size) by omega)
          replace BL := BL_; clear BL_
          replace D := D_; clear D_
          replace D2 := D2_; clear D2_
          replace b3 := b3_; clear b3_
          replace b6 := b6_; clear b6_
          replace b7 : Blk .u8 w11 w5.heap.size 37 (nn (ofN tab (turnedN tab key 54 ++ bs))) := t2.c
          clear t2
          refine zz 8 ?_
          refine zd (by kernel_rfl) ?_ _
          exact ⟨w5.heap.size, by omega, cutE, BL, D, b3, b6, b7, by omega⟩
      · skip
        refine xAlloc 7 37 ((nn (List.replicate 32 0)).map (Value.int .u8)) rfl (by kernel_rfl) ?_
        intro w12 n5
        have zn5 := n5.z
        have b7 := n5.c
        replace b7 : Blk .u8 w12 w4.heap.size 37 (nn (List.replicate 32 0)) := b7
        replace BL := BL.e0 n5.e
        replace D := D.e0 n5.e
        replace D2 := D2.e0 n5.e
        replace b3 := b3.e0 n5.e
        replace b6 := b6.e0 n5.e
        replace Ka := Ka.e0 n5.e
        refine ze 7 ⟨BL, D, D2, b3, b6, by omega⟩ ?_
        simp only [List.set_cons_zero, List.set_cons_succ]
        refine zo1 5 rfl ?_
        refine xApp 13 (.tmp 11) (.tmp 12) 30 5 .u8 1 rfl Try.underlying30 (by kernel_rfl) w3.heap.size ka (nn (turnedN tab key 54)) (by kernel_rfl) Ka vb (nn bs) (by kernel_rfl) D2 ?va2_1 ?va2_2 ?va2_3 ?_
        case va2_1 => (simp only [nn_len]; omega)
        case va2_2 => (simp only [nn_len]; unfold maxLen; omega)
        case va2_3 => omega
        intro va2 w13 rva2 e6
        have ze6 := e6.size
        have BL_ := BL.ev e6 (fun i h => by have := lKa_1 _ h; omega)
        have D_ := D.ev e6 (fun i hi h => by have := hd i hi; have := lKa_1 _ h; omega)
        have D2_ := D2.ev e6 (fun i hi h => by have := hd2 i hi; have := lKa_1 _ h; omega)
        have b3_ := b3.ev e6 (fun h => by have := lKa_1 _ h; omega)
        have b6_ := b6.ev e6 (fun h => by have := lKa_1 _ h; omega)
        have b7_ := b7.ev e6 (fun h => by have := lKa_1 _ h; omega)
        replace BL := BL_; clear BL_
        replace D := D_; clear D_
        replace D2 := D2_; clear D2_
        replace b3 := b3_; clear b3_
        replace b6 := b6_; clear b6_
        replace b7 := b7_; clear b7_
        replace Ka := rva2
        clear rva2 e6
        have lKa_3 := Ka.ge
        refine ze 5 ⟨BL, D, D2, b3, b6, by omega⟩ ?_
        simp only [List.set_cons_zero, List.set_cons_succ]
        refine zo1 6 rfl ?_
        refine xCall 14 89 #[.agg (cellsOf .u32 (nn tab)), va2] (by kernel_rfl) ?_
        refine (rof_any tab (turnedN tab key 54 ++ bs) _ ht h32 (app_b (turned_b _ _ _) hb8) w13 (Ka.sl.castM rfl (nn_app _ _).symm) (by rw [List.length_append]; omega)).mono ?_
        rintro en w14 ⟨rfl, hb1⟩
        have e7 := belE0 hb1
        have ze7 := e7.size
        replace BL := BL.e0 e7
        replace D := D.e0 e7
        replace D2 := D2.e0 e7
        replace b3 := b3.e0 e7
        replace b6 := b6.e0 e7
        replace Ka := Ka.e0 e7
        replace b7 := b7.e0 e7
        clear e7
        refine ⟨.agg (cellsOf .u8 (nn (ofN tab (turnedN tab key 54 ++ bs)))), rfl, ?_⟩
        refine ze 6 ⟨BL, D, D2, b3, b6, by omega⟩ ?_
        simp only [List.set_cons_zero, List.set_cons_succ]
        refine zo1 8 rfl ?_
        refine xStoreA 37 (.tmp 7) (.tmp 14) rfl .u8 w4.heap.size 37 (nn (List.replicate 32 0)) 0 (nn (ofN tab (turnedN tab key 54 ++ bs))) (by kernel_rfl) (by kernel_rfl) b7 (by rw [show (nn (ofN tab (turnedN tab key 54 ++ bs))).length = 32 by ((try simp only [nn_len, List.length_cons, List.length_nil, List.length_set, List.length_replicate]); try omega)]; kernel_rfl) (by (try simp only [nn_len, List.length_cons, List.length_nil, List.length_set, List.length_replicate]); try omega) (nn (ofN tab (turnedN tab key 54 ++ bs))) (over_whole _ _ (by (try simp only [nn_len, List.length_cons, List.length_nil, List.length_set, List.length_replicate]); try omega)) ?_
        intro w15 t3
        have zt3 := t3.z
        have BL_ := BL.ev t3.e (fun i h => show w.heap.size ≤ i by have h : i = w4.heap.size := h; omega)
        have D_ := D.ev t3.e (fun i hi => show ¬ (i = w4.heap.size) by have := hd i hi; omega)
        have D2_ := D2.ev t3.e (fun i hi => show ¬ (i = w4.heap.size) by have := hd2 i hi; omega)
        have b3_ := b3.ev t3.e (show ¬ (w.heap.size = w4.heap.size) by omega)
        have b6_ := b6.ev t3.e (show ¬ (w1.heap.size = w4.heap.size) by omega)
        replace BL := BL_; clear BL_
        replace D := D_; clear D_
        replace D2 := D2_; clear D2_
        replace b3 := b3_; clear b3_
        replace b6 := b6_; clear b6_
        replace b7 : Blk .u8 w15 w4.heap.size 37 (nn (ofN tab (turnedN tab key 54 ++ bs))) := t3.c
        clear t3
        refine zz 8 ?_
        refine zd (by kernel_rfl) ?_ _
        exact ⟨w4.heap.size, by omega, cutE, BL, D, b3, b6, b7, by omega⟩
    · skip
      refine xAlloc 7 37 ((nn (List.replicate 32 0)).map (Value.int .u8)) rfl (by kernel_rfl) ?_
      intro w16 n6
      have zn6 := n6.z
      have b7 := n6.c
      replace b7 : Blk .u8 w16 w3.heap.size 37 (nn (List.replicate 32 0)) := b7
      replace BL := BL.e0 n6.e
      replace D := D.e0 n6.e
      replace D2 := D2.e0 n6.e
      replace b3 := b3.e0 n6.e
      replace b6 := b6.e0 n6.e
      refine ze 7 ⟨BL, D, D2, b3, b6, by omega⟩ ?_
      simp only [List.set_cons_zero, List.set_cons_succ]
      refine zo1 3 rfl ?_
      refine xCall 11 90 #[.agg (cellsOf .u32 (nn tab)), v, .int .u8 54] (by kernel_rfl) ?_
      refine (rblock3_any tab ht h32 w16 key v 54 (by omega) hk8 D hlk).mono ?_
      rintro en w17 ⟨ka, rfl, hKa, hb1⟩
      have e8 := belE0 hb1
      have ze8 := e8.size
      replace BL := BL.e0 e8
      replace D := D.e0 e8
      replace D2 := D2.e0 e8
      replace b3 := b3.e0 e8
      replace b6 := b6.e0 e8
      replace b7 := b7.e0 e8
      clear e8
      have Ka : Own 5 .u8 w16.heap.size w17 ka (nn (turnedN tab key 54)) := hKa
      have lKa_4 := Ka.ge
      refine ⟨ka, rfl, ?_⟩
      refine ze 3 ⟨BL, D, D2, b3, b6, by omega⟩ ?_
      simp only [List.set_cons_zero, List.set_cons_succ]
      refine zo1 5 rfl ?_
      refine xApp 13 (.tmp 11) (.tmp 12) 30 5 .u8 1 rfl Try.underlying30 (by kernel_rfl) w16.heap.size ka (nn (turnedN tab key 54)) (by kernel_rfl) Ka vb (nn bs) (by kernel_rfl) D2 ?va3_1 ?va3_2 ?va3_3 ?_
      case va3_1 => (simp only [nn_len]; omega)
      case va3_2 => (simp only [nn_len]; unfold maxLen; omega)
      case va3_3 => omega
      intro va3 w18 rva3 e9
      have ze9 := e9.size
      have BL_ := BL.ev e9 (fun i h => by have := lKa_4 _ h; omega)
      have D_ := D.ev e9 (fun i hi h => by have := hd i hi; have := lKa_4 _ h; omega)
      have D2_ := D2.ev e9 (fun i hi h => by have := hd2 i hi; have := lKa_4 _ h; omega)
      have b3_ := b3.ev e9 (fun h => by have := lKa_4 _ h; omega)
      have b6_ := b6.ev e9 (fun h => by have := lKa_4 _ h; omega)
      have b7_ := b7.ev e9 (fun h => by have := lKa_4 _ h; omega)
      replace BL := BL_; clear BL_
      replace D := D_; clear D_
      replace D2 := D2_; clear D2_
      replace b3 := b3_; clear b3_
      replace b6 := b6_; clear b6_
      replace b7 := b7_; clear b7_
      replace Ka := rva3
      clear rva3 e9
      have lKa_5 := Ka.ge
      refine ze 5 ⟨BL, D, D2, b3, b6, by omega⟩ ?_
      simp only [List.set_cons_zero, List.set_cons_succ]
      refine zo1 6 rfl ?_
      refine xCall 14 89 #[.agg (cellsOf .u32 (nn tab)), va3] (by kernel_rfl) ?_
      refine (rof_any tab (turnedN tab key 54 ++ bs) _ ht h32 (app_b (turned_b _ _ _) hb8) w18 (Ka.sl.castM rfl (nn_app _ _).symm) (by rw [List.length_append]; omega)).mono ?_
      rintro en w19 ⟨rfl, hb1⟩
      have e10 := belE0 hb1
      have ze10 := e10.size
      replace BL := BL.e0 e10
      replace D := D.e0 e10
      replace D2 := D2.e0 e10
      replace b3 := b3.e0 e10
      replace b6 := b6.e0 e10
      replace b7 := b7.e0 e10
      replace Ka := Ka.e0 e10
      clear e10
      refine ⟨.agg (cellsOf .u8 (nn (ofN tab (turnedN tab key 54 ++ bs)))), rfl, ?_⟩
      refine ze 6 ⟨BL, D, D2, b3, b6, by omega⟩ ?_
      simp only [List.set_cons_zero, List.set_cons_succ]
      refine zo1 8 rfl ?_
      refine xStoreA 37 (.tmp 7) (.tmp 14) rfl .u8 w3.heap.size 37 (nn (List.replicate 32 0)) 0 (nn (ofN tab (turnedN tab key 54 ++ bs))) (by kernel_rfl) (by kernel_rfl) b7 (by rw [show (nn (ofN tab (turnedN tab key 54 ++ bs))).length = 32 by ((try simp only [nn_len, List.length_cons, List.length_nil, List.length_set, List.length_replicate]); try omega)]; kernel_rfl) (by (try simp only [nn_len, List.length_cons, List.length_nil, List.length_set, List.length_replicate]); try omega) (nn (ofN tab (turnedN tab key 54 ++ bs))) (over_whole _ _ (by (try simp only [nn_len, List.length_cons, List.length_nil, List.length_set, List.length_replicate]); try omega)) ?_
      intro w20 t4
      have zt4 := t4.z
      have BL_ := BL.ev t4.e (fun i h => show w.heap.size ≤ i by have h : i = w3.heap.size := h; omega)
      have D_ := D.ev t4.e (fun i hi => show ¬ (i = w3.heap.size) by have := hd i hi; omega)
      have D2_ := D2.ev t4.e (fun i hi => show ¬ (i = w3.heap.size) by have := hd2 i hi; omega)
      have b3_ := b3.ev t4.e (show ¬ (w.heap.size = w3.heap.size) by omega)
      have b6_ := b6.ev t4.e (show ¬ (w1.heap.size = w3.heap.size) by omega)
      replace BL := BL_; clear BL_
      replace D := D_; clear D_
      replace D2 := D2_; clear D2_
      replace b3 := b3_; clear b3_
      replace b6 := b6_; clear b6_
      replace b7 : Blk .u8 w20 w3.heap.size 37 (nn (ofN tab (turnedN tab key 54 ++ bs))) := t4.c
      clear t4
      refine zz 8 ?_
      refine zd (by kernel_rfl) ?_ _
      exact ⟨w3.heap.size, by omega, cutE, BL, D, b3, b6, b7, by omega⟩
  · skip
    clear BL D D2 b3 b6
    rintro a_ wJ1 ⟨g7, hJ1_0, ⟨s1, rfl⟩, BL, D, b3, b6, b7, zJ1⟩
    have hg7 := b7.lt
    refine wp_seq_k fun K2 hK2 => ?_
    have e11 := drew_e0 wJ1
    refine zg (fun w_ => Bl w.heap.size w w_ ∧ SL .u8 w_ v (nn key) ∧ Blk .u32 w_ w.heap.size 26 (nn tab) ∧ Blk .u8 w_ w1.heap.size 37 (nn (List.replicate 32 0)) ∧ Blk .u8 w_ g7 37 (nn (ofN tab (turnedN tab key 54 ++ bs))) ∧ wJ1.heap.size ≤ w_.heap.size) (fun w_ => Bl w.heap.size w w_ ∧ SL .u8 w_ v (nn key) ∧ Blk .u32 w_ w.heap.size 26 (nn tab) ∧ Blk .u8 w_ w1.heap.size 37 (nn (List.replicate 32 0)) ∧ Blk .u8 w_ g7 37 (nn (ofN tab (turnedN tab key 54 ++ bs))) ∧ wJ1.heap.size ≤ w_.heap.size) 7 8 ⟨BL.e0 e11, D.e0 e11, b3.e0 e11, b6.e0 e11, b7.e0 e11, Nat.le_refl _⟩ ?_
    clear BL D b3 b6 b7
    clear e11
    intro w21
    rintro ⟨BL, D, b3, b6, b7, z2⟩
    refine zv 0 15 (.agg (cellsOf .u32 (nn tab))) (fun _ ⟨BL, D, b3, b6, b7, z2⟩ => Val.blk 26 _ rfl 0 72 (by kernel_rfl) b3 _ Try.underlying26 rfl (by kernel_rfl) (by (try simp only [nn_len, List.length_cons, List.length_nil, List.length_set, List.length_replicate]); try omega) _ (seg_all' _ (by (try simp only [nn_len, List.length_cons, List.length_nil, List.length_set, List.length_replicate]); try omega))) ⟨BL, D, b3, b6, b7, by omega⟩ ?_
    simp only [List.set_cons_zero, List.set_cons_succ]
    refine zv 1 16 (.agg (cellsOf .u32 (nn tab))) (fun _ ⟨BL, D, b3, b6, b7, z2⟩ => Val.blk 26 _ rfl 0 72 (by kernel_rfl) b3 _ Try.underlying26 rfl (by kernel_rfl) (by (try simp only [nn_len, List.length_cons, List.length_nil, List.length_set, List.length_replicate]); try omega) _ (seg_all' _ (by (try simp only [nn_len, List.length_cons, List.length_nil, List.length_set, List.length_replicate]); try omega))) ⟨BL, D, b3, b6, b7, by omega⟩ ?_
    simp only [List.set_cons_zero, List.set_cons_succ]
    refine zv 2 17 (v) (fun _ _ => .of) ⟨BL, D, b3, b6, b7, by omega⟩ ?_
    simp only [List.set_cons_zero, List.set_cons_succ]
    refine zv 4 19 (.slice (some ⟨g7, 0, none⟩) 32 32) (fun _ _ => .of) ⟨BL, D, b3, b6, b7, by omega⟩ ?_
    simp only [List.set_cons_zero, List.set_cons_succ]
    refine zo1 3 rfl ?_
    refine xCall 18 90 #[.agg (cellsOf .u32 (nn tab)), v, .int .u8 92] (by kernel_rfl) ?_
    refine (rblock3_any tab ht h32 w21 key v 92 (by omega) hk8 D hlk).mono ?_
    rintro en w22 ⟨kb, rfl, hKb, hb1⟩
    have e12 := belE0 hb1
    have ze12 := e12.size
    replace BL := BL.e0 e12
    replace D := D.e0 e12
    replace b3 := b3.e0 e12
    replace b6 := b6.e0 e12
    replace b7 := b7.e0 e12
    clear e12
    have Kb : Own 5 .u8 w21.heap.size w22 kb (nn (turnedN tab key 92)) := hKb
    have lKb_1 := Kb.ge
    refine ⟨kb, rfl, ?_⟩
    refine ze 3 ⟨BL, D, b3, b6, b7, by omega⟩ ?_
    simp only [List.set_cons_zero, List.set_cons_succ]
    refine zo1 5 rfl ?_
    refine xApp 20 (.tmp 18) (.tmp 19) 30 5 .u8 1 rfl Try.underlying30 (by kernel_rfl) w21.heap.size kb (nn (turnedN tab key 92)) (by kernel_rfl) Kb (.slice (some ⟨g7, 0, none⟩) 32 32) (nn (ofN tab (turnedN tab key 54 ++ bs))) (by kernel_rfl) (SL.ofBlk b7 (by (try simp only [nn_len, List.length_cons, List.length_nil, List.length_set, List.length_replicate]); try omega) (by unfold maxLen; omega)) ?va4_1 ?va4_2 ?va4_3 ?_
    case va4_1 => (simp only [nn_len]; omega)
    case va4_2 => (simp only [nn_len]; unfold maxLen; omega)
    case va4_3 => omega
    intro va4 w23 rva4 e13
    have ze13 := e13.size
    have BL_ := BL.ev e13 (fun i h => by have := lKb_1 _ h; omega)
    have D_ := D.ev e13 (fun i hi h => by have := hd i hi; have := lKb_1 _ h; omega)
    have b3_ := b3.ev e13 (fun h => by have := lKb_1 _ h; omega)
    have b6_ := b6.ev e13 (fun h => by have := lKb_1 _ h; omega)
    have b7_ := b7.ev e13 (fun h => by have := lKb_1 _ h; omega)
    replace BL := BL_; clear BL_
    replace D := D_; clear D_
    replace b3 := b3_; clear b3_
    replace b6 := b6_; clear b6_
    replace b7 := b7_; clear b7_
    replace Kb := rva4
    clear rva4 e13
    have lKb_2 := Kb.ge
    refine ze 5 ⟨BL, D, b3, b6, b7, by omega⟩ ?_
    simp only [List.set_cons_zero, List.set_cons_succ]
    refine zo1 6 rfl ?_
    refine xCall 21 89 #[.agg (cellsOf .u32 (nn tab)), va4] (by kernel_rfl) ?_
    refine (rof_any tab (turnedN tab key 92 ++ ofN tab (turnedN tab key 54 ++ bs)) _ ht h32 (app_b (turned_b _ _ _) (ofN_b _ _)) w23 (Kb.sl.castM rfl (nn_app _ _).symm) (by rw [List.length_append]; omega)).mono ?_
    rintro en w24 ⟨he, hb1⟩
    rw [macN_eq] at he
    subst he
    have e14 := belE0 hb1
    have ze14 := e14.size
    replace BL := BL.e0 e14
    replace D := D.e0 e14
    replace b3 := b3.e0 e14
    replace b6 := b6.e0 e14
    replace b7 := b7.e0 e14
    replace Kb := Kb.e0 e14
    clear e14
    refine ⟨.agg (cellsOf .u8 (nn (macN tab key bs))), rfl, ?_⟩
    refine ze 6 ⟨BL, D, b3, b6, b7, by omega⟩ ?_
    simp only [List.set_cons_zero, List.set_cons_succ]
    refine zo1 7 rfl ?_
    refine xStoreA 37 (.tmp 6) (.tmp 21) rfl .u8 w1.heap.size 37 (nn (List.replicate 32 0)) 0 (nn (macN tab key bs)) (by kernel_rfl) (by kernel_rfl) b6 (by rw [show (nn (macN tab key bs)).length = 32 by ((try simp only [nn_len, List.length_cons, List.length_nil, List.length_set, List.length_replicate]); try omega)]; kernel_rfl) (by (try simp only [nn_len, List.length_cons, List.length_nil, List.length_set, List.length_replicate]); try omega) (nn (macN tab key bs)) (over_whole _ _ (by (try simp only [nn_len, List.length_cons, List.length_nil, List.length_set, List.length_replicate]); try omega)) ?_
    intro w25 t5
    have zt5 := t5.z
    have BL_ := BL.ev t5.e (fun i h => show w.heap.size ≤ i by have h : i = w1.heap.size := h; omega)
    have D_ := D.ev t5.e (fun i hi => show ¬ (i = w1.heap.size) by have := hd i hi; omega)
    have b3_ := b3.ev t5.e (show ¬ (w.heap.size = w1.heap.size) by omega)
    have b7_ := b7.ev t5.e (show ¬ (g7 = w1.heap.size) by omega)
    replace BL := BL_; clear BL_
    replace D := D_; clear D_
    replace b3 := b3_; clear b3_
    replace b7 := b7_; clear b7_
    replace b6 : Blk .u8 w25 w1.heap.size 37 (nn (macN tab key bs)) := t5.c
    clear t5
    refine zz 7 ?_
    refine zd (by kernel_rfl) ?_ _
    refine hK2 _ _ ?_
    refine wp_ret ?_
    (try simp only [Exit.then, Exit.inBlock])
    refine bodyPost_ret (rC rfl _ w1.heap.size _ _ (by kernel_rfl) b6.cel _ Try.underlying37 rfl (by rw [List.length_map, show (nn (macN tab key bs)).length = 32 by ((try simp only [nn_len, List.length_cons, List.length_nil, List.length_set, List.length_replicate]); try omega)]; kernel_rfl)) rfl ?_
    exact ⟨rfl, BL.b⟩

set_option maxHeartbeats 4000000 in
theorem rtext_any (tag : Nat) (ht8 : tag < 256) (v : Value) (us : List Value) (ps : List (List Nat)) (B : Nat) (w : World) (hB : B ≤ w.heap.size) (HV : SV w v us) (HY : SLs .u8 B w us (ps.map nn)) (hps : ∀ p ∈ ps, p.length ≤ 1000000) (hn : ps.length ≤ 1000) :
    Calls Try.prog 122 #[.int .u8 ((tag : Nat) : Int), v] w fun e w' => ∃ u, e = .returned u ∧ SL .u8 w' u (nn (textN tag ps)) ∧ Below w.heap.size w w' := by
  have BL := Bl.refl w
  have hul := HY.length
  rw [List.length_map] at hul
  obtain ⟨A, C, rfl, hvm⟩ := HV.len
  rw [hul] at HV ⊢
  have hvl := HV.lt
  have hnl := numN_len (ps.length : Int)
  have hget := fun (W : World) (H : SLs .u8 B W us (ps.map nn)) (j : Nat) (hj : j < ps.length) => H.getN j hj
  go_enter Try.func122, Try.ntmps122
  refine wp_seq_k fun K1 hK1 => ?_
  refine cPlain ?_
  refine sv 4 (.slice none 0 0) .of ?_
  simp only [List.set_cons_zero, List.set_cons_succ]
  refine wpList_nil ?_
  refine hK1 _ _ ?_
  refine wp_seq_k fun K2 hK2 => ?_
  refine cPlain ?_
  refine sv 7 (.int .u8 ((tag : Nat) : Int)) .of ?_
  simp only [List.set_cons_zero, List.set_cons_succ]
  refine xLit 8 30 5 2 _ #[(0, .int .u8 75), (1, .int .u8 ((tag : Nat) : Int))] [.int .u8 75, .int .u8 ((tag : Nat) : Int)] rfl (by kernel_rfl) (by kernel_rfl) ?_
  intro w1 n1
  have zn1 := n1.z
  have b8 : Own 5 .u8 w.heap.size w1 (.slice (some ⟨w.heap.size, 0, none⟩) 2 2) [75, ((tag : Nat) : Int)] := Own.ofNw (xs := [75, ((tag : Nat) : Int)]) n1 (Nat.le_refl _) (by simp [maxLen])
  replace BL := BL.e0 n1.e
  have HV : SV w1 (.slice A ps.length C) us := HV.e0 n1.e
  have HY : SLs .u8 B w1 us (ps.map nn) := SLs.e0 n1.e HY
  have lb8_1 := b8.ge
  simp only [List.set_cons_zero, List.set_cons_succ]
  refine sv 9 (.slice A ps.length C) .of ?_
  simp only [List.set_cons_zero, List.set_cons_succ]
  refine sv 10 (.int .i64 ((ps.length : Nat) : Int)) .of ?_
  simp only [List.set_cons_zero, List.set_cons_succ]
  refine sv 11 (.int .u64 ((ps.length : Nat) : Int)) (Val.asN (Val.convN 3 109 (.tmp 10) rfl .u64 ps.length 18446744073709551616 Try.underlying3 Try.underlying109 (by kernel_rfl)) (by omega)) ?_
  simp only [List.set_cons_zero, List.set_cons_succ]
  refine xCall 12 124 #[.int .u64 ((ps.length : Nat) : Int)] (by kernel_rfl) ?_
  refine (rvarint_any ps.length (by omega) w1).mono ?_
  rintro en w2 ⟨u1, rfl, hO, hb1⟩
  have e1 := belE0 hb1
  have ze1 := e1.size
  replace BL := BL.e0 e1
  have HV : SV w2 (.slice A ps.length C) us := HV.e0 e1
  have HY : SLs .u8 B w2 us (ps.map nn) := SLs.e0 e1 HY
  replace b8 := b8.e0 e1
  clear e1
  have N : Own 5 .u8 w1.heap.size w2 u1 (nn (numN (ps.length : Int))) := hO
  have lN_1 := N.ge
  refine ⟨u1, rfl, ?_⟩
  simp only [List.set_cons_zero, List.set_cons_succ]
  refine xApp 13 (.tmp 8) (.tmp 12) 30 5 .u8 1 rfl Try.underlying30 (by kernel_rfl) w.heap.size (.slice (some ⟨w.heap.size, 0, none⟩) 2 2) [75, ((tag : Nat) : Int)] (by kernel_rfl) b8 u1 (nn (numN (ps.length : Int))) (by kernel_rfl) N.sl ?va1_1 ?va1_2 ?va1_3 ?_
  case va1_1 => (simp only [nn_len, List.length_cons, List.length_nil]; omega)
  case va1_2 => (simp only [nn_len, List.length_cons, List.length_nil]; unfold maxLen; omega)
  case va1_3 => omega
  intro va1 w3 rva1 e2
  have ze2 := e2.size
  have BL_ := BL.ev e2 (fun i h => by have := lb8_1 _ h; omega)
  have HV : SV w3 (.slice A ps.length C) us := SV.evB HV e2 w.heap.size hvl (fun i hi => by have := lb8_1 _ hi; omega)
  have HY : SLs .u8 B w3 us (ps.map nn) := SLs.evB e2 (fun i hi => by have := lb8_1 _ hi; omega) HY
  have N_ := N.ev e2 (fun i hi h => by have := lN_1 i hi; have := lb8_1 _ h; omega)
  replace BL := BL_; clear BL_
  replace N := N_; clear N_
  replace b8 := rva1
  clear rva1 e2
  have lb8_2 := b8.ge
  simp only [List.set_cons_zero, List.set_cons_succ]
  refine sv 5 (va1) .of ?_
  simp only [List.set_cons_zero, List.set_cons_succ]
  refine wpList_nil ?_
  refine hK2 _ _ ?_
  refine wp_seq_k fun K3 hK3 => ?_
  refine wp_seq_k fun K4 hK4 => ?_
  refine cPlain ?_
  refine sv 6 (.int .i64 0) .of ?_
  simp only [List.set_cons_zero, List.set_cons_succ]
  refine wpList_nil ?_
  refine hK4 _ _ ?_
  refine wp_block ?_
  refine cLoop (fun N_ A_ w_ => ∃ (k : Nat) (u : Value), (N_ = ps.length - k ∧ (k ≤ ps.length) ∧ (∃ s1 : Nat → Value, A_ = ⟨[.int .u8 ((tag : Nat) : Int), .slice A ps.length C, undef, undef, .slice none 0 0, u, .int .i64 ((k : Nat) : Int), .int .u8 ((tag : Nat) : Int), .slice (some ⟨w.heap.size, 0, none⟩) 2 2, .slice A ps.length C, .int .i64 ((ps.length : Nat) : Int), .int .u64 ((ps.length : Nat) : Int), u1, va1, (s1 14), (s1 15), (s1 16), (s1 17), (s1 18), (s1 19), (s1 20), (s1 21), (s1 22), (s1 23), (s1 24), (s1 25), undef].toArray, []⟩) ∧ Bl w.heap.size w w_ ∧ SV w_ (.slice A ps.length C) us ∧ SLs .u8 B w_ us (ps.map nn) ∧ SL .u8 w_ u (nn (textK tag ps k)) ∧ w3.heap.size ≤ w_.heap.size)) _ ⟨0, va1, rfl, (Nat.zero_le _), cutE, BL, HV, HY, (b8.sl.castM rfl (by unfold textK; rw [List.take_zero, List.flatMap_nil, List.append_nil, nn_app]; rfl)), Nat.le_refl _⟩ ?_
  clear BL HV HY b8 N
  rintro n_ a_ wl0 ⟨k, u, rfl, hc0_0, ⟨s1, rfl⟩, BL, HV, HY, O, zl0⟩
  have hOl := O.lt
  refine wp_seq_k fun K5 hK5 => ?_
  refine wp_seq_k fun K6 hK6 => ?_
  refine cPlain ?_
  refine sv 14 (.int .i64 ((k : Nat) : Int)) .of ?_
  simp only [List.set_cons_zero, List.set_cons_succ]
  refine sv 15 (.slice A ps.length C) .of ?_
  simp only [List.set_cons_zero, List.set_cons_succ]
  refine sv 16 (.int .i64 ((ps.length : Nat) : Int)) .of ?_
  simp only [List.set_cons_zero, List.set_cons_succ]
  refine sv 17 (.bool (decide (((k : Nat) : Int) < ((ps.length : Nat) : Int)))) (Val.cmp .lss 3 _ (.tmp 14) (.tmp 16) rfl .i64 ((k : Nat) : Int) ((ps.length : Nat) : Int) (by kernel_rfl) (by kernel_rfl) (by simp) _ rfl) ?_
  simp only [List.set_cons_zero, List.set_cons_succ]
  refine wpList_nil ?_
  refine hK6 _ _ ?_
  refine cDec (((k : Nat) : Int) < ((ps.length : Nat) : Int)) (by kernel_rfl) (fun c17 => ?_) (fun c17 => ?_)
  · skip
    refine wp_skip ?_
    refine hK5 _ _ ?_
    refine wp_seq_k fun K7 hK7 => ?_
    refine wp_block ?_
    refine cPlain ?_
    refine sv 20 (u) .of ?_
    simp only [List.set_cons_zero, List.set_cons_succ]
    refine sv 21 (.slice A ps.length C) .of ?_
    simp only [List.set_cons_zero, List.set_cons_succ]
    refine sv 22 (.int .i64 ((k : Nat) : Int)) .of ?_
    simp only [List.set_cons_zero, List.set_cons_succ]
    refine sv 23 (elemP (.slice A ps.length C) k) (Val.idxV 124 (.tmp 21) (.tmp 22) rfl (.slice A ps.length C) k (by kernel_rfl) (by kernel_rfl) HV Try.underlying124 (by kernel_rfl) (by omega)) ?_
    simp only [List.set_cons_zero, List.set_cons_succ]
    refine sv 24 (us.getD k undef) (Val.ldV 30 _ rfl (.slice A ps.length C) k (by kernel_rfl) (fun _ => by kernel_rfl) HV (by omega)) ?_
    simp only [List.set_cons_zero, List.set_cons_succ]
    refine xCall 25 139 #[u, us.getD k undef] (by kernel_rfl) ?_
    refine (rblob_any u (us.getD k undef) (textK tag ps k) (ps.getD k []) wl0 O (hget _ HY k (by omega)).1 (by have := textK_len (tag := tag) hps (by omega) hn k; have := hps _ (getD_mem (show k < ps.length by omega)); omega)).mono ?_
    rintro en w4 ⟨u2, rfl, hS, hb1⟩
    have hsl := hS.lt
    have e3 := belE0 hb1
    have ze3 := e3.size
    replace BL := BL.e0 e3
    have HV : SV w4 (.slice A ps.length C) us := HV.e0 e3
    have HY : SLs .u8 B w4 us (ps.map nn) := SLs.e0 e3 HY
    replace O := O.e0 e3
    clear e3
    have O2 : SL .u8 w4 u2 (nn (textK tag ps k ++ blobN (ps.getD k []))) := hS
    refine ⟨u2, rfl, ?_⟩
    simp only [List.set_cons_zero, List.set_cons_succ]
    refine sv 5 (u2) .of ?_
    simp only [List.set_cons_zero, List.set_cons_succ]
    refine wpList_nil ?_
    refine hK7 _ _ ?_
    refine cPlain ?_
    refine sv 18 (.int .i64 ((k : Nat) : Int)) .of ?_
    simp only [List.set_cons_zero, List.set_cons_succ]
    refine sv 19 (.int .i64 (((k : Nat) : Int) + 1)) (Val.add 3 _ (.tmp 18) _ rfl ((k : Nat) : Int) 1 (by kernel_rfl) (by kernel_rfl) (by omega)) ?_
    simp only [List.set_cons_zero, List.set_cons_succ]
    refine sv 6 (.int .i64 (((k : Nat) : Int) + 1)) .of ?_
    simp only [List.set_cons_zero, List.set_cons_succ]
    refine wpList_nil ?_
    refine ⟨_, ?_, k + 1, u2, rfl, (by omega), cutE, BL, HV, HY, (O2.castM rfl (by rw [textK_step (by omega)])), by omega⟩
    omega
  · skip
    have hfin : textK tag ps k = textN tag ps := by rw [show k = ps.length by omega, textK_all]
    refine wp_exit ?_
    simp only [Exit.then, Exit.inBlock, ↓reduceIte, Nat.reduceEqDiff]
    refine hK3 _ _ ?_
    refine wp_seq_k fun K8 hK8 => ?_
    refine cPlain ?_
    refine sv 26 (u) .of ?_
    simp only [List.set_cons_zero, List.set_cons_succ]
    refine sv 4 (u) .of ?_
    simp only [List.set_cons_zero, List.set_cons_succ]
    refine wpList_nil ?_
    refine hK8 _ _ ?_
    refine wp_ret ?_
    (try simp only [Exit.then, Exit.inBlock])
    refine bodyPost_ret (v := u) rT rfl ?_
    exact ⟨_, rfl, O.castM rfl (by rw [hfin]), BL.b⟩

end Go.Proofs.Yteaijjefbadnbaa
