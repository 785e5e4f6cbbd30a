/-
  ref03: block, Mac, Text, Tagged; ref09: varint, Secret, Half, Bit.
-/
import Derived.Test.YtanggdnmoaflfaaRef1
import Derived.Test.YtanggdnmoaflfaaRowsN
namespace Go.Proofs.Ytanggdnmoaflfaa
open Go.RowKit
set_option linter.unusedVariables false
set_option linter.unusedSimpArgs false
set_option maxRecDepth 100000
attribute [local irreducible] wpList Code.wp wpAnyZ
theorem app_b {xs ys : List Nat} (h : ∀ x ∈ xs, x < 256) (h' : ∀ x ∈ ys, x < 256) : ∀ x ∈ xs ++ ys, x < 256 := by
  intro x hx
  rcases List.mem_append.1 hx with k | k
  · exact h x k
  · exact h' x k
theorem numN_b (n : Int) : ∀ x ∈ numN n, x < 256 := by
  intro x hx
  obtain ⟨y, hy, rfl⟩ := List.mem_map.1 hx
  unfold uintB at hy
  rcases List.mem_append.1 hy with h | h
  · obtain ⟨j, _, rfl⟩ := List.mem_map.1 h
    omega
  · rw [List.mem_singleton.1 h]; omega
def textR (tag : Nat) (ps : List (List Nat)) : List Nat := [75, tag] ++ numN (ps.length : Int) ++ ps.flatMap blobN
theorem flat_nn (ps : List (List Nat)) : nn (ps.flatMap blobN) = blobsB (ps.map nn) := by
  induction ps with
  | nil => rfl
  | cons p ps ih => rw [List.flatMap_cons, nn_app, ih, blobN_nn]; rfl
theorem textR_eq (tag : Nat) (ps : List (List Nat)) : textR tag ps = textN tag ps := by
  apply nn_inj
  rw [textN_nn]
  unfold textR textB
  rw [nn_app, nn_app, flat_nn, numN_of, List.length_map]
  rfl
theorem text_b {tag : Nat} {ps : List (List Nat)} (ht : tag < 256) (h : ∀ p ∈ ps, ∀ x ∈ p, x < 256) : ∀ x ∈ textN tag ps, x < 256 := by
  rw [← textR_eq]
  refine app_b (app_b (fun x hx => ?_) (numN_b _)) (fun x hx => ?_)
  · simp only [List.mem_cons, List.not_mem_nil, or_false] at hx
    rcases hx with h' | h' <;> omega
  · obtain ⟨p, hp, hx⟩ := List.mem_flatMap.1 hx
    exact app_b (numN_b _) (h p hp) x hx
def textK (tag : Nat) (ps : List (List Nat)) (k : Nat) : List Nat := [75, tag] ++ numN (ps.length : Int) ++ (ps.take k).flatMap blobN
theorem textK_step {tag : Nat} {ps : List (List Nat)} {k : Nat} (h : k < ps.length) : textK tag ps k ++ blobN (ps.getD k []) = textK tag ps (k + 1) := by
  unfold textK
  rw [List.take_add_one, List.getElem?_eq_getElem h, List.flatMap_append, List.getD_eq_getElem?_getD, List.getElem?_eq_getElem h]
  simp
theorem textK_all (tag : Nat) (ps : List (List Nat)) : textK tag ps ps.length = textN tag ps := by rw [← textR_eq]; unfold textK textR; rw [List.take_length]
theorem blobs_flat_len {ps : List (List Nat)} {m : Nat} (h : ∀ p ∈ ps, p.length ≤ m) : (ps.flatMap blobN).length ≤ ps.length * (m + 10) := by
  induction ps with
  | nil => simp
  | cons p ps ih =>
    have h1 := h p (List.mem_cons_self ..)
    have h2 := ih fun q hq => h q (List.mem_cons_of_mem _ hq)
    have h3 := blobN_len p
    rw [List.flatMap_cons, List.length_append, List.length_cons, Nat.succ_mul]
    omega
theorem textK_len {tag : Nat} {ps : List (List Nat)} {m : Nat} (h : ∀ p ∈ ps, p.length ≤ m) (hm : m ≤ 1000000) (hn : ps.length ≤ 1000) (k : Nat) : (textK tag ps k).length ≤ 1100000000 := by
  have h1 := numN_len (ps.length : Int)
  have h2 := blobs_flat_len (ps := ps.take k) (m := m) (fun p hp => h p (List.mem_of_mem_take hp))
  have h3 : (ps.take k).length * (m + 10) ≤ 1000 * 1000010 := Nat.mul_le_mul (by rw [List.length_take]; omega) (by omega)
  unfold textK
  rw [List.length_append, List.length_append]
  simp only [List.length_cons, List.length_nil]
  omega
theorem SLs.getN {B : Nat} {w : World} {us : List Value} {ps : List (List Nat)} (h : SLs .u8 B w us (ps.map nn)) (j : Nat) (hj : j < ps.length) : SL .u8 w (us.getD j undef) (nn (ps.getD j [])) ∧ ∀ g, (us.getD j undef).ownBlock = some g → g < B := by
  have hl := h.length
  rw [List.length_map] at hl
  have := h.get j (by omega)
  have e : (ps.map nn).getD j [] = nn (ps.getD j []) := by
    rw [List.getD_eq_getElem?_getD, List.getElem?_map, List.getD_eq_getElem?_getD, List.getElem?_eq_getElem hj]; rfl
  rw [e] at this
  exact this
theorem getD_mem {ps : List (List Nat)} {k : Nat} (h : k < ps.length) : ps.getD k [] ∈ ps := by rw [List.getD_eq_getElem?_getD, List.getElem?_eq_getElem h]; exact List.getElem_mem h
theorem SV.evB {w w' : World} {v : Value} {us : List Value} {X : Nat → Prop} (h : SV w v us) (e : Ev X w w') (B : Nat) (hv : ∀ i, v.ownBlock = some i → i < B) (hX : ∀ i, X i → B ≤ i) : SV w' v us := by
  rcases h with h | ⟨b, o, c, rfl, h1, h2, h3, h4⟩
  · exact .inl h
  · exact .inr ⟨b, o, c, rfl, h1, h2, Nat.lt_of_lt_of_le h3 e.size, fun j hj => by rw [World.cell?_of_block (a := ⟨b, o + j, none⟩) (e.block b h3 (fun x => by have := hX b x; have := hv b rfl; omega))]; exact h4 j hj⟩
theorem SV.lt {w : World} {v : Value} {us : List Value} (h : SV w v us) : ∀ i, v.ownBlock = some i → i < w.heap.size := by
  rcases h with ⟨rfl, _⟩ | ⟨b, o, c, rfl, h1, h2, h3, h4⟩
  · intro i hi; cases hi
  · intro i hi; simp [Value.ownBlock] at hi; omega
theorem SLs.evB {B : Nat} {w w' : World} {X : Nat → Prop} (e : Ev X w w') (hX : ∀ i, X i → B ≤ i) : ∀ {us : List Value} {ys : List (List Int)}, SLs .u8 B w us ys → SLs .u8 B w' us ys
  | [], [], _ => trivial
  | [], _ :: _, h => h.elim
  | _ :: _, [], h => h.elim
  | u :: us, y :: ys, h => ⟨⟨h.1.1.ev e (fun i hi x => by have := h.1.2 i hi; have := hX i x; omega), h.1.2⟩, SLs.evB e hX h.2⟩
attribute [local irreducible] ofN textN textK blobN numN taggedN
set_option maxHeartbeats 4000000 in
theorem rtext_any (tag : Nat) (ht8 : tag < 256) (v : Value) (us : List Value) (ps : List (List Nat)) (B : Nat) (w : World) (hB : B ≤ w.heap.size) (HV : SV w v us) (HY : SLs .u8 B w us (ps.map nn)) (hps : ∀ p ∈ ps, p.length ≤ 1000000) (hn : ps.length ≤ 1000) :
    Calls Try.prog 83 #[.int .u8 ((tag : Nat) : Int), v] w fun e w' => ∃ u, e = .returned u ∧ SL .u8 w' u (nn (textN tag ps)) ∧ Below w.heap.size w w' := by
  have BL := Bl.refl w
  have hul := HY.length
  rw [List.length_map] at hul
  obtain ⟨A, C, rfl, hvm⟩ := HV.len
  rw [hul] at HV ⊢
  have hvl := HV.lt
  have hnl := numN_len (ps.length : Int)
  have hget := fun (W : World) (H : SLs .u8 B W us (ps.map nn)) (j : Nat) (hj : j < ps.length) => H.getN j hj
  go_enter Try.func83, Try.ntmps83
  refine wp_seq_k fun K1 hK1 => ?_
  refine cPlain ?_
  refine sv 4 (.slice none 0 0) .of ?_
  simp only [sZ, sS]
  refine wpList_nil ?_
  refine hK1 _ _ ?_
  refine wp_seq_k fun K2 hK2 => ?_
  refine cPlain ?_
  refine sv 7 (.int .u8 ((tag : Nat) : Int)) .of ?_
  simp only [sZ, sS]
  refine xLit 8 29 5 2 _ #[(0, .int .u8 75), (1, .int .u8 ((tag : Nat) : Int))] [.int .u8 75, .int .u8 ((tag : Nat) : Int)] rfl (by kernel_rfl) (by kernel_rfl) ?_
  intro w1 n1
  have zn1 := n1.z
  have b8 : Own 5 .u8 w.heap.size w1 (.slice (some ⟨w.heap.size, 0, none⟩) 2 2) [75, ((tag : Nat) : Int)] := Own.ofNw (xs := [75, ((tag : Nat) : Int)]) n1 (Nat.le_refl _) (by simp [maxLen])
  replace BL := BL.e0 n1.e
  have HV : SV w1 (.slice A ps.length C) us := HV.e0 n1.e
  have HY : SLs .u8 B w1 us (ps.map nn) := SLs.e0 n1.e HY
  have lb8_1 := b8.ge
  simp only [sZ, sS]
  refine sv 9 (.slice A ps.length C) .of ?_
  simp only [sZ, sS]
  refine sv 10 (.int .i64 ((ps.length : Nat) : Int)) .of ?_
  simp only [sZ, sS]
  refine sv 11 (.int .u64 ((ps.length : Nat) : Int)) (Val.asN (Val.convN 3 84 (.tmp 10) rfl .u64 ps.length 18446744073709551616 Try.underlying3 Try.underlying84 (by kernel_rfl)) (by omega)) ?_
  simp only [sZ, sS]
  refine xCall 12 72 #[.int .u64 ((ps.length : Nat) : Int)] (by kernel_rfl) ?_
  refine (rvarint_any ps.length (by omega) w1).mono ?_
  rintro en w2 ⟨u1, rfl, hO, hb1⟩
  have e1 := belE0 hb1
  have ze1 := e1.size
  replace BL := BL.e0 e1
  have HV : SV w2 (.slice A ps.length C) us := HV.e0 e1
  have HY : SLs .u8 B w2 us (ps.map nn) := SLs.e0 e1 HY
  replace b8 := b8.e0 e1
  clear e1
  have N : Own 5 .u8 w1.heap.size w2 u1 (nn (numN (ps.length : Int))) := hO
  have lN_1 := N.ge
  refine ⟨u1, rfl, ?_⟩
  simp only [sZ, sS]
  refine xApp 13 (.tmp 8) (.tmp 12) 29 5 .u8 1 rfl Try.underlying29 (by kernel_rfl) w.heap.size (.slice (some ⟨w.heap.size, 0, none⟩) 2 2) [75, ((tag : Nat) : Int)] (by kernel_rfl) b8 u1 (nn (numN (ps.length : Int))) (by kernel_rfl) N.sl ?va1_1 ?va1_2 ?va1_3 ?_
  case va1_1 => (simp only [nn_len, List.length_cons, List.length_nil]; omega)
  case va1_2 => (simp only [nn_len, List.length_cons, List.length_nil]; unfold maxLen; omega)
  case va1_3 => omega
  intro va1 w3 rva1 e2
  have ze2 := e2.size
  have BL_ := BL.ev e2 (fun i h => by have := lb8_1 _ h; omega)
  have HV : SV w3 (.slice A ps.length C) us := SV.evB HV e2 w.heap.size hvl (fun i hi => by have := lb8_1 _ hi; omega)
  have HY : SLs .u8 B w3 us (ps.map nn) := SLs.evB e2 (fun i hi => by have := lb8_1 _ hi; omega) HY
  have N_ := N.ev e2 (fun i hi h => by have := lN_1 i hi; have := lb8_1 _ h; omega)
  replace BL := BL_; clear BL_
  replace N := N_; clear N_
  replace b8 := rva1
  clear rva1 e2
  have lb8_2 := b8.ge
  simp only [sZ, sS]
  refine sv 5 (va1) .of ?_
  simp only [sZ, sS]
  refine wpList_nil ?_
  refine hK2 _ _ ?_
  refine wp_seq_k fun K3 hK3 => ?_
  refine wp_seq_k fun K4 hK4 => ?_
  refine cPlain ?_
  refine sv 6 (.int .i64 0) .of ?_
  simp only [sZ, sS]
  refine wpList_nil ?_
  refine hK4 _ _ ?_
  refine wp_block ?_
  refine cLoop (fun N_ A_ w_ => ∃ (k : Nat) (u : Value), (N_ = ps.length - k ∧ (k ≤ ps.length) ∧ (∃ s1 : Nat → Value, A_ = ⟨[.int .u8 ((tag : Nat) : Int), .slice A ps.length C, undef, undef, .slice none 0 0, u, .int .i64 ((k : Nat) : Int), .int .u8 ((tag : Nat) : Int), .slice (some ⟨w.heap.size, 0, none⟩) 2 2, .slice A ps.length C, .int .i64 ((ps.length : Nat) : Int), .int .u64 ((ps.length : Nat) : Int), u1, va1, (s1 14), (s1 15), (s1 16), (s1 17), (s1 18), (s1 19), (s1 20), (s1 21), (s1 22), (s1 23), (s1 24), (s1 25), undef].toArray, []⟩) ∧ Bl w.heap.size w w_ ∧ SV w_ (.slice A ps.length C) us ∧ SLs .u8 B w_ us (ps.map nn) ∧ SL .u8 w_ u (nn (textK tag ps k)) ∧ w3.heap.size ≤ w_.heap.size)) _ ⟨0, va1, rfl, (Nat.zero_le _), cutE, BL, HV, HY, (b8.sl.castM rfl (by unfold textK; rw [List.take_zero, List.flatMap_nil, List.append_nil, nn_app]; rfl)), Nat.le_refl _⟩ ?_
  clear BL HV HY b8 N
  rintro n_ a_ wl0 ⟨k, u, rfl, hc0_0, ⟨s1, rfl⟩, BL, HV, HY, O, zl0⟩
  have hOl := O.lt
  refine wp_seq_k fun K5 hK5 => ?_
  refine wp_seq_k fun K6 hK6 => ?_
  refine cPlain ?_
  refine sv 14 (.int .i64 ((k : Nat) : Int)) .of ?_
  simp only [sZ, sS]
  refine sv 15 (.slice A ps.length C) .of ?_
  simp only [sZ, sS]
  refine sv 16 (.int .i64 ((ps.length : Nat) : Int)) .of ?_
  simp only [sZ, sS]
  refine sv 17 (.bool (decide (((k : Nat) : Int) < ((ps.length : Nat) : Int)))) (Val.cmp .lss 3 _ (.tmp 14) (.tmp 16) rfl .i64 ((k : Nat) : Int) ((ps.length : Nat) : Int) (by kernel_rfl) (by kernel_rfl) (by simp) _ rfl) ?_
  simp only [sZ, sS]
  refine wpList_nil ?_
  refine hK6 _ _ ?_
  refine cDec (((k : Nat) : Int) < ((ps.length : Nat) : Int)) (by kernel_rfl) (fun c17 => ?_) (fun c17 => ?_)
  · skip
    refine wp_skip ?_
    refine hK5 _ _ ?_
    refine wp_seq_k fun K7 hK7 => ?_
    refine wp_block ?_
    refine cPlain ?_
    refine sv 20 (u) .of ?_
    simp only [sZ, sS]
    refine sv 21 (.slice A ps.length C) .of ?_
    simp only [sZ, sS]
    refine sv 22 (.int .i64 ((k : Nat) : Int)) .of ?_
    simp only [sZ, sS]
    refine sv 23 (elemP (.slice A ps.length C) k) (Val.idxV 99 (.tmp 21) (.tmp 22) rfl (.slice A ps.length C) k (by kernel_rfl) (by kernel_rfl) HV Try.underlying99 (by kernel_rfl) (by omega)) ?_
    simp only [sZ, sS]
    refine sv 24 (us.getD k undef) (Val.ldV 29 _ rfl (.slice A ps.length C) k (by kernel_rfl) (fun _ => by kernel_rfl) HV (by omega)) ?_
    simp only [sZ, sS]
    refine xCall 25 107 #[u, us.getD k undef] (by kernel_rfl) ?_
    refine (rblob_any u (us.getD k undef) (textK tag ps k) (ps.getD k []) wl0 O (hget _ HY k (by omega)).1 (by have := textK_len (tag := tag) hps (by omega) hn k; have := hps _ (getD_mem (show k < ps.length by omega)); omega)).mono ?_
    rintro en w4 ⟨u2, rfl, hS, hb1⟩
    have hsl := hS.lt
    have e3 := belE0 hb1
    have ze3 := e3.size
    replace BL := BL.e0 e3
    have HV : SV w4 (.slice A ps.length C) us := HV.e0 e3
    have HY : SLs .u8 B w4 us (ps.map nn) := SLs.e0 e3 HY
    replace O := O.e0 e3
    clear e3
    have O2 : SL .u8 w4 u2 (nn (textK tag ps k ++ blobN (ps.getD k []))) := hS
    refine ⟨u2, rfl, ?_⟩
    simp only [sZ, sS]
    refine sv 5 (u2) .of ?_
    simp only [sZ, sS]
    refine wpList_nil ?_
    refine hK7 _ _ ?_
    refine cPlain ?_
    refine sv 18 (.int .i64 ((k : Nat) : Int)) .of ?_
    simp only [sZ, sS]
    refine sv 19 (.int .i64 (((k : Nat) : Int) + 1)) (Val.add 3 _ (.tmp 18) _ rfl ((k : Nat) : Int) 1 (by kernel_rfl) (by kernel_rfl) (by omega)) ?_
    simp only [sZ, sS]
    refine sv 6 (.int .i64 (((k : Nat) : Int) + 1)) .of ?_
    simp only [sZ, sS]
    refine wpList_nil ?_
    refine ⟨_, ?_, k + 1, u2, rfl, (by omega), cutE, BL, HV, HY, (O2.castM rfl (by rw [textK_step (by omega)])), by omega⟩
    omega
  · skip
    have hfin : textK tag ps k = textN tag ps := by rw [show k = ps.length by omega, textK_all]
    refine wp_exit ?_
    simp only [Exit.then, Exit.inBlock, ↓reduceIte, Nat.reduceEqDiff]
    refine hK3 _ _ ?_
    refine wp_seq_k fun K8 hK8 => ?_
    refine cPlain ?_
    refine sv 26 (u) .of ?_
    simp only [sZ, sS]
    refine sv 4 (u) .of ?_
    simp only [sZ, sS]
    refine wpList_nil ?_
    refine hK8 _ _ ?_
    refine wp_ret ?_
    (try simp only [Exit.then, Exit.inBlock])
    refine bodyPost_ret (v := u) rT rfl ?_
    exact ⟨_, rfl, O.castM rfl (by rw [hfin]), BL.b⟩

end Go.Proofs.Ytanggdnmoaflfaa
