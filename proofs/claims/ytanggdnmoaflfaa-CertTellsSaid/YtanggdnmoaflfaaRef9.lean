/-
  ref03.Tagged; ref09: varint, Secret, Half, Bit, Parts, Text, Open.
-/
import Derived.Test.YtanggdnmoaflfaaRef3
import Derived.Test.YtanggdnmoaflfaaPartsL
namespace Go.Proofs.Ytanggdnmoaflfaa
open Go.RowKit
set_option linter.unusedVariables false
set_option linter.unusedSimpArgs false
set_option maxRecDepth 100000
attribute [local irreducible] wpList Code.wp wpAnyZ
theorem textN_len {tag : Nat} {ps : List (List Nat)} (h : ∀ p ∈ ps, p.length ≤ 1000000) (hn : ps.length ≤ 1000) : (textN tag ps).length ≤ 1100000000 := by rw [← textK_all]; exact textK_len h (by omega) hn _
theorem tagged_eq (tab : List Nat) (tag : Nat) (ps : List (List Nat)) : ofN tab (textN tag ps) = taggedN tab tag ps := by unfold taggedN; rfl
attribute [local irreducible] ofN textN numN taggedN
set_option maxHeartbeats 4000000 in
theorem rtagged_any (tab : List Nat) (ht : tab.length = 72) (h32 : ∀ x ∈ tab, x < 4294967296) (w : World) (tag : Nat) (ht8 : tag < 256) (v : Value) (us : List Value) (ps : List (List Nat)) (HV : SV w v us) (HY : SLs .u8 w.heap.size w us (ps.map nn)) (hps : ∀ p ∈ ps, p.length ≤ 1000000) (hn : ps.length ≤ 1000) (hb : ∀ p ∈ ps, ∀ x ∈ p, x < 256) :
    Calls Try.prog 56 #[.agg (cellsOf .u32 (nn tab)), .int .u8 ((tag : Nat) : Int), v] w fun e w' => e = .returned (.agg (cellsOf .u8 (nn (taggedN tab tag ps)))) ∧ Below w.heap.size w w' := by
  have BL := Bl.refl w
  have htl := textN_len (tag := tag) hps hn
  have hol := ofN_32 tab (textN tag ps)
  rw [← tagged_eq]
  go_enter Try.func56, Try.ntmps56
  refine wp_seq_k fun K1 hK1 => ?_
  refine cPlain ?_
  refine xBox 3 35 _ ((nn tab).map (Value.int .u32)) rfl (cells_toList _ _) ?_
  intro w1 n1
  have zn1 := n1.z
  have b3 := n1.c
  replace b3 : Blk .u32 w1 w.heap.size 35 (nn tab) := b3
  replace BL := BL.e0 n1.e
  have HV : SV w1 v us := HV.e0 n1.e
  have HY : SLs .u8 w.heap.size w1 us (ps.map nn) := SLs.e0 n1.e HY
  simp only [sZ, sS]
  refine xAlloc 6 23 ((nn (List.replicate 32 0)).map (Value.int .u8)) rfl (by kernel_rfl) ?_
  intro w2 n2
  have zn2 := n2.z
  have b6 := n2.c
  replace b6 : Blk .u8 w2 w1.heap.size 23 (nn (List.replicate 32 0)) := b6
  replace BL := BL.e0 n2.e
  have HV : SV w2 v us := HV.e0 n2.e
  have HY : SLs .u8 w.heap.size w2 us (ps.map nn) := SLs.e0 n2.e HY
  replace b3 := b3.e0 n2.e
  simp only [sZ, sS]
  refine wpList_nil ?_
  refine hK1 _ _ ?_
  refine wp_seq_k fun K2 hK2 => ?_
  have e1 := drew_e0 w2
  refine zg (fun w_ => Bl w.heap.size w w_ ∧ SV w_ v us ∧ SLs .u8 w.heap.size w_ us (ps.map nn) ∧ Blk .u32 w_ w.heap.size 35 (nn tab) ∧ Blk .u8 w_ w1.heap.size 23 (nn (List.replicate 32 0)) ∧ w2.heap.size ≤ w_.heap.size) (fun w_ => Bl w.heap.size w w_ ∧ SV w_ v us ∧ SLs .u8 w.heap.size w_ us (ps.map nn) ∧ Blk .u32 w_ w.heap.size 35 (nn tab) ∧ Blk .u8 w_ w1.heap.size 23 (nn (List.replicate 32 0)) ∧ w2.heap.size ≤ w_.heap.size) 5 6 ⟨BL.e0 e1, HV.e0 e1, SLs.e0 e1 HY, b3.e0 e1, b6.e0 e1, Nat.le_refl _⟩ ?_
  clear BL HV HY b3 b6
  clear e1
  intro w3
  rintro ⟨BL, HV, HY, b3, b6, z1⟩
  refine zv 0 7 (.agg (cellsOf .u32 (nn tab))) (fun _ ⟨BL, HV, HY, b3, b6, z1⟩ => Val.blk 35 _ rfl 0 72 (by kernel_rfl) b3 _ Try.underlying35 rfl (by kernel_rfl) (by (try simp only [nn_len, List.length_cons, List.length_nil, List.length_set, List.length_replicate]); try omega) _ (seg_all' _ (by (try simp only [nn_len, List.length_cons, List.length_nil, List.length_set, List.length_replicate]); try omega))) ⟨BL, HV, HY, b3, b6, by omega⟩ ?_
  simp only [sZ, sS]
  refine zv 1 8 (.int .u8 ((tag : Nat) : Int)) (fun _ _ => .of) ⟨BL, HV, HY, b3, b6, by omega⟩ ?_
  simp only [sZ, sS]
  refine zv 2 9 (v) (fun _ _ => .of) ⟨BL, HV, HY, b3, b6, by omega⟩ ?_
  simp only [sZ, sS]
  refine zo1 3 rfl ?_
  refine xCall 10 83 #[.int .u8 ((tag : Nat) : Int), v] (by kernel_rfl) ?_
  refine (rtext_any tag ht8 v us ps w.heap.size w3 (by omega) HV HY hps hn).mono ?_
  rintro en w4 ⟨u, rfl, hS, hb1⟩
  have hsl := hS.lt
  have e2 := belE0 hb1
  have ze2 := e2.size
  replace BL := BL.e0 e2
  have HV : SV w4 v us := HV.e0 e2
  have HY : SLs .u8 w.heap.size w4 us (ps.map nn) := SLs.e0 e2 HY
  replace b3 := b3.e0 e2
  replace b6 := b6.e0 e2
  clear e2
  have S : SL .u8 w4 u (nn (textN tag ps)) := hS
  refine ⟨u, rfl, ?_⟩
  refine ze 3 ⟨BL, HV, HY, b3, b6, by omega⟩ ?_
  simp only [sZ, sS]
  refine zo1 4 rfl ?_
  refine xCall 11 82 #[.agg (cellsOf .u32 (nn tab)), u] (by kernel_rfl) ?_
  refine (rof_any tab (textN tag ps) u ht h32 (text_b ht8 hb) w4 S (by omega)).mono ?_
  rintro en w5 ⟨rfl, hb1⟩
  have e3 := belE0 hb1
  have ze3 := e3.size
  replace BL := BL.e0 e3
  have HV : SV w5 v us := HV.e0 e3
  have HY : SLs .u8 w.heap.size w5 us (ps.map nn) := SLs.e0 e3 HY
  replace b3 := b3.e0 e3
  replace b6 := b6.e0 e3
  replace S := S.e0 e3
  clear e3
  refine ⟨.agg (cellsOf .u8 (nn (ofN tab (textN tag ps)))), rfl, ?_⟩
  refine ze 4 ⟨BL, HV, HY, b3, b6, by omega⟩ ?_
  simp only [sZ, sS]
  refine zo1 5 rfl ?_
  refine xStoreA 23 (.tmp 6) (.tmp 11) rfl .u8 w1.heap.size 23 (nn (List.replicate 32 0)) 0 (nn (ofN tab (textN tag ps))) (by kernel_rfl) (by kernel_rfl) b6 (by rw [show (nn (ofN tab (textN tag ps))).length = 32 by ((try simp only [nn_len, List.length_cons, List.length_nil, List.length_set, List.length_replicate]); try omega)]; kernel_rfl) (by (try simp only [nn_len, List.length_cons, List.length_nil, List.length_set, List.length_replicate]); try omega) (nn (ofN tab (textN tag ps))) (over_whole _ _ (by (try simp only [nn_len, List.length_cons, List.length_nil, List.length_set, List.length_replicate]); try omega)) ?_
  intro w6 t1
  have zt1 := t1.z
  have BL_ := BL.ev t1.e (fun i h => show w.heap.size ≤ i by have h : i = w1.heap.size := h; omega)
  have b3_ := b3.ev t1.e (show ¬ (w.heap.size = w1.heap.size) by omega)
  replace BL := BL_; clear BL_
  replace b3 := b3_; clear b3_
  replace b6 : Blk .u8 w6 w1.heap.size 23 (nn (ofN tab (textN tag ps))) := t1.c
  clear t1
  refine zz 5 ?_
  refine zd (by kernel_rfl) ?_ _
  refine hK2 _ _ ?_
  refine wp_ret ?_
  (try simp only [Exit.then, Exit.inBlock])
  refine bodyPost_ret (rC rfl _ w1.heap.size _ _ (by kernel_rfl) b6.cel _ Try.underlying23 rfl (by rw [List.length_map, show (nn (ofN tab (textN tag ps))).length = 32 by ((try simp only [nn_len, List.length_cons, List.length_nil, List.length_set, List.length_replicate]); try omega)]; kernel_rfl)) rfl ?_
  exact ⟨rfl, BL.b⟩

end Go.Proofs.Ytanggdnmoaflfaa
