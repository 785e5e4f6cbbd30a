/-
  mac.turned, mac.under, mac.Mac, mac.Tagged; lamport.number, lamport.Secret, lamport.Half.
-/
import Derived.Test.YtanggdnmoaflfaaShaRun
namespace Go.Proofs.Ytanggdnmoaflfaa
open Go.RowKit
set_option linter.unusedVariables false
set_option linter.unusedSimpArgs false
set_option maxRecDepth 100000
attribute [local irreducible] wpList Code.wp wpAnyZ
theorem SL.castM {k : IntKind} {w : World} {v v' : Value} {xs ys : List Int} (h : SL k w v xs) (hv : v = v') (he : xs = ys) : SL k w v' ys := hv ▸ he ▸ h
theorem SV.ofCelM {w : World} {g : Nat} {t : TypeId} {us : List Value} (h : Cel w g t us) {n : Nat} (hn : us.length = n) (hm : n ≤ maxLen) : SV w (.slice (some ⟨g, 0, none⟩) n n) us := SV.ofCel h hn hm
theorem SV.e0 {w w' : World} {v : Value} {us : List Value} (h : SV w v us) (e : E0 w w') : SV w' v us := by
  rcases h with h | ⟨b, o, c, hv, h1, h2, h3, h4⟩
  · exact .inl h
  · subst hv
    exact .inr ⟨b, o, c, rfl, h1, h2, Nat.lt_of_lt_of_le h3 e.size, fun j hj => by rw [World.cell?_of_block (a := ⟨b, o + j, none⟩) (e.block b h3 (fun x => x))]; exact h4 j hj⟩
theorem SLs.e0 {k : IntKind} {B : Nat} {w w' : World} (e : E0 w w') : ∀ {us : List Value} {ys : List (List Int)}, SLs k B w us ys → SLs k B w' us ys
  | [], [], _ => trivial
  | [], _ :: _, h => h.elim
  | _ :: _, [], h => h.elim
  | u :: us, y :: ys, h => ⟨⟨h.1.1.e0 e, h.1.2⟩, SLs.e0 e h.2⟩
/-- The text of a tag and parts, in naturals. -/
def textN (tag : Nat) (ps : List (List Nat)) : List Nat := (textB (tag : Int) (ps.map nn)).map Int.toNat
theorem digs_nn (n k : Nat) : ∀ x ∈ digs n k, 0 ≤ x := by
  intro x hx
  obtain ⟨j, _, rfl⟩ := List.mem_map.1 hx
  exact Int.natCast_nonneg _
theorem uintB_nn (n : Nat) : ∀ x ∈ uintB n, 0 ≤ x := by
  intro x hx
  rcases List.mem_append.1 hx with h | h
  · exact digs_nn _ _ x h
  · rw [List.mem_singleton.1 h]; exact Int.natCast_nonneg _
theorem blobB_nn (y : List Nat) : ∀ x ∈ blobB (nn y), 0 ≤ x := by
  intro x hx
  rcases List.mem_append.1 hx with h | h
  · exact uintB_nn _ x h
  · obtain ⟨j, _, rfl⟩ := List.mem_map.1 h; exact Int.natCast_nonneg _
theorem blobsB_nn : ∀ ys : List (List Nat), ∀ x ∈ blobsB (ys.map nn), 0 ≤ x
  | [], x, h => by cases h
  | y :: ys, x, h => by
    rcases List.mem_append.1 h with h | h
    · exact blobB_nn y x h
    · exact blobsB_nn ys x h
theorem textN_nn (tag : Nat) (ps : List (List Nat)) : nn (textN tag ps) = textB (tag : Int) (ps.map nn) := by
  refine nn_toNat fun x hx => ?_
  rcases List.mem_append.1 hx with h | h
  · rcases List.mem_append.1 h with h | h
    · rcases List.mem_cons.1 h with rfl | h
      · omega
      · rw [List.mem_singleton.1 h]; exact Int.natCast_nonneg _
    · exact uintB_nn _ x h
  · exact blobsB_nn ps x h
/-- A number, as its bytes. -/
def numN (n : Int) : List Nat := (uintB n.toNat).map Int.toNat
theorem numN_nn (n : Int) : nn (numN n) = uintB n.toNat := nn_toNat (uintB_nn _)
theorem numN_len (n : Int) : (numN n).length ≤ 10 := by
  have := ndig_le 9 n.toNat
  unfold numN; rw [List.length_map, uintB_length]; omega
def taggedN (tab : List Nat) (tag : Nat) (ps : List (List Nat)) : List Nat := ofN tab (textN tag ps)
theorem SLs.three {k : IntKind} {B : Nat} {w : World} {u v x : Value} {a b c : List Int} (h : SL k w u a) (hl : ∀ g, u.ownBlock = some g → g < B) (h' : SL k w v b) (hl' : ∀ g, v.ownBlock = some g → g < B) (h2 : SL k w x c) (hl2 : ∀ g, x.ownBlock = some g → g < B) : SLs k B w [u, v, x] [a, b, c] := ⟨⟨h, hl⟩, ⟨h', hl'⟩, ⟨h2, hl2⟩, trivial⟩
theorem blobsB_small (ps : List (List Nat)) (m : Nat) (h : ∀ p ∈ ps, p.length ≤ m) (hm : m ≤ 100000000000) : (blobsB (ps.map nn)).length ≤ ps.length * (m + 10) := by
  induction ps with
  | nil => simp [blobsB]
  | cons p ps ih =>
    have h1 := h p (List.mem_cons_self ..)
    have h2 := ih fun q hq => h q (List.mem_cons_of_mem _ hq)
    have h3 := ndig_le 9 (nn p).length
    rw [List.map_cons, blobsB, List.length_append, blobB, List.length_append, uintB_length, nn_len, List.length_cons, Nat.succ_mul]
    rw [nn_len] at h3
    omega

set_option maxHeartbeats 4000000 in
theorem tagged_any (T : Nat) (tab : List Nat) (ht : tab.length = 72) (w : World) (TB : Blk .u32 w T 35 (nn tab)) (tag : Nat) (v : Value) (us : List Value) (ps : List (List Nat)) (HV : SV w v us) (HY : SLs .u8 w.heap.size w us (ps.map nn)) (hl : (blobsB (ps.map nn)).length ≤ 1000000000000) (hn : ps.length ≤ 1000000000000) :
    Calls Try.prog 55 #[.pointer (some ⟨T, 0, none⟩), .int .u8 ((tag : Nat) : Int), v] w fun e w' => e = .returned (.agg (cellsOf .u8 (nn (taggedN tab tag ps)))) ∧ Below w.heap.size w w' := by
  have BL := Bl.refl w
  have hT := TB.lt
  have hol := ofN_32 tab (textN tag ps)
  have htl : (textN tag ps).length ≤ 1000000000100 := by
    have h3 := ndig_le 9 (ps.map nn).length
    rw [← nn_len, textN_nn, textB, List.length_append, List.length_append, uintB_length]
    simp only [List.length_cons, List.length_nil]
    omega
  unfold taggedN
  go_enter Try.func55, Try.ntmps55
  refine wp_seq_k fun K1 hK1 => ?_
  refine cPlain ?_
  refine xAlloc 6 23 ((nn (List.replicate 32 0)).map (Value.int .u8)) rfl (by kernel_rfl) ?_
  intro w1 n1
  have zn1 := n1.z
  have b6 := n1.c
  replace b6 : Blk .u8 w1 w.heap.size 23 (nn (List.replicate 32 0)) := b6
  replace BL := BL.e0 n1.e
  replace TB := TB.e0 n1.e
  have HV : SV w1 v us := HV.e0 n1.e
  have HY : SLs .u8 w.heap.size w1 us (ps.map nn) := SLs.e0 n1.e HY
  simp only [sZ, sS]
  refine wpList_nil ?_
  refine hK1 _ _ ?_
  refine wp_seq_k fun K2 hK2 => ?_
  refine cPlain ?_
  refine sv 7 (.pointer (some ⟨T, 0, none⟩)) .of ?_
  simp only [sZ, sS]
  refine sv 8 (.int .u8 ((tag : Nat) : Int)) .of ?_
  simp only [sZ, sS]
  refine sv 9 (v) .of ?_
  simp only [sZ, sS]
  refine xCall 10 81 #[.int .u8 ((tag : Nat) : Int), v] (by kernel_rfl) ?_
  refine (mactext_any ((tag : Nat) : Int) v us (ps.map nn) w1 HV w.heap.size (by omega) HY (by omega)).mono ?_
  rintro en w2 ⟨u, rfl, hO, hb1⟩
  rw [← textN_nn] at hO
  have e1 := belE0 hb1
  have ze1 := e1.size
  replace BL := BL.e0 e1
  replace TB := TB.e0 e1
  replace b6 := b6.e0 e1
  clear e1
  have U : Own 5 .u8 w1.heap.size w2 u (nn (textN tag ps)) := hO
  have lU_1 := U.ge
  refine ⟨u, rfl, ?_⟩
  simp only [sZ, sS]
  refine xCall 11 80 #[.pointer (some ⟨T, 0, none⟩), u] (by kernel_rfl) ?_
  refine (of_any T tab (textN tag ps) u ht w2 TB U.sl (by omega)).mono ?_
  rintro en w3 ⟨rfl, hb1⟩
  have e2 := belE0 hb1
  have ze2 := e2.size
  replace BL := BL.e0 e2
  replace TB := TB.e0 e2
  replace b6 := b6.e0 e2
  replace U := U.e0 e2
  clear e2
  refine ⟨.agg (cellsOf .u8 (nn (ofN tab (textN tag ps)))), rfl, ?_⟩
  simp only [sZ, sS]
  refine xStoreA 23 (.tmp 6) (.tmp 11) rfl .u8 w.heap.size 23 (nn (List.replicate 32 0)) 0 (nn (ofN tab (textN tag ps))) (by kernel_rfl) (by kernel_rfl) b6 (by rw [show (nn (ofN tab (textN tag ps))).length = 32 by ((try simp only [nn_len, List.length_cons, List.length_nil, List.length_set, List.length_replicate]); try omega)]; kernel_rfl) (by (try simp only [nn_len, List.length_cons, List.length_nil, List.length_set, List.length_replicate]); try omega) (nn (ofN tab (textN tag ps))) (over_whole _ _ (by (try simp only [nn_len, List.length_cons, List.length_nil, List.length_set, List.length_replicate]); try omega)) ?_
  intro w4 t1
  have zt1 := t1.z
  have BL_ := BL.ev t1.e (fun i h => show w.heap.size ≤ i by have h : i = w.heap.size := h; omega)
  have TB_ := TB.ev t1.e (show ¬ (T = w.heap.size) by omega)
  have U_ := U.ev t1.e (fun i hi => show ¬ (i = w.heap.size) by have := lU_1 i hi; omega)
  replace BL := BL_; clear BL_
  replace TB := TB_; clear TB_
  replace U := U_; clear U_
  replace b6 : Blk .u8 w4 w.heap.size 23 (nn (ofN tab (textN tag ps))) := t1.c
  clear t1
  refine wpList_nil ?_
  refine hK2 _ _ ?_
  refine wp_ret ?_
  (try simp only [Exit.then, Exit.inBlock])
  refine bodyPost_ret (rC rfl _ w.heap.size _ _ (by kernel_rfl) b6.cel _ Try.underlying23 rfl (by rw [List.length_map, show (nn (ofN tab (textN tag ps))).length = 32 by ((try simp only [nn_len, List.length_cons, List.length_nil, List.length_set, List.length_replicate]); try omega)]; kernel_rfl)) rfl ?_
  exact ⟨rfl, BL.b⟩

end Go.Proofs.Ytanggdnmoaflfaa
