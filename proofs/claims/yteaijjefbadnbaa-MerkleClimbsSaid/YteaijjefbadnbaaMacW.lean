/-
  mac.turned, mac.under, mac.Mac, mac.Tagged; lamport.number, lamport.Secret, lamport.Half.
-/
import Derived.Test.YteaijjefbadnbaaShaRun
namespace Go.Proofs.Yteaijjefbadnbaa
open Go.RowKit
set_option linter.unusedVariables false
set_option linter.unusedSimpArgs false
set_option maxRecDepth 100000
attribute [local irreducible] wpList Code.wp wpAnyZ

theorem SL.castM {k : IntKind} {w : World} {v v' : Value} {xs ys : List Int} (h : SL k w v xs) (hv : v = v') (he : xs = ys) : SL k w v' ys := hv ▸ he ▸ h
theorem Val.maxM {P : Program} {a : Act} {o : Oper} {w : World} (x y : Operand) (t u : TypeId) (ho : o.op = .call { callee := .builtin .max, args := #[x, y], argTypes := #[t, u] }) (p q m : Int) (hx : a.eval x = .int .i64 p) (hy : a.eval y = .int .i64 q) (hm : (if q > p then q else p) = m) : Val P a o (.int .i64 m) w := by
  subst hm
  unfold Val
  simp only [execOp, ho]
  simp [resolve, invoke, builtin, hx, hy, Builtin.max_, Builtin.max2]
theorem SV.ofCelM {w : World} {g : Nat} {t : TypeId} {us : List Value} (h : Cel w g t us) {n : Nat} (hn : us.length = n) (hm : n ≤ maxLen) : SV w (.slice (some ⟨g, 0, none⟩) n n) us := SV.ofCel h hn hm
theorem SV.e0 {w w' : World} {v : Value} {us : List Value} (h : SV w v us) (e : E0 w w') : SV w' v us := by
  rcases h with h | ⟨b, o, c, hv, h1, h2, h3, h4⟩
  · exact .inl h
  · subst hv
    exact .inr ⟨b, o, c, rfl, h1, h2, Nat.lt_of_lt_of_le h3 e.size, fun j hj => by rw [World.cell?_of_block (a := ⟨b, o + j, none⟩) (e.block b h3 (fun x => x))]; exact h4 j hj⟩
theorem SLs.e0 {k : IntKind} {B : Nat} {w w' : World} (e : E0 w w') : ∀ {us : List Value} {ys : List (List Int)}, SLs k B w us ys → SLs k B w' us ys
  | [], [], _ => trivial
  | [], _ :: _, h => h.elim
  | _ :: _, [], h => h.elim
  | u :: us, y :: ys, h => ⟨⟨h.1.1.e0 e, h.1.2⟩, SLs.e0 e h.2⟩
/-- A key as it is used: a digest if it has more than 64 bytes. -/
def keyN (tab key : List Nat) : List Nat := if key.length ≤ 64 then key else ofN tab key
def padK (ks : List Nat) : List Nat := ks ++ List.replicate (64 - ks.length) 0
def turnK (ks : List Nat) (b : Nat) : List Nat := (padK ks).map fun x => (x ^^^ b) % 256
/-- A key's block, each byte turned. -/
def turnedN (tab key : List Nat) (b : Nat) : List Nat := turnK (keyN tab key) b
def macN (tab key bs : List Nat) : List Nat := ofN tab (turnedN tab key 92 ++ ofN tab (turnedN tab key 54 ++ bs))
theorem keyN_le (tab key : List Nat) : (keyN tab key).length ≤ 64 := by unfold keyN; split; assumption; rw [ofN_32]; omega
theorem padK_len {ks : List Nat} (h : ks.length ≤ 64) : (padK ks).length = 64 := by unfold padK; rw [List.length_append, List.length_replicate]; omega
theorem turnK_len {ks : List Nat} (h : ks.length ≤ 64) (b : Nat) : (turnK ks b).length = 64 := by unfold turnK; rw [List.length_map, padK_len h]
theorem turnedN_len (tab key : List Nat) (b : Nat) : (turnedN tab key b).length = 64 := turnK_len (keyN_le _ _) _
theorem macN_len (tab key bs : List Nat) : (macN tab key bs).length = 32 := ofN_32 _ _
theorem overV_pad {ks : List Nat} (h : ks.length ≤ 64) : overV ((nn (List.replicate 64 0)).map (Value.int .u8)) 0 (((nn ks).take ks.length).map (Value.int .u8)) = (nn (padK ks)).map (Value.int .u8) := by
  rw [List.take_of_length_le (by rw [nn_len]; exact Nat.le_refl _)]
  unfold overV padK
  rw [List.take_zero, List.nil_append, nn_app, List.map_append, Nat.zero_add, List.length_map, nn_len, ← List.map_drop, ← nn_drop, List.drop_replicate]
/-- Turned as far as byte k. -/
def goK (ks : List Nat) (b k : Nat) : List Nat := ((padK ks).take k).map (fun x => (x ^^^ b) % 256) ++ (padK ks).drop k
theorem goK_len {ks : List Nat} (h : ks.length ≤ 64) (b k : Nat) : (goK ks b k).length = 64 := by
  have := padK_len h
  unfold goK; rw [List.length_append, List.length_map, List.length_take, List.length_drop]; omega
theorem goK_0 (ks : List Nat) (b : Nat) : goK ks b 0 = padK ks := rfl
theorem goK_64 {ks : List Nat} (h : ks.length ≤ 64) (b : Nat) : goK ks b 64 = turnK ks b := by
  have := padK_len h
  unfold goK turnK
  rw [List.take_of_length_le (by omega), List.drop_of_length_le (by omega), List.append_nil]
theorem goK_step {ks : List Nat} (h : ks.length ≤ 64) (b k : Nat) (hk : k < 64) : (goK ks b k).set k (((goK ks b k).getD k 0 ^^^ b) % 256) = goK ks b (k + 1) := by
  have hl := padK_len h
  have h1 : ((padK ks).take k |>.map fun x => (x ^^^ b) % 256).length = k := by rw [List.length_map, List.length_take]; omega
  have hg : (goK ks b k).getD k 0 = (padK ks)[k] := by
    unfold goK
    rw [List.getD_eq_getElem?_getD, List.getElem?_append_right (by omega), h1, Nat.sub_self, List.getElem?_drop, Nat.add_zero, List.getElem?_eq_getElem (by omega)]
    rfl
  rw [hg]
  unfold goK
  rw [List.set_append_right _ _ (by omega), h1, Nat.sub_self, List.take_add_one, List.getElem?_eq_getElem (by omega), List.map_append, List.append_assoc]
  congr 1
  rw [List.drop_eq_getElem_cons (by omega)]
  rfl
/-- The text of a tag and parts, in naturals. -/
def textN (tag : Nat) (ps : List (List Nat)) : List Nat := (textB (tag : Int) (ps.map nn)).map Int.toNat
theorem digs_nn (n k : Nat) : ∀ x ∈ digs n k, 0 ≤ x := by
  intro x hx
  obtain ⟨j, _, rfl⟩ := List.mem_map.1 hx
  exact Int.natCast_nonneg _
theorem uintB_nn (n : Nat) : ∀ x ∈ uintB n, 0 ≤ x := by
  intro x hx
  rcases List.mem_append.1 hx with h | h
  · exact digs_nn _ _ x h
  · rw [List.mem_singleton.1 h]; exact Int.natCast_nonneg _
theorem blobB_nn (y : List Nat) : ∀ x ∈ blobB (nn y), 0 ≤ x := by
  intro x hx
  rcases List.mem_append.1 hx with h | h
  · exact uintB_nn _ x h
  · obtain ⟨j, _, rfl⟩ := List.mem_map.1 h; exact Int.natCast_nonneg _
theorem blobsB_nn : ∀ ys : List (List Nat), ∀ x ∈ blobsB (ys.map nn), 0 ≤ x
  | [], x, h => by cases h
  | y :: ys, x, h => by
    rcases List.mem_append.1 h with h | h
    · exact blobB_nn y x h
    · exact blobsB_nn ys x h
theorem textN_nn (tag : Nat) (ps : List (List Nat)) : nn (textN tag ps) = textB (tag : Int) (ps.map nn) := by
  refine nn_toNat fun x hx => ?_
  rcases List.mem_append.1 hx with h | h
  · rcases List.mem_append.1 h with h | h
    · rcases List.mem_cons.1 h with rfl | h
      · omega
      · rw [List.mem_singleton.1 h]; exact Int.natCast_nonneg _
    · exact uintB_nn _ x h
  · exact blobsB_nn ps x h
/-- A number, as its bytes. -/
def numN (n : Int) : List Nat := (uintB n.toNat).map Int.toNat
theorem numN_nn (n : Int) : nn (numN n) = uintB n.toNat := nn_toNat (uintB_nn _)
theorem numN_len (n : Int) : (numN n).length ≤ 10 := by
  have := ndig_le 9 n.toNat
  unfold numN; rw [List.length_map, uintB_length]; omega
def taggedN (tab : List Nat) (tag : Nat) (ps : List (List Nat)) : List Nat := ofN tab (textN tag ps)
def secretN (tab seed : List Nat) (leaf bit val : Int) : List Nat := macN tab seed (textN 1 [numN leaf, numN bit, numN val])
def halfN (tab secret : List Nat) : List Nat := taggedN tab 2 [secret]
theorem SLs.nnOf {B : Nat} {w : World} {us : List Value} {ps : List (List Nat)} (h : SLs .u8 B w us (ps.map nn)) : SLs .u8 B w us (ps.map nn) := h
theorem SLs.three {k : IntKind} {B : Nat} {w : World} {u v x : Value} {a b c : List Int} (h : SL k w u a) (hl : ∀ g, u.ownBlock = some g → g < B) (h' : SL k w v b) (hl' : ∀ g, v.ownBlock = some g → g < B) (h2 : SL k w x c) (hl2 : ∀ g, x.ownBlock = some g → g < B) : SLs k B w [u, v, x] [a, b, c] := ⟨⟨h, hl⟩, ⟨h', hl'⟩, ⟨h2, hl2⟩, trivial⟩
theorem blobsB_small (ps : List (List Nat)) (m : Nat) (h : ∀ p ∈ ps, p.length ≤ m) (hm : m ≤ 100000000000) : (blobsB (ps.map nn)).length ≤ ps.length * (m + 10) := by
  induction ps with
  | nil => simp [blobsB]
  | cons p ps ih =>
    have h1 := h p (List.mem_cons_self ..)
    have h2 := ih fun q hq => h q (List.mem_cons_of_mem _ hq)
    have h3 := ndig_le 9 (nn p).length
    rw [List.map_cons, blobsB, List.length_append, blobB, List.length_append, uintB_length, nn_len, List.length_cons, Nat.succ_mul]
    rw [nn_len] at h3
    omega

set_option maxHeartbeats 4000000 in
theorem turned_any (T : Nat) (tab : List Nat) (ht : tab.length = 72) (w : World) (TB : Blk .u32 w T 26 (nn tab)) (key : List Nat) (v : Value) (b : Nat) (hb : b < 256) (D : SL .u8 w v (nn key)) (hl : key.length ≤ 140737488355328) :
    Calls Try.prog 88 #[.pointer (some ⟨T, 0, none⟩), v, .int .u8 ((b : Nat) : Int)] w fun e w' => e = .returned (.agg (cellsOf .u8 (nn (turnedN tab key b)))) ∧ Below w.heap.size w w' := by
  have BL := Bl.refl w
  have hT := TB.lt
  have hd := D.lt
  have hol := ofN_32 tab key
  go_enter Try.func88, Try.ntmps88
  refine wp_seq_k fun K1 hK1 => ?_
  refine cPlain ?_
  refine xAlloc 6 42 ((nn (List.replicate 64 0)).map (Value.int .u8)) rfl (by kernel_rfl) ?_
  intro w1 n1
  have zn1 := n1.z
  have b6 := n1.c
  replace b6 : Blk .u8 w1 w.heap.size 42 (nn (List.replicate 64 0)) := b6
  replace BL := BL.e0 n1.e
  replace TB := TB.e0 n1.e
  replace D := D.e0 n1.e
  simp only [List.set_cons_zero, List.set_cons_succ]
  refine wpList_nil ?_
  refine hK1 _ _ ?_
  refine wp_seq_k fun K2 hK2 => ?_
  refine cPlain ?_
  refine xAlloc 7 42 ((nn (List.replicate 64 0)).map (Value.int .u8)) rfl (by kernel_rfl) ?_
  intro w2 n2
  have zn2 := n2.z
  have b7 := n2.c
  replace b7 : Blk .u8 w2 w1.heap.size 42 (nn (List.replicate 64 0)) := b7
  replace BL := BL.e0 n2.e
  replace TB := TB.e0 n2.e
  replace D := D.e0 n2.e
  replace b6 := b6.e0 n2.e
  simp only [List.set_cons_zero, List.set_cons_succ]
  refine wpList_nil ?_
  refine hK2 _ _ ?_
  refine cCut (fun A_ w_ => ∃ (ks : List Nat) (kv : Value), ((ks = keyN tab key) ∧ (ks.length ≤ 64) ∧ (∀ i, Value.ownBlock kv = some i → i ≠ w.heap.size + 1) ∧ (∃ s1 : Nat → Value, A_ = ⟨[.pointer (some ⟨T, 0, none⟩), kv, .int .u8 ((b : Nat) : Int), undef, undef, undef, .pointer (some ⟨w.heap.size, 0, none⟩), .pointer (some ⟨w1.heap.size, 0, none⟩), (s1 8), undef, (s1 10), (s1 11), (s1 12), (s1 13), (s1 14), (s1 15), (s1 16), undef, undef, undef, undef, undef, undef, undef, undef, undef, undef, undef, undef, undef, undef].toArray, []⟩) ∧ Bl w.heap.size w w_ ∧ Blk .u32 w_ T 26 (nn tab) ∧ Blk .u8 w_ w.heap.size 42 (nn (List.replicate 64 0)) ∧ Blk .u8 w_ w1.heap.size 42 (nn (List.replicate 64 0)) ∧ SL .u8 w_ kv (nn ks) ∧ w2.heap.size ≤ w_.heap.size)) ?_ ?_
  · skip
    refine wp_seq_k fun K3 hK3 => ?_
    refine cPlain ?_
    refine sv 10 (v) .of ?_
    simp only [List.set_cons_zero, List.set_cons_succ]
    refine sv 11 (.int .i64 ((key.length : Nat) : Int)) (Val.lenS (.tmp 10) 30 rfl (by kernel_rfl) D key.length (nn_len key) Try.underlying30) ?_
    simp only [List.set_cons_zero, List.set_cons_succ]
    refine sv 12 (.bool (decide (64 < ((key.length : Nat) : Int)))) (Val.cmp .gtr 3 _ (.tmp 11) _ rfl .i64 ((key.length : Nat) : Int) 64 (by kernel_rfl) (by kernel_rfl) (by simp) _ rfl) ?_
    simp only [List.set_cons_zero, List.set_cons_succ]
    refine wpList_nil ?_
    refine hK3 _ _ ?_
    refine cDec (64 < ((key.length : Nat) : Int)) (by kernel_rfl) (fun c12 => ?_) (fun c12 => ?_)
    · skip
      refine wp_seq_k fun K4 hK4 => ?_
      refine cPlain ?_
      refine sv 13 (.pointer (some ⟨T, 0, none⟩)) .of ?_
      simp only [List.set_cons_zero, List.set_cons_succ]
      refine sv 14 (v) .of ?_
      simp only [List.set_cons_zero, List.set_cons_succ]
      refine xCall 15 20 #[.pointer (some ⟨T, 0, none⟩), v] (by kernel_rfl) ?_
      refine (of_any T tab key v ht w2 TB D hl).mono ?_
      rintro en w3 ⟨rfl, hb1⟩
      have e1 := belE0 hb1
      have ze1 := e1.size
      replace BL := BL.e0 e1
      replace TB := TB.e0 e1
      replace D := D.e0 e1
      replace b6 := b6.e0 e1
      replace b7 := b7.e0 e1
      clear e1
      refine ⟨.agg (cellsOf .u8 (nn (ofN tab key))), rfl, ?_⟩
      simp only [List.set_cons_zero, List.set_cons_succ]
      refine xAlloc 8 37 ((nn (List.replicate 32 0)).map (Value.int .u8)) rfl (by kernel_rfl) ?_
      intro w4 n3
      have zn3 := n3.z
      have b8 := n3.c
      replace b8 : Blk .u8 w4 w3.heap.size 37 (nn (List.replicate 32 0)) := b8
      replace BL := BL.e0 n3.e
      replace TB := TB.e0 n3.e
      replace D := D.e0 n3.e
      replace b6 := b6.e0 n3.e
      replace b7 := b7.e0 n3.e
      simp only [List.set_cons_zero, List.set_cons_succ]
      refine xStoreA 37 (.tmp 8) (.tmp 15) rfl .u8 w3.heap.size 37 (nn (List.replicate 32 0)) 0 (nn (ofN tab key)) (by kernel_rfl) (by kernel_rfl) b8 (by rw [show (nn (ofN tab key)).length = 32 by ((try simp only [nn_len, List.length_replicate]); try omega)]; kernel_rfl) (by (try simp only [nn_len, List.length_replicate]); try omega) (nn (ofN tab key)) (over_whole _ _ (by (try simp only [nn_len, List.length_replicate]); try omega)) ?_
      intro w5 t1
      have zt1 := t1.z
      have BL_ := BL.ev t1.e (fun i h => show w.heap.size ≤ i by have h : i = w3.heap.size := h; omega)
      have TB_ := TB.ev t1.e (show ¬ (T = w3.heap.size) by omega)
      have D_ := D.ev t1.e (fun i hi => show ¬ (i = w3.heap.size) by have := hd i hi; omega)
      have b6_ := b6.ev t1.e (show ¬ (w.heap.size = w3.heap.size) by omega)
      have b7_ := b7.ev t1.e (show ¬ (w1.heap.size = w3.heap.size) by omega)
      replace BL := BL_; clear BL_
      replace TB := TB_; clear TB_
      replace D := D_; clear D_
      replace b6 := b6_; clear b6_
      replace b7 := b7_; clear b7_
      replace b8 : Blk .u8 w5 w3.heap.size 37 (nn (ofN tab key)) := t1.c
      clear t1
      refine wpList_nil ?_
      refine hK4 _ _ ?_
      refine cPlain ?_
      refine sv 16 (.slice (some ⟨w3.heap.size, 0, none⟩) 32 32) .of ?_
      simp only [List.set_cons_zero, List.set_cons_succ]
      refine sv 1 (.slice (some ⟨w3.heap.size, 0, none⟩) 32 32) .of ?_
      simp only [List.set_cons_zero, List.set_cons_succ]
      refine wpList_nil ?_
      exact ⟨ofN tab key, .slice (some ⟨w3.heap.size, 0, none⟩) 32 32, (by first | exact (if_pos (by omega)).symm | exact (if_neg (by omega)).symm), (by first | omega | (rw [ofN_32]; omega)), (fun i hi => by first | (have := hd i hi; omega) | (simp [Value.ownBlock] at hi; omega)), cutE, BL, TB, b6, b7, (by first | exact D | exact SL.ofBlk b8 (by rw [nn_len]; exact ofN_32 _ _) (by unfold maxLen; omega)), by omega⟩
    · skip
      refine wp_skip ?_
      exact ⟨key, v, (by first | exact (if_pos (by omega)).symm | exact (if_neg (by omega)).symm), (by first | omega | (rw [ofN_32]; omega)), (fun i hi => by first | (have := hd i hi; omega) | (simp [Value.ownBlock] at hi; omega)), cutE, BL, TB, b6, b7, (by first | exact D | exact SL.ofBlk b8 (by rw [nn_len]; exact ofN_32 _ _) (by unfold maxLen; omega)), by omega⟩
  · skip
    clear BL TB D b6 b7
    rintro a_ wJ1 ⟨ks, kv, hJ1_0, hJ1_1, hJ1_2, ⟨s1, rfl⟩, BL, TB, b6, b7, K, zJ1⟩
    refine wp_seq_k fun K5 hK5 => ?_
    refine cPlain ?_
    refine sv 17 (.slice (some ⟨w1.heap.size, 0, none⟩) 64 64) .of ?_
    simp only [List.set_cons_zero, List.set_cons_succ]
    refine sv 18 (kv) .of ?_
    simp only [List.set_cons_zero, List.set_cons_succ]
    refine xCopy 19 (.tmp 17) (.tmp 18) 30 30 5 rfl Try.underlying30 (by kernel_rfl) w1.heap.size 0 64 64 42 ((nn (List.replicate 64 0)).map (Value.int .u8)) .u8 kv (nn ks) (by kernel_rfl) (by kernel_rfl) b7.cel K ks.length (by rw [nn_len]; omega) (by rw [List.length_map, nn_len, List.length_replicate]; omega) ((nn (padK ks)).map (Value.int .u8)) (overV_pad hJ1_1) ?_
    intro w6 t2
    have zt2 := t2.z
    have BL_ := BL.ev t2.e (fun i h => show w.heap.size ≤ i by have h : i = w1.heap.size := h; omega)
    have TB_ := TB.ev t2.e (show ¬ (T = w1.heap.size) by omega)
    have b6_ := b6.ev t2.e (show ¬ (w.heap.size = w1.heap.size) by omega)
    have K_ := K.ev t2.e (fun i hi => show ¬ (i = w1.heap.size) by have := hJ1_2 i hi; omega)
    replace BL := BL_; clear BL_
    replace TB := TB_; clear TB_
    replace b6 := b6_; clear b6_
    replace K := K_; clear K_
    replace b7 : Blk .u8 w6 w1.heap.size 42 (nn (padK ks)) := t2.c
    clear t2
    simp only [List.set_cons_zero, List.set_cons_succ]
    refine wpList_nil ?_
    refine hK5 _ _ ?_
    refine wp_seq_k fun K6 hK6 => ?_
    refine wp_seq_k fun K7 hK7 => ?_
    refine cPlain ?_
    refine sv 20 (.int .i64 0) .of ?_
    simp only [List.set_cons_zero, List.set_cons_succ]
    refine wpList_nil ?_
    refine hK7 _ _ ?_
    refine wp_block ?_
    refine cLoop (fun N_ A_ w_ => ∃ (k : Nat), (N_ = 64 - k ∧ (k ≤ 64) ∧ (∃ s2 : Nat → Value, A_ = ⟨[.pointer (some ⟨T, 0, none⟩), kv, .int .u8 ((b : Nat) : Int), undef, undef, undef, .pointer (some ⟨w.heap.size, 0, none⟩), .pointer (some ⟨w1.heap.size, 0, none⟩), (s1 8), (s2 9), (s1 10), (s1 11), (s1 12), (s1 13), (s1 14), (s1 15), (s1 16), .slice (some ⟨w1.heap.size, 0, none⟩) 64 64, kv, .int .i64 (ks.length : Int), .int .i64 ((k : Nat) : Int), (s2 21), (s2 22), (s2 23), (s2 24), (s2 25), (s2 26), (s2 27), (s2 28), (s2 29), undef].toArray, []⟩) ∧ Bl w.heap.size w w_ ∧ Blk .u32 w_ T 26 (nn tab) ∧ Blk .u8 w_ w.heap.size 42 (nn (List.replicate 64 0)) ∧ Blk .u8 w_ w1.heap.size 42 (nn (goK ks b k)) ∧ w6.heap.size ≤ w_.heap.size)) _ ⟨0, rfl, (Nat.zero_le _), cutE, BL, TB, b6, b7, Nat.le_refl _⟩ ?_
    clear BL TB b6 b7 K
    rintro n_ a_ wl0 ⟨k, rfl, hc0_0, ⟨s2, rfl⟩, BL, TB, b6, b7, zl0⟩
    have hgl := goK_len hJ1_1 b k
    refine wp_seq_k fun K8 hK8 => ?_
    refine cPlain ?_
    refine sv 21 (.bool (decide (((k : Nat) : Int) < 64))) (Val.cmp .lss 3 _ (.tmp 20) _ rfl .i64 ((k : Nat) : Int) 64 (by kernel_rfl) (by kernel_rfl) (by simp) _ rfl) ?_
    simp only [List.set_cons_zero, List.set_cons_succ]
    refine wpList_nil ?_
    refine hK8 _ _ ?_
    refine wp_seq_k fun K9 hK9 => ?_
    refine cDec (((k : Nat) : Int) < 64) (by kernel_rfl) (fun c21 => ?_) (fun c21 => ?_)
    · skip
      refine wp_skip ?_
      refine hK9 _ _ ?_
      refine wp_seq_k fun K10 hK10 => ?_
      refine wp_block ?_
      refine wp_seq_k fun K11 hK11 => ?_
      refine cPlain ?_
      refine sv 22 (.int .i64 ((k : Nat) : Int)) .of ?_
      simp only [List.set_cons_zero, List.set_cons_succ]
      refine sv 9 (.int .i64 ((k : Nat) : Int)) .of ?_
      simp only [List.set_cons_zero, List.set_cons_succ]
      refine wpList_nil ?_
      refine hK11 _ _ ?_
      refine cPlain ?_
      refine sv 23 (.int .i64 ((k : Nat) : Int)) .of ?_
      simp only [List.set_cons_zero, List.set_cons_succ]
      refine sv 24 (.pointer (some ⟨w1.heap.size, k, none⟩)) (Val.idxA01 42 (.tmp 7) (.tmp 23) rfl w1.heap.size k (by kernel_rfl) (by kernel_rfl) Try.underlying42 (by kernel_rfl) (by omega)) ?_
      simp only [List.set_cons_zero, List.set_cons_succ]
      refine sv 25 (.int .u8 (((goK ks b k).getD k 0 : Nat) : Int)) (Val.nblk1 5 _ rfl w1.heap.size k (by kernel_rfl) (fun _ => (by kernel_rfl)) b7 (by have := goK_len hJ1_1 b k; omega)) ?_
      simp only [List.set_cons_zero, List.set_cons_succ]
      refine sv 26 (.int .u8 ((b : Nat) : Int)) .of ?_
      simp only [List.set_cons_zero, List.set_cons_succ]
      refine sv 27 (.int .u8 (((((goK ks b k).getD k 0) ^^^ b) % 256 : Nat) : Int)) (Val.xorN 5 _ (.tmp 25) (.tmp 26) rfl .u8 ((goK ks b k).getD k 0) b 256 (by kernel_rfl) (by kernel_rfl)) ?_
      simp only [List.set_cons_zero, List.set_cons_succ]
      refine sv 28 (.pointer (some ⟨w1.heap.size, k, none⟩)) (Val.idxA01 42 (.tmp 7) (.tmp 23) rfl w1.heap.size k (by kernel_rfl) (by kernel_rfl) Try.underlying42 (by kernel_rfl) (by omega)) ?_
      simp only [List.set_cons_zero, List.set_cons_succ]
      refine xStoreNN 5 (.tmp 28) (.tmp 27) rfl .u8 w1.heap.size 42 (goK ks b k) k ((((goK ks b k).getD k 0) ^^^ b) % 256) (by kernel_rfl) (by kernel_rfl) b7 (by kernel_rfl) (by have := goK_len hJ1_1 b k; omega) ?_
      intro w7 t3
      have zt3 := t3.z
      have BL_ := BL.ev t3.e (fun i h => show w.heap.size ≤ i by have h : i = w1.heap.size := h; omega)
      have TB_ := TB.ev t3.e (show ¬ (T = w1.heap.size) by omega)
      have b6_ := b6.ev t3.e (show ¬ (w.heap.size = w1.heap.size) by omega)
      replace BL := BL_; clear BL_
      replace TB := TB_; clear TB_
      replace b6 := b6_; clear b6_
      replace b7 : Blk .u8 w7 w1.heap.size 42 (nn ((goK ks b k).set k ((((goK ks b k).getD k 0) ^^^ b) % 256))) := t3.c
      clear t3
      refine wpList_nil ?_
      refine hK10 _ _ ?_
      refine cPlain ?_
      refine sv 29 (.int .i64 (((k : Nat) : Int) + 1)) (Val.add 3 _ (.tmp 20) _ rfl ((k : Nat) : Int) 1 (by kernel_rfl) (by kernel_rfl) (by omega)) ?_
      simp only [List.set_cons_zero, List.set_cons_succ]
      refine sv 20 (.int .i64 (((k : Nat) : Int) + 1)) .of ?_
      simp only [List.set_cons_zero, List.set_cons_succ]
      refine wpList_nil ?_
      refine ⟨_, ?_, k + 1, rfl, (by omega), cutE, BL, TB, b6, (by rw [← goK_step hJ1_1 b k (by omega)]; exact b7), by omega⟩
      omega
    · skip
      have hk64 : goK ks b k = turnedN tab key b := by rw [show k = 64 by omega, goK_64 hJ1_1, hJ1_0]; rfl
      refine wp_exit ?_
      simp only [Exit.then, Exit.inBlock, ↓reduceIte, Nat.reduceEqDiff]
      refine hK6 _ _ ?_
      refine wp_seq_k fun K12 hK12 => ?_
      refine cPlain ?_
      refine sv 30 (.agg (cellsOf .u8 (nn (goK ks b k)))) (Val.blk 42 _ rfl 0 64 (by kernel_rfl) b7 _ Try.underlying42 rfl (by kernel_rfl) (by (try simp only [nn_len, List.length_replicate]); try omega) _ (seg_all' _ (by (try simp only [nn_len, List.length_replicate]); try omega))) ?_
      simp only [List.set_cons_zero, List.set_cons_succ]
      refine xStoreA 42 (.tmp 6) (.tmp 30) rfl .u8 w.heap.size 42 (nn (List.replicate 64 0)) 0 (nn (goK ks b k)) (by kernel_rfl) (by kernel_rfl) b6 (by rw [show (nn (goK ks b k)).length = 64 by ((try simp only [nn_len, List.length_replicate]); try omega)]; kernel_rfl) (by (try simp only [nn_len, List.length_replicate]); try omega) (nn (goK ks b k)) (over_whole _ _ (by (try simp only [nn_len, List.length_replicate]); try omega)) ?_
      intro w8 t4
      have zt4 := t4.z
      have BL_ := BL.ev t4.e (fun i h => show w.heap.size ≤ i by have h : i = w.heap.size := h; omega)
      have TB_ := TB.ev t4.e (show ¬ (T = w.heap.size) by omega)
      have b7_ := b7.ev t4.e (show ¬ (w1.heap.size = w.heap.size) by omega)
      replace BL := BL_; clear BL_
      replace TB := TB_; clear TB_
      replace b7 := b7_; clear b7_
      replace b6 : Blk .u8 w8 w.heap.size 42 (nn (goK ks b k)) := t4.c
      clear t4
      refine wpList_nil ?_
      refine hK12 _ _ ?_
      refine wp_ret ?_
      (try simp only [Exit.then, Exit.inBlock])
      refine bodyPost_ret (rC rfl _ w.heap.size _ _ (by kernel_rfl) b6.cel _ Try.underlying42 rfl (by rw [List.length_map, show (nn (goK ks b k)).length = 64 by ((try simp only [nn_len, List.length_replicate]); try omega)]; kernel_rfl)) rfl ?_
      rw [hk64]
      exact ⟨rfl, BL.b⟩

set_option maxHeartbeats 4000000 in
theorem under_any (T : Nat) (tab : List Nat) (ht : tab.length = 72) (w : World) (TB : Blk .u32 w T 26 (nn tab)) (bl bs : List Nat) (v : Value) (hbl : bl.length = 64) (D : SL .u8 w v (nn bs)) (hl : bs.length ≤ 1000000000000) :
    Calls Try.prog 87 #[.pointer (some ⟨T, 0, none⟩), .agg (cellsOf .u8 (nn bl)), v] w fun e w' => e = .returned (.agg (cellsOf .u8 (nn (ofN tab (bl ++ bs))))) ∧ Below w.heap.size w w' := by
  have BL := Bl.refl w
  have hT := TB.lt
  have hd := D.lt
  have h8 : (tab.take 8).length = 8 := by rw [List.length_take]; omega
  obtain ⟨S1, R1, L1, hX1⟩ : ∃ S R L, runH tab (tab.take 8) bl = (S, R, L) := ⟨_, _, _, rfl⟩
  obtain ⟨S2, R2, L2, hX2⟩ : ∃ S R L, runH tab (tab.take 8) (bl ++ bs) = (S, R, L) := ⟨_, _, _, rfl⟩
  have hS2 : S2.length = 8 := by have := goB_len tab (tab.take 8) (bl ++ bs) h8 ((bl ++ bs).length / 64); rw [show goB tab (tab.take 8) (bl ++ bs) ((bl ++ bs).length / 64) = S2 from congrArg Prod.fst hX2] at this; exact this
  have hOf : ofN tab (bl ++ bs) = sumN tab (S2, R2, L2) := by rw [ofN_run, hX2]
  have hsl := sumN_len tab (S2, R2, L2)
  rw [hOf]
  go_enter Try.func87, Try.ntmps87
  refine wp_seq_k fun K1 hK1 => ?_
  refine cPlain ?_
  refine xBox 4 42 _ ((nn (bl)).map (Value.int .u8)) rfl (cells_toList _ _) ?_
  intro w1 n1
  have zn1 := n1.z
  have b4 := n1.c
  replace b4 : Blk .u8 w1 w.heap.size 42 (nn (bl)) := b4
  replace BL := BL.e0 n1.e
  replace TB := TB.e0 n1.e
  replace D := D.e0 n1.e
  simp only [List.set_cons_zero, List.set_cons_succ]
  refine xAlloc 6 37 ((nn (List.replicate 32 0)).map (Value.int .u8)) rfl (by kernel_rfl) ?_
  intro w2 n2
  have zn2 := n2.z
  have b6 := n2.c
  replace b6 : Blk .u8 w2 w1.heap.size 37 (nn (List.replicate 32 0)) := b6
  replace BL := BL.e0 n2.e
  replace TB := TB.e0 n2.e
  replace D := D.e0 n2.e
  replace b4 := b4.e0 n2.e
  simp only [List.set_cons_zero, List.set_cons_succ]
  refine wpList_nil ?_
  refine hK1 _ _ ?_
  refine wp_seq_k fun K2 hK2 => ?_
  have e1 := drew_e0 w2
  refine zg (fun w_ => Bl w.heap.size w w_ ∧ Blk .u32 w_ T 26 (nn tab) ∧ SL .u8 w_ v (nn bs) ∧ Blk .u8 w_ w.heap.size 42 (nn (bl)) ∧ Blk .u8 w_ w1.heap.size 37 (nn (List.replicate 32 0)) ∧ w2.heap.size ≤ w_.heap.size) (fun w_ => Bl w.heap.size w w_ ∧ Blk .u32 w_ T 26 (nn tab) ∧ SL .u8 w_ v (nn bs) ∧ Blk .u8 w_ w.heap.size 42 (nn (bl)) ∧ Blk .u8 w_ w1.heap.size 37 (nn (List.replicate 32 0)) ∧ w2.heap.size ≤ w_.heap.size) 10 11 ⟨BL.e0 e1, TB.e0 e1, D.e0 e1, b4.e0 e1, b6.e0 e1, Nat.le_refl _⟩ ?_
  clear BL TB D b4 b6
  clear e1
  intro w3
  rintro ⟨BL, TB, D, b4, b6, z1⟩
  refine zv 0 7 (.pointer (some ⟨T, 0, none⟩)) (fun _ _ => .of) ⟨BL, TB, D, b4, b6, by omega⟩ ?_
  simp only [List.set_cons_zero, List.set_cons_succ]
  refine zv 1 8 (.pointer (some ⟨T, 0, none⟩)) (fun _ _ => .of) ⟨BL, TB, D, b4, b6, by omega⟩ ?_
  simp only [List.set_cons_zero, List.set_cons_succ]
  refine zv 2 9 (.pointer (some ⟨T, 0, none⟩)) (fun _ _ => .of) ⟨BL, TB, D, b4, b6, by omega⟩ ?_
  simp only [List.set_cons_zero, List.set_cons_succ]
  refine zv 3 10 (.pointer (some ⟨T, 0, none⟩)) (fun _ _ => .of) ⟨BL, TB, D, b4, b6, by omega⟩ ?_
  simp only [List.set_cons_zero, List.set_cons_succ]
  refine zv 5 12 (.slice (some ⟨w.heap.size, 0, none⟩) 64 64) (fun _ _ => .of) ⟨BL, TB, D, b4, b6, by omega⟩ ?_
  simp only [List.set_cons_zero, List.set_cons_succ]
  refine zv 7 14 (v) (fun _ _ => .of) ⟨BL, TB, D, b4, b6, by omega⟩ ?_
  simp only [List.set_cons_zero, List.set_cons_succ]
  refine zo1 4 rfl ?_
  refine xCall 11 19 #[.pointer (some ⟨T, 0, none⟩)] (by kernel_rfl) ?_
  refine (new_any T tab ht w3 TB).mono ?_
  rintro en w4 ⟨rfl, hb1⟩
  have e2 := belE0 hb1
  have ze2 := e2.size
  replace BL := BL.e0 e2
  replace TB := TB.e0 e2
  replace D := D.e0 e2
  replace b4 := b4.e0 e2
  replace b6 := b6.e0 e2
  clear e2
  refine ⟨hashV (tab.take 8) (.slice none 0 0) 0, rfl, ?_⟩
  refine ze 4 ⟨BL, TB, D, b4, b6, by omega⟩ ?_
  simp only [List.set_cons_zero, List.set_cons_succ]
  refine zo1 6 rfl ?_
  refine xCall 13 16 #[.pointer (some ⟨T, 0, none⟩), hashV (tab.take 8) (.slice none 0 0) 0, .slice (some ⟨w.heap.size, 0, none⟩) 64 64] (by kernel_rfl) ?_
  refine (write_run T tab (tab.take 8) [] bl (tab.take 8) [] S1 R1 0 L1 (runH_nil _ _) (by rw [List.nil_append]; exact hX1) h8 (by simp) (by omega) (.slice none 0 0) _ ht w4 TB (SL.nil _ _) (SL.ofBlk b4 (by rw [nn_len]; exact hbl) (by unfold maxLen; omega))).mono ?_
  rintro en w5 ⟨u1, rfl, hO1, hb1⟩
  have e3 := belE0 hb1
  have ze3 := e3.size
  replace BL := BL.e0 e3
  replace TB := TB.e0 e3
  replace D := D.e0 e3
  replace b4 := b4.e0 e3
  replace b6 := b6.e0 e3
  clear e3
  have U1 : Own 5 .u8 w4.heap.size w5 u1 (nn R1) := hO1
  have lU1_1 := U1.ge
  refine ⟨hashV S1 u1 L1, rfl, ?_⟩
  refine ze 6 ⟨BL, TB, D, b4, b6, by omega⟩ ?_
  simp only [List.set_cons_zero, List.set_cons_succ]
  refine zo1 8 rfl ?_
  refine xCall 15 16 #[.pointer (some ⟨T, 0, none⟩), hashV S1 u1 L1, v] (by kernel_rfl) ?_
  refine (write_run T tab (tab.take 8) bl bs S1 R1 S2 R2 L1 L2 hX1 hX2 h8 (by omega) hl u1 _ ht w5 TB U1.sl D).mono ?_
  rintro en w6 ⟨u2, rfl, hO2, hb1⟩
  have e4 := belE0 hb1
  have ze4 := e4.size
  replace BL := BL.e0 e4
  replace TB := TB.e0 e4
  replace D := D.e0 e4
  replace b4 := b4.e0 e4
  replace b6 := b6.e0 e4
  replace U1 := U1.e0 e4
  clear e4
  have U2 : Own 5 .u8 w5.heap.size w6 u2 (nn R2) := hO2
  have lU2_1 := U2.ge
  refine ⟨hashV S2 u2 L2, rfl, ?_⟩
  refine ze 8 ⟨BL, TB, D, b4, b6, by omega⟩ ?_
  simp only [List.set_cons_zero, List.set_cons_succ]
  refine zo1 9 rfl ?_
  refine xCall 16 18 #[.pointer (some ⟨T, 0, none⟩), hashV S2 u2 L2] (by kernel_rfl) ?_
  refine (sum_any T tab (S2, R2, L2) hS2 u2 ht w6 TB U2.sl).mono ?_
  rintro en w7 ⟨rfl, hb1⟩
  have e5 := belE0 hb1
  have ze5 := e5.size
  replace BL := BL.e0 e5
  replace TB := TB.e0 e5
  replace D := D.e0 e5
  replace b4 := b4.e0 e5
  replace b6 := b6.e0 e5
  replace U1 := U1.e0 e5
  replace U2 := U2.e0 e5
  clear e5
  refine ⟨.agg (cellsOf .u8 (nn (sumN tab (S2, R2, L2)))), rfl, ?_⟩
  refine ze 9 ⟨BL, TB, D, b4, b6, by omega⟩ ?_
  simp only [List.set_cons_zero, List.set_cons_succ]
  refine zo1 10 rfl ?_
  refine xStoreA 37 (.tmp 6) (.tmp 16) rfl .u8 w1.heap.size 37 (nn (List.replicate 32 0)) 0 (nn (sumN tab (S2, R2, L2))) (by kernel_rfl) (by kernel_rfl) b6 (by rw [show (nn (sumN tab (S2, R2, L2))).length = 32 by ((try simp only [nn_len, List.length_cons, List.length_nil, List.length_set, List.length_replicate]); try omega)]; kernel_rfl) (by (try simp only [nn_len, List.length_cons, List.length_nil, List.length_set, List.length_replicate]); try omega) (nn (sumN tab (S2, R2, L2))) (over_whole _ _ (by (try simp only [nn_len, List.length_cons, List.length_nil, List.length_set, List.length_replicate]); try omega)) ?_
  intro w8 t1
  have zt1 := t1.z
  have BL_ := BL.ev t1.e (fun i h => show w.heap.size ≤ i by have h : i = w1.heap.size := h; omega)
  have TB_ := TB.ev t1.e (show ¬ (T = w1.heap.size) by omega)
  have D_ := D.ev t1.e (fun i hi => show ¬ (i = w1.heap.size) by have := hd i hi; omega)
  have b4_ := b4.ev t1.e (show ¬ (w.heap.size = w1.heap.size) by omega)
  have U1_ := U1.ev t1.e (fun i hi => show ¬ (i = w1.heap.size) by have := lU1_1 i hi; omega)
  have U2_ := U2.ev t1.e (fun i hi => show ¬ (i = w1.heap.size) by have := lU2_1 i hi; omega)
  replace BL := BL_; clear BL_
  replace TB := TB_; clear TB_
  replace D := D_; clear D_
  replace b4 := b4_; clear b4_
  replace U1 := U1_; clear U1_
  replace U2 := U2_; clear U2_
  replace b6 : Blk .u8 w8 w1.heap.size 37 (nn (sumN tab (S2, R2, L2))) := t1.c
  clear t1
  refine zz 10 ?_
  refine zd (by kernel_rfl) ?_ _
  refine hK2 _ _ ?_
  refine wp_ret ?_
  (try simp only [Exit.then, Exit.inBlock])
  refine bodyPost_ret (rC rfl _ w1.heap.size _ _ (by kernel_rfl) b6.cel _ Try.underlying37 rfl (by rw [List.length_map, show (nn (sumN tab (S2, R2, L2))).length = 32 by ((try simp only [nn_len, List.length_cons, List.length_nil, List.length_set, List.length_replicate]); try omega)]; kernel_rfl)) rfl ?_
  exact ⟨rfl, BL.b⟩

set_option maxHeartbeats 4000000 in
theorem mac_any (T : Nat) (tab : List Nat) (ht : tab.length = 72) (w : World) (TB : Blk .u32 w T 26 (nn tab)) (key bs : List Nat) (v vb : Value) (D : SL .u8 w v (nn key)) (hlk : key.length ≤ 140737488355328) (D2 : SL .u8 w vb (nn bs)) (hl : bs.length ≤ 1000000000000) :
    Calls Try.prog 25 #[.pointer (some ⟨T, 0, none⟩), v, vb] w fun e w' => e = .returned (.agg (cellsOf .u8 (nn (macN tab key bs)))) ∧ Below w.heap.size w w' := by
  have BL := Bl.refl w
  have hT := TB.lt
  have hd := D.lt
  have hd2 := D2.lt
  have hol := ofN_32 tab (turnedN tab key 54 ++ bs)
  have hml := ofN_32 tab (turnedN tab key 92 ++ ofN tab (turnedN tab key 54 ++ bs))
  unfold macN
  go_enter Try.func25, Try.ntmps25
  refine wp_seq_k fun K1 hK1 => ?_
  refine cPlain ?_
  refine xAlloc 6 37 ((nn (List.replicate 32 0)).map (Value.int .u8)) rfl (by kernel_rfl) ?_
  intro w1 n1
  have zn1 := n1.z
  have b6 := n1.c
  replace b6 : Blk .u8 w1 w.heap.size 37 (nn (List.replicate 32 0)) := b6
  replace BL := BL.e0 n1.e
  replace TB := TB.e0 n1.e
  replace D := D.e0 n1.e
  replace D2 := D2.e0 n1.e
  simp only [List.set_cons_zero, List.set_cons_succ]
  refine wpList_nil ?_
  refine hK1 _ _ ?_
  refine wp_seq_k fun K2 hK2 => ?_
  refine cPlain ?_
  refine sv 8 (.pointer (some ⟨T, 0, none⟩)) .of ?_
  simp only [List.set_cons_zero, List.set_cons_succ]
  refine sv 9 (.pointer (some ⟨T, 0, none⟩)) .of ?_
  simp only [List.set_cons_zero, List.set_cons_succ]
  refine sv 10 (v) .of ?_
  simp only [List.set_cons_zero, List.set_cons_succ]
  refine xCall 11 88 #[.pointer (some ⟨T, 0, none⟩), v, .int .u8 54] (by kernel_rfl) ?_
  refine (turned_any T tab ht w1 TB key v 54 (by omega) D hlk).mono ?_
  rintro en w2 ⟨rfl, hb1⟩
  have e1 := belE0 hb1
  have ze1 := e1.size
  replace BL := BL.e0 e1
  replace TB := TB.e0 e1
  replace D := D.e0 e1
  replace D2 := D2.e0 e1
  replace b6 := b6.e0 e1
  clear e1
  refine ⟨.agg (cellsOf .u8 (nn (turnedN tab key 54))), rfl, ?_⟩
  simp only [List.set_cons_zero, List.set_cons_succ]
  refine sv 12 (vb) .of ?_
  simp only [List.set_cons_zero, List.set_cons_succ]
  refine xCall 13 87 #[.pointer (some ⟨T, 0, none⟩), .agg (cellsOf .u8 (nn (turnedN tab key 54))), vb] (by kernel_rfl) ?_
  refine (under_any T tab ht w2 TB (turnedN tab key 54) bs vb (turnedN_len _ _ _) D2 hl).mono ?_
  rintro en w3 ⟨rfl, hb1⟩
  have e2 := belE0 hb1
  have ze2 := e2.size
  replace BL := BL.e0 e2
  replace TB := TB.e0 e2
  replace D := D.e0 e2
  replace D2 := D2.e0 e2
  replace b6 := b6.e0 e2
  clear e2
  refine ⟨.agg (cellsOf .u8 (nn (ofN tab (turnedN tab key 54 ++ bs)))), rfl, ?_⟩
  simp only [List.set_cons_zero, List.set_cons_succ]
  refine xAlloc 7 37 ((nn (List.replicate 32 0)).map (Value.int .u8)) rfl (by kernel_rfl) ?_
  intro w4 n2
  have zn2 := n2.z
  have b7 := n2.c
  replace b7 : Blk .u8 w4 w3.heap.size 37 (nn (List.replicate 32 0)) := b7
  replace BL := BL.e0 n2.e
  replace TB := TB.e0 n2.e
  replace D := D.e0 n2.e
  replace D2 := D2.e0 n2.e
  replace b6 := b6.e0 n2.e
  simp only [List.set_cons_zero, List.set_cons_succ]
  refine xStoreA 37 (.tmp 7) (.tmp 13) rfl .u8 w3.heap.size 37 (nn (List.replicate 32 0)) 0 (nn (ofN tab (turnedN tab key 54 ++ bs))) (by kernel_rfl) (by kernel_rfl) b7 (by rw [show (nn (ofN tab (turnedN tab key 54 ++ bs))).length = 32 by ((try simp only [nn_len, List.length_cons, List.length_nil, List.length_set, List.length_replicate]); try omega)]; kernel_rfl) (by (try simp only [nn_len, List.length_cons, List.length_nil, List.length_set, List.length_replicate]); try omega) (nn (ofN tab (turnedN tab key 54 ++ bs))) (over_whole _ _ (by (try simp only [nn_len, List.length_cons, List.length_nil, List.length_set, List.length_replicate]); try omega)) ?_
  intro w5 t1
  have zt1 := t1.z
  have BL_ := BL.ev t1.e (fun i h => show w.heap.size ≤ i by have h : i = w3.heap.size := h; omega)
  have TB_ := TB.ev t1.e (show ¬ (T = w3.heap.size) by omega)
  have D_ := D.ev t1.e (fun i hi => show ¬ (i = w3.heap.size) by have := hd i hi; omega)
  have D2_ := D2.ev t1.e (fun i hi => show ¬ (i = w3.heap.size) by have := hd2 i hi; omega)
  have b6_ := b6.ev t1.e (show ¬ (w.heap.size = w3.heap.size) by omega)
  replace BL := BL_; clear BL_
  replace TB := TB_; clear TB_
  replace D := D_; clear D_
  replace D2 := D2_; clear D2_
  replace b6 := b6_; clear b6_
  replace b7 : Blk .u8 w5 w3.heap.size 37 (nn (ofN tab (turnedN tab key 54 ++ bs))) := t1.c
  clear t1
  refine wpList_nil ?_
  refine hK2 _ _ ?_
  refine wp_seq_k fun K3 hK3 => ?_
  have e3 := drew_e0 w5
  refine zg (fun w_ => Bl w.heap.size w w_ ∧ Blk .u32 w_ T 26 (nn tab) ∧ SL .u8 w_ v (nn key) ∧ SL .u8 w_ vb (nn bs) ∧ Blk .u8 w_ w.heap.size 37 (nn (List.replicate 32 0)) ∧ Blk .u8 w_ w3.heap.size 37 (nn (ofN tab (turnedN tab key 54 ++ bs))) ∧ w5.heap.size ≤ w_.heap.size) (fun w_ => Bl w.heap.size w w_ ∧ Blk .u32 w_ T 26 (nn tab) ∧ SL .u8 w_ v (nn key) ∧ SL .u8 w_ vb (nn bs) ∧ Blk .u8 w_ w.heap.size 37 (nn (List.replicate 32 0)) ∧ Blk .u8 w_ w3.heap.size 37 (nn (ofN tab (turnedN tab key 54 ++ bs))) ∧ w5.heap.size ≤ w_.heap.size) 6 7 ⟨BL.e0 e3, TB.e0 e3, D.e0 e3, D2.e0 e3, b6.e0 e3, b7.e0 e3, Nat.le_refl _⟩ ?_
  clear BL TB D D2 b6 b7
  clear e3
  intro w6
  rintro ⟨BL, TB, D, D2, b6, b7, z1⟩
  refine zv 0 14 (.pointer (some ⟨T, 0, none⟩)) (fun _ _ => .of) ⟨BL, TB, D, D2, b6, b7, by omega⟩ ?_
  simp only [List.set_cons_zero, List.set_cons_succ]
  refine zv 1 15 (.pointer (some ⟨T, 0, none⟩)) (fun _ _ => .of) ⟨BL, TB, D, D2, b6, b7, by omega⟩ ?_
  simp only [List.set_cons_zero, List.set_cons_succ]
  refine zv 2 16 (v) (fun _ _ => .of) ⟨BL, TB, D, D2, b6, b7, by omega⟩ ?_
  simp only [List.set_cons_zero, List.set_cons_succ]
  refine zv 4 18 (.slice (some ⟨w3.heap.size, 0, none⟩) 32 32) (fun _ _ => .of) ⟨BL, TB, D, D2, b6, b7, by omega⟩ ?_
  simp only [List.set_cons_zero, List.set_cons_succ]
  refine zo1 3 rfl ?_
  refine xCall 17 88 #[.pointer (some ⟨T, 0, none⟩), v, .int .u8 92] (by kernel_rfl) ?_
  refine (turned_any T tab ht w6 TB key v 92 (by omega) D hlk).mono ?_
  rintro en w7 ⟨rfl, hb1⟩
  have e4 := belE0 hb1
  have ze4 := e4.size
  replace BL := BL.e0 e4
  replace TB := TB.e0 e4
  replace D := D.e0 e4
  replace D2 := D2.e0 e4
  replace b6 := b6.e0 e4
  replace b7 := b7.e0 e4
  clear e4
  refine ⟨.agg (cellsOf .u8 (nn (turnedN tab key 92))), rfl, ?_⟩
  refine ze 3 ⟨BL, TB, D, D2, b6, b7, by omega⟩ ?_
  simp only [List.set_cons_zero, List.set_cons_succ]
  refine zo1 5 rfl ?_
  refine xCall 19 87 #[.pointer (some ⟨T, 0, none⟩), .agg (cellsOf .u8 (nn (turnedN tab key 92))), .slice (some ⟨w3.heap.size, 0, none⟩) 32 32] (by kernel_rfl) ?_
  refine (under_any T tab ht w7 TB (turnedN tab key 92) (ofN tab (turnedN tab key 54 ++ bs)) _ (turnedN_len _ _ _) (SL.ofBlk b7 (by rw [nn_len]; exact hol) (by unfold maxLen; omega)) (by omega)).mono ?_
  rintro en w8 ⟨rfl, hb1⟩
  have e5 := belE0 hb1
  have ze5 := e5.size
  replace BL := BL.e0 e5
  replace TB := TB.e0 e5
  replace D := D.e0 e5
  replace D2 := D2.e0 e5
  replace b6 := b6.e0 e5
  replace b7 := b7.e0 e5
  clear e5
  refine ⟨.agg (cellsOf .u8 (nn (ofN tab (turnedN tab key 92 ++ ofN tab (turnedN tab key 54 ++ bs))))), rfl, ?_⟩
  refine ze 5 ⟨BL, TB, D, D2, b6, b7, by omega⟩ ?_
  simp only [List.set_cons_zero, List.set_cons_succ]
  refine zo1 6 rfl ?_
  refine xStoreA 37 (.tmp 6) (.tmp 19) rfl .u8 w.heap.size 37 (nn (List.replicate 32 0)) 0 (nn (ofN tab (turnedN tab key 92 ++ ofN tab (turnedN tab key 54 ++ bs)))) (by kernel_rfl) (by kernel_rfl) b6 (by rw [show (nn (ofN tab (turnedN tab key 92 ++ ofN tab (turnedN tab key 54 ++ bs)))).length = 32 by ((try simp only [nn_len, List.length_cons, List.length_nil, List.length_set, List.length_replicate]); try omega)]; kernel_rfl) (by (try simp only [nn_len, List.length_cons, List.length_nil, List.length_set, List.length_replicate]); try omega) (nn (ofN tab (turnedN tab key 92 ++ ofN tab (turnedN tab key 54 ++ bs)))) (over_whole _ _ (by (try simp only [nn_len, List.length_cons, List.length_nil, List.length_set, List.length_replicate]); try omega)) ?_
  intro w9 t2
  have zt2 := t2.z
  have BL_ := BL.ev t2.e (fun i h => show w.heap.size ≤ i by have h : i = w.heap.size := h; omega)
  have TB_ := TB.ev t2.e (show ¬ (T = w.heap.size) by omega)
  have D_ := D.ev t2.e (fun i hi => show ¬ (i = w.heap.size) by have := hd i hi; omega)
  have D2_ := D2.ev t2.e (fun i hi => show ¬ (i = w.heap.size) by have := hd2 i hi; omega)
  have b7_ := b7.ev t2.e (show ¬ (w3.heap.size = w.heap.size) by omega)
  replace BL := BL_; clear BL_
  replace TB := TB_; clear TB_
  replace D := D_; clear D_
  replace D2 := D2_; clear D2_
  replace b7 := b7_; clear b7_
  replace b6 : Blk .u8 w9 w.heap.size 37 (nn (ofN tab (turnedN tab key 92 ++ ofN tab (turnedN tab key 54 ++ bs)))) := t2.c
  clear t2
  refine zz 6 ?_
  refine zd (by kernel_rfl) ?_ _
  refine hK3 _ _ ?_
  refine wp_ret ?_
  (try simp only [Exit.then, Exit.inBlock])
  refine bodyPost_ret (rC rfl _ w.heap.size _ _ (by kernel_rfl) b6.cel _ Try.underlying37 rfl (by rw [List.length_map, show (nn (ofN tab (turnedN tab key 92 ++ ofN tab (turnedN tab key 54 ++ bs)))).length = 32 by ((try simp only [nn_len, List.length_cons, List.length_nil, List.length_set, List.length_replicate]); try omega)]; kernel_rfl)) rfl ?_
  exact ⟨rfl, BL.b⟩

set_option maxHeartbeats 4000000 in
theorem tagged_any (T : Nat) (tab : List Nat) (ht : tab.length = 72) (w : World) (TB : Blk .u32 w T 26 (nn tab)) (tag : Nat) (v : Value) (us : List Value) (ps : List (List Nat)) (HV : SV w v us) (HY : SLs .u8 w.heap.size w us (ps.map nn)) (hl : (blobsB (ps.map nn)).length ≤ 1000000000000) (hn : ps.length ≤ 1000000000000) :
    Calls Try.prog 27 #[.pointer (some ⟨T, 0, none⟩), .int .u8 ((tag : Nat) : Int), v] w fun e w' => e = .returned (.agg (cellsOf .u8 (nn (taggedN tab tag ps)))) ∧ Below w.heap.size w w' := by
  have BL := Bl.refl w
  have hT := TB.lt
  have hol := ofN_32 tab (textN tag ps)
  have htl : (textN tag ps).length ≤ 1000000000100 := by
    have h3 := ndig_le 9 (ps.map nn).length
    rw [← nn_len, textN_nn, textB, List.length_append, List.length_append, uintB_length]
    simp only [List.length_cons, List.length_nil]
    omega
  unfold taggedN
  go_enter Try.func27, Try.ntmps27
  refine wp_seq_k fun K1 hK1 => ?_
  refine cPlain ?_
  refine xAlloc 6 37 ((nn (List.replicate 32 0)).map (Value.int .u8)) rfl (by kernel_rfl) ?_
  intro w1 n1
  have zn1 := n1.z
  have b6 := n1.c
  replace b6 : Blk .u8 w1 w.heap.size 37 (nn (List.replicate 32 0)) := b6
  replace BL := BL.e0 n1.e
  replace TB := TB.e0 n1.e
  have HV : SV w1 v us := HV.e0 n1.e
  have HY : SLs .u8 w.heap.size w1 us (ps.map nn) := SLs.e0 n1.e HY
  simp only [List.set_cons_zero, List.set_cons_succ]
  refine wpList_nil ?_
  refine hK1 _ _ ?_
  refine wp_seq_k fun K2 hK2 => ?_
  refine cPlain ?_
  refine sv 7 (.pointer (some ⟨T, 0, none⟩)) .of ?_
  simp only [List.set_cons_zero, List.set_cons_succ]
  refine sv 8 (.int .u8 ((tag : Nat) : Int)) .of ?_
  simp only [List.set_cons_zero, List.set_cons_succ]
  refine sv 9 (v) .of ?_
  simp only [List.set_cons_zero, List.set_cons_succ]
  refine xCall 10 29 #[.int .u8 ((tag : Nat) : Int), v] (by kernel_rfl) ?_
  refine (mactext_any ((tag : Nat) : Int) v us (ps.map nn) w1 HV w.heap.size (by omega) HY (by omega)).mono ?_
  rintro en w2 ⟨u, rfl, hO, hb1⟩
  rw [← textN_nn] at hO
  have e1 := belE0 hb1
  have ze1 := e1.size
  replace BL := BL.e0 e1
  replace TB := TB.e0 e1
  replace b6 := b6.e0 e1
  clear e1
  have U : Own 5 .u8 w1.heap.size w2 u (nn (textN tag ps)) := hO
  have lU_1 := U.ge
  refine ⟨u, rfl, ?_⟩
  simp only [List.set_cons_zero, List.set_cons_succ]
  refine xCall 11 20 #[.pointer (some ⟨T, 0, none⟩), u] (by kernel_rfl) ?_
  refine (of_any T tab (textN tag ps) u ht w2 TB U.sl (by omega)).mono ?_
  rintro en w3 ⟨rfl, hb1⟩
  have e2 := belE0 hb1
  have ze2 := e2.size
  replace BL := BL.e0 e2
  replace TB := TB.e0 e2
  replace b6 := b6.e0 e2
  replace U := U.e0 e2
  clear e2
  refine ⟨.agg (cellsOf .u8 (nn (ofN tab (textN tag ps)))), rfl, ?_⟩
  simp only [List.set_cons_zero, List.set_cons_succ]
  refine xStoreA 37 (.tmp 6) (.tmp 11) rfl .u8 w.heap.size 37 (nn (List.replicate 32 0)) 0 (nn (ofN tab (textN tag ps))) (by kernel_rfl) (by kernel_rfl) b6 (by rw [show (nn (ofN tab (textN tag ps))).length = 32 by ((try simp only [nn_len, List.length_cons, List.length_nil, List.length_set, List.length_replicate]); try omega)]; kernel_rfl) (by (try simp only [nn_len, List.length_cons, List.length_nil, List.length_set, List.length_replicate]); try omega) (nn (ofN tab (textN tag ps))) (over_whole _ _ (by (try simp only [nn_len, List.length_cons, List.length_nil, List.length_set, List.length_replicate]); try omega)) ?_
  intro w4 t1
  have zt1 := t1.z
  have BL_ := BL.ev t1.e (fun i h => show w.heap.size ≤ i by have h : i = w.heap.size := h; omega)
  have TB_ := TB.ev t1.e (show ¬ (T = w.heap.size) by omega)
  have U_ := U.ev t1.e (fun i hi => show ¬ (i = w.heap.size) by have := lU_1 i hi; omega)
  replace BL := BL_; clear BL_
  replace TB := TB_; clear TB_
  replace U := U_; clear U_
  replace b6 : Blk .u8 w4 w.heap.size 37 (nn (ofN tab (textN tag ps))) := t1.c
  clear t1
  refine wpList_nil ?_
  refine hK2 _ _ ?_
  refine wp_ret ?_
  (try simp only [Exit.then, Exit.inBlock])
  refine bodyPost_ret (rC rfl _ w.heap.size _ _ (by kernel_rfl) b6.cel _ Try.underlying37 rfl (by rw [List.length_map, show (nn (ofN tab (textN tag ps))).length = 32 by ((try simp only [nn_len, List.length_cons, List.length_nil, List.length_set, List.length_replicate]); try omega)]; kernel_rfl)) rfl ?_
  exact ⟨rfl, BL.b⟩

theorem number_any (n : Int) (hn : n ≤ 9223372036854775807) (w : World) :
    Calls Try.prog 94 #[.int .i64 n] w fun e w' => ∃ u, e = .returned u ∧ Own 5 .u8 w.heap.size w' u (nn (numN n)) ∧ Below w.heap.size w w' := by
  have BL := Bl.refl w
  have OA := Own.nil 5 .u8 w.heap.size w
  have lOA_1 := OA.ge
  go_enter Try.func94, Try.ntmps94
  refine wp_seq_k fun K1 hK1 => ?_
  refine cPlain ?_
  refine sv 2 (.slice none 0 0) .of ?_
  simp only [List.set_cons_zero, List.set_cons_succ]
  refine wpList_nil ?_
  refine hK1 _ _ ?_
  refine wp_seq_k fun K2 hK2 => ?_
  refine cPlain ?_
  refine sv 3 (.int .i64 n) .of ?_
  simp only [List.set_cons_zero, List.set_cons_succ]
  refine sv 4 (.int .i64 ((n.toNat : Nat) : Int)) (Val.maxM (.tmp 3) (.const (.int .i64 0)) 3 3 rfl n 0 _ (by kernel_rfl) (by kernel_rfl) (by split <;> omega)) ?_
  simp only [List.set_cons_zero, List.set_cons_succ]
  refine sv 5 (.int .u64 ((n.toNat : Nat) : Int)) (Val.asN (Val.convN 3 109 (.tmp 4) rfl .u64 n.toNat 18446744073709551616 Try.underlying3 Try.underlying109 (by kernel_rfl)) (by omega)) ?_
  simp only [List.set_cons_zero, List.set_cons_succ]
  refine xCall 6 91 #[.slice none 0 0, .int .u64 ((n.toNat : Nat) : Int)] (by kernel_rfl) ?_
  refine (uint_any w.heap.size _ [] n.toNat w (by omega) OA (by omega) (by simp)).mono ?_
  rintro en w1 ⟨u, rfl, hO, hb1⟩
  have e1 := belE0 hb1
  have ze1 := e1.size
  replace BL := BL.e0 e1
  clear e1
  have U : Own 5 .u8 w.heap.size w1 u (nn (numN n)) := (hO.cast (by rw [List.nil_append, numN_nn]))
  have lU_1 := U.ge
  refine ⟨u, rfl, ?_⟩
  simp only [List.set_cons_zero, List.set_cons_succ]
  refine sv 2 (u) .of ?_
  simp only [List.set_cons_zero, List.set_cons_succ]
  refine wpList_nil ?_
  refine hK2 _ _ ?_
  refine wp_ret ?_
  (try simp only [Exit.then, Exit.inBlock])
  refine bodyPost_ret (v := u) rT rfl ?_
  exact ⟨_, rfl, U, BL.b⟩

set_option maxHeartbeats 4000000 in
theorem secret_any (T : Nat) (tab : List Nat) (ht : tab.length = 72) (w : World) (TB : Blk .u32 w T 26 (nn tab)) (seed : List Nat) (hs : seed.length = 32) (leaf bit val : Int) (h1 : leaf ≤ 9223372036854775807) (h2 : bit ≤ 9223372036854775807) (h3 : val ≤ 9223372036854775807) :
    Calls Try.prog 34 #[.pointer (some ⟨T, 0, none⟩), .agg (cellsOf .u8 (nn seed)), .int .i64 leaf, .int .i64 bit, .int .i64 val] w fun e w' => e = .returned (.agg (cellsOf .u8 (nn (secretN tab seed leaf bit val)))) ∧ Below w.heap.size w w' := by
  have BL := Bl.refl w
  have hT := TB.lt
  have hbs := blobsB_small [numN leaf, numN bit, numN val] 10 (fun p hp => by rcases List.mem_cons.1 hp with rfl | hp; exact numN_len _; rcases List.mem_cons.1 hp with rfl | hp; exact numN_len _; rw [List.mem_singleton.1 hp]; exact numN_len _) (by omega)
  have htl : (textN 1 [numN leaf, numN bit, numN val]).length ≤ 1000 := by
    have h3 := ndig_le 9 ([numN leaf, numN bit, numN val].map nn).length
    rw [← nn_len, textN_nn, textB, List.length_append, List.length_append, uintB_length]
    simp only [List.length_cons, List.length_nil] at hbs h3 ⊢
    omega
  have hml := macN_len tab seed (textN 1 [numN leaf, numN bit, numN val])
  unfold secretN
  go_enter Try.func34, Try.ntmps34
  refine wp_seq_k fun K1 hK1 => ?_
  refine cPlain ?_
  refine xBox 6 36 _ ((nn (seed)).map (Value.int .u8)) rfl (cells_toList _ _) ?_
  intro w1 n1
  have zn1 := n1.z
  have b6 := n1.c
  replace b6 : Blk .u8 w1 w.heap.size 36 (nn (seed)) := b6
  replace BL := BL.e0 n1.e
  replace TB := TB.e0 n1.e
  simp only [List.set_cons_zero, List.set_cons_succ]
  refine xAlloc 10 36 ((nn (List.replicate 32 0)).map (Value.int .u8)) rfl (by kernel_rfl) ?_
  intro w2 n2
  have zn2 := n2.z
  have b10 := n2.c
  replace b10 : Blk .u8 w2 w1.heap.size 36 (nn (List.replicate 32 0)) := b10
  replace BL := BL.e0 n2.e
  replace TB := TB.e0 n2.e
  replace b6 := b6.e0 n2.e
  simp only [List.set_cons_zero, List.set_cons_succ]
  refine wpList_nil ?_
  refine hK1 _ _ ?_
  refine wp_seq_k fun K2 hK2 => ?_
  have e1 := drew_e0 w2
  refine zg (fun w_ => Bl w.heap.size w w_ ∧ Blk .u32 w_ T 26 (nn tab) ∧ Blk .u8 w_ w.heap.size 36 (nn (seed)) ∧ Blk .u8 w_ w1.heap.size 36 (nn (List.replicate 32 0)) ∧ w2.heap.size ≤ w_.heap.size) (fun w_ => Bl w.heap.size w w_ ∧ Blk .u32 w_ T 26 (nn tab) ∧ Blk .u8 w_ w.heap.size 36 (nn (seed)) ∧ Blk .u8 w_ w1.heap.size 36 (nn (List.replicate 32 0)) ∧ w2.heap.size ≤ w_.heap.size) 11 12 ⟨BL.e0 e1, TB.e0 e1, b6.e0 e1, b10.e0 e1, Nat.le_refl _⟩ ?_
  clear BL TB b6 b10
  clear e1
  intro w3
  rintro ⟨BL, TB, b6, b10, z1⟩
  refine zv 0 11 (.pointer (some ⟨T, 0, none⟩)) (fun _ _ => .of) ⟨BL, TB, b6, b10, by omega⟩ ?_
  simp only [List.set_cons_zero, List.set_cons_succ]
  refine zv 1 12 (.slice (some ⟨w.heap.size, 0, none⟩) 32 32) (fun _ _ => .of) ⟨BL, TB, b6, b10, by omega⟩ ?_
  simp only [List.set_cons_zero, List.set_cons_succ]
  refine zv 2 13 (.int .i64 leaf) (fun _ _ => .of) ⟨BL, TB, b6, b10, by omega⟩ ?_
  simp only [List.set_cons_zero, List.set_cons_succ]
  refine zv 4 15 (.int .i64 bit) (fun _ _ => .of) ⟨BL, TB, b6, b10, by omega⟩ ?_
  simp only [List.set_cons_zero, List.set_cons_succ]
  refine zv 6 17 (.int .i64 val) (fun _ _ => .of) ⟨BL, TB, b6, b10, by omega⟩ ?_
  simp only [List.set_cons_zero, List.set_cons_succ]
  refine zo1 3 rfl ?_
  refine xCall 14 94 #[.int .i64 leaf] (by kernel_rfl) ?_
  refine (number_any leaf h1 w3).mono ?_
  rintro en w4 ⟨m1, hm1, hN1, hb1⟩
  obtain ⟨A1, C1, hu1⟩ := hN1.len
  rw [hu1] at hm1 hN1
  subst hm1
  have e2 := belE0 hb1
  have ze2 := e2.size
  replace BL := BL.e0 e2
  replace TB := TB.e0 e2
  replace b6 := b6.e0 e2
  replace b10 := b10.e0 e2
  clear e2
  have N1 : Own 5 .u8 w3.heap.size w4 (.slice A1 (nn (numN leaf)).length C1) (nn (numN leaf)) := hN1
  have lN1_1 := N1.ge
  refine ⟨.slice A1 (nn (numN leaf)).length C1, rfl, ?_⟩
  refine ze 3 ⟨BL, TB, b6, b10, by omega⟩ ?_
  simp only [List.set_cons_zero, List.set_cons_succ]
  refine zo1 5 rfl ?_
  refine xCall 16 94 #[.int .i64 bit] (by kernel_rfl) ?_
  refine (number_any bit h2 w4).mono ?_
  rintro en w5 ⟨m2, hm2, hN2, hb1⟩
  obtain ⟨A2, C2, hu2⟩ := hN2.len
  rw [hu2] at hm2 hN2
  subst hm2
  have e3 := belE0 hb1
  have ze3 := e3.size
  replace BL := BL.e0 e3
  replace TB := TB.e0 e3
  replace b6 := b6.e0 e3
  replace b10 := b10.e0 e3
  replace N1 := N1.e0 e3
  clear e3
  have N2 : Own 5 .u8 w4.heap.size w5 (.slice A2 (nn (numN bit)).length C2) (nn (numN bit)) := hN2
  have lN2_1 := N2.ge
  refine ⟨.slice A2 (nn (numN bit)).length C2, rfl, ?_⟩
  refine ze 5 ⟨BL, TB, b6, b10, by omega⟩ ?_
  simp only [List.set_cons_zero, List.set_cons_succ]
  refine zo1 7 rfl ?_
  refine xCall 18 94 #[.int .i64 val] (by kernel_rfl) ?_
  refine (number_any val h3 w5).mono ?_
  rintro en w6 ⟨m3, hm3, hN3, hb1⟩
  obtain ⟨A3, C3, hu3⟩ := hN3.len
  rw [hu3] at hm3 hN3
  subst hm3
  have e4 := belE0 hb1
  have ze4 := e4.size
  replace BL := BL.e0 e4
  replace TB := TB.e0 e4
  replace b6 := b6.e0 e4
  replace b10 := b10.e0 e4
  replace N1 := N1.e0 e4
  replace N2 := N2.e0 e4
  clear e4
  have N3 : Own 5 .u8 w5.heap.size w6 (.slice A3 (nn (numN val)).length C3) (nn (numN val)) := hN3
  have lN3_1 := N3.ge
  refine ⟨.slice A3 (nn (numN val)).length C3, rfl, ?_⟩
  refine ze 7 ⟨BL, TB, b6, b10, by omega⟩ ?_
  simp only [List.set_cons_zero, List.set_cons_succ]
  refine zo1 8 rfl ?_
  refine xLit 19 124 30 3 _ #[(0, .slice A1 (nn (numN leaf)).length C1), (1, .slice A2 (nn (numN bit)).length C2), (2, .slice A3 (nn (numN val)).length C3)] [.slice A1 (nn (numN leaf)).length C1, .slice A2 (nn (numN bit)).length C2, .slice A3 (nn (numN val)).length C3] rfl (by kernel_rfl) (by kernel_rfl) ?_
  intro w7 n3
  have zn3 := n3.z
  have b19 := n3.c
  replace BL := BL.e0 n3.e
  replace TB := TB.e0 n3.e
  replace b6 := b6.e0 n3.e
  replace b10 := b10.e0 n3.e
  replace N1 := N1.e0 n3.e
  replace N2 := N2.e0 n3.e
  replace N3 := N3.e0 n3.e
  refine ze 8 ⟨BL, TB, b6, b10, by omega⟩ ?_
  simp only [List.set_cons_zero, List.set_cons_succ]
  refine zo1 9 rfl ?_
  refine xCall 20 29 #[.int .u8 1, .slice (some ⟨w6.heap.size, 0, none⟩) 3 3] (by kernel_rfl) ?_
  refine (mactext_any ((1 : Nat) : Int) _ [.slice A1 (nn (numN leaf)).length C1, .slice A2 (nn (numN bit)).length C2, .slice A3 (nn (numN val)).length C3] ([numN leaf, numN bit, numN val].map nn) w7 (SV.ofCelM (n := 3) b19 rfl (by unfold maxLen; omega)) w7.heap.size (by omega) (SLs.three N1.sl (fun g hg => by have := lN1_1 g hg; omega) N2.sl (fun g hg => by have := lN2_1 g hg; omega) N3.sl (fun g hg => by have := lN3_1 g hg; omega)) (by simp only [List.length_cons, List.length_nil] at hbs; omega)).mono ?_
  rintro en w8 ⟨u, rfl, hO, hb1⟩
  rw [← textN_nn] at hO
  have e5 := belE0 hb1
  have ze5 := e5.size
  replace BL := BL.e0 e5
  replace TB := TB.e0 e5
  replace b6 := b6.e0 e5
  replace b10 := b10.e0 e5
  replace N1 := N1.e0 e5
  replace N2 := N2.e0 e5
  replace N3 := N3.e0 e5
  replace b19 := b19.e0 e5
  clear e5
  have U : Own 5 .u8 w7.heap.size w8 u (nn (textN 1 [numN leaf, numN bit, numN val])) := hO
  have lU_1 := U.ge
  refine ⟨u, rfl, ?_⟩
  refine ze 9 ⟨BL, TB, b6, b10, by omega⟩ ?_
  simp only [List.set_cons_zero, List.set_cons_succ]
  refine zo1 10 rfl ?_
  refine xCall 21 25 #[.pointer (some ⟨T, 0, none⟩), .slice (some ⟨w.heap.size, 0, none⟩) 32 32, u] (by kernel_rfl) ?_
  refine (mac_any T tab ht w8 TB seed (textN 1 [numN leaf, numN bit, numN val]) _ u (SL.ofBlk b6 (by rw [nn_len]; exact hs) (by unfold maxLen; omega)) (by omega) U.sl (by omega)).mono ?_
  rintro en w9 ⟨rfl, hb1⟩
  have e6 := belE0 hb1
  have ze6 := e6.size
  replace BL := BL.e0 e6
  replace TB := TB.e0 e6
  replace b6 := b6.e0 e6
  replace b10 := b10.e0 e6
  replace N1 := N1.e0 e6
  replace N2 := N2.e0 e6
  replace N3 := N3.e0 e6
  replace b19 := b19.e0 e6
  replace U := U.e0 e6
  clear e6
  refine ⟨.agg (cellsOf .u8 (nn (macN tab seed (textN 1 [numN leaf, numN bit, numN val])))), rfl, ?_⟩
  refine ze 10 ⟨BL, TB, b6, b10, by omega⟩ ?_
  simp only [List.set_cons_zero, List.set_cons_succ]
  refine zo1 11 rfl ?_
  refine xStoreA 36 (.tmp 10) (.tmp 21) rfl .u8 w1.heap.size 36 (nn (List.replicate 32 0)) 0 (nn (macN tab seed (textN 1 [numN leaf, numN bit, numN val]))) (by kernel_rfl) (by kernel_rfl) b10 (by rw [show (nn (macN tab seed (textN 1 [numN leaf, numN bit, numN val]))).length = 32 by ((try simp only [nn_len, List.length_cons, List.length_nil, List.length_set, List.length_replicate]); try omega)]; kernel_rfl) (by (try simp only [nn_len, List.length_cons, List.length_nil, List.length_set, List.length_replicate]); try omega) (nn (macN tab seed (textN 1 [numN leaf, numN bit, numN val]))) (over_whole _ _ (by (try simp only [nn_len, List.length_cons, List.length_nil, List.length_set, List.length_replicate]); try omega)) ?_
  intro w10 t1
  have zt1 := t1.z
  have BL_ := BL.ev t1.e (fun i h => show w.heap.size ≤ i by have h : i = w1.heap.size := h; omega)
  have TB_ := TB.ev t1.e (show ¬ (T = w1.heap.size) by omega)
  have b6_ := b6.ev t1.e (show ¬ (w.heap.size = w1.heap.size) by omega)
  have N1_ := N1.ev t1.e (fun i hi => show ¬ (i = w1.heap.size) by have := lN1_1 i hi; omega)
  have N2_ := N2.ev t1.e (fun i hi => show ¬ (i = w1.heap.size) by have := lN2_1 i hi; omega)
  have N3_ := N3.ev t1.e (fun i hi => show ¬ (i = w1.heap.size) by have := lN3_1 i hi; omega)
  have b19_ := b19.ev t1.e (show ¬ (w6.heap.size = w1.heap.size) by omega)
  have U_ := U.ev t1.e (fun i hi => show ¬ (i = w1.heap.size) by have := lU_1 i hi; omega)
  replace BL := BL_; clear BL_
  replace TB := TB_; clear TB_
  replace b6 := b6_; clear b6_
  replace N1 := N1_; clear N1_
  replace N2 := N2_; clear N2_
  replace N3 := N3_; clear N3_
  replace b19 := b19_; clear b19_
  replace U := U_; clear U_
  replace b10 : Blk .u8 w10 w1.heap.size 36 (nn (macN tab seed (textN 1 [numN leaf, numN bit, numN val]))) := t1.c
  clear t1
  refine zz 11 ?_
  refine zd (by kernel_rfl) ?_ _
  refine hK2 _ _ ?_
  refine wp_ret ?_
  (try simp only [Exit.then, Exit.inBlock])
  refine bodyPost_ret (rC rfl _ w1.heap.size _ _ (by kernel_rfl) b10.cel _ Try.underlying36 rfl (by rw [List.length_map, show (nn (macN tab seed (textN 1 [numN leaf, numN bit, numN val]))).length = 32 by ((try simp only [nn_len, List.length_cons, List.length_nil, List.length_set, List.length_replicate]); try omega)]; kernel_rfl)) rfl ?_
  exact ⟨rfl, BL.b⟩

set_option maxHeartbeats 4000000 in
theorem half_any (T : Nat) (tab : List Nat) (ht : tab.length = 72) (w : World) (TB : Blk .u32 w T 26 (nn tab)) (sec : List Nat) (hs : sec.length = 32) :
    Calls Try.prog 36 #[.pointer (some ⟨T, 0, none⟩), .agg (cellsOf .u8 (nn sec))] w fun e w' => e = .returned (.agg (cellsOf .u8 (nn (halfN tab sec)))) ∧ Below w.heap.size w w' := by
  have BL := Bl.refl w
  have hT := TB.lt
  have hol := ofN_32 tab (textN 2 [sec])
  have hbs := blobsB_small [sec] 32 (fun p hp => by rw [List.mem_singleton.1 hp]; omega) (by omega)
  unfold halfN taggedN
  go_enter Try.func36, Try.ntmps36
  refine wp_seq_k fun K1 hK1 => ?_
  refine cPlain ?_
  refine xBox 3 36 _ ((nn (sec)).map (Value.int .u8)) rfl (cells_toList _ _) ?_
  intro w1 n1
  have zn1 := n1.z
  have b3 := n1.c
  replace b3 : Blk .u8 w1 w.heap.size 36 (nn (sec)) := b3
  replace BL := BL.e0 n1.e
  replace TB := TB.e0 n1.e
  simp only [List.set_cons_zero, List.set_cons_succ]
  refine xAlloc 4 37 ((nn (List.replicate 32 0)).map (Value.int .u8)) rfl (by kernel_rfl) ?_
  intro w2 n2
  have zn2 := n2.z
  have b4 := n2.c
  replace b4 : Blk .u8 w2 w1.heap.size 37 (nn (List.replicate 32 0)) := b4
  replace BL := BL.e0 n2.e
  replace TB := TB.e0 n2.e
  replace b3 := b3.e0 n2.e
  simp only [List.set_cons_zero, List.set_cons_succ]
  refine wpList_nil ?_
  refine hK1 _ _ ?_
  refine wp_seq_k fun K2 hK2 => ?_
  refine cPlain ?_
  refine sv 5 (.pointer (some ⟨T, 0, none⟩)) .of ?_
  simp only [List.set_cons_zero, List.set_cons_succ]
  refine sv 6 (.slice (some ⟨w.heap.size, 0, none⟩) 32 32) .of ?_
  simp only [List.set_cons_zero, List.set_cons_succ]
  refine xLit 7 124 30 1 _ #[(0, .slice (some ⟨w.heap.size, 0, none⟩) 32 32)] [.slice (some ⟨w.heap.size, 0, none⟩) 32 32] rfl (by kernel_rfl) (by kernel_rfl) ?_
  intro w3 n3
  have zn3 := n3.z
  have b7 := n3.c
  replace BL := BL.e0 n3.e
  replace TB := TB.e0 n3.e
  replace b3 := b3.e0 n3.e
  replace b4 := b4.e0 n3.e
  simp only [List.set_cons_zero, List.set_cons_succ]
  refine xCall 8 27 #[.pointer (some ⟨T, 0, none⟩), .int .u8 2, .slice (some ⟨w2.heap.size, 0, none⟩) 1 1] (by kernel_rfl) ?_
  refine (tagged_any T tab ht w3 TB 2 _ [.slice (some ⟨w.heap.size, 0, none⟩) 32 32] [sec] (SV.ofCelM (n := 1) b7 rfl (by unfold maxLen; omega)) (SLs.one (SL.ofBlk b3 (by rw [nn_len]; exact hs) (by unfold maxLen; omega)) (fun g hg => by have := ownB_lit (lo := 0) (hi := w3.heap.size) (by omega) g hg; omega)) (by simp only [List.length_cons, List.length_nil] at hbs; omega) (by simp)).mono ?_
  rintro en w4 ⟨rfl, hb1⟩
  have e1 := belE0 hb1
  have ze1 := e1.size
  replace BL := BL.e0 e1
  replace TB := TB.e0 e1
  replace b3 := b3.e0 e1
  replace b4 := b4.e0 e1
  replace b7 := b7.e0 e1
  clear e1
  refine ⟨.agg (cellsOf .u8 (nn (ofN tab (textN 2 [sec])))), rfl, ?_⟩
  simp only [List.set_cons_zero, List.set_cons_succ]
  refine xStoreA 37 (.tmp 4) (.tmp 8) rfl .u8 w1.heap.size 37 (nn (List.replicate 32 0)) 0 (nn (ofN tab (textN 2 [sec]))) (by kernel_rfl) (by kernel_rfl) b4 (by rw [show (nn (ofN tab (textN 2 [sec]))).length = 32 by ((try simp only [nn_len, List.length_cons, List.length_nil, List.length_set, List.length_replicate]); try omega)]; kernel_rfl) (by (try simp only [nn_len, List.length_cons, List.length_nil, List.length_set, List.length_replicate]); try omega) (nn (ofN tab (textN 2 [sec]))) (over_whole _ _ (by (try simp only [nn_len, List.length_cons, List.length_nil, List.length_set, List.length_replicate]); try omega)) ?_
  intro w5 t1
  have zt1 := t1.z
  have BL_ := BL.ev t1.e (fun i h => show w.heap.size ≤ i by have h : i = w1.heap.size := h; omega)
  have TB_ := TB.ev t1.e (show ¬ (T = w1.heap.size) by omega)
  have b3_ := b3.ev t1.e (show ¬ (w.heap.size = w1.heap.size) by omega)
  have b7_ := b7.ev t1.e (show ¬ (w2.heap.size = w1.heap.size) by omega)
  replace BL := BL_; clear BL_
  replace TB := TB_; clear TB_
  replace b3 := b3_; clear b3_
  replace b7 := b7_; clear b7_
  replace b4 : Blk .u8 w5 w1.heap.size 37 (nn (ofN tab (textN 2 [sec]))) := t1.c
  clear t1
  refine wpList_nil ?_
  refine hK2 _ _ ?_
  refine wp_ret ?_
  (try simp only [Exit.then, Exit.inBlock])
  refine bodyPost_ret (rC rfl _ w1.heap.size _ _ (by kernel_rfl) b4.cel _ Try.underlying37 rfl (by rw [List.length_map, show (nn (ofN tab (textN 2 [sec]))).length = 32 by ((try simp only [nn_len, List.length_cons, List.length_nil, List.length_set, List.length_replicate]); try omega)]; kernel_rfl)) rfl ?_
  exact ⟨rfl, BL.b⟩

end Go.Proofs.Yteaijjefbadnbaa
