/-
  Rows of 32 bytes, one behind the other: how they are laid and read.
-/
import Derived.Test.YteaijjefbadnbaaMacW
import Derived.Test.YteaijjefbadnbaaEqA
namespace Go.Proofs.Yteaijjefbadnbaa
open Go.RowKit
set_option linter.unusedVariables false
set_option linter.unusedSimpArgs false
set_option maxRecDepth 100000

section
variable {P : Program} {w : World}
theorem cellsOf_extract (k : IntKind) (xs : List Int) (i m : Nat) : (cellsOf k xs).extract i (i + m) = cellsOf k (seg i m xs) := by
  unfold cellsOf seg
  rw [List.extract_toArray, List.extract_eq_take_drop]
  rw [Nat.add_sub_cancel_left, List.map_take, List.map_drop]
theorem Val.ixA {a : Act} {o : Oper} (t : TypeId) (x ix : Operand) (ho : o.op = .index t x ix) {n : Nat} {e : TypeId} (k : IntKind) (xs : List Int) (j m : Nat) (hx : a.eval x = .agg (cellsOf k xs)) (hix : a.eval ix = .int .i64 (j : Int)) (ht : P.underlying t = some (.array n e))
    {d : Nat} {f : TypeId} (he : P.underlying e = some (.array d f)) (hi0 : (P.info? e).map (·.size) = some m) (hj : j < n) (ys : List Int) (hys : seg (j * m) m xs = ys) : Val P a o (.agg (cellsOf k ys)) w := by
  subst hys
  obtain ⟨i, hi, hm⟩ := Option.map_eq_some_iff.1 hi0
  have hsz : (sizeOf e).run P w = .ok m w := by simp [sizeOf, typeInfo, hi, hm]
  have hagg : (isAgg e).run P w = .ok true w := by simp [isAgg, run_underlying he]
  have h0 : (0 : Int) ≤ (j : Int) ∧ (j : Int) < (n : Int) := by omega
  unfold Val execOp
  simp [ho, hx, hix, Instr.index, asIntOf, run_underlying ht, hsz, hj, part, hagg, cellsOf_extract]
end
/-- Rows, one behind the other. -/
def rowsN (f : Nat → List Nat) (n : Nat) : List Nat := (List.range n).flatMap f
def fillN (f : Nat → List Nat) (i : Nat) : List Nat := rowsN f i ++ List.replicate (8192 - 32 * i) 0
theorem rowsN_succ (f : Nat → List Nat) (i : Nat) : rowsN f (i + 1) = rowsN f i ++ f i := by
  unfold rowsN; rw [List.range_succ, List.flatMap_append]; simp
theorem rowsN_len {f : Nat → List Nat} (hf : ∀ i, (f i).length = 32) : ∀ n, (rowsN f n).length = 32 * n
  | 0 => rfl
  | n + 1 => by rw [rowsN_succ, List.length_append, rowsN_len hf n, hf]; omega
theorem fillN_len {f : Nat → List Nat} (hf : ∀ i, (f i).length = 32) {i : Nat} (hi : i ≤ 256) : (fillN f i).length = 8192 := by
  unfold fillN; rw [List.length_append, rowsN_len hf, List.length_replicate]; omega
theorem fillN_0 (f : Nat → List Nat) : fillN f 0 = List.replicate 8192 0 := rfl
theorem fillN_256 (f : Nat → List Nat) : fillN f 256 = rowsN f 256 := by unfold fillN; simp
theorem over_mid (a b c y : List Nat) (h : b.length = y.length) (o : Nat) (ho : o = a.length) : over (nn (a ++ b ++ c)) o (nn y) = nn (a ++ y ++ c) := by
  subst ho
  unfold over
  have e1 : (nn (a ++ b ++ c)).take a.length = nn a := by rw [← nn_take, List.append_assoc, List.take_left]
  have e2 : (nn (a ++ b ++ c)).drop (a.length + (nn y).length) = nn c := by
    rw [← nn_drop, nn_len, ← h, ← List.length_append, List.drop_left]
  rw [e1, e2, nn_app, nn_app]
theorem fillN_split {f : Nat → List Nat} {i : Nat} (hi : i < 256) : fillN f i = rowsN f i ++ List.replicate 32 0 ++ List.replicate (8192 - 32 * (i + 1)) 0 := by
  unfold fillN
  rw [List.append_assoc, List.replicate_append_replicate, show 8192 - 32 * i = 32 + (8192 - 32 * (i + 1)) by omega]
theorem over_fst {f : Nat → List Nat} (hf : ∀ i, (f i).length = 32) (O : List Nat) {i : Nat} (hi : i < 256) (o : Nat) (ho : o = 32 * i) : over (nn (fillN f i ++ O)) o (nn (f i)) = nn (fillN f (i + 1) ++ O) := by
  have h := over_mid (rowsN f i) (List.replicate 32 0) (List.replicate (8192 - 32 * (i + 1)) 0 ++ O) (f i) (by rw [List.length_replicate, hf]) o (by rw [rowsN_len hf]; exact ho)
  rw [← List.append_assoc, ← fillN_split hi] at h
  rw [h]
  unfold fillN
  rw [rowsN_succ]
  simp only [List.append_assoc]
theorem over_snd {S : List Nat} {f : Nat → List Nat} (hf : ∀ i, (f i).length = 32) (hS : S.length = 8192) {i : Nat} (hi : i < 256) (o : Nat) (ho : o = 8192 + 32 * i) : over (nn (S ++ fillN f i)) o (nn (f i)) = nn (S ++ fillN f (i + 1)) := by
  have h := over_mid (S ++ rowsN f i) (List.replicate 32 0) (List.replicate (8192 - 32 * (i + 1)) 0) (f i) (by rw [List.length_replicate, hf]) o (by rw [List.length_append, rowsN_len hf, hS]; exact ho)
  rw [show S ++ rowsN f i ++ List.replicate 32 0 ++ List.replicate (8192 - 32 * (i + 1)) 0 = S ++ fillN f i by rw [fillN_split hi]; simp only [List.append_assoc]] at h
  rw [h]
  unfold fillN
  rw [rowsN_succ]
  simp only [List.append_assoc]
theorem over_one {f : Nat → List Nat} (hf : ∀ i, (f i).length = 32) {i : Nat} (hi : i < 256) (o : Nat) (ho : o = 32 * i) : over (nn (fillN f i)) o (nn (f i)) = nn (fillN f (i + 1)) := by
  have := over_fst hf [] hi o ho
  rwa [List.append_nil, List.append_nil] at this
/-- The i-th row. -/
def rowN (xs : List Nat) (i : Nat) : List Nat := (xs.drop (32 * i)).take 32
theorem rowN_len {xs : List Nat} {i : Nat} (h : 32 * i + 32 ≤ xs.length) : (rowN xs i).length = 32 := by unfold rowN; rw [List.length_take, List.length_drop]; omega
theorem seg_rowN (xs : List Nat) (i o : Nat) (ho : o = 32 * i) : seg o 32 (nn xs) = nn (rowN xs i) := by
  subst ho; unfold seg rowN; rw [nn_take, nn_drop]
theorem rowsN_add (f : Nat → List Nat) (i : Nat) : ∀ d, rowsN f (i + d) = rowsN f i ++ rowsN (fun j => f (i + j)) d
  | 0 => by simp [rowsN]
  | d + 1 => by rw [← Nat.add_assoc, rowsN_succ, rowsN_add f i d, rowsN_succ, List.append_assoc]
theorem rowN_rowsN {f : Nat → List Nat} (hf : ∀ i, (f i).length = 32) {n i : Nat} (hi : i < n) (O : List Nat) : rowN (rowsN f n ++ O) i = f i := by
  obtain ⟨d, rfl⟩ : ∃ d, n = i + (d + 1) := ⟨n - i - 1, by omega⟩
  rw [rowsN_add, Nat.add_comm d 1, rowsN_add]
  unfold rowN
  have e : rowsN (fun j => f (i + j)) 1 = f i := by simp [rowsN]
  rw [e, List.append_assoc, List.append_assoc, List.drop_left' (rowsN_len hf i), List.take_left' (hf i)]
theorem rowN_of {f : Nat → List Nat} (hf : ∀ i, (f i).length = 32) {n i : Nat} (hi : i < n) : rowN (rowsN f n) i = f i := by
  have := rowN_rowsN hf hi []
  rwa [List.append_nil] at this
theorem rowN_snd {S O : List Nat} (hS : S.length = 8192) (i : Nat) : rowN (S ++ O) (256 + i) = rowN O i := by
  unfold rowN
  rw [show 32 * (256 + i) = S.length + 32 * i by omega, List.drop_append, List.drop_of_length_le (by omega), List.nil_append, Nat.add_sub_cancel_left]
theorem rowN_fst {S O : List Nat} (hS : S.length = 8192) {i : Nat} (hi : i < 256) : rowN (S ++ O) i = rowN S i := by
  unfold rowN
  rw [List.drop_append_of_le_length (by omega), List.take_append_of_le_length (by rw [List.length_drop]; omega)]
theorem seg_fst {S O : List Nat} (hS : S.length = 8192) : seg 0 8192 (nn (S ++ O)) = nn S := by
  unfold seg; rw [List.drop_zero, ← nn_take, List.take_left' hS]
theorem seg_snd {S O : List Nat} (hS : S.length = 8192) (hO : O.length = 8192) : seg 8192 8192 (nn (S ++ O)) = nn O := by
  unfold seg; rw [← nn_drop, List.drop_left' hS, ← nn_take, List.take_of_length_le (by omega)]
theorem chunk_nn (k : Nat) (xs : List Nat) : chunk k (nn xs) = nn (rowN xs k) := by unfold chunk rowN; rw [nn_take, nn_drop]
/-- A bit's two halves, as a key's text has them. -/
def pairN (dl H O : List Nat) (i : Nat) : List (List Nat) := if bitF (nn dl) i = 1 then [rowN O i, rowN H i] else [rowN H i, rowN O i]
def pairsN (dl H O : List Nat) : Nat → List (List Nat)
  | 0 => []
  | k + 1 => pairsN dl H O k ++ pairN dl H O k
theorem pairsN_nn (dl H O : List Nat) : ∀ k, pairsF (nn dl) (nn H) (nn O) k = (pairsN dl H O k).map nn
  | 0 => rfl
  | k + 1 => by
    rw [pairsF, pairsN, List.map_append, pairsN_nn dl H O k]
    congr 1
    unfold pairF pairN
    rw [chunk_nn, chunk_nn]
    split <;> rfl
/-- What a signature has of each bit: the secret of its value .. -/
def secF (tab seed : List Nat) (leaf : Int) (dl : List Nat) (i : Nat) : List Nat := secretN tab seed leaf i (bitF (nn dl) i)
/-- .. and the other one's half. -/
def othF (tab seed : List Nat) (leaf : Int) (dl : List Nat) (i : Nat) : List Nat := halfN tab (secretN tab seed leaf i (1 - bitF (nn dl) i))
theorem secretN_len (tab seed : List Nat) (leaf bit val : Int) : (secretN tab seed leaf bit val).length = 32 := macN_len _ _ _
theorem halfN_len (tab sec : List Nat) : (halfN tab sec).length = 32 := by unfold halfN taggedN; exact ofN_32 _ _
theorem secF_len (tab seed : List Nat) (leaf : Int) (dl : List Nat) (i : Nat) : (secF tab seed leaf dl i).length = 32 := secretN_len _ _ _ _ _
theorem othF_len (tab seed : List Nat) (leaf : Int) (dl : List Nat) (i : Nat) : (othF tab seed leaf dl i).length = 32 := halfN_len _ _
def secsN (tab seed : List Nat) (leaf : Int) (dl : List Nat) : List Nat := rowsN (secF tab seed leaf dl) 256
def othsN (tab seed : List Nat) (leaf : Int) (dl : List Nat) : List Nat := rowsN (othF tab seed leaf dl) 256
theorem secsN_len (tab seed : List Nat) (leaf : Int) (dl : List Nat) : (secsN tab seed leaf dl).length = 8192 := rowsN_len (secF_len _ _ _ _) 256
theorem othsN_len (tab seed : List Nat) (leaf : Int) (dl : List Nat) : (othsN tab seed leaf dl).length = 8192 := rowsN_len (othF_len _ _ _ _) 256
def halfF (tab S : List Nat) (i : Nat) : List Nat := halfN tab (rowN S i)
theorem halfF_len (tab S : List Nat) (i : Nat) : (halfF tab S i).length = 32 := halfN_len _ _
def halvesN (tab S : List Nat) : List Nat := rowsN (halfF tab S) 256
theorem halvesN_len (tab S : List Nat) : (halvesN tab S).length = 8192 := rowsN_len (halfF_len _ _) 256
def keytextN (dl H O : List Nat) : List Nat := textN 3 (pairsN dl H O 256)
/-- The key that a signature tells. -/
def openN (tab dl S O : List Nat) : List Nat := ofN tab (keytextN dl (halvesN tab S) O)
theorem pairsN_len (dl H O : List Nat) : ∀ k, (pairsN dl H O k).length = 2 * k
  | 0 => rfl
  | k + 1 => by rw [pairsN, List.length_append, pairsN_len dl H O k]; unfold pairN; split <;> simp <;> omega
theorem pairsN_32 (dl H O : List Nat) (hH : H.length = 8192) (hO : O.length = 8192) : ∀ k, k ≤ 256 → ∀ p ∈ pairsN dl H O k, p.length ≤ 32
  | 0, _, p, hp => by cases hp
  | k + 1, hk, p, hp => by
    rw [pairsN, List.mem_append] at hp
    rcases hp with hp | hp
    · exact pairsN_32 dl H O hH hO k (by omega) p hp
    · have h1 := rowN_len (xs := H) (i := k) (by omega)
      have h2 := rowN_len (xs := O) (i := k) (by omega)
      unfold pairN at hp
      split at hp <;> simp only [List.mem_cons, List.not_mem_nil, or_false] at hp <;> rcases hp with rfl | rfl <;> omega
theorem keytext_len (dl H O : List Nat) (hH : H.length = 8192) (hO : O.length = 8192) : (keytextN dl H O).length ≤ 100000 := by
  have h3 := ndig_le 9 ((pairsN dl H O 256).map nn).length
  have hbs := blobsB_small (pairsN dl H O 256) 32 (pairsN_32 dl H O hH hO 256 (Nat.le_refl _)) (by omega)
  rw [pairsN_len] at hbs
  unfold keytextN
  rw [← nn_len, textN_nn, textB, List.length_append, List.length_append, uintB_length]
  simp only [List.length_cons, List.length_nil]
  omega
/-- A key's text is of the two halves of each bit, whatever was signed. -/
theorem pairs_same (tab seed : List Nat) (leaf : Int) (dl : List Nat) (hdb : Bytes (nn dl)) : ∀ k, k ≤ 256 → pairsN dl (halvesN tab (secsN tab seed leaf dl)) (othsN tab seed leaf dl) k = (List.range k).flatMap fun (i : Nat) => [halfN tab (secretN tab seed leaf (i : Int) 0), halfN tab (secretN tab seed leaf (i : Int) 1)]
  | 0, _ => rfl
  | k + 1, hk => by
    rw [pairsN, pairs_same tab seed leaf dl hdb k (by omega), List.range_succ, List.flatMap_append]
    congr 1
    unfold pairN halvesN othsN
    rw [rowN_of (halfF_len _ _) (by omega), rowN_of (othF_len _ _ _ _) (by omega)]
    unfold halfF secsN
    rw [rowN_of (secF_len _ _ _ _) (by omega)]
    unfold secF othF
    rcases bitF_01 (nn dl) hdb (k : Int) with h | h
    · rw [h, if_neg (by omega)]; simp
    · rw [h, if_pos rfl]; simp
theorem open_same (tab seed : List Nat) (leaf : Int) (dl el : List Nat) (hd : Bytes (nn dl)) (he : Bytes (nn el)) : openN tab dl (secsN tab seed leaf dl) (othsN tab seed leaf dl) = openN tab el (secsN tab seed leaf el) (othsN tab seed leaf el) := by
  unfold openN keytextN
  rw [pairs_same tab seed leaf dl hd 256 (Nat.le_refl _), pairs_same tab seed leaf el he 256 (Nat.le_refl _)]
end Go.Proofs.Yteaijjefbadnbaa
