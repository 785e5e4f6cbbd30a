/-
  The plain laws of a key's text: turned digests, another half, a flipped bit.
-/
import Derived.Test.YteaijjefbadnbaaAwake09
import Derived.Test.YteaijjefbadnbaaBits
namespace Go.Proofs.Yteaijjefbadnbaa
open Go.RowKit
set_option linter.unusedVariables false
set_option linter.unusedSimpArgs false
set_option maxRecDepth 100000

theorem bits_u8 (op : BinOp) (x y : Int) : 0 ≤ bits op .u8 x y ∧ bits op .u8 x y < 256 := by
  unfold bits
  split <;> (simp only [IntKind.wrap, IntKind.signed, IntKind.bits, Bool.false_and, Bool.false_eq_true, if_false]; omega)

theorem seg_bytes (o n : Nat) (xs : List Int) (h : Bytes xs) : Bytes (seg o n xs) := fun x hx => h x (List.mem_of_mem_drop (List.mem_of_mem_take hx))
theorem Bytes.set {xs : List Int} (h : Bytes xs) (j : Nat) (v : Int) (hv : 0 ≤ v ∧ v < 256) : Bytes (xs.set j v) := fun x hx => by
  rcases List.mem_or_eq_of_mem_set hx with h' | rfl
  · exact h x h'
  · exact hv
theorem Bytes.append {xs ys : List Int} (h : Bytes xs) (h' : Bytes ys) : Bytes (xs ++ ys) := fun x hx => by
  rcases List.mem_append.1 hx with hx | hx
  · exact h x hx
  · exact h' x hx

/-- all bits turned, up to byte k -/
def turnF (d : List Int) : Nat → List Int
  | 0 => d
  | k + 1 => (turnF d k).set k (bits .xor .u8 ((turnF d k).getD k 0) 255)
theorem turnF_length (d : List Int) : ∀ k, (turnF d k).length = d.length
  | 0 => rfl
  | k + 1 => by rw [turnF, List.length_set, turnF_length d k]
theorem turnF_bytes (d : List Int) (hb : Bytes d) : ∀ k, Bytes (turnF d k)
  | 0 => hb
  | k + 1 => (turnF_bytes d hb k).set k _ (bits_u8 _ _ _)
theorem turned_bytes (d : List Int) (hd : d.length = 32) (hb : Bytes d) : Bytes (turnF d 32) := turnF_bytes d hb 32
theorem turnF_at (d : List Int) : ∀ k, k ≤ d.length → ∀ j, j < d.length → (turnF d k).getD j 0 = if j < k then bits .xor .u8 (d.getD j 0) 255 else d.getD j 0
  | 0, _, j, hj => by simp [turnF]
  | k + 1, hk, j, hj => by
    have ih := turnF_at d k (by omega)
    have hl := turnF_length d k
    rw [turnF]
    by_cases h : k = j
    · subst h
      rw [List.getD_eq_getElem?_getD, List.getElem?_set_self (by omega), Option.getD_some, ih k hj, if_neg (by omega), if_pos (by omega)]
    · rw [List.getD_eq_getElem?_getD, List.getElem?_set_ne h, ← List.getD_eq_getElem?_getD, ih j hj]
      by_cases h2 : j < k
      · rw [if_pos h2, if_pos (by omega)]
      · rw [if_neg h2, if_neg (by omega)]
theorem turn_bit : ∀ (x : Fin 256) (m : Fin 8), bits .xor .u8 (x.val : Int) 255 / 2 ^ m.val % 2 = 1 - (x.val : Int) / 2 ^ m.val % 2 := by decide +kernel
theorem bitF_turned (d : List Int) (hd : d.length = 32) (hb : Bytes d) (k : Nat) (hk : k < 256) : bitF (turnF d 32) k = 1 - bitF d k := by
  rw [bitF_eq _ (turned_bytes d hd hb), bitF_eq d hb]
  have e1 : ((k : Int) / 8).toNat = k / 8 := by omega
  have e2 : (7 - (k : Int) % 8).toNat = 7 - k % 8 := by omega
  rw [e1, e2, turnF_at d 32 (by omega) (k / 8) (by omega), if_pos (by omega)]
  have hx := hb.getD (k / 8)
  generalize d.getD (k / 8) 0 = x at hx
  obtain ⟨n, rfl⟩ := Int.eq_ofNat_of_zero_le hx.1
  exact turn_bit ⟨n, by omega⟩ ⟨7 - k % 8, by omega⟩
theorem pairF_turned (d os hs : List Int) (hd : d.length = 32) (hb : Bytes d) (k : Nat) (hk : k < 256) : pairF (turnF d 32) os hs k = pairF d hs os k := by
  have h := bitF_turned d hd hb k hk
  have h01 := bitF_01 d hb k
  unfold pairF
  rcases h01 with h0 | h0
  · rw [if_pos (by omega), if_neg (by omega)]
  · rw [if_neg (by omega), if_pos h0]
theorem pairs_turned (d os hs : List Int) (hd : d.length = 32) (hb : Bytes d) : ∀ k, k ≤ 256 → pairsF (turnF d 32) os hs k = pairsF d hs os k
  | 0, _ => by simp only [pairsF]
  | k + 1, hk => by rw [pairsF, pairsF, pairs_turned d os hs hd hb k (by omega), pairF_turned d os hs hd hb k (by omega)]

theorem uintB_bytes (n : Nat) : Bytes (uintB n) := by
  intro x hx
  unfold uintB at hx
  generalize ndig 9 n - 1 = q at hx
  rcases List.mem_append.1 hx with hx | hx
  · unfold digs at hx
    obtain ⟨j, _, rfl⟩ := List.mem_map.1 hx
    generalize n / 128 ^ j = m
    have := Nat.mod_lt m (show 0 < 128 by decide)
    exact ⟨Int.natCast_nonneg _, by exact_mod_cast (show 128 + m % 128 < 256 by omega)⟩
  · have := List.mem_singleton.1 hx
    subst this
    have := Nat.mod_lt (n / 128 ^ q) (show 0 < 256 by decide)
    exact ⟨Int.natCast_nonneg _, by exact_mod_cast this⟩
theorem blobsB_bytes : ∀ (ys : List (List Int)), (∀ y ∈ ys, Bytes y) → Bytes (blobsB ys)
  | [], _ => fun x hx => by cases hx
  | y :: ys, h => ((uintB_bytes _).append (h y (List.mem_cons_self ..))).append (blobsB_bytes ys fun z hz => h z (List.mem_cons_of_mem _ hz))
theorem textB_bytes (tag : Int) (ht : 0 ≤ tag ∧ tag < 256) (ys : List (List Int)) (h : ∀ y ∈ ys, Bytes y) : Bytes (textB tag ys) := by
  refine Bytes.append (Bytes.append ?_ (uintB_bytes _)) (blobsB_bytes ys h)
  intro x hx
  simp at hx
  omega
theorem chunk_bytes (k : Nat) (xs : List Int) (h : Bytes xs) : Bytes (chunk k xs) := fun x hx => h x (List.mem_of_mem_drop (List.mem_of_mem_take hx))
theorem pairsF_bytes (d hs os : List Int) (hh : Bytes hs) (ho : Bytes os) : ∀ k, ∀ y ∈ pairsF d hs os k, Bytes y
  | 0, y, hy => by cases hy
  | k + 1, y, hy => by
    rw [pairsF, List.mem_append] at hy
    rcases hy with hy | hy
    · exact pairsF_bytes d hs os hh ho k y hy
    · unfold pairF at hy
      split at hy <;> (simp at hy; rcases hy with rfl | rfl <;> first | exact chunk_bytes k _ hh | exact chunk_bytes k _ ho)
theorem text_bytes (d hs os : List Int) (hh : Bytes hs) (ho : Bytes os) : Bytes (textB 3 (pairsF d hs os 256)) := textB_bytes 3 (by omega) _ (pairsF_bytes d hs os hh ho 256)

theorem blobsB_inj : ∀ (ys zs : List (List Int)), (∀ y ∈ ys, y.length = 32) → (∀ z ∈ zs, z.length = 32) → ys.length = zs.length → blobsB ys = blobsB zs → ys = zs
  | [], [], _, _, _, _ => rfl
  | [], _ :: _, _, _, h, _ => by simp at h
  | _ :: _, [], _, _, h, _ => by simp at h
  | y :: ys, z :: zs, hy, hz, hl, he => by
    have h1 := hy y (List.mem_cons_self ..)
    have h2 := hz z (List.mem_cons_self ..)
    rw [blobsB_head y ys h1, blobsB_head z zs h2] at he
    have h3 := (List.cons.inj he).2
    obtain ⟨e1, e2⟩ := List.append_inj h3 (by omega)
    rw [e1, blobsB_inj ys zs (fun a ha => hy a (List.mem_cons_of_mem _ ha)) (fun a ha => hz a (List.mem_cons_of_mem _ ha)) (by simpa using hl) e2]
theorem textB_inj (tag : Int) (ys zs : List (List Int)) (hy : ∀ y ∈ ys, y.length = 32) (hz : ∀ z ∈ zs, z.length = 32) (hl : ys.length = zs.length) (he : textB tag ys = textB tag zs) : ys = zs := by
  unfold textB at he
  rw [hl] at he
  exact blobsB_inj ys zs hy hz hl (List.append_cancel_left he)
theorem pairsF_inj (d e hs os hs' os' : List Int) : ∀ k, pairsF d hs os k = pairsF e hs' os' k → ∀ j, j < k → pairF d hs os j = pairF e hs' os' j
  | 0, _, j, hj => by omega
  | k + 1, h, j, hj => by
    rw [pairsF, pairsF] at h
    have hl : (pairsF d hs os k).length = (pairsF e hs' os' k).length := by rw [pairsF_length, pairsF_length]
    obtain ⟨e1, e2⟩ := List.append_inj h hl
    rcases Nat.lt_or_eq_of_le (Nat.le_of_lt_succ hj) with h' | rfl
    · exact pairsF_inj d e hs os hs' os' k e1 j h'
    · exact e2
theorem pairsF_congr (d e hs os hs' os' : List Int) : ∀ k, (∀ j, j < k → pairF d hs os j = pairF e hs' os' j) → pairsF d hs os k = pairsF e hs' os' k
  | 0, _ => rfl
  | k + 1, h => by rw [pairsF, pairsF, pairsF_congr d e hs os hs' os' k (fun j hj => h j (by omega)), h k (by omega)]

def otherF (hs : List Int) (j : Nat) (turn : Int) : List Int := hs.set j (bits .xor .u8 (hs.getD j 0) turn)
def flipF (d : List Int) (K : Nat) : List Int := d.set (K / 8) (bits .xor .u8 (d.getD (K / 8) 0) (128 / 2 ^ (K % 8)))
theorem other_bytes (hs : List Int) (j : Nat) (turn : Int) (hb : Bytes hs) : Bytes (otherF hs j turn) := hb.set j _ (bits_u8 _ _ _)
theorem flip_bytes (d : List Int) (K : Nat) (hb : Bytes d) : Bytes (flipF d K) := hb.set _ _ (bits_u8 _ _ _)
theorem xor_same (x t : Fin 256) : bits .xor .u8 (x.val : Int) (t.val : Int) = (x.val : Int) ↔ t.val = 0 := by
  rw [bits_xor (k := .u8) rfl x.val t.val x.isLt t.isLt]
  constructor
  · intro h
    have h1 : x.val ^^^ t.val = x.val := by exact_mod_cast h
    have h2 : x.val ^^^ (x.val ^^^ t.val) = x.val ^^^ x.val := by rw [h1]
    rw [← Nat.xor_assoc, Nat.xor_self, Nat.zero_xor] at h2
    exact h2
  · intro h
    rw [h, Nat.xor_zero]
theorem text_other (d hs os : List Int) (hh : hs.length = 8192) (ho : os.length = 8192) (hhb : Bytes hs) (j : Nat) (hj : j < 8192) (turn : Int) (ht : 0 ≤ turn ∧ turn ≤ 255) :
    decide (textB 3 (pairsF d (otherF hs j turn) os 256) = textB 3 (pairsF d hs os 256)) = (turn == 0) := by
  have hx := hhb.getD j
  have hxt : bits .xor .u8 (hs.getD j 0) turn = hs.getD j 0 ↔ turn = 0 := by
    generalize hs.getD j 0 = x at hx
    obtain ⟨n, rfl⟩ := Int.eq_ofNat_of_zero_le hx.1
    obtain ⟨m, rfl⟩ := Int.eq_ofNat_of_zero_le ht.1
    have := xor_same ⟨n, by omega⟩ ⟨m, by omega⟩
    simp only at this
    rw [this]; omega
  have hol : (otherF hs j turn).length = 8192 := by rw [otherF, List.length_set]; exact hh
  by_cases h0 : turn = 0
  · have e : otherF hs j turn = hs := by
      rw [otherF, hxt.2 h0]
      apply List.ext_getElem (by simp)
      intro i h1 h2
      by_cases hi : j = i
      · subst hi; simp [show j < hs.length by omega]
      · simp [hi]
    rw [e]; simp [h0]
  · have : ¬ textB 3 (pairsF d (otherF hs j turn) os 256) = textB 3 (pairsF d hs os 256) := by
      intro he
      have h1 := textB_inj 3 _ _ (pairsF_32 d _ os hol ho 256 (by omega)) (pairsF_32 d hs os hh ho 256 (by omega)) (by rw [pairsF_length, pairsF_length]) he
      have h2 := pairsF_inj d d _ os hs os 256 h1 (j / 32) (by omega)
      have h3 : chunk (j / 32) (otherF hs j turn) = chunk (j / 32) hs := by
        unfold pairF at h2
        split at h2 <;> (simp at h2; exact h2)
      have h4 : (chunk (j / 32) (otherF hs j turn)).getD (j % 32) 0 = (chunk (j / 32) hs).getD (j % 32) 0 := by rw [h3]
      have g : ∀ l : List Int, (chunk (j / 32) l).getD (j % 32) 0 = l.getD j 0 := fun l => by
        have := seg_getD (32 * (j / 32)) 32 l (j % 32) (by omega)
        rw [show 32 * (j / 32) + j % 32 = j by omega] at this
        exact this
      rw [g, g] at h4
      have h5 : (otherF hs j turn).getD j 0 = bits .xor .u8 (hs.getD j 0) turn := by
        rw [otherF, List.getD_eq_getElem?_getD, List.getElem?_set_self (by omega)]; rfl
      rw [h5] at h4
      exact h0 (hxt.1 h4)
    rw [decide_eq_false this]
    exact (beq_eq_false_iff_ne.2 h0).symm

theorem flip_bit : ∀ (x : Fin 256) (m n : Fin 8), bits .xor .u8 (x.val : Int) (128 / 2 ^ m.val) / 2 ^ (7 - n.val) % 2 = if m.val = n.val then 1 - (x.val : Int) / 2 ^ (7 - n.val) % 2 else (x.val : Int) / 2 ^ (7 - n.val) % 2 := by decide +kernel
theorem bitF_flip (d : List Int) (hd : d.length = 32) (hb : Bytes d) (K : Nat) (hK : K < 256) (k : Nat) (hk : k < 256) : bitF (flipF d K) k = if K = k then 1 - bitF d k else bitF d k := by
  rw [bitF_eq _ (flip_bytes d K hb), bitF_eq d hb]
  have e1 : ((k : Int) / 8).toNat = k / 8 := by omega
  have e2 : (7 - (k : Int) % 8).toNat = 7 - k % 8 := by omega
  rw [e1, e2, flipF]
  by_cases hj : K / 8 = k / 8
  · have hx := hb.getD (k / 8)
    rw [hj, List.getD_eq_getElem?_getD, List.getElem?_set_self (by omega), Option.getD_some]
    generalize d.getD (k / 8) 0 = x at hx
    obtain ⟨n, rfl⟩ := Int.eq_ofNat_of_zero_le hx.1
    have := flip_bit ⟨n, by omega⟩ ⟨K % 8, by omega⟩ ⟨k % 8, by omega⟩
    simp only at this
    rw [this]
    by_cases h2 : K = k
    · rw [if_pos (by rw [h2]), if_pos h2]
    · rw [if_neg (by omega), if_neg h2]
  · rw [List.getD_eq_getElem?_getD, List.getElem?_set_ne hj, ← List.getD_eq_getElem?_getD, if_neg (by omega)]
theorem text_flip (d hs os : List Int) (hd : d.length = 32) (hdb : Bytes d) (hh : hs.length = 8192) (ho : os.length = 8192) (K : Nat) (hK : K < 256) :
    decide (textB 3 (pairsF (flipF d K) hs os 256) = textB 3 (pairsF d hs os 256)) = decide (seg (K * 32) 32 hs = seg (K * 32) 32 os) := by
  have hc : ∀ l : List Int, seg (K * 32) 32 l = chunk K l := fun l => by rw [seg, chunk, Nat.mul_comm]
  rw [hc, hc]
  have hbK := bitF_flip d hd hdb K hK K hK
  rw [if_pos rfl] at hbK
  have h01 := bitF_01 d hdb K
  have key : textB 3 (pairsF (flipF d K) hs os 256) = textB 3 (pairsF d hs os 256) ↔ chunk K hs = chunk K os := by
    constructor
    · intro he
      have h1 := textB_inj 3 _ _ (pairsF_32 _ hs os hh ho 256 (by omega)) (pairsF_32 d hs os hh ho 256 (by omega)) (by rw [pairsF_length, pairsF_length]) he
      have h2 := pairsF_inj _ d hs os hs os 256 h1 K hK
      unfold pairF at h2
      rcases h01 with h0 | h0
      · rw [if_pos (by omega), if_neg (by omega)] at h2
        exact (List.cons.inj h2).1.symm
      · rw [if_neg (by omega), if_pos h0] at h2
        exact (List.cons.inj h2).1
    · intro he
      have : pairsF (flipF d K) hs os 256 = pairsF d hs os 256 := by
        refine pairsF_congr _ d hs os hs os 256 fun j hj => ?_
        have hb := bitF_flip d hd hdb K hK j hj
        unfold pairF
        by_cases hjK : K = j
        · subst hjK
          rw [he]
          split <;> split <;> rfl
        · rw [if_neg hjK] at hb
          rw [hb]
      rw [this]
  by_cases h : chunk K hs = chunk K os
  · rw [decide_eq_true h, decide_eq_true (key.2 h)]
  · rw [decide_eq_false h, decide_eq_false (fun he => h (key.1 he))]
end Go.Proofs.Yteaijjefbadnbaa
