/-
  The examples of chapter 9 (awake of blockhouselaw09) hold.
-/
import Derived.Test.YteaijjefbadnbaaSame
import Derived.Test.YteaijjefbadnbaaArr
namespace Go.Proofs.Yteaijjefbadnbaa
open Go.RowKit
set_option linter.unusedVariables false
set_option linter.unusedSimpArgs false
set_option maxRecDepth 100000

def zerosL (n : Nat) : List Int := List.replicate n 0
theorem zerosL_length (n : Nat) : (zerosL n).length = n := by simp [zerosL]
theorem zerosL_bytes (n : Nat) : Bytes (zerosL n) := by intro x hx; simp [zerosL] at hx; omega
def d128 : List Int := 128 :: List.replicate 31 0
theorem d128_bytes : Bytes d128 := by intro x hx; simp [d128] at hx; omega
theorem ex_bytes : Bytes [75, 3, 128, 4, 32] := by intro x hx; simp at hx; omega
theorem zero_dg : (Try.prog.info? 37).map (·.zero) = some (some (.agg (cellsOf .u8 (zerosL 32)))) := by kernel_rfl
theorem zero_dg256 : (Try.prog.info? 56).map (·.zero) = some (some (.agg (cellsOf .u8 (zerosL 8192)))) := by kernel_rfl

theorem blobsB_head (y : List Int) (ys : List (List Int)) (h : y.length = 32) : blobsB (y :: ys) = 32 :: (y ++ blobsB ys) := by
  rw [blobsB, blobB_32 y h]; rfl
def text0 : List Int := textB 3 (pairsF (zerosL 32) (zerosL 8192) (zerosL 8192) 256)
theorem pairsF_cons (d hs os : List Int) : ∀ k, ∃ r, pairsF d hs os (k + 1) = (pairF d hs os 0) ++ r
  | 0 => ⟨[], by simp [pairsF]⟩
  | k + 1 => by
    obtain ⟨r, hr⟩ := pairsF_cons d hs os k
    exact ⟨r ++ pairF d hs os (k + 1), by rw [pairsF, hr, List.append_assoc]⟩
theorem text_len (d hs os : List Int) (hh : hs.length = 8192) (ho : os.length = 8192) : (textB 3 (pairsF d hs os 256)).length = 16900 := by
  rw [textB, pairsF_length, List.length_append, blobsB_32 _ (pairsF_32 d hs os hh ho 256 (by omega)), pairsF_length]
  have : uintB (2 * 256) = [128, 4] := by decide +kernel
  rw [this]; rfl
theorem text_take (d hs os : List Int) (hh : hs.length = 8192) (ho : os.length = 8192) : (textB 3 (pairsF d hs os 256)).take 5 = [75, 3, 128, 4, 32] := by
  obtain ⟨r, hr⟩ := pairsF_cons d hs os 255
  have : uintB (2 * 256) = [128, 4] := by decide +kernel
  rw [textB, pairsF_length, this, hr]
  have h1 := chunk_length 0 hs (by omega)
  have h2 := chunk_length 0 os (by omega)
  unfold pairF
  split
  · show List.take 5 ([75, 3, 128, 4] ++ blobsB (chunk 0 os :: ([chunk 0 hs] ++ r))) = _
    rw [blobsB_head _ _ h2]; rfl
  · show List.take 5 ([75, 3, 128, 4] ++ blobsB (chunk 0 hs :: ([chunk 0 os] ++ r))) = _
    rw [blobsB_head _ _ h1]; rfl

set_option maxHeartbeats 1000000 in
theorem awake09 (w : World) : Calls Try.prog 39 #[] w fun e w' => e = .returned (.bool true) ∧ Below w.heap.size w w' := by
  have z1 : ∀ w, (Instr.build 37 #[]).run Try.prog w = .ok (.agg (cellsOf .u8 (zerosL 32))) w := fun _ => by kernel_rfl
  have z2 : ∀ w, (Instr.build 37 #[(0, .int .u8 128)]).run Try.prog w = .ok (.agg (cellsOf .u8 d128)) w := fun _ => by kernel_rfl
  go_enter Try.func39, Try.ntmps39
  go_wp2_with (with_reducible refine Stop.slot (d := 1) ?_)
  refine Stop.go (wp_alloc rfl _ rfl _ zero_dg256 ?_)
  show wpList _ _ _ _ _ (w.alloc (.cells (cellsOf .u8 (zerosL 8192)) 56))
  have hb : Blk .u8 (w.alloc (.cells (cellsOf .u8 (zerosL 8192)) 56)) w.heap.size 56 (zerosL 8192) := Blk.new w _ _
  have hbel := Joins.below_alloc1 w (.cells (cellsOf .u8 (zerosL 8192)) 56)
  generalize w.alloc (.cells (cellsOf .u8 (zerosL 8192)) 56) = w1 at *
  go_wp2_with (with_reducible refine Stop.slot (d := 3) ?_)
  refine Stop.go (wp_build rfl 37 _ rfl _ (by simp) _ (z1 _) ?_)
  go_wp2_with (with_reducible refine Stop.slot (d := 4) ?_)
  refine Stop.go (wp_load_whole rfl 56 _ rfl rfl hb _ Try.underlying56 rfl (by rw [zerosL_length]; kernel_rfl) ?_)
  go_wp2_with (with_reducible refine Stop.slot (d := 5) ?_)
  refine Stop.go (wp_load_whole rfl 56 _ rfl rfl hb _ Try.underlying56 rfl (by rw [zerosL_length]; kernel_rfl) ?_)
  go_wp2_with (go_at_call 95; refine Stop.at_ ?_)
  refine Stop.go ((lamtext_any _ _ _ (zerosL_length 32) (zerosL_bytes 32) (zerosL_length 8192) (zerosL_length 8192) w1).mono ?_)
  rintro e w2 ⟨v2, rfl, hown2, hb2⟩
  clear hb
  have ht1 := text_len (zerosL 32) (zerosL 8192) (zerosL 8192) (zerosL_length _) (zerosL_length _)
  have ht2 := text_take (zerosL 32) (zerosL 8192) (zerosL 8192) (zerosL_length _) (zerosL_length _)
  generalize textB 3 (pairsF (zerosL 32) (zerosL 8192) (zerosL 8192) 256) = T at *
  have hs2 := hown2.sl
  have hbw := hbel.trans (hb2.mono hbel.size)
  clear hown2 hb2 hbel w1
  obtain ⟨b, o, c, rfl, hc1, hc2⟩ := hs2.form (by omega)
  have hs5 := hs2.take 5 (by omega)
  rw [ht2] at hs5
  rw [ht1] at hc1
  have HT := Lib.hid ht1
  clear ht1 ht2 hs2
  go_wp2_with (with_reducible refine Stop.slot (d := 7) ?_)
  refine Stop.go (wp_build rfl 37 _ rfl _ (by simp [Act.eval]) _ (z2 _) ?_)
  go_wp2_with (go_at_call 32; refine Stop.at_ ?_)
  refine Stop.go ((bit_any d128 (by decide) d128_bytes 0 (by omega) (by omega) w2).mono ?_)
  rintro e w3 ⟨rfl, rfl⟩
  rw [show bitF d128 0 = 1 by decide +kernel]
  have hs5a := hs5.below (Joins.below_alloc1 w2 (.cells (cellsOf .u8 d128) 37))
  have hbwa := hbw.trans ((Joins.below_alloc1 w2 (.cells (cellsOf .u8 d128) 37)).mono hbw.size)
  clear hs5 hbw
  generalize w2.alloc (.cells (cellsOf .u8 d128) 37) = w3 at *
  go_wp2_with (with_reducible refine Stop.slot (d := 11) ?_)
  refine Stop.go (wp_build rfl 37 _ rfl _ (by simp [Act.eval]) _ (z2 _) ?_)
  go_wp2_with (go_at_call 32; refine Stop.at_ ?_)
  refine Stop.go ((bit_any d128 (by decide) d128_bytes 1 (by omega) (by omega) w3).mono ?_)
  rintro e w4 ⟨rfl, rfl⟩
  rw [show bitF d128 1 = 0 by decide +kernel]
  have hs5 := hs5a.below (Joins.below_alloc1 w3 (.cells (cellsOf .u8 d128) 37))
  have hbw := hbwa.trans ((Joins.below_alloc1 w3 (.cells (cellsOf .u8 d128) 37)).mono hbwa.size)
  clear hs5a hbwa
  generalize w3.alloc (.cells (cellsOf .u8 d128) 37) = w4 at *
  rw [HT.out]
  go_wp2_with (go_at_call 28; refine Stop.at_ ?_)
  have hbx := Joins.below_alloc1 w4 (.cells #[.int .u8 75, .int .u8 3, .int .u8 128, .int .u8 4, .int .u8 32] 5)
  refine Stop.go ((same_any _ _ [75, 3, 128, 4, 32] [75, 3, 128, 4, 32] _ (hs5.below hbx) (SL.lit [75, 3, 128, 4, 32] rfl (by decide) rfl) ex_bytes ex_bytes).mono ?_)
  rintro e w5 ⟨rfl, rfl⟩
  rw [decide_eq_true rfl]
  have hbz := hbw.trans (hbx.mono hbw.size)
  clear hbw hs5 hbx
  generalize w4.alloc (.cells #[.int .u8 75, .int .u8 3, .int .u8 128, .int .u8 4, .int .u8 32] 5) = w5 at *
  go_wp2
  go_ret
  exact ⟨rfl, hbz⟩
end Go.Proofs.Yteaijjefbadnbaa
