/-
  The examples of chapter 18 (awake of blockhouselaw18) hold.
-/
import Derived.Test.YtanggdnmoaflfaaCertC
import Derived.Test.YtanggdnmoaflfaaPk1
namespace Go.Proofs.Ytanggdnmoaflfaa
open Go.RowKit
set_option linter.unusedVariables false
set_option linter.unusedSimpArgs false
set_option maxRecDepth 100000

theorem BytesPost.ok {w : World} {b : Bool} {xs ys : List Int} {e : Ending} {w' : World} (h : BytesPost w b xs e w') (hb : b = true) (hy : xs = ys) : Below w.heap.size w w' ∧ ∃ v, e = .returned (.tuple #[v, .int .i64 0]) ∧ Own 5 .u8 w.heap.size w' v ys := by
  subst hb hy
  obtain ⟨h0, h | h⟩ := h
  · cases h.1
  · exact ⟨h0, h.2⟩

theorem zero_cert : ∀ w, (Instr.build 25 #[(0, .int .i64 5), (2, .int .i64 2)]).run Try.prog w = .ok (.agg (certCells 5 (List.replicate 32 0) 2)) w := fun _ => by kernel_rfl
theorem str1 : strOf [2, 3, 2, 7, 200, 1] = ⟨#[2, 3, 2, 7, 200, 1]⟩ := by decide +kernel
theorem str2 : strOf [2, 0, 0] = ⟨#[2, 0, 0]⟩ := by decide +kernel
theorem str3 : strOf [1, 5, 2] = ⟨#[1, 5, 2]⟩ := by decide +kernel

set_option maxHeartbeats 1000000 in
theorem awake18 (w : World) : Calls Try.prog 10 #[] w fun e w' => e = .returned (.bool true) ∧ Below w.heap.size w w' := by
  go_enter Try.func10, Try.ntmps10
  go_wp2_with (go_at_call 14; refine Stop.at_ ?_)
  have hl : SL .i64 (w.alloc (.cells #[.int .i64 7, .int .i64 200] 3)) (.slice (some ⟨w.heap.size, 0, none⟩) 2 2) [7, 200] := SL.lit2 rfl rfl
  have hb1 := Joins.below_alloc1 w (.cells #[.int .i64 7, .int .i64 200] 3)
  refine Stop.go ((listbytes_any 3 _ [7, 200] _ hl).mono ?_)
  rintro e w2 hp
  obtain ⟨hb, v1, rfl, h1⟩ := hp.ok (ys := [2, 3, 2, 7, 200, 1]) (by decide +kernel) (by decide +kernel)
  have hbz := hb1.trans (hb.mono hb1.size)
  have h1 := h1.mono (Nat.zero_le _)
  clear hp hb hb1 hl
  go_wp2_with (go_at_call 14; refine Stop.at_ ?_)
  refine Stop.go ((listbytes_any 0 _ [] _ (SL.nil _ _)).mono ?_)
  rintro e w3 hp
  obtain ⟨hb, v2, rfl, h2⟩ := hp.ok (ys := [2, 0, 0]) (by decide +kernel) (by decide +kernel)
  have hbz := hbz.trans (hb.mono hbz.size)
  have h1 := h1.below hb
  have h2 := h2.mono (Nat.zero_le _)
  clear hp hb
  go_wp2_with (with_reducible refine Stop.slot (d := 19) ?_)
  refine Stop.go (wp_build rfl 25 _ rfl _ (by simp [Act.eval]) _ (zero_cert _) ?_)
  go_wp2_with (go_at_call 12; refine Stop.at_ ?_)
  refine Stop.go ((certbytes_any 5 2 (List.replicate 32 0) (by simp) _).mono ?_)
  rintro e w4 hp
  obtain ⟨hb, v3, rfl, h3⟩ := hp.ok (ys := ([1] ++ uintsB [5, 2]) ++ List.replicate 32 0) (by decide +kernel) rfl
  have hbz := hbz.trans (hb.mono hbz.size)
  have s1 := (h1.below hb).sl
  have s2 := (h2.below hb).sl
  have s3 := h3.sl
  clear hp hb h1 h2 h3
  rw [show ([1] ++ uintsB [5, 2]) ++ List.replicate 32 0 = 1 :: 5 :: 2 :: List.replicate 32 0 by decide +kernel] at s3
  have c1 := conv_SL (P := Try.prog) (src := 29) (dst := 9) Try.underlying29 Try.underlying5 Try.underlying9 s1
  have c2 := conv_SL (P := Try.prog) (src := 29) (dst := 9) Try.underlying29 Try.underlying5 Try.underlying9 s2
  obtain ⟨b, o, c, rfl, hc1, hc2⟩ := s3.form (by simp)
  have s4 := s3.take 3 (by simp)
  have c3 := conv_SL (P := Try.prog) (src := 29) (dst := 9) Try.underlying29 Try.underlying5 Try.underlying9 s4
  rw [show (1 :: 5 :: 2 :: List.replicate 32 (0 : Int)).take 3 = [1, 5, 2] by rfl, str3] at c3
  rw [str1] at c1
  rw [str2] at c2
  have HL := Lib.hid (show (1 :: 5 :: 2 :: List.replicate 32 (0 : Int)).length = 35 by decide)
  rw [HL.out] at hc1 ⊢
  clear s1 s2 s3 s4
  go_wp2
  go_ret
  exact ⟨rfl, hbz⟩
end Go.Proofs.Ytanggdnmoaflfaa
