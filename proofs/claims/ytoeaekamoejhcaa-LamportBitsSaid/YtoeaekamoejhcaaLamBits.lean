/-
  blockhouselaw09.LamportBits: a digest is all of its bits.
-/
import Derived.Test.YtoeaekamoejhcaaAwake09
namespace Go.Proofs.Ytoeaekamoejhcaa
open Go.RowKit
set_option linter.unusedVariables false
set_option linter.unusedSimpArgs false
set_option maxRecDepth 100000

def putBit (b : Int) (i : Nat) (xs : List Int) : List Int := xs.set (i / 8) (bits .or .u8 (xs.getD (i / 8) 0) (b * 2 ^ (7 - i % 8)))
def backF (d : List Int) : Nat → List Int
  | 0 => zerosL 32
  | k + 1 => putBit (bitF d k) k (backF d k)
theorem backF_length (d : List Int) : ∀ k, (backF d k).length = 32
  | 0 => zerosL_length 32
  | k + 1 => by rw [backF, putBit, List.length_set]; exact backF_length d k
def sameF (d e : List Int) : Nat → Bool
  | 0 => true
  | k + 1 => sameF d e k && (bitF d k == bitF e k)
theorem dg_info : (Try.prog.info? 23).map (·.size) = some 32 := by kernel_rfl

def hiF (x : Int) (m : Nat) : Int := x / 2 ^ (8 - m) * 2 ^ (8 - m)
theorem hi_step : ∀ (x : Fin 256) (m : Fin 8), bits .or .u8 (hiF (x.val : Int) m.val) ((x.val : Int) / 2 ^ (7 - m.val) % 2 * 2 ^ (7 - m.val)) = hiF (x.val : Int) (m.val + 1) := by decide +kernel
theorem hi_0 : ∀ (x : Fin 256), hiF (x.val : Int) 0 = 0 := by decide +kernel
theorem hi_8 (x : Int) : hiF x 8 = x := by simp [hiF]
theorem hi_step' (x : Int) (h0 : 0 ≤ x) (h1 : x < 256) (m : Nat) (hm : m < 8) : bits .or .u8 (hiF x m) (x / 2 ^ (7 - m) % 2 * 2 ^ (7 - m)) = hiF x (m + 1) := by
  obtain ⟨n, rfl⟩ := Int.eq_ofNat_of_zero_le h0
  exact hi_step ⟨n, by omega⟩ ⟨m, hm⟩
theorem hi_0' (x : Int) (h0 : 0 ≤ x) (h1 : x < 256) : hiF x 0 = 0 := by
  obtain ⟨n, rfl⟩ := Int.eq_ofNat_of_zero_le h0
  exact hi_0 ⟨n, by omega⟩
theorem zerosL_getD (n j : Nat) : (zerosL n).getD j 0 = 0 := by
  simp only [zerosL, List.getD_eq_getElem?_getD, List.getElem?_replicate]
  split <;> rfl
theorem backF_at (d : List Int) (hb : Bytes d) : ∀ k, k ≤ 256 → ∀ j, j < 32 → (backF d k).getD j 0 = hiF (d.getD j 0) (min 8 (k - 8 * j))
  | 0, _, j, hj => by
    have := hb.getD j
    rw [Nat.zero_sub, Nat.min_eq_right (Nat.zero_le _), hi_0' _ this.1 this.2]
    exact zerosL_getD 32 j
  | k + 1, hk, j, hj => by
    have ih := backF_at d hb k (by omega)
    have hl := backF_length d k
    rw [backF, putBit]
    by_cases hjk : k / 8 = j
    · subst hjk
      rw [List.getD_eq_getElem?_getD, List.getElem?_set_self (by omega), Option.getD_some, ih _ hj, bitF_eq d hb]
      have e1 : ((k : Int) / 8).toNat = k / 8 := by omega
      have e2 : (7 - (k : Int) % 8).toNat = 7 - k % 8 := by omega
      rw [e1, e2]
      have hx := hb.getD (k / 8)
      have e3 : min 8 (k - 8 * (k / 8)) = k % 8 := by omega
      have e4 : min 8 (k + 1 - 8 * (k / 8)) = k % 8 + 1 := by omega
      rw [e3, e4]
      exact hi_step' _ hx.1 hx.2 _ (by omega)
    · rw [List.getD_eq_getElem?_getD, List.getElem?_set_ne hjk, ← List.getD_eq_getElem?_getD, ih _ hj]
      congr 1
      omega
theorem ext_getD (a b : List Int) (n : Nat) (ha : a.length = n) (hb : b.length = n) (h : ∀ j, j < n → a.getD j 0 = b.getD j 0) : a = b := by
  apply List.ext_getElem (by omega)
  intro j h1 h2
  have := h j (by omega)
  simpa [h1, h2] using this
theorem backF_all (d : List Int) (hd : d.length = 32) (hb : Bytes d) : backF d 256 = d := by
  refine ext_getD _ _ 32 (backF_length d 256) hd fun j hj => ?_
  rw [backF_at d hb 256 (by omega) j hj, show min 8 (256 - 8 * j) = 8 by omega, hi_8]
theorem sameF_iff (d e : List Int) : ∀ k, sameF d e k = true → backF d k = backF e k
  | 0, _ => rfl
  | k + 1, h => by
    rw [sameF, Bool.and_eq_true] at h
    rw [backF, backF, sameF_iff d e k h.1, beq_iff_eq.1 h.2]
theorem sameF_refl (d : List Int) : ∀ k, sameF d d k = true
  | 0 => rfl
  | k + 1 => by rw [sameF, sameF_refl d k]; simp
theorem sameF_all (d e : List Int) (hd : d.length = 32) (hb : Bytes d) (he : e.length = 32) (heb : Bytes e) : sameF d e 256 = decide (d = e) := by
  by_cases h : d = e
  · subst h; rw [sameF_refl]; simp
  · rw [decide_eq_false h]
    by_cases hs : sameF d e 256 = true
    · have := sameF_iff d e 256 hs
      rw [backF_all d hd hb, backF_all e he heb] at this
      exact absurd this h
    · simpa using hs
def BSt (w : World) (d e ys : List Int) (wr : World) : Prop :=
  Blk .u8 wr w.heap.size 23 d ∧ Blk .u8 wr (w.heap.size + 1) 23 e ∧ Blk .u8 wr (w.heap.size + 1 + 1) 23 ys ∧ Below w.heap.size w wr
theorem BSt.below {w : World} {d e ys : List Int} {wr w' : World} (h : BSt w d e ys wr) (hb : Below wr.heap.size wr w') : BSt w d e ys w' :=
  ⟨h.1.below hb, h.2.1.below hb, h.2.2.1.below hb, h.2.2.2.trans (hb.mono h.2.2.2.size)⟩
theorem BSt.alloc {w : World} {d e ys : List Int} {wr : World} (h : BSt w d e ys wr) (o : Obj) : BSt w d e ys (wr.alloc o) := h.below (Joins.below_alloc1 _ _)
theorem BSt.set {w : World} {d e ys : List Int} {wr : World} (h : BSt w d e ys wr) {j : Nat} (v : Int) {zs : List Int} (hz : ys.set j v = zs) : BSt w d e zs (wr.setCell ⟨w.heap.size + 1 + 1, j, none⟩ (.int .u8 v)).drew := by
  subst hz
  refine ⟨?_, ?_, ?_, ?_⟩
  · exact h.1.set_other (a := ⟨w.heap.size + 1 + 1, j, none⟩) (by simp; omega) _
  · exact h.2.1.set_other (a := ⟨w.heap.size + 1 + 1, j, none⟩) (by simp) _
  · exact h.2.2.1.set v
  · exact (h.2.2.2.setCell (p := ⟨w.heap.size + 1 + 1, j, none⟩) (by simp; omega) _).drew

set_option maxHeartbeats 2000000 in
theorem lamportBits_walk (d : List Int) (hd : d.length = 32) (hdb : Bytes d) (e : List Int) (he : e.length = 32) (heb : Bytes e) (w : World) :
    Calls Try.prog 4 #[.agg (cellsOf .u8 d), .agg (cellsOf .u8 e)] w fun en w' => en = .returned (.bool true) ∧ Below w.heap.size w w' := by
  go_enter Try.func4, Try.ntmps4
  go_wp2_with (with_reducible refine Stop.slot (d := 5) ?_)
  refine Stop.go (wp_alloc rfl _ rfl _ zero_dg ?_)
  generalize hW : World.alloc _ (Obj.cells (Value.agg (cellsOf .u8 (zerosL 32))).cells 23) = W
  have g012 := three_new w (.cells (cellsOf .u8 d) 23) (.cells (cellsOf .u8 e) 23) (.cells (cellsOf .u8 (zerosL 32)) 23)
  have hB : Below w.heap.size w W := by subst hW; exact Joins.below_alloc3 w _ _ _
  have g0 : Blk .u8 W w.heap.size 23 d := by subst hW; exact g012.1
  have g1 : Blk .u8 W (w.heap.size + 1) 23 e := by subst hW; exact g012.2.1
  have g2 : Blk .u8 W (w.heap.size + 1 + 1) 23 (zerosL 32) := by subst hW; exact g012.2.2
  clear hW g012
  go_wp2_with fail
  have hst : BSt w d e (zerosL 32) W := ⟨g0, g1, g2, hB⟩
  clear g0 g1 g2 hB
  go_loopw [6, 7] (fun s i wr => ∃ (k : Nat), k ≤ 256 ∧ i = .int .i64 k ∧ s = .bool (sameF d e k) ∧ BSt w d e (backF d k) wr)
    (fun _ i _ => 256 - (intOf i).toNat)
  case atStart => exact ⟨0, by omega, rfl, rfl, hst⟩
  case round =>
    obtain ⟨k, hk, rfl, rfl, st⟩ := hrel
    clear hst W
    by_cases hlt : k < 256
    · have h01 := bitF_01 d hdb k
      have hbl := backF_length d k
      go_wp2_with (with_reducible refine Stop.slot (d := 13) ?_)
      refine Stop.go (wp_load_whole rfl 23 _ rfl rfl st.1 _ Try.underlying23 rfl (by rw [hd]; exact dg_info) ?_)
      go_wp2_with (go_at_call 19; refine Stop.at_ ?_)
      refine Stop.go ((bit_any d hd hdb k (by omega) (by omega) wr).mono ?_)
      rintro en w1 ⟨rfl, rfl⟩
      have st1 := st.alloc (.cells (cellsOf .u8 d) 23)
      clear st
      generalize wr.alloc (.cells (cellsOf .u8 d) 23) = w1 at *
      have hc := st1.2.2.1.cell (k / 8) (by omega)
      have hfr := st1.2.2.1.frozen (k / 8)
      generalize hbb : bitF d k = bb at *
      rcases h01 with rfl | rfl
      all_goals go_wp2_with fail
      all_goals go_region
      · have st2 := st1.set (j := k / 8) (bits .or .u8 ((backF d k)[k / 8]?.getD 0) 0) (zs := backF d (k + 1)) (by rw [backF, hbb, putBit, Int.zero_mul, List.getD_eq_getElem?_getD])
        clear st1 hc hfr
        generalize (w1.setCell ⟨w.heap.size + 1 + 1, k / 8, none⟩ (.int .u8 (bits .or .u8 ((backF d k)[k / 8]?.getD 0) 0))).drew = w2 at *
        by_cases hs : sameF d e k = true
        · rw [hs]
          go_wp2_with (with_reducible refine Stop.slot (d := 37) ?_)
          refine Stop.go (wp_load_whole rfl 23 _ rfl rfl st2.2.1 _ Try.underlying23 rfl (by rw [he]; exact dg_info) ?_)
          go_wp2_with (go_at_call 19; refine Stop.at_ ?_)
          refine Stop.go ((bit_any e he heb k (by omega) (by omega) w2).mono ?_)
          rintro en w3 ⟨rfl, rfl⟩
          have st3 := st2.alloc (.cells (cellsOf .u8 e) 23)
          clear st2
          generalize w2.alloc (.cells (cellsOf .u8 e) 23) = w3 at *
          go_wp2
          go_roundw
          case rel => exact ⟨k + 1, by omega, by go_num, by rw [sameF, hs, hbb]; rfl, st3⟩
          case measure => simp [intOf]; omega
        · have hs' : sameF d e k = false := by simpa using hs
          rw [hs']
          go_wp2
          go_roundw
          case rel => exact ⟨k + 1, by omega, by go_num, by rw [sameF, hs']; rfl, st2⟩
          case measure => simp [intOf]; omega
      · have hp : (2 : Int) ^ (7 - k % 8) % 256 = 1 * 2 ^ (7 - k % 8) := by
          have h8 : k % 8 < 8 := Nat.mod_lt _ (by omega)
          generalize k % 8 = m at h8
          match m, h8 with
          | 0, _ => rfl
          | 1, _ => rfl
          | 2, _ => rfl
          | 3, _ => rfl
          | 4, _ => rfl
          | 5, _ => rfl
          | 6, _ => rfl
          | 7, _ => rfl
        have st2 := st1.set (j := k / 8) (bits .or .u8 ((backF d k)[k / 8]?.getD 0) (2 ^ (7 - k % 8) % 256)) (zs := backF d (k + 1)) (by rw [backF, hbb, putBit, hp, List.getD_eq_getElem?_getD])
        clear st1 hc hfr hp
        generalize (w1.setCell ⟨w.heap.size + 1 + 1, k / 8, none⟩ (.int .u8 (bits .or .u8 ((backF d k)[k / 8]?.getD 0) (2 ^ (7 - k % 8) % 256)))).drew = w2 at *
        by_cases hs : sameF d e k = true
        · rw [hs]
          go_wp2_with (with_reducible refine Stop.slot (d := 37) ?_)
          refine Stop.go (wp_load_whole rfl 23 _ rfl rfl st2.2.1 _ Try.underlying23 rfl (by rw [he]; exact dg_info) ?_)
          go_wp2_with (go_at_call 19; refine Stop.at_ ?_)
          refine Stop.go ((bit_any e he heb k (by omega) (by omega) w2).mono ?_)
          rintro en w3 ⟨rfl, rfl⟩
          have st3 := st2.alloc (.cells (cellsOf .u8 e) 23)
          clear st2
          generalize w2.alloc (.cells (cellsOf .u8 e) 23) = w3 at *
          go_wp2
          go_roundw
          case rel => exact ⟨k + 1, by omega, by go_num, by rw [sameF, hs, hbb]; rfl, st3⟩
          case measure => simp [intOf]; omega
        · have hs' : sameF d e k = false := by simpa using hs
          rw [hs']
          go_wp2
          go_roundw
          case rel => exact ⟨k + 1, by omega, by go_num, by rw [sameF, hs']; rfl, st2⟩
          case measure => simp [intOf]; omega
    · obtain rfl : k = 256 := by omega
      have hbk : backF d 256 = d := backF_all d hd hdb
      have hsm : sameF d e 256 = decide (d = e) := sameF_all d e hd hdb he heb
      rw [hbk] at st
      rw [hsm]
      have q1 : ∀ w, (Op.equalIn 10000 23 (.agg (cellsOf .u8 d)) (.agg (cellsOf .u8 d))).run Try.prog w = .ok true w := fun w => (eq_array 9998 Try.underlying23 Try.underlying5 (by kernel_rfl) d d hd hd w).trans (by rw [decide_eq_true rfl])
      have q2 : ∀ w, (Op.equalIn 10000 23 (.agg (cellsOf .u8 d)) (.agg (cellsOf .u8 e))).run Try.prog w = .ok (decide (d = e)) w := fun w => eq_array 9998 Try.underlying23 Try.underlying5 (by kernel_rfl) d e hd he w
      have qg : Try.prog.eqGuardType Try.prog.depth 23 = false := by kernel_rfl
      generalize decide (d = e) = b at *
      go_wp2_with (with_reducible refine Stop.slot (d := 42) ?_)
      refine Stop.go (wp_load_whole rfl 23 _ rfl rfl st.2.2.1 _ Try.underlying23 rfl (by rw [hd]; exact dg_info) ?_)
      go_wp2_with (with_reducible refine Stop.slot (d := 43) ?_)
      refine Stop.go (wp_load_whole rfl 23 _ rfl rfl st.1 _ Try.underlying23 rfl (by rw [hd]; exact dg_info) ?_)
      go_wp2_with (with_reducible refine Stop.slot (d := 47) ?_)
      refine Stop.go (wp_load_whole rfl 23 _ rfl rfl st.1 _ Try.underlying23 rfl (by rw [hd]; exact dg_info) ?_)
      go_wp2_with (with_reducible refine Stop.slot (d := 48) ?_)
      refine Stop.go (wp_load_whole rfl 23 _ rfl rfl st.2.1 _ Try.underlying23 rfl (by rw [he]; exact dg_info) ?_)
      go_wp2_with (go_at_call 18; refine Stop.at_ ?_)
      refine Stop.go ((awake09 wr).mono ?_)
      rintro en w2 ⟨rfl, hb2⟩
      have hbz := st.2.2.2.trans (hb2.mono st.2.2.2.size)
      clear st hb2
      go_wp2
      go_ret
      exact ⟨rfl, hbz⟩
end Go.Proofs.Ytoeaekamoejhcaa
