/-
  mac.Text: a tag and parts as bytes. lamport.Bit, lamport.Text.
  No conditions but that all fits into 2^46 bytes.
-/
import Derived.Test.YteaijjefbadnbaaUint
namespace Go.Proofs.Yteaijjefbadnbaa
open Go.RowKit
set_option linter.unusedVariables false
set_option linter.unusedSimpArgs false
set_option maxRecDepth 100000

/-- Parts, one behind the other. -/
def blobsB : List (List Int) → List Int
  | [] => []
  | y :: ys => blobB y ++ blobsB ys
theorem blobsB_append : ∀ (a b : List (List Int)), blobsB (a ++ b) = blobsB a ++ blobsB b
  | [], b => rfl
  | y :: a, b => by simp [blobsB, blobsB_append a b]
theorem blobsB_take_le (ys : List (List Int)) (k : Nat) : (blobsB (ys.take k)).length ≤ (blobsB ys).length := by
  have h := congrArg List.length (blobsB_append (ys.take k) (ys.drop k))
  rw [List.take_append_drop, List.length_append] at h
  omega
theorem blobsB_step (ys : List (List Int)) (k : Nat) (h : k < ys.length) : blobsB (ys.take (k + 1)) = blobsB (ys.take k) ++ blobB (ys.getD k []) := by
  rw [List.take_succ_eq_append_getElem h, blobsB_append]
  simp [blobsB, h]
/-- The text of a tag and parts. -/
def textB (tag : Int) (ys : List (List Int)) : List Int := [75, tag] ++ uintB ys.length ++ blobsB ys

set_option maxHeartbeats 1000000 in
theorem mactext_any (tag : Int) (v : Value) (us : List Value) (ys : List (List Int)) (w : World)
    (hv : SV w v us) (B : Nat) (hB : B ≤ w.heap.size) (hy0 : SLs .u8 B w us ys) (hl : (blobsB ys).length ≤ 140737488350000) :
    Calls Try.prog 29 #[.int .u8 tag, v] w (AppPost 5 .u8 w w.heap.size (textB tag ys)) := by
  have hy := hy0.mono hB
  clear hy0
  have hlen := hy.length
  have hn := uintB_len us.length
  obtain ⟨a, c, rfl, hm⟩ := hv.len
  have HM := Lib.hid hm
  clear hm
  have HL := Lib.hid hl
  clear hl
  have HN := Lib.hid hlen
  clear hlen
  go_enter Try.func29, Try.ntmps29
  go_wp2_with (go_at_call 91; refine Stop.at_ ?_)
  rw [wrap_u64_len _ HM.out]
  refine Stop.go ((uint_any w.heap.size _ [75, tag] _ _ (by have := HM.out; unfold maxLen at this; omega) (Own.lit w.heap.size w [75, tag] (Nat.le_refl _) (by unfold maxLen; simp) _ rfl) (by simp) (by simp)).mono ?_)
  rintro e w1 ⟨v1, rfl, hown1, hb1⟩
  have hb1' : Below w.heap.size w w1 := ((Below.refl _ _).alloc (Nat.le_refl _) _).trans hb1
  clear hb1
  go_wp2_with fail
  go_loopw [5, 16] (fun s i wr => ∃ k : Nat, k ≤ us.length ∧ i = .int .i64 k ∧ Own 5 .u8 w.heap.size wr s ([75, tag] ++ uintB us.length ++ blobsB (ys.take k)) ∧ Below w.heap.size w wr)
    (fun _ i _ => us.length - (intOf i).toNat)
  case atStart => exact ⟨0, by omega, rfl, hown1.cast (by simp [blobsB]), hb1'⟩
  case round =>
    obtain ⟨k, hk, rfl, ho, hbw⟩ := hrel
    have hsz := hbw.size
    clear hown1 hb1'
    by_cases hlt : k < us.length
    · have hvr := hv.below hbw
      rcases hvr with ⟨h1, h2⟩ | ⟨b, of, c', h1, h2, h3, h4, h5⟩
      · subst h2; simp at hlt
      · simp only [Value.slice.injEq] at h1
        obtain ⟨rfl, _, rfl⟩ := h1
        have hu := ((SLs.below hbw hy).get k hlt).1
        have hub := (hy.get k hlt).2
        have hc := h5 k hlt
        clear h5 h4 h3 h2 hv
        generalize us.getD k undef = u at *
        go_wp2_with (go_at_call 92; refine Stop.at_ ?_)
        have hlt2 : k < ys.length := by rw [← HN.out]; exact hlt
        have hst := blobsB_step ys k hlt2
        have hle := blobsB_take_le ys (k + 1)
        have hst2 := congrArg List.length hst
        rw [List.length_append, blobB, List.length_append] at hst2
        refine Stop.go ((blob_any w.heap.size _ _ _ (ys.getD k []) _ ho hu ?c0 hsz ?c1).mono ?_)
        case c0 => exact hub
        case c1 => have := HL.out; simp only [List.length_append, List.length_cons, List.length_nil]; omega
        rintro e w2 ⟨v2, rfl, hown2, hb2⟩
        clear hst2 hle
        have HST := Lib.hid hst
        clear hst
        have hm2 : us.length ≤ 9223372036854775807 := HM.out
        go_wp2
        go_roundw
        case rel => exact ⟨k + 1, by omega, by go_num, hown2.cast (by rw [HST.out, List.append_assoc]), hbw.trans hb2⟩
        case measure => simp [intOf]; omega
    · go_wp2
      go_ret
      obtain rfl : k = us.length := by omega
      exact ⟨_, rfl, ho.cast (by rw [textB, HN.out, List.take_length]), hbw⟩

/-- A digest's bit. -/
def bitF (xs : List Int) (i : Int) : Int := bits .and .u8 (xs.getD (i / 8).toNat 0 / 2 ^ (7 - i % 8).toNat) 1
theorem and1_all : ∀ i : Fin 256, bits .and .u8 (i.val : Int) 1 = ((i.val % 2 : Nat) : Int) := by decide +kernel
theorem and1 (m : Int) (h0 : 0 ≤ m) (h1 : m < 256) : bits .and .u8 m 1 = m % 2 := by
  obtain ⟨n, rfl⟩ := Int.eq_ofNat_of_zero_le h0
  have h := and1_all ⟨n, by omega⟩
  exact h
/-- every number is a byte -/
def Bytes (xs : List Int) : Prop := ∀ x ∈ xs, 0 ≤ x ∧ x < 256
theorem Bytes.getD {xs : List Int} (h : Bytes xs) (j : Nat) : 0 ≤ xs.getD j 0 ∧ xs.getD j 0 < 256 := by
  by_cases hj : j < xs.length
  · simp only [List.getD_eq_getElem?_getD, List.getElem?_eq_getElem hj, Option.getD_some]
    exact h _ (List.getElem_mem hj)
  · simp [List.getD_eq_getElem?_getD, List.getElem?_eq_none (Nat.le_of_not_lt hj)]
theorem bitF_eq (xs : List Int) (hx : Bytes xs) (i : Int) : bitF xs i = xs.getD (i / 8).toNat 0 / 2 ^ (7 - i % 8).toNat % 2 := by
  have h := hx.getD (i / 8).toNat
  have hp : (0 : Int) < 2 ^ (7 - i % 8).toNat := Int.pow_pos (by omega)
  refine and1 _ (Int.ediv_nonneg h.1 (Int.le_of_lt hp)) ?_
  have := Int.ediv_le_self (2 ^ (7 - i % 8).toNat) h.1
  omega
theorem bitF_01 (xs : List Int) (hx : Bytes xs) (i : Int) : bitF xs i = 0 ∨ bitF xs i = 1 := by
  rw [bitF_eq xs hx]; omega

set_option maxHeartbeats 400000 in
theorem bit_any (xs : List Int) (hx : xs.length = 32) (hb : Bytes xs) (i : Int) (h0 : 0 ≤ i) (h1 : i < 256) (w : World) :
    Calls Try.prog 32 #[.agg (cellsOf .u8 xs), .int .i64 i] w fun e w' => e = .returned (.int .i64 (bitF xs i)) ∧ w' = w.alloc (.cells (cellsOf .u8 xs) 37) := by
  have hc := cells_at .u8 xs (i / 8).toNat (by omega)
  have h01 := bitF_01 xs hb i
  clear hx
  go_enter Try.func32, Try.ntmps32
  go_wp2
  go_ret
  refine ⟨congrArg Ending.returned (congrArg (Value.int IntKind.i64) ?_), rfl⟩
  simp only [bitF, List.getD_eq_getElem?_getD] at h01 ⊢
  refine IntWalk.wrap64_in _ ⟨by omega, by omega⟩

/-- a digest out of a row of digests -/
def chunk (k : Nat) (hs : List Int) : List Int := (hs.drop (32 * k)).take 32
theorem chunk_length (k : Nat) (hs : List Int) (h : 32 * k + 32 ≤ hs.length) : (chunk k hs).length = 32 := by
  simp [chunk]; omega
theorem SL.chunk {w : World} {g k : Nat} {t : TypeId} {hs : List Int} (hg : w.heap[g]? = some (.cells (cellsOf .u8 hs) t (0, 0))) (h : 32 * k + 32 ≤ hs.length) :
    SL .u8 w (.slice (some ⟨g, k * 32, none⟩) 32 32) (chunk k hs) := by
  have hl := chunk_length k hs h
  refine .inr ⟨g, k * 32, 32, by rw [hl], by omega, by unfold maxLen; omega, (Array.getElem?_eq_some_iff.1 hg).1, fun j hj => ?_⟩
  rw [Joins.cell_of_block hg, cells_at _ _ _ (by omega)]
  congr 2
  have e : (Go.Proofs.Yteaijjefbadnbaa.chunk k hs).getD j 0 = hs.getD (32 * k + j) 0 := by
    simp only [Go.Proofs.Yteaijjefbadnbaa.chunk, List.getD_eq_getElem?_getD, List.getElem?_take, List.getElem?_drop]
    rw [if_pos (by omega)]
  rw [e, Nat.mul_comm]
def pairF (d hs os : List Int) (k : Nat) : List (List Int) := if bitF d k = 1 then [chunk k os, chunk k hs] else [chunk k hs, chunk k os]
def pairsF (d hs os : List Int) : Nat → List (List Int)
  | 0 => []
  | k + 1 => pairsF d hs os k ++ pairF d hs os k
theorem pairsF_length (d hs os : List Int) : ∀ k, (pairsF d hs os k).length = 2 * k
  | 0 => rfl
  | k + 1 => by
    rw [pairsF, List.length_append, pairsF_length d hs os k]
    unfold pairF; split <;> simp <;> omega

theorem blobB_32 (y : List Int) (h : y.length = 32) : blobB y = 32 :: y := by
  have e : uintB 32 = [32] := by decide +kernel
  rw [blobB, h, e]; rfl
theorem blobsB_32 : ∀ (ys : List (List Int)), (∀ y ∈ ys, y.length = 32) → (blobsB ys).length = 33 * ys.length
  | [], _ => rfl
  | y :: ys, h => by
    rw [blobsB, List.length_append, blobsB_32 ys (fun z hz => h z (List.mem_cons_of_mem _ hz)), blobB_32 y (h y (List.mem_cons_self ..))]
    simp [h y (List.mem_cons_self ..)]; omega
theorem pairsF_32 (d hs os : List Int) (hh : hs.length = 8192) (ho : os.length = 8192) : ∀ k, k ≤ 256 → ∀ y ∈ pairsF d hs os k, y.length = 32
  | 0, _, y, hy => by cases hy
  | k + 1, hk, y, hy => by
    rw [pairsF, List.mem_append] at hy
    rcases hy with hy | hy
    · exact pairsF_32 d hs os hh ho k (by omega) y hy
    · have h1 := chunk_length k hs (by omega)
      have h2 := chunk_length k os (by omega)
      unfold pairF at hy
      split at hy <;> (simp at hy; rcases hy with rfl | rfl <;> assumption)
theorem three_new (w : World) (A B C : Obj) : ((w.alloc A).alloc B |>.alloc C).heap[w.heap.size]? = some A ∧ ((w.alloc A).alloc B |>.alloc C).heap[w.heap.size + 1]? = some B ∧ ((w.alloc A).alloc B |>.alloc C).heap[w.heap.size + 1 + 1]? = some C := by
  have key : ∀ h : Array Obj, (((h.push A).push B).push C)[h.size]? = some A ∧ (((h.push A).push B).push C)[h.size + 1]? = some B ∧ (((h.push A).push B).push C)[h.size + 1 + 1]? = some C := by
    intro h
    have e (a : Array Obj) (x : Obj) (i : Nat) : (a.push x)[i]? = if i = a.size then some x else a[i]? := by rw [Array.getElem?_push]
    refine ⟨?_, ?_, ?_⟩
    · rw [e, if_neg (by simp; omega), e, if_neg (by simp), e, if_pos rfl]
    · rw [e, if_neg (by simp), e, if_pos (by simp)]
    · rw [e, if_pos (by simp)]
  exact key w.heap
theorem info_sl8 : (Try.prog.info? 30).map (fun i => (i.zero, i.size, i.bytes)) = some (some (.slice none 0 0), 1, 24) := by kernel_rfl
theorem SLs.two {k : IntKind} {B : Nat} {w : World} {u u' : Value} {y y' : List Int} (h : SL k w u y) (hl : ∀ g, u.ownBlock = some g → g < B) (h' : SL k w u' y') (hl' : ∀ g, u'.ownBlock = some g → g < B) : SLs k B w [u, u'] [y, y'] := ⟨⟨h, hl⟩, ⟨h', hl'⟩, trivial⟩

set_option maxHeartbeats 2000000 in
theorem lamtext_any (d hs os : List Int) (hd : d.length = 32) (hdb : Bytes d) (hh : hs.length = 8192) (ho : os.length = 8192) (w : World) :
    Calls Try.prog 95 #[.agg (cellsOf .u8 d), .agg (cellsOf .u8 hs), .agg (cellsOf .u8 os)] w (AppPost 5 .u8 w w.heap.size (textB 3 (pairsF d hs os 256))) := by
  go_enter Try.func95, Try.ntmps95
  go_wp2_with fail
  generalize hW : ((w.alloc (Obj.cells (cellsOf IntKind.u8 d) 37)).alloc (Obj.cells (cellsOf IntKind.u8 hs) 56)).alloc (Obj.cells (cellsOf IntKind.u8 os) 56) = W
  have hB : Below w.heap.size w W := by subst hW; exact Joins.below_alloc3 w _ _ _
  have g0 : W.heap[w.heap.size]? = some (.cells (cellsOf .u8 d) 37 (0, 0)) := by subst hW; exact (three_new w _ _ _).1
  have g1 : W.heap[w.heap.size + 1]? = some (.cells (cellsOf .u8 hs) 56 (0, 0)) := by subst hW; exact (three_new w _ _ _).2.1
  have g2 : W.heap[w.heap.size + 1 + 1]? = some (.cells (cellsOf .u8 os) 56 (0, 0)) := by subst hW; exact (three_new w _ _ _).2.2
  have hW3 : W.heap.size = w.heap.size + 3 := by subst hW; simp
  clear hW
  have hB' := Lib.hid hB
  clear hB
  have HW3 := Lib.hid hW3
  clear hW3
  go_loopw [7, 11] (fun s i wr => ∃ (k : Nat) (us : List Value), k ≤ 256 ∧ i = .int .i64 k ∧ OwnV 30 W.heap.size wr s us ∧ SLs .u8 W.heap.size wr us (pairsF d hs os k) ∧ Below W.heap.size W wr)
    (fun _ i _ => 256 - (intOf i).toNat)
  case atStart => exact ⟨0, [], by omega, rfl, OwnV.nil _ _ _, trivial, Below.refl _ _⟩
  case round =>
    obtain ⟨k, us, hk, rfl, hown, hus, hbw⟩ := hrel
    have hsz := hbw.size
    have f0 := (hbw.block _ (by have := HW3.out; omega)).trans g0
    by_cases hlt : k < 256
    · go_wp2_with fail
      go_quiet (fail)
      go_wp2_with (with_reducible refine Stop.slot (d := 20) ?_)
      have e1 : OwnV 30 W.heap.size (wr.drewN nq) u7 us := hown
      have e2 : SLs .u8 W.heap.size (wr.drewN nq) us (pairsF d hs os k) := SLs.below (Joins.below_draws _ _ _) hus
      have e3 : Below W.heap.size W (wr.drewN nq) := hbw.trans (Joins.below_draws _ _ _)
      have e4 : (wr.drewN nq).heap[w.heap.size]? = some (Obj.cells (cellsOf IntKind.u8 d) 37) := f0
      have e5 : W.heap.size ≤ (wr.drewN nq).heap.size := hsz
      generalize wr.drewN nq = w1 at *
      clear hown hus hbw f0 hsz
      refine Stop.go (wpList_load_row rfl 37 _ rfl w.heap.size rfl _ _ _ _ e4 Try.underlying37 rfl ?_ ?_)
      · show _ = some (cellsOf .u8 d).size
        rw [show (cellsOf .u8 d).size = 32 by simp [cellsOf, hd]]
        kernel_rfl
      have h01 := bitF_01 d hdb (k : Int)
      have hsh := SL.chunk (w := w1) (k := k) ((e3.block _ (by have := HW3.out; omega)).trans g1) (by omega)
      have hso := SL.chunk (w := w1) (k := k) ((e3.block _ (by have := HW3.out; omega)).trans g2) (by omega)
      go_wp2_with (go_at_call 32; refine Stop.at_ ?_)
      refine Stop.go ((bit_any d hd hdb _ (by omega) (by omega) _).mono ?_)
      rintro e w2 ⟨rfl, rfl⟩
      have d1 : Below W.heap.size W (w1.alloc (.cells (cellsOf .u8 d) 37)) := e3.alloc e5 _
      have d2 : OwnV 30 W.heap.size (w1.alloc (.cells (cellsOf .u8 d) 37)) u7 us := e1.alloc _
      have d3 : SLs .u8 W.heap.size (w1.alloc (.cells (cellsOf .u8 d) 37)) us (pairsF d hs os k) := SLs.below ((Joins.below_alloc1 _ _).mono e5) e2
      have d4 := hsh.below (Joins.below_alloc1 w1 (.cells (cellsOf .u8 d) 37))
      have d5 := hso.below (Joins.below_alloc1 w1 (.cells (cellsOf .u8 d) 37))
      have d6 : W.heap.size ≤ (w1.alloc (.cells (cellsOf .u8 d) 37)).heap.size := d1.size
      generalize w1.alloc (.cells (cellsOf .u8 d) 37) = w2 at *
      clear e1 e2 e3 e4 e5 hsh hso w1
      have hul := SLs.length d3
      rw [pairsF_length] at hul
      have HUL := Lib.hid hul
      clear hul
      by_cases hbit : bitF d k = 1
      · have hlA : ∀ g, (Value.slice (some ⟨w.heap.size + 1 + 1, k * 32, none⟩) 32 32).ownBlock = some g → g < W.heap.size := fun g hg => by have := HW3.out; simp [Value.ownBlock] at hg; omega
        have hlB : ∀ g, (Value.slice (some ⟨w.heap.size + 1, k * 32, none⟩) 32 32).ownBlock = some g → g < W.heap.size := fun g hg => by have := HW3.out; simp [Value.ownBlock] at hg; omega
        have hpf : pairF d hs os k = [chunk k os, chunk k hs] := if_pos hbit
        have HP := Lib.hid hpf
        clear hpf
        have hb1 : (bitF d k == 1) = true := beq_iff_eq.2 hbit
        clear hbit h01
        go_wp2_with (at_builtin; refine Stop.at_ ?_)
        refine Stop.go (app_ownV rfl (.tmp 26) (.tmp 29) 124 30 (.slice none 0 0) 24 rfl Try.underlying124 info_sl8 rfl W.heap.size _ us rfl (d2.alloc _) _ [_, _] rfl (SV.lit _ rfl (by unfold maxLen; omega) rfl) ?c0 ?c1 ?c2 ?c3 ?_)
        case c0 => intro y hy; simp at hy; rcases hy with rfl | rfl <;> rfl
        case c1 => have := HUL.out; simp only [List.length_cons, List.length_nil]; omega
        case c2 => have := HUL.out; simp only [List.length_cons, List.length_nil]; unfold maxLen; omega
        case c3 => simp; omega
        intro v' w' hown' hb' _
        have hbx := Joins.below_alloc1 w2 (.cells #[.slice (some ⟨w.heap.size + 1 + 1, k * 32, none⟩) 32 32, .slice (some ⟨w.heap.size + 1, k * 32, none⟩) 32 32] 30)
        go_wp2
        go_roundw
        case rel =>
          have hbt := (hbx.mono d6).trans hb'
          refine ⟨k + 1, _, by omega, by go_num, hown', ?_, d1.trans hbt⟩
          rw [pairsF, HP.out]
          exact SLs.below hbt (SLs.append d3 (SLs.two d5 hlA d4 hlB))
        case measure => simp [intOf]; omega
      · have hlB : ∀ g, (Value.slice (some ⟨w.heap.size + 1 + 1, k * 32, none⟩) 32 32).ownBlock = some g → g < W.heap.size := fun g hg => by have := HW3.out; simp [Value.ownBlock] at hg; omega
        have hlA : ∀ g, (Value.slice (some ⟨w.heap.size + 1, k * 32, none⟩) 32 32).ownBlock = some g → g < W.heap.size := fun g hg => by have := HW3.out; simp [Value.ownBlock] at hg; omega
        have hpf : pairF d hs os k = [chunk k hs, chunk k os] := if_neg hbit
        have HP := Lib.hid hpf
        clear hpf
        have hb1 : (bitF d k == 1) = false := beq_eq_false_iff_ne.2 hbit
        clear hbit h01
        go_wp2_with (at_builtin; refine Stop.at_ ?_)
        refine Stop.go (app_ownV rfl (.tmp 26) (.tmp 29) 124 30 (.slice none 0 0) 24 rfl Try.underlying124 info_sl8 rfl W.heap.size _ us rfl (d2.alloc _) _ [_, _] rfl (SV.lit _ rfl (by unfold maxLen; omega) rfl) ?c0 ?c1 ?c2 ?c3 ?_)
        case c0 => intro y hy; simp at hy; rcases hy with rfl | rfl <;> rfl
        case c1 => have := HUL.out; simp only [List.length_cons, List.length_nil]; omega
        case c2 => have := HUL.out; simp only [List.length_cons, List.length_nil]; unfold maxLen; omega
        case c3 => simp; omega
        intro v' w' hown' hb' _
        have hbx := Joins.below_alloc1 w2 (.cells #[.slice (some ⟨w.heap.size + 1, k * 32, none⟩) 32 32, .slice (some ⟨w.heap.size + 1 + 1, k * 32, none⟩) 32 32] 30)
        go_wp2
        go_roundw
        case rel =>
          have hbt := (hbx.mono d6).trans hb'
          refine ⟨k + 1, _, by omega, by go_num, hown', ?_, d1.trans hbt⟩
          rw [pairsF, HP.out]
          exact SLs.below hbt (SLs.append d3 (SLs.two d4 hlA d5 hlB))
        case measure => simp [intOf]; omega
    · obtain rfl : k = 256 := by omega
      go_wp2_with (go_at_call 29; refine Stop.at_ ?_)
      refine Stop.go ((mactext_any 3 _ us _ wr hown.sv W.heap.size hsz hus (by rw [blobsB_32 _ (pairsF_32 d hs os hh ho 256 (by omega)), pairsF_length]; omega)).mono ?_)
      rintro e w2 ⟨v2, rfl, hown2, hb2⟩
      go_wp2
      go_ret
      have hBO := hB'.out
      have := HW3.out
      exact ⟨_, rfl, hown2.mono (by omega), hBO.trans ((hbw.mono (by omega)).trans (hb2.mono (by omega)))⟩
end Go.Proofs.Yteaijjefbadnbaa
