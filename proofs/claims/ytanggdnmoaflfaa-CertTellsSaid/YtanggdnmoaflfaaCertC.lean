/-
  cert.Bytes: a certificate as bytes.
-/
import Derived.Test.YtanggdnmoaflfaaCertB
import Derived.Test.YtanggdnmoaflfaaPk1
namespace Go.Proofs.Ytanggdnmoaflfaa
open Go.RowKit
set_option linter.unusedVariables false
set_option linter.unusedSimpArgs false
set_option maxRecDepth 100000

/-- what Bytes reads -/
def CB (w : World) (key : Int) (root : List Int) (height : Int) (w' : World) : Prop :=
  w'.heap[w.heap.size]? = some (.cells (certCells key root height) 25 (0, 0)) ∧ Below w.heap.size w w'
section
variable {w w' w'' : World} {key height : Int} {root : List Int}
theorem CB.c0 (x : CB w key root height w') : w'.cell? ⟨w.heap.size, 0, none⟩ = some (.int .i64 key) := by rw [Joins.cell_of_block x.1]; exact certCells_key _ _ _
theorem CB.c1 (x : CB w key root height w') (hr : root.length = 32) : w'.cell? ⟨w.heap.size, 33, none⟩ = some (.int .i64 height) := by rw [Joins.cell_of_block x.1]; exact certCells_height _ _ _ hr
theorem CB.lt (x : CB w key root height w') : w.heap.size < w'.heap.size := (Array.getElem?_eq_some_iff.1 x.1).1
theorem CB.sl (x : CB w key root height w') (hr : root.length = 32) : SL .u8 w' (.slice (some ⟨w.heap.size, 1, none⟩) 32 32) root := by
  refine .inr ⟨_, 1, 32, by rw [hr], by omega, by unfold maxLen; omega, x.lt, fun j hj => ?_⟩
  rw [Joins.cell_of_block x.1]
  exact certCells_root _ _ _ hr j (by omega)
theorem CB.alloc (x : CB w key root height w') (o : Obj) : CB w key root height (w'.alloc o) := ⟨(heap_alloc_old w' o x.lt).trans x.1, x.2.alloc (Nat.le_of_lt x.lt) o⟩
theorem CB.mut {v v' : Value} (x : CB w key root height w') (hm : Mut w' w'' v v') (hv : ∀ g, v.ownBlock = some g → w.heap.size < g) : CB w key root height w'' :=
  ⟨(hm.g.block _ x.lt (fun e => by have := hv _ e.symm; omega)).trans x.1, x.2.trans (hm.below (Nat.le_of_lt x.lt) (fun g hg => Nat.le_of_lt (hv g hg)))⟩
end

theorem cert_info : (Try.prog.info? 25).map (·.size) = some 34 := by kernel_rfl

set_option maxHeartbeats 2000000 in
theorem certbytes_any (key height : Int) (root : List Int) (hr : root.length = 32) (w : World) :
    Calls Try.prog 12 #[.agg (certCells key root height)] w (BytesPost w (rightC key height) (([1] ++ uintsB [key, height]) ++ root)) := by
  have hb1 := Joins.below_alloc1 w (.cells (certCells key root height) 25)
  have hc0 : CB w key root height (w.alloc (.cells (certCells key root height) 25)) := ⟨heap_alloc_new w _, hb1⟩
  have hld : (w.alloc (.cells (certCells key root height) 25)).rangeAt w.heap.size 0 (certCells key root height).toList := by
    intro j v hj
    rw [Nat.zero_add, Joins.cell_of_block hc0.1]
    simpa using hj
  have hcs := certCells_size key root height hr
  have hR := certright_any key height root hr
  generalize hcc : certCells key root height = cs at *
  go_enter Try.func12, Try.ntmps12
  go_wp2_with (with_reducible refine Stop.slot (d := 4) ?_)
  refine Stop.go (wpList_load_mid rfl 25 _ rfl w.heap.size 0 (by kernel_rfl) cs.toList _ hld Try.underlying25 rfl (by rw [cert_info]; simp [hcs]) ?_)
  rw [Array.toArray_toList]
  clear hld hcs
  simp only [Act.put, List.setIfInBounds_toArray, List.set_cons_zero, List.set_cons_succ]
  go_wp2_with (go_at_call 16; refine Stop.at_ ?_)
  refine Stop.go ((hR _).mono ?_)
  rintro e w2 ⟨rfl, hb⟩
  have hbz := hb1.trans (hb.mono hb1.size)
  have hc1 : CB w key root height w2 := ⟨(hb.block w.heap.size (by simp)).trans hc0.1, hbz⟩
  subst hcc
  clear hR hc0 hb hb1
  generalize hR : rightC key height = r at *
  cases r
  · clear hc1 hR
    go_wp2
    go_ret2
    exact ⟨hbz, .inl ⟨rfl, rfl⟩⟩
  · simp only [rightC, Bool.and_eq_true, decide_eq_true_eq] at hR
    have HN : Hid ((0:Int) = 0 ∧ ∀ n ∈ [key, height], 0 ≤ n ∧ n ≤ 9223372036854775807) := Lib.hid ⟨rfl, by intro n hn; simp at hn; omega⟩
    have HB : Hid ((([1] ++ uintsB [key, height]).length + root.length) * 1 ≤ 140737488355328 ∧ ([1] ++ uintsB [key, height]).length + root.length ≤ maxLen) := Lib.hid (by
      have := uintsB_len [key, height]
      simp only [List.length_append, List.length_cons, List.length_nil] at *
      unfold maxLen
      omega)
    clear hR hbz
    have s0 : CB w key root height w2.drew := ⟨hc1.1, hc1.2.drew⟩
    clear hc1
    generalize certCells key root height = cs at *
    go_wp2_with fail
    refine wp_region_held (S := CB w key root height) (by kernel_rfl) ?_
    show wpAnyH _ _ _ _ _ 12 _ _ w2.drew
    refine take_val 1 8 rfl rfl (by kernel_rfl) (by kernel_rfl) (by kernel_rfl) (fun _ _ _ _ h => h) rfl (.pointer (some ⟨w.heap.size, 0, none⟩)) (fun w' x => by kernel_rfl) s0 ?_
    simp only [sZ, sS]
    refine take_cell 2 9 rfl rfl (by kernel_rfl) (by kernel_rfl) (by kernel_rfl) (fun _ _ _ _ h => h) rfl 3 _ rfl w.heap.size 0 (.int .i64 key) (by kernel_rfl) (fun w' => by kernel_rfl) (fun w' x => x.c0) s0 ?_
    simp only [sZ, sS]
    refine take_val 3 10 rfl rfl (by kernel_rfl) (by kernel_rfl) (by kernel_rfl) (fun _ _ _ _ h => h) rfl (.pointer (some ⟨w.heap.size, 33, none⟩)) (fun w' x => by kernel_rfl) s0 ?_
    simp only [sZ, sS]
    refine take_cell 4 11 rfl rfl (by kernel_rfl) (by kernel_rfl) (by kernel_rfl) (fun _ _ _ _ h => h) rfl 3 _ rfl w.heap.size 33 (.int .i64 height) (by kernel_rfl) (fun w' => by kernel_rfl) (fun w' x => x.c1 hr) s0 ?_
    simp only [sZ, sS]
    refine take_val 7 14 rfl rfl (by kernel_rfl) (by kernel_rfl) (by kernel_rfl) (fun _ _ _ _ h => h) rfl (.pointer (some ⟨w.heap.size, 1, none⟩)) (fun w' x => by kernel_rfl) s0 ?_
    simp only [sZ, sS]
    refine take_val 8 15 rfl rfl (by kernel_rfl) (by kernel_rfl) (by kernel_rfl) (fun _ _ _ _ h => h) rfl (.slice (some ⟨w.heap.size, 1, none⟩) 32 32) (fun w' x => by kernel_rfl) s0 ?_
    simp only [sZ, sS]
    refine all_new2 0 5 7 12 (by kernel_rfl) rfl rfl rfl rfl (by kernel_rfl) (by kernel_rfl) (.slice (some ⟨w2.drew.heap.size, 0, none⟩) 1 1) (.slice (some ⟨w2.drew.heap.size, 0, none⟩) 2 2)
      (w2.drew.alloc (.cells #[.int .u8 1] 5)) (w2.drew.alloc (.cells #[.int .i64 key, .int .i64 height] 3)) (by kernel_rfl) (by kernel_rfl) ⟨s0.alloc _, ?_⟩ ⟨s0.alloc _, ?_⟩
    all_goals simp only [sZ, sS]
    case' refine_1 =>
      have s1 := s0.alloc (.cells #[.int .u8 1] 5)
      have h1 : Own 5 .u8 (w.heap.size + 1) (w2.drew.alloc (.cells #[.int .u8 1] 5)) (.slice (some ⟨w2.drew.heap.size, 0, none⟩) 1 1) [1] := Own.lit _ _ [1] (by have := s0.lt; omega) (by unfold maxLen; simp) _ rfl
      generalize hw3 : w2.drew.alloc (.cells #[.int .u8 1] 5) = w3 at *
      have hp : w2.drew.heap.size < w3.heap.size := (h1.ge _ rfl).2
      have hp0 := s0.lt
      clear s0 hw3
      generalize w2.drew.heap.size = p at *
      refine all_new1 5 12 rfl rfl (by kernel_rfl) (by kernel_rfl) (.slice (some ⟨w3.heap.size, 0, none⟩) 2 2) (w3.alloc (.cells #[.int .i64 key, .int .i64 height] 3)) (by kernel_rfl) ⟨s1.alloc _, ?_⟩
      simp only [sZ, sS]
      have s2 := s1.alloc (.cells #[.int .i64 key, .int .i64 height] 3)
      have h2 := h1.alloc (.cells #[.int .i64 key, .int .i64 height] 3)
      have h3 : SL .i64 (w3.alloc (.cells #[.int .i64 key, .int .i64 height] 3)) (.slice (some ⟨w3.heap.size, 0, none⟩) 2 2) [key, height] := SL.lit2 rfl rfl
      have hpq : p ≠ w3.heap.size := by omega
      have hq0 : w.heap.size < w3.heap.size := by omega
      clear s1 h1 hp
      generalize w3.alloc (.cells #[.int .i64 key, .int .i64 height] 3) = w4 at *
      generalize w3.heap.size = q at *
    case' refine_2 =>
      have s1 := s0.alloc (.cells #[.int .i64 key, .int .i64 height] 3)
      have h3 : SL .i64 (w2.drew.alloc (.cells #[.int .i64 key, .int .i64 height] 3)) (.slice (some ⟨w2.drew.heap.size, 0, none⟩) 2 2) [key, height] := SL.lit2 rfl rfl
      generalize hw3 : w2.drew.alloc (.cells #[.int .i64 key, .int .i64 height] 3) = w3 at *
      have hp : w2.drew.heap.size < w3.heap.size := h3.lt _ rfl
      have hq0 := s0.lt
      clear s0 hw3
      generalize w2.drew.heap.size = q at *
      refine all_new1 0 7 rfl rfl (by kernel_rfl) (by kernel_rfl) (.slice (some ⟨w3.heap.size, 0, none⟩) 1 1) (w3.alloc (.cells #[.int .u8 1] 5)) (by kernel_rfl) ⟨s1.alloc _, ?_⟩
      simp only [sZ, sS]
      have s2 := s1.alloc (.cells #[.int .u8 1] 5)
      have h3 := h3.below (Joins.below_alloc1 _ (.cells #[.int .u8 1] 5))
      have h2 : Own 5 .u8 (w.heap.size + 1) (w3.alloc (.cells #[.int .u8 1] 5)) (.slice (some ⟨w3.heap.size, 0, none⟩) 1 1) [1] := Own.lit _ _ [1] (by omega) (by unfold maxLen; simp) _ rfl
      have hpq : w3.heap.size ≠ q := by omega
      have hp0 : w.heap.size < w3.heap.size := by omega
      clear s1 hp
      generalize w3.alloc (.cells #[.int .u8 1] 5) = w4 at *
      generalize w3.heap.size = p at *
    all_goals
      refine all_call 6 13 48 #[.slice (some ⟨p, 0, none⟩) 1 1, .slice (some ⟨q, 0, none⟩) 2 2] rfl rfl (by kernel_rfl) (by kernel_rfl) (by kernel_rfl) ?_
      refine (uints_mut (w.heap.size + 1) _ _ [1] [key, height] w4 h2 h3 (fun g hg hg' => hpq ?_) (by have := s2.lt; omega) HN.out.2 (by simp)).mono ?_
      · obtain rfl : q = g := by simpa [Value.ownBlock] using hg
        simpa [Value.ownBlock] using hg'
      rintro en w5 ⟨v5, rfl, h5, hm5⟩
      have s3 := s2.mut hm5 (fun g hg => by have : p = g := by simpa [Value.ownBlock] using hg
                                            omega)
      refine ⟨v5, rfl, s3, ?_⟩
      simp only [sZ, sS]
      clear h2 h3 s2 hm5
      refine all_app 9 16 rfl rfl (by kernel_rfl) rfl _ _ 29 5 .u8 1 rfl (by kernel_rfl) info_u8 (w.heap.size + 1) v5 _ (by kernel_rfl) h5 (.slice (some ⟨w.heap.size, 1, none⟩) 32 32) root (by kernel_rfl) (s3.sl hr) HB.out.1 HB.out.2 (by have := s3.lt; omega) ?_
      intro v6 w6 h6 hm6
      have s4 := s3.mut hm6 (fun g hg => by have := (h5.ge g hg).1; omega)
      refine ⟨s4, ?_⟩
      simp only [sZ, sS]
      clear h5 s3 hm6
      refine take_val 10 2 rfl rfl (by kernel_rfl) (by kernel_rfl) (by kernel_rfl) (fun _ _ _ _ h => h) rfl v6 (fun w' x => by kernel_rfl) s4 ?_
      simp only [sZ, sS]
      refine take_val 11 3 rfl rfl (by kernel_rfl) (by kernel_rfl) (by kernel_rfl) (fun _ _ _ _ h => h) rfl (.int .i64 0) (fun w' x => by kernel_rfl) s4 ?_
      simp only [sZ, sS]
      refine wpAnyH_done (by kernel_rfl) ?_ _
      go_wp2
      go_ret2
      exact ⟨s4.2, .inr ⟨rfl, v6, rfl, h6.mono (by omega)⟩⟩
end Go.Proofs.Ytanggdnmoaflfaa
