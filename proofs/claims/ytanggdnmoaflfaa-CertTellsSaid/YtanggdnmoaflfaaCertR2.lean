/-
  cert.reader: numbers read one behind the other.
-/
import Derived.Test.YtanggdnmoaflfaaCertR
import Derived.Test.YtanggdnmoaflfaaPk1
namespace Go.Proofs.Ytanggdnmoaflfaa
open Go.RowKit
set_option linter.unusedVariables false
set_option linter.unusedSimpArgs false
set_option maxRecDepth 100000

set_option maxHeartbeats 800000 in
theorem where_any (xs : List Int) (v : Value) (A O B at_ : Nat) (ok : Bool) (w : World) (h : Rd xs v A O B at_ ok w) :
    Calls Try.prog 77 #[.pointer (some ⟨A, 0, none⟩), .pointer (some ⟨O, 0, none⟩)] w fun e w' => e = .returned (.tuple #[.int .i64 (at_ : Int), .bool ok]) ∧ ∃ n, w' = w.drewN n := by
  have cO : w.cell? ⟨O, 0, none⟩ = some (.bool ok) := by rw [Joins.cell_of_block h.ho]; rfl
  have cA : w.cell? ⟨A, 0, none⟩ = some (.int .i64 (at_ : Int)) := by rw [Joins.cell_of_block h.ha]; rfl
  clear h
  go_enter Try.func77, Try.ntmps77
  go_wp2
  go_quiet (fail)
  go_wp2
  go_ret2
  exact ⟨rfl, _, rfl⟩

/-- the reader's first byte is in a block of its own -/
def RS (w : World) (v : Value) (xs : List Int) (u : World) : Prop :=
  u.heap[w.heap.size]? = some (.cells #[v] 29 (0, 0)) ∧ SL .u8 u v xs ∧ Below w.heap.size w u
theorem RS.lt {w : World} {v : Value} {xs : List Int} {u : World} (x : RS w v xs u) : w.heap.size < u.heap.size := (Array.getElem?_eq_some_iff.1 x.1).1
theorem RS.alloc {w : World} {v : Value} {xs : List Int} {u : World} (x : RS w v xs u) (o : Obj) : RS w v xs (u.alloc o) :=
  ⟨(heap_alloc_old u o x.lt).trans x.1, x.2.1.below (Joins.below_alloc1 _ _), x.2.2.trans ((Joins.below_alloc1 u o).mono (Nat.le_of_lt x.lt))⟩
theorem RS.drew {w : World} {v : Value} {xs : List Int} {u : World} (x : RS w v xs u) : RS w v xs u.drew := ⟨x.1, x.2.1, x.2.2.drew⟩
theorem RS.set {w : World} {v : Value} {xs : List Int} {u : World} (x : RS w v xs u) (hv : ∀ g, v.ownBlock = some g → g < w.heap.size) (a : Addr) (ha : w.heap.size < a.block) (y : Value) : RS w v xs (u.setCell a y) := by
  have hb : Below a.block u (u.setCell a y) := (Only.setCell u a y).below (Nat.le_refl _)
  exact ⟨(heap_setCell_other u a _ y (by omega)).trans x.1, x.2.1.keep hb (fun g hg => by have := hv g hg; omega), x.2.2.trans (hb.mono (by omega))⟩
/-- What reader makes. -/
def ReaderPost (w : World) (v : Value) (xs : List Int) (ok : Bool) (e : Ending) (w' : World) : Prop :=
  ∃ A O B, e = .returned (.tuple #[.func (.func 75) #[] #[.pointer (some ⟨O, 0, none⟩), .pointer (some ⟨B, 0, none⟩), .pointer (some ⟨A, 0, none⟩)], .func (.func 77) #[] #[.pointer (some ⟨A, 0, none⟩), .pointer (some ⟨O, 0, none⟩)]]) ∧
    Rd xs v A O B 1 ok w' ∧ Below w.heap.size w w' ∧ w.heap.size ≤ A ∧ w.heap.size ≤ O ∧ w.heap.size ≤ B ∧ A < w'.heap.size ∧ O < w'.heap.size
theorem reader_post {w u2 : World} {v : Value} {xs : List Int} {ok : Bool} {A O : Nat} (hb : Bytes xs) (hvl : ∀ g, v.ownBlock = some g → g < w.heap.size) (hok : ok = true → 1 ≤ xs.length) (hAO : A ≠ O) (hAl : w.heap.size < A) (hOl : w.heap.size < O)
    (hA0 : u2.heap[A]? = some (.cells (Value.int .i64 0).cells 3 (0, 0))) (hO0 : u2.heap[O]? = some (.cells (Value.bool false).cells 4 (0, 0))) (s2 : RS w v xs u2) :
    ReaderPost w v xs ok (.returned (.tuple #[.func (.func 75) #[] #[.pointer (some ⟨O, 0, none⟩), .pointer (some ⟨w.heap.size, 0, none⟩), .pointer (some ⟨A, 0, none⟩)], .func (.func 77) #[] #[.pointer (some ⟨A, 0, none⟩), .pointer (some ⟨O, 0, none⟩)]]))
      ((u2.setCell ⟨A, 0, none⟩ (.int .i64 1)).setCell ⟨O, 0, none⟩ (.bool ok)) := by
  have s3 := (s2.set hvl ⟨A, 0, none⟩ hAl (.int .i64 1)).set hvl ⟨O, 0, none⟩ hOl (.bool ok)
  have hO1 : (u2.setCell ⟨A, 0, none⟩ (.int .i64 1)).heap[O]? = some (.cells (Value.bool false).cells 4 (0, 0)) := (heap_setCell_other u2 _ O _ (by simpa using hAO.symm)).trans hO0
  have hA1 := heap_setCell_same u2 A 0 _ _ (.int .i64 1) hA0
  refine ⟨A, O, w.heap.size, rfl, ⟨(heap_setCell_other _ _ A _ (by simpa using hAO)).trans hA1, heap_setCell_same _ O 0 _ _ _ hO1, s3.1, s3.2.1, hok, hb, fun g hg => by have := hvl g hg; omega, hAO, by omega, by omega⟩, s3.2.2, by omega, by omega, Nat.le_refl _, ?_, ?_⟩
  · exact (Array.getElem?_eq_some_iff.1 ((heap_setCell_other _ _ A _ (by simpa using hAO)).trans hA1)).1
  · exact (Array.getElem?_eq_some_iff.1 (heap_setCell_same _ O 0 _ _ (.bool ok) hO1)).1
def okF (xs : List Int) (kind : Int) : Bool := decide (0 < xs.length) && decide (xs.getD 0 0 = kind)

set_option maxHeartbeats 1600000 in
theorem reader_any (v : Value) (xs : List Int) (hb : Bytes xs) (kind : Int) (w : World) (hv : SL .u8 w v xs) :
    Calls Try.prog 53 #[v, .int .u8 kind] w (ReaderPost w v xs (okF xs kind)) := by
  have hvl := hv.lt
  have hv0 := hv
  by_cases hx : 0 < xs.length
  · obtain ⟨b, o, c, rfl, hc1, hc2⟩ := hv.form hx
    have hok : okF xs kind = decide (xs.getD 0 0 = kind) := by rw [okF, decide_eq_true hx, Bool.true_and]
    have hok2 : decide (xs.getD 0 0 = kind) = true → 1 ≤ xs.length := fun _ => hx
    have s0 : RS w (.slice (some ⟨b, o, none⟩) xs.length c) xs (w.alloc (.cells #[.slice (some ⟨b, o, none⟩) xs.length c] 29)) := ⟨heap_alloc_new w _, hv.below (Joins.below_alloc1 _ _), Joins.below_alloc1 _ _⟩
    go_enter Try.func53, Try.ntmps53
    go_wp2_with fail
    refine rg (RS w (.slice (some ⟨b, o, none⟩) xs.length c) xs) 14 s0.drew ?_
    clear s0
    intro u s0
    -- region 1 of cert.reader: 14 operations
    refine tv 0 9 (.slice (some ⟨b, o, none⟩) xs.length c) (fun _ x => Val.cell 29 _ rfl w.heap.size 0 _ (by kernel_rfl) (fun _ => (by kernel_rfl)) (by rw [Joins.cell_of_block x.1]; rfl)) s0 ?_
    simp only [sZ, sS]
    refine tv 1 10 (.int .i64 (xs.length : Int)) (fun _ _ => .of) s0 ?_
    simp only [sZ, sS]
    refine tv 2 11 (.bool true) (fun _ x => Val.cmp .gtr 3 _ (.tmp 10) _ rfl .i64 (xs.length : Int) 0 (by kernel_rfl) (by kernel_rfl) (by simp) _ (decide_eq_true (by omega))) s0 ?_
    simp only [sZ, sS]
    refine tv 3 12 (.bool true) (fun _ _ => .of) s0 ?_
    simp only [sZ, sS]
    refine tv 4 13 (.slice (some ⟨b, o, none⟩) xs.length c) (fun _ x => Val.cell 29 _ rfl w.heap.size 0 _ (by kernel_rfl) (fun _ => (by kernel_rfl)) (by rw [Joins.cell_of_block x.1]; rfl)) s0 ?_
    simp only [sZ, sS]
    refine tv 5 14 (.pointer (some ⟨b, o + 0 * 1, none⟩)) (fun _ x => Val.idxS 29 (.tmp 13) _ rfl b o xs.length c 0 (by kernel_rfl) (by kernel_rfl) 1 Try.underlying29 (by kernel_rfl) (by omega)) s0 ?_
    simp only [sZ, sS]
    refine tv 6 15 (.int .u8 (xs.getD 0 0)) (fun _ x => Val.cell 5 _ rfl b (o + 0 * 1) _ (by kernel_rfl) (fun _ => (by kernel_rfl)) (x.2.1.at 0 hx)) s0 ?_
    simp only [sZ, sS]
    refine tv 7 16 (.int .u8 kind) (fun _ _ => .of) s0 ?_
    simp only [sZ, sS]
    refine tv 8 17 (.bool (decide ((xs.getD 0 0) = kind))) (fun _ x => Val.cmp .eql 5 _ (.tmp 15) (.tmp 16) rfl .u8 (xs.getD 0 0) kind (by kernel_rfl) (by kernel_rfl) (by simp) _ rfl) s0 ?_
    simp only [sZ, sS]
    refine tv 9 18 (.bool (decide ((xs.getD 0 0) = kind))) (fun _ _ => .of) s0 ?_
    simp only [sZ, sS]
    refine a2 10 11 rfl rfl ?_ ?_
    · refine wp_alloc (by kernel_rfl) 3 rfl (.int .i64 0) (by kernel_rfl) ?_
      refine e1 6 _ 10 (s0.alloc _) ?_
      simp only [sZ, sS]
      refine a1 11 rfl ?_
      refine wp_alloc (by kernel_rfl) 4 rfl (.bool false) (by kernel_rfl) ?_
      have s2 := (s0.alloc (.cells (Value.int .i64 0).cells 3)).alloc (.cells (Value.bool false).cells 4)
      refine e1 7 _ 11 s2 ?_
      simp only [sZ, sS]
      have hA0 := heap_alloc_old (u.alloc (.cells (Value.int .i64 0).cells 3)) (.cells (Value.bool false).cells 4) (r := u.heap.size) (by simp)
      rw [heap_alloc_new] at hA0
      have hO0 := heap_alloc_new (u.alloc (.cells (Value.int .i64 0).cells 3)) (.cells (Value.bool false).cells 4)
      generalize (u.alloc (.cells (Value.int .i64 0).cells 3)).alloc (.cells (Value.bool false).cells 4) = u2 at *
      have hne : u.heap.size ≠ (u.alloc (.cells (Value.int .i64 0).cells 3)).heap.size := by simp
      have hOl : w.heap.size < (u.alloc (.cells (Value.int .i64 0).cells 3)).heap.size := by have := s0.lt; simp; omega
      have hAl := s0.lt
      generalize (u.alloc (.cells (Value.int .i64 0).cells 3)).heap.size = O at *
      generalize u.heap.size = A at *
      refine a1 12 rfl ?_
      refine wp_store1 (by kernel_rfl) 3 _ _ rfl rfl A 0 (.int .i64 1) (.int .i64 0) (by kernel_rfl) (by kernel_rfl) rfl (by kernel_rfl) (by rw [Joins.cell_of_block hA0]; rfl) (Joins.unfrozen_of_block hA0 0) ?_
      refine e0 12 (s2.set hvl ⟨A, 0, none⟩ hAl _) ?_
      have hO1 : (u2.setCell ⟨A, 0, none⟩ (.int .i64 1)).heap[O]? = some (.cells (Value.bool false).cells 4 (0, 0)) := (heap_setCell_other u2 _ O _ (by simp; omega)).trans hO0
      refine a1 13 rfl ?_
      refine wp_store1 (by kernel_rfl) 4 _ _ rfl rfl O 0 (.bool (decide (xs.getD 0 0 = kind))) (.bool false) (by kernel_rfl) (by kernel_rfl) rfl (by kernel_rfl) (by rw [Joins.cell_of_block hO1]; rfl) (Joins.unfrozen_of_block hO1 0) ?_
      refine e0 13 ((s2.set hvl ⟨A, 0, none⟩ hAl _).set hvl ⟨O, 0, none⟩ hOl _) ?_
      refine wpAnyH_done (by kernel_rfl) ?_ _
      have hp := reader_post (ok := decide (xs.getD 0 0 = kind)) hb hvl hok2 (by omega) hAl hOl hA0 hO0 s2
      clear hA0 hO0 hO1 s2 s0 hv0
      generalize (u2.setCell ⟨A, 0, none⟩ (.int .i64 1)).setCell ⟨O, 0, none⟩ (.bool (decide (xs.getD 0 0 = kind))) = u3 at *
      generalize w.heap.size = B at hp ⊢
      go_wp2
      go_ret2
      rw [hok]
      exact hp
    · refine wp_alloc (by kernel_rfl) 4 rfl (.bool false) (by kernel_rfl) ?_
      refine e1 7 _ 11 (s0.alloc _) ?_
      simp only [sZ, sS]
      refine a1 10 rfl ?_
      refine wp_alloc (by kernel_rfl) 3 rfl (.int .i64 0) (by kernel_rfl) ?_
      have s2 := (s0.alloc (.cells (Value.bool false).cells 4)).alloc (.cells (Value.int .i64 0).cells 3)
      refine e1 6 _ 10 s2 ?_
      simp only [sZ, sS]
      have hO0 := heap_alloc_old (u.alloc (.cells (Value.bool false).cells 4)) (.cells (Value.int .i64 0).cells 3) (r := u.heap.size) (by simp)
      rw [heap_alloc_new] at hO0
      have hA0 := heap_alloc_new (u.alloc (.cells (Value.bool false).cells 4)) (.cells (Value.int .i64 0).cells 3)
      generalize (u.alloc (.cells (Value.bool false).cells 4)).alloc (.cells (Value.int .i64 0).cells 3) = u2 at *
      have hne : u.heap.size ≠ (u.alloc (.cells (Value.bool false).cells 4)).heap.size := by simp
      have hAl : w.heap.size < (u.alloc (.cells (Value.bool false).cells 4)).heap.size := by have := s0.lt; simp; omega
      have hOl := s0.lt
      generalize (u.alloc (.cells (Value.bool false).cells 4)).heap.size = A at *
      generalize u.heap.size = O at *
      refine a1 12 rfl ?_
      refine wp_store1 (by kernel_rfl) 3 _ _ rfl rfl A 0 (.int .i64 1) (.int .i64 0) (by kernel_rfl) (by kernel_rfl) rfl (by kernel_rfl) (by rw [Joins.cell_of_block hA0]; rfl) (Joins.unfrozen_of_block hA0 0) ?_
      refine e0 12 (s2.set hvl ⟨A, 0, none⟩ hAl _) ?_
      have hO1 : (u2.setCell ⟨A, 0, none⟩ (.int .i64 1)).heap[O]? = some (.cells (Value.bool false).cells 4 (0, 0)) := (heap_setCell_other u2 _ O _ (by simp; omega)).trans hO0
      refine a1 13 rfl ?_
      refine wp_store1 (by kernel_rfl) 4 _ _ rfl rfl O 0 (.bool (decide (xs.getD 0 0 = kind))) (.bool false) (by kernel_rfl) (by kernel_rfl) rfl (by kernel_rfl) (by rw [Joins.cell_of_block hO1]; rfl) (Joins.unfrozen_of_block hO1 0) ?_
      refine e0 13 ((s2.set hvl ⟨A, 0, none⟩ hAl _).set hvl ⟨O, 0, none⟩ hOl _) ?_
      refine wpAnyH_done (by kernel_rfl) ?_ _
      have hp := reader_post (ok := decide (xs.getD 0 0 = kind)) hb hvl hok2 (by omega) hAl hOl hA0 hO0 s2
      clear hA0 hO0 hO1 s2 s0 hv0
      generalize (u2.setCell ⟨A, 0, none⟩ (.int .i64 1)).setCell ⟨O, 0, none⟩ (.bool (decide (xs.getD 0 0 = kind))) = u3 at *
      generalize w.heap.size = B at hp ⊢
      go_wp2
      go_ret2
      rw [hok]
      exact hp
  · obtain ⟨a, c, rfl, hm⟩ := hv.len
    have hl : xs.length = 0 := by omega
    have hok : okF xs kind = false := by rw [okF, decide_eq_false hx, Bool.false_and]
    have hok2 : false = true → 1 ≤ xs.length := fun h => by cases h
    rw [hl] at hv hvl hv0 ⊢
    have s0 : RS w (.slice a 0 c) xs (w.alloc (.cells #[.slice a 0 c] 29)) := ⟨heap_alloc_new w _, hv0.below (Joins.below_alloc1 _ _), Joins.below_alloc1 _ _⟩
    go_enter Try.func53, Try.ntmps53
    go_wp2_with fail
    refine rg (RS w (.slice a 0 c) xs) 14 s0.drew ?_
    clear s0
    intro u s0
    -- region 1 of cert.reader: 14 operations
    refine tv 0 9 (.slice a 0 c) (fun _ x => Val.cell 29 _ rfl w.heap.size 0 _ (by kernel_rfl) (fun _ => (by kernel_rfl)) (by rw [Joins.cell_of_block x.1]; rfl)) s0 ?_
    simp only [sZ, sS]
    refine tv 1 10 (.int .i64 (0 : Int)) (fun _ _ => .of) s0 ?_
    simp only [sZ, sS]
    refine tv 2 11 (.bool false) (fun _ x => Val.cmp .gtr 3 _ (.tmp 10) _ rfl .i64 (0 : Int) 0 (by kernel_rfl) (by kernel_rfl) (by simp) _ rfl) s0 ?_
    simp only [sZ, sS]
    refine tv 3 12 (.bool false) (fun _ _ => .of) s0 ?_
    simp only [sZ, sS]
    refine ts 4 13 s0 ?_
    simp only [sZ, sS]
    refine ts 5 14 s0 ?_
    simp only [sZ, sS]
    refine ts 6 15 s0 ?_
    simp only [sZ, sS]
    refine ts 7 16 s0 ?_
    simp only [sZ, sS]
    refine ts 8 17 s0 ?_
    simp only [sZ, sS]
    refine tv 9 18 (.bool false) (fun _ _ => .of) s0 ?_
    simp only [sZ, sS]
    refine a2 10 11 rfl rfl ?_ ?_
    · refine wp_alloc (by kernel_rfl) 3 rfl (.int .i64 0) (by kernel_rfl) ?_
      refine e1 6 _ 10 (s0.alloc _) ?_
      simp only [sZ, sS]
      refine a1 11 rfl ?_
      refine wp_alloc (by kernel_rfl) 4 rfl (.bool false) (by kernel_rfl) ?_
      have s2 := (s0.alloc (.cells (Value.int .i64 0).cells 3)).alloc (.cells (Value.bool false).cells 4)
      refine e1 7 _ 11 s2 ?_
      simp only [sZ, sS]
      have hA0 := heap_alloc_old (u.alloc (.cells (Value.int .i64 0).cells 3)) (.cells (Value.bool false).cells 4) (r := u.heap.size) (by simp)
      rw [heap_alloc_new] at hA0
      have hO0 := heap_alloc_new (u.alloc (.cells (Value.int .i64 0).cells 3)) (.cells (Value.bool false).cells 4)
      generalize (u.alloc (.cells (Value.int .i64 0).cells 3)).alloc (.cells (Value.bool false).cells 4) = u2 at *
      have hne : u.heap.size ≠ (u.alloc (.cells (Value.int .i64 0).cells 3)).heap.size := by simp
      have hOl : w.heap.size < (u.alloc (.cells (Value.int .i64 0).cells 3)).heap.size := by have := s0.lt; simp; omega
      have hAl := s0.lt
      generalize (u.alloc (.cells (Value.int .i64 0).cells 3)).heap.size = O at *
      generalize u.heap.size = A at *
      refine a1 12 rfl ?_
      refine wp_store1 (by kernel_rfl) 3 _ _ rfl rfl A 0 (.int .i64 1) (.int .i64 0) (by kernel_rfl) (by kernel_rfl) rfl (by kernel_rfl) (by rw [Joins.cell_of_block hA0]; rfl) (Joins.unfrozen_of_block hA0 0) ?_
      refine e0 12 (s2.set hvl ⟨A, 0, none⟩ hAl _) ?_
      have hO1 : (u2.setCell ⟨A, 0, none⟩ (.int .i64 1)).heap[O]? = some (.cells (Value.bool false).cells 4 (0, 0)) := (heap_setCell_other u2 _ O _ (by simp; omega)).trans hO0
      refine a1 13 rfl ?_
      refine wp_store1 (by kernel_rfl) 4 _ _ rfl rfl O 0 (.bool (false)) (.bool false) (by kernel_rfl) (by kernel_rfl) rfl (by kernel_rfl) (by rw [Joins.cell_of_block hO1]; rfl) (Joins.unfrozen_of_block hO1 0) ?_
      refine e0 13 ((s2.set hvl ⟨A, 0, none⟩ hAl _).set hvl ⟨O, 0, none⟩ hOl _) ?_
      refine wpAnyH_done (by kernel_rfl) ?_ _
      have hp := reader_post (ok := false) hb hvl hok2 (by omega) hAl hOl hA0 hO0 s2
      clear hA0 hO0 hO1 s2 s0 hv0
      generalize (u2.setCell ⟨A, 0, none⟩ (.int .i64 1)).setCell ⟨O, 0, none⟩ (.bool (false)) = u3 at *
      generalize w.heap.size = B at hp ⊢
      go_wp2
      go_ret2
      rw [hok]
      exact hp
    · refine wp_alloc (by kernel_rfl) 4 rfl (.bool false) (by kernel_rfl) ?_
      refine e1 7 _ 11 (s0.alloc _) ?_
      simp only [sZ, sS]
      refine a1 10 rfl ?_
      refine wp_alloc (by kernel_rfl) 3 rfl (.int .i64 0) (by kernel_rfl) ?_
      have s2 := (s0.alloc (.cells (Value.bool false).cells 4)).alloc (.cells (Value.int .i64 0).cells 3)
      refine e1 6 _ 10 s2 ?_
      simp only [sZ, sS]
      have hO0 := heap_alloc_old (u.alloc (.cells (Value.bool false).cells 4)) (.cells (Value.int .i64 0).cells 3) (r := u.heap.size) (by simp)
      rw [heap_alloc_new] at hO0
      have hA0 := heap_alloc_new (u.alloc (.cells (Value.bool false).cells 4)) (.cells (Value.int .i64 0).cells 3)
      generalize (u.alloc (.cells (Value.bool false).cells 4)).alloc (.cells (Value.int .i64 0).cells 3) = u2 at *
      have hne : u.heap.size ≠ (u.alloc (.cells (Value.bool false).cells 4)).heap.size := by simp
      have hAl : w.heap.size < (u.alloc (.cells (Value.bool false).cells 4)).heap.size := by have := s0.lt; simp; omega
      have hOl := s0.lt
      generalize (u.alloc (.cells (Value.bool false).cells 4)).heap.size = A at *
      generalize u.heap.size = O at *
      refine a1 12 rfl ?_
      refine wp_store1 (by kernel_rfl) 3 _ _ rfl rfl A 0 (.int .i64 1) (.int .i64 0) (by kernel_rfl) (by kernel_rfl) rfl (by kernel_rfl) (by rw [Joins.cell_of_block hA0]; rfl) (Joins.unfrozen_of_block hA0 0) ?_
      refine e0 12 (s2.set hvl ⟨A, 0, none⟩ hAl _) ?_
      have hO1 : (u2.setCell ⟨A, 0, none⟩ (.int .i64 1)).heap[O]? = some (.cells (Value.bool false).cells 4 (0, 0)) := (heap_setCell_other u2 _ O _ (by simp; omega)).trans hO0
      refine a1 13 rfl ?_
      refine wp_store1 (by kernel_rfl) 4 _ _ rfl rfl O 0 (.bool (false)) (.bool false) (by kernel_rfl) (by kernel_rfl) rfl (by kernel_rfl) (by rw [Joins.cell_of_block hO1]; rfl) (Joins.unfrozen_of_block hO1 0) ?_
      refine e0 13 ((s2.set hvl ⟨A, 0, none⟩ hAl _).set hvl ⟨O, 0, none⟩ hOl _) ?_
      refine wpAnyH_done (by kernel_rfl) ?_ _
      have hp := reader_post (ok := false) hb hvl hok2 (by omega) hAl hOl hA0 hO0 s2
      clear hA0 hO0 hO1 s2 s0 hv0
      generalize (u2.setCell ⟨A, 0, none⟩ (.int .i64 1)).setCell ⟨O, 0, none⟩ (.bool (false)) = u3 at *
      generalize w.heap.size = B at hp ⊢
      go_wp2
      go_ret2
      rw [hok]
      exact hp
end Go.Proofs.Ytanggdnmoaflfaa
