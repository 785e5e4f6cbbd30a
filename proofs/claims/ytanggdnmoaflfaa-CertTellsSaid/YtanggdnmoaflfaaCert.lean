/-
  cert.RightList, cert.Has and what they call: lists of keys that rise.
  No conditions but that the list fits.
-/
import Derived.Test.YtanggdnmoaflfaaPk1
import Derived.Test.YtanggdnmoaflfaaRows
namespace Go.Proofs.Ytanggdnmoaflfaa
open Go.RowKit
set_option linter.unusedVariables false
set_option linter.unusedSimpArgs false
set_option maxRecDepth 100000

/-- Each number is above the one before it, and none above the greatest key. -/
def goodB : Int → List Int → Bool
  | _, [] => true
  | p, x :: xs => decide (p < x) && decide (x ≤ 1048576) && goodB x xs
/-- What stands ahead of place k. -/
def prevF (xs : List Int) : Nat → Int
  | 0 => 0
  | k + 1 => xs.getD k 0
theorem goodB_drop (xs : List Int) (k : Nat) (hk : k < xs.length) : goodB (prevF xs k) (xs.drop k) = (decide (prevF xs k < xs.getD k 0) && decide (xs.getD k 0 ≤ 1048576) && goodB (prevF xs (k + 1)) (xs.drop (k + 1))) := by
  rw [List.drop_eq_getElem_cons hk]
  simp [goodB, prevF, hk]

set_option maxHeartbeats 400000 in
theorem wrong_any (k last : Int) (L : Nat) (w : World) (hc : w.cell? ⟨L, 0, none⟩ = some (.int .i64 last)) (hf : w.frozen? ⟨L, 0, none⟩ = false) :
    Calls Try.prog 50 #[.int .i64 k, .pointer (some ⟨L, 0, none⟩)] w fun e w' => e = .returned (.bool (!(decide (last < k) && decide (k ≤ 1048576)))) ∧ w' = w.setCell ⟨L, 0, none⟩ (.int .i64 k) := by
  by_cases h : k ≤ last
  · have h' : ¬ last < k := by omega
    go_enter Try.func50, Try.ntmps50
    go_wp2
    go_ret
    exact ⟨by simp [h'], rfl⟩
  · have h' : last < k := by omega
    go_enter Try.func50, Try.ntmps50
    go_wp2
    go_ret
    refine ⟨congrArg Ending.returned (congrArg Value.bool ?_), rfl⟩
    by_cases hq : k ≤ 1048576
    · have : ¬ 1048576 < k := by omega
      simp [hq, this]
    · have : 1048576 < k := by omega
      simp [hq, this]

def IdxPost (w : World) (L : Nat) (b : Bool) (e : Ending) (w' : World) : Prop :=
  ∃ r : Int, e = .returned (.int .i64 r) ∧ (decide (0 ≤ r) = !b) ∧ Only L w w'

set_option maxHeartbeats 800000 in
theorem idxwrong_any (v : Value) (xs : List Int) (L : Nat) (w : World) (hv : SL .i64 w v xs) (hL : ∀ g, v.ownBlock = some g → g < L) (hc : w.heap[L]? = some (.cells #[.int .i64 0] 3 (0, 0))) :
    Calls Try.prog 73 #[v, .func (.func 50) #[] #[.pointer (some ⟨L, 0, none⟩)]] w (IdxPost w L (goodB 0 xs)) := by
  obtain ⟨a, c, rfl, hm⟩ := hv.len
  have HM := Lib.hid hm
  clear hm
  go_enter Try.func73, Try.ntmps73
  go_wp2_with fail
  go_loopw [8] (fun i wr => ∃ k : Nat, k ≤ xs.length ∧ i = .int .i64 k ∧ goodB 0 xs = goodB (prevF xs k) (xs.drop k) ∧ wr.heap[L]? = some (.cells #[.int .i64 (prevF xs k)] 3 (0, 0)) ∧ Only L w wr)
    (fun i _ => xs.length - (intOf i).toNat)
  case atStart => exact ⟨0, by omega, rfl, rfl, hc, Only.refl _ _⟩
  case round =>
    obtain ⟨k, hk, rfl, hg, hcl, ho⟩ := hrel
    have HG := Lib.hid hg
    clear hg hc
    have hm2 : xs.length ≤ 9223372036854775807 := HM.out
    by_cases hlt : k < xs.length
    · have hvr := hv.keep (ho.below (Nat.le_refl _)) hL
      rcases hvr with ⟨h1, h2⟩ | ⟨b, of, c', h1, h2, h3, h4, h5⟩
      · subst h2; simp at hlt
      · simp only [Value.slice.injEq] at h1
        obtain ⟨rfl, _, rfl⟩ := h1
        have hd := goodB_drop xs k hlt
        have HD := Lib.hid hd
        clear hd
        have hcell := h5 k hlt
        have hlast : wr.cell? ⟨L, 0, none⟩ = some (.int .i64 (prevF xs k)) := by rw [Joins.cell_of_block hcl]; rfl
        have hfr : wr.frozen? ⟨L, 0, none⟩ = false := Joins.unfrozen_of_block hcl 0
        have hst : (wr.setCell ⟨L, 0, none⟩ (.int .i64 (xs.getD k 0))).heap[L]? = some (.cells #[.int .i64 (xs.getD k 0)] 3 (0, 0)) := Joins.block_setCell (i := 0) hcl _
        have hon : Only L w (wr.setCell ⟨L, 0, none⟩ (.int .i64 (xs.getD k 0))) := ho.trans (Only.setCell wr ⟨L, 0, none⟩ _)
        have hp : prevF xs (k + 1) = xs.getD k 0 := rfl
        have HP := Lib.hid hp
        clear hp h5 h4 h3 h2 hcl ho hv hL
        generalize xs.getD k 0 = x at *
        go_wp2_with (go_at_call 50; refine Stop.at_ ?_)
        refine Stop.go ((wrong_any x _ L wr hlast hfr).mono ?_)
        rintro e w2 ⟨rfl, rfl⟩
        generalize wr.setCell ⟨L, 0, none⟩ (.int .i64 x) = w2 at *
        by_cases hb : (decide (prevF xs k < x) && decide (x ≤ 1048576)) = true
        · rw [hb]
          go_wp2
          go_roundw
          case rel => exact ⟨k + 1, by omega, by go_num, by rw [HG.out, HD.out, HP.out, hb]; rfl, by rw [HP.out]; exact hst, hon⟩
          case measure => simp [intOf]; omega
        · have hb' : (decide (prevF xs k < x) && decide (x ≤ 1048576)) = false := by simpa using hb
          rw [hb']
          go_wp2
          go_ret
          exact ⟨_, rfl, by rw [HG.out, HD.out, hb']; simp, hon⟩
    · go_wp2
      go_ret
      refine ⟨_, rfl, ?_, ho⟩
      obtain rfl : k = xs.length := by omega
      rw [HG.out, List.drop_length]
      rfl

def BoolPost (w : World) (B : Nat) (b : Bool) (e : Ending) (w' : World) : Prop := e = .returned (.bool b) ∧ Below B w w'

set_option maxHeartbeats 400000 in
theorem containsfunc_any (v : Value) (xs : List Int) (L : Nat) (w : World) (hv : SL .i64 w v xs) (hL : ∀ g, v.ownBlock = some g → g < L) (hc : w.heap[L]? = some (.cells #[.int .i64 0] 3 (0, 0))) :
    Calls Try.prog 51 #[v, .func (.func 50) #[] #[.pointer (some ⟨L, 0, none⟩)]] w (BoolPost w L (!goodB 0 xs)) := by
  go_enter Try.func51, Try.ntmps51
  go_wp2_with (go_at_call 73; refine Stop.at_ ?_)
  refine Stop.go ((idxwrong_any v xs L w hv hL hc).mono ?_)
  rintro e w2 ⟨r, rfl, hr, ho⟩
  have HR := Lib.hid hr
  clear hr hc
  go_wp2
  go_ret
  exact ⟨congrArg Ending.returned (congrArg Value.bool HR.out), ho.below (Nat.le_refl _)⟩

def IdxOf (x : Int) (xs : List Int) (w : World) (e : Ending) (w' : World) : Prop :=
  ∃ r : Int, e = .returned (.int .i64 r) ∧ (decide (0 ≤ r) = decide (x ∈ xs)) ∧ w = w'
theorem mem_take_succ (x : Int) (xs : List Int) (k : Nat) (hk : k < xs.length) : x ∈ xs.take (k + 1) ↔ x ∈ xs.take k ∨ x = xs.getD k 0 := by
  rw [List.take_succ_eq_append_getElem hk, List.mem_append]
  simp [hk]

set_option maxHeartbeats 400000 in
theorem index_any (v : Value) (xs : List Int) (x : Int) (w : World) (hv : SL .i64 w v xs) :
    Calls Try.prog 74 #[v, .int .i64 x] w (IdxOf x xs w) := by
  obtain ⟨a, c, rfl, hm⟩ := hv.len
  have HM := Lib.hid hm
  clear hm
  go_enter Try.func74, Try.ntmps74
  go_wp2_with fail
  go_loop [8] (fun i => ∃ k : Nat, k ≤ xs.length ∧ i = .int .i64 k ∧ Hid (¬ x ∈ xs.take k)) (fun i => xs.length - (intOf i).toNat)
  case atStart => exact ⟨0, by omega, rfl, Lib.hid (by simp)⟩
  case round =>
    obtain ⟨k, hk, rfl, hn⟩ := hrel
    have hm2 : xs.length ≤ 9223372036854775807 := HM.out
    by_cases hlt : k < xs.length
    · rcases hv with ⟨h1, h2⟩ | ⟨b, of, c', h1, h2, h3, h4, h5⟩
      · subst h2; simp at hlt
      · simp only [Value.slice.injEq] at h1
        obtain ⟨rfl, _, rfl⟩ := h1
        have hcell := h5 k hlt
        have hs := mem_take_succ x xs k hlt
        have HS := Lib.hid hs
        clear hs h5 h4 h3 h2
        generalize xs.getD k 0 = y at *
        by_cases hxy : x = y
        · have hb : (x == y) = true := beq_iff_eq.2 hxy
          have HX := Lib.hid hxy
          clear hxy
          go_wp2
          go_ret
          refine ⟨_, rfl, ?_, rfl⟩
          have hmem : x ∈ xs := List.mem_of_mem_take (HS.out.2 (.inr HX.out))
          simp [hmem]
        · have hb : (x == y) = false := beq_eq_false_iff_ne.2 hxy
          have HX := Lib.hid hxy
          clear hxy
          go_wp2
          go_round
          case rel => exact ⟨k + 1, by omega, by go_num, Lib.hid (fun h => (HS.out.1 h).elim hn.out HX.out)⟩
          case measure => simp [intOf]; omega
    · go_wp2
      go_ret
      obtain rfl : k = xs.length := by omega
      have h := hn.out
      rw [List.take_length] at h
      refine ⟨_, rfl, ?_, rfl⟩
      simp [h]

set_option maxHeartbeats 400000 in
theorem contains_any (v : Value) (xs : List Int) (x : Int) (w : World) (hv : SL .i64 w v xs) :
    Calls Try.prog 52 #[v, .int .i64 x] w fun e w' => e = .returned (.bool (decide (x ∈ xs))) ∧ w = w' := by
  go_enter Try.func52, Try.ntmps52
  go_wp2_with (go_at_call 74; refine Stop.at_ ?_)
  refine Stop.go ((index_any v xs x w hv).mono ?_)
  rintro e w2 ⟨r, rfl, hr, rfl⟩
  have HR := Lib.hid hr
  clear hr
  go_wp2
  go_ret
  exact ⟨congrArg Ending.returned (congrArg Value.bool HR.out), rfl⟩

/-- A right list. -/
def rightL (seq : Int) (xs : List Int) : Bool := decide (0 ≤ seq) && decide (seq ≤ 1073741824) && decide (xs.length ≤ 50) && goodB 0 xs

set_option maxHeartbeats 800000 in
theorem rightlist_any (seq : Int) (v : Value) (xs : List Int) (w : World) (hv : SL .i64 w v xs) :
    Calls Try.prog 18 #[.agg #[.int .i64 seq, v]] w (BoolPost w w.heap.size (rightL seq xs)) := by
  obtain ⟨a, c, rfl, hm⟩ := hv.len
  have HM := Lib.hid hm
  clear hm
  have hlt := hv.lt
  have hb2 := Joins.below_alloc2 w (.cells #[.int .i64 seq, .slice a xs.length c] 28) (.cells #[.int .i64 0] 3)
  by_cases h1 : 0 ≤ seq
  · by_cases h2 : seq ≤ 1073741824
    · by_cases h3 : xs.length ≤ 50
      · have hr : rightL seq xs = goodB 0 xs := by simp [rightL, h1, h2, h3]
        have HR := Lib.hid hr
        clear hr
        go_enter Try.func18, Try.ntmps18
        go_wp2_with (go_at_call 51; refine Stop.at_ ?_)
        refine Stop.go ((containsfunc_any _ xs (w.heap.size + 1) _ (hv.below hb2) (fun g hg => Nat.lt_succ_of_lt (hlt g hg)) (heap_alloc2_new w _ _)).mono ?_)
        rintro e w2 ⟨rfl, ho⟩
        have hbz := hb2.trans (ho.mono (Nat.le_succ _))
        clear ho hb2 hlt hv
        generalize goodB 0 xs = g at *
        go_wp2
        go_ret
        exact ⟨by rw [HR.out]; simp, hbz⟩
      · have hr : rightL seq xs = false := by simp [rightL, h1, h2, h3]
        have HR := Lib.hid hr
        clear hr hlt hv
        go_enter Try.func18, Try.ntmps18
        go_wp2
        go_ret
        exact ⟨by rw [HR.out]; rfl, hb2⟩
    · have hr : rightL seq xs = false := by simp [rightL, h1, h2]
      have HR := Lib.hid hr
      clear hr hlt hv
      go_enter Try.func18, Try.ntmps18
      go_wp2
      go_ret
      exact ⟨by rw [HR.out]; rfl, hb2⟩
  · have hr : rightL seq xs = false := by simp [rightL, h1]
    have HR := Lib.hid hr
    clear hr hlt hv
    go_enter Try.func18, Try.ntmps18
    go_wp2
    go_ret
    exact ⟨by rw [HR.out]; rfl, hb2⟩

set_option maxHeartbeats 800000 in
theorem has_any (seq : Int) (v : Value) (xs : List Int) (key : Int) (w : World) (hv : SL .i64 w v xs) :
    Calls Try.prog 20 #[.agg #[.int .i64 seq, v], .int .i64 key] w (BoolPost w w.heap.size (rightL seq xs && decide (key ∈ xs))) := by
  obtain ⟨a, c, rfl, hm⟩ := hv.len
  clear hm
  have hb1 := Joins.below_alloc1 w (.cells #[.int .i64 seq, .slice a xs.length c] 28)
  have hv1 := hv.below hb1
  have hc0 : (w.alloc (.cells #[.int .i64 seq, .slice a xs.length c] 28)).heap[w.heap.size]? = some (.cells #[.int .i64 seq, .slice a xs.length c] 28 (0, 0)) := heap_alloc_new w _
  go_enter Try.func20, Try.ntmps20
  go_wp2_with (go_at_call 18; refine Stop.at_ ?_)
  refine Stop.go ((rightlist_any seq _ xs _ hv1).mono ?_)
  rintro e w2 ⟨rfl, hb⟩
  have hv2 := hv1.below hb
  have hbz := hb1.trans (hb.mono hb1.size)
  have hc1 := (hb.block w.heap.size (by simp)).trans hc0
  have hcell : w2.cell? ⟨w.heap.size, 1, none⟩ = some (.slice a xs.length c) := by rw [Joins.cell_of_block hc1]; rfl
  clear hc0 hc1 hb hb1 hv1 hv
  generalize rightL seq xs = r at *
  cases r
  · clear hv2 hcell
    go_wp2
    go_ret
    exact ⟨rfl, hbz⟩
  · go_wp2_with (go_at_call 52; refine Stop.at_ ?_)
    refine Stop.go ((contains_any _ xs key w2 hv2).mono ?_)
    rintro e w3 ⟨rfl, rfl⟩
    clear hv2 hcell
    generalize decide (key ∈ xs) = g at *
    go_wp2
    go_ret
    exact ⟨by simp, hbz⟩
end Go.Proofs.Ytanggdnmoaflfaa
