/-
  cert.uints, Right, Bytes, ListBytes: certificates and lists as bytes.
-/
import Derived.Test.YtanggdnmoaflfaaCert
import Derived.Test.YtanggdnmoaflfaaPk1
namespace Go.Proofs.Ytanggdnmoaflfaa
open Go.RowKit
set_option linter.unusedVariables false
set_option linter.unusedSimpArgs false
set_option maxRecDepth 100000

/-- Numbers, one behind the other. -/
def uintsB : List Int → List Int
  | [] => []
  | n :: ns => uintB n.toNat ++ uintsB ns
theorem uintsB_append : ∀ a b, uintsB (a ++ b) = uintsB a ++ uintsB b
  | [], b => rfl
  | n :: a, b => by simp [uintsB, uintsB_append a b]
theorem uintsB_step (ns : List Int) (k : Nat) (h : k < ns.length) : uintsB (ns.take (k + 1)) = uintsB (ns.take k) ++ uintB (ns.getD k 0).toNat := by
  rw [List.take_succ_eq_append_getElem h, uintsB_append]
  simp [uintsB, h]
theorem uintsB_len : ∀ ns, (uintsB ns).length ≤ 10 * ns.length
  | [] => by simp [uintsB]
  | n :: ns => by
    have := uintsB_len ns
    have := uintB_len n.toNat
    simp only [uintsB, List.length_append, List.length_cons]; omega
theorem wrap_u64_nat (x : Int) (h0 : 0 ≤ x) (h1 : x ≤ 9223372036854775807) : IntKind.u64.wrap x = (x.toNat : Int) := by
  obtain ⟨n, rfl⟩ := Int.eq_ofNat_of_zero_le h0
  rw [Int.toNat_natCast]
  exact wrap_u64_len n (by unfold maxLen; omega)

set_option maxHeartbeats 1000000 in
theorem uints_mut (base : Nat) (v u : Value) (xs ns : List Int) (w : World) (hown : Own 5 .u8 base w v xs) (hu : SL .i64 w u ns) (hne : ∀ g, u.ownBlock = some g → v.ownBlock ≠ some g)
    (hb : base ≤ w.heap.size) (hns : ∀ n ∈ ns, 0 ≤ n ∧ n ≤ 9223372036854775807) (hl : xs.length + 10 * ns.length ≤ 140737488354000) :
    Calls Try.prog 48 #[v, u] w (AppPostM 5 .u8 w base v (xs ++ uintsB ns)) := by
  obtain ⟨a, c, rfl, hm⟩ := hu.len
  have HM := Lib.hid hm
  clear hm
  have HL := Lib.hid hl
  clear hl
  go_enter Try.func48, Try.ntmps48
  go_wp2_with fail
  go_loopw [0, 9] (fun s i wr => ∃ k : Nat, k ≤ ns.length ∧ i = .int .i64 k ∧ Own 5 .u8 base wr s (xs ++ uintsB (ns.take k)) ∧ Mut w wr v s)
    (fun _ i _ => ns.length - (intOf i).toNat)
  case atStart => exact ⟨0, by omega, rfl, by simpa [uintsB] using hown, Mut.refl _ _⟩
  case round =>
    obtain ⟨k, hk, rfl, ho, hmw⟩ := hrel
    have hsz := hmw.g.size
    have hm2 : ns.length ≤ 9223372036854775807 := HM.out
    by_cases hlt : k < ns.length
    · have hvr := hu.mut hmw hne
      rcases hvr with ⟨h1, h2⟩ | ⟨b, of, c', h1, h2, h3, h4, h5⟩
      · subst h2; simp at hlt
      · simp only [Value.slice.injEq] at h1
        obtain ⟨rfl, _, rfl⟩ := h1
        have hcell := h5 k hlt
        have hst := uintsB_step ns k hlt
        have HST := Lib.hid hst
        have hxr := hns (ns.getD k 0) (by simp [hlt])
        have hlen : (uintsB (ns.take k)).length ≤ 10 * k := by
          have := uintsB_len (ns.take k)
          rw [List.length_take] at this
          omega
        clear hst h5 h4 h3 h2 hu hns
        generalize ns.getD k 0 = x at *
        have hwr := wrap_u64_nat x hxr.1 hxr.2
        have HW := Lib.hid hwr
        have HXR := Lib.hid hxr
        clear hwr hxr
        go_wp2_with (go_at_call 70; refine Stop.at_ ?_)
        rw [HW.out]
        refine Stop.go ((uint_mut base _ _ x.toNat _ (by have := HXR.out; omega) ho (by omega) (by have := HL.out; rw [List.length_append]; omega)).mono ?_)
        rintro e w2 ⟨v2, rfl, hown2, hm3⟩
        go_wp2
        go_roundw
        case rel => exact ⟨k + 1, by omega, by go_num, hown2.cast (by rw [HST.out, List.append_assoc]), hmw.trans hm3⟩
        case measure => simp [intOf]; omega
    · go_wp2
      go_ret
      obtain rfl : k = ns.length := by omega
      exact ⟨_, rfl, ho.cast (by rw [List.take_length]), hmw⟩

/-- A certificate's cells. -/
def certCells (key : Int) (root : List Int) (height : Int) : Array Value := (Value.int .i64 key :: (nums .u8 root ++ [Value.int .i64 height])).toArray
theorem certCells_size (key : Int) (root : List Int) (height : Int) (hr : root.length = 32) : (certCells key root height).size = 34 := by simp [certCells, nums, hr]
theorem certCells_key (key : Int) (root : List Int) (height : Int) : (certCells key root height)[0]? = some (.int .i64 key) := by simp [certCells]
theorem certCells_height (key : Int) (root : List Int) (height : Int) (hr : root.length = 32) : (certCells key root height)[33]? = some (.int .i64 height) := by
  simp only [certCells, List.getElem?_toArray]
  rw [List.getElem?_cons_succ, List.getElem?_append_right (by simp [nums, hr])]
  simp [nums, hr]
theorem certCells_root (key : Int) (root : List Int) (height : Int) (hr : root.length = 32) (j : Nat) (hj : j < 32) : (certCells key root height)[1 + j]? = some (.int .u8 (root.getD j 0)) := by
  simp only [certCells, List.getElem?_toArray]
  rw [Nat.add_comm, List.getElem?_cons_succ, List.getElem?_append_left (by simp [nums, hr]; exact hj)]
  simp [nums, hr, hj]
/-- A right certificate. -/
def rightC (key height : Int) : Bool := decide (1 ≤ key) && decide (key ≤ 1048576) && decide (1 ≤ height) && decide (height ≤ 8)

set_option maxHeartbeats 800000 in
theorem certright_any (key height : Int) (root : List Int) (hr : root.length = 32) (w : World) :
    Calls Try.prog 16 #[.agg (certCells key root height)] w (BoolPost w w.heap.size (rightC key height)) := by
  have e0 := certCells_key key root height
  have e1 := certCells_height key root height hr
  have hb := Joins.below_alloc1 w (.cells (certCells key root height) 25)
  generalize certCells key root height = cs at *
  have hc0 : (w.alloc (.cells cs 25)).cell? ⟨w.heap.size, 0, none⟩ = some (.int .i64 key) := by rw [Joins.cell_of_block (heap_alloc_new w _)]; exact e0
  have hc1 : (w.alloc (.cells cs 25)).cell? ⟨w.heap.size, 33, none⟩ = some (.int .i64 height) := by rw [Joins.cell_of_block (heap_alloc_new w _)]; exact e1
  clear hr root
  by_cases h1 : 1 ≤ key
  · by_cases h2 : key ≤ 1048576
    · by_cases h3 : 1 ≤ height
      · by_cases h4 : height ≤ 8
        · have hq : rightC key height = true := by simp [rightC, h1, h2, h3, h4]
          have HQ := Lib.hid hq
          clear hq
          go_enter Try.func16, Try.ntmps16
          go_wp2
          go_ret
          exact ⟨by rw [HQ.out]; rfl, hb⟩
        · have hq : rightC key height = false := by simp [rightC, h1, h2, h3, h4]
          have HQ := Lib.hid hq
          clear hq
          go_enter Try.func16, Try.ntmps16
          go_wp2
          go_ret
          exact ⟨by rw [HQ.out]; rfl, hb⟩
      · have hq : rightC key height = false := by simp [rightC, h1, h2, h3]
        have HQ := Lib.hid hq
        clear hq
        go_enter Try.func16, Try.ntmps16
        go_wp2
        go_ret
        exact ⟨by rw [HQ.out]; rfl, hb⟩
    · have hq : rightC key height = false := by simp [rightC, h1, h2]
      have HQ := Lib.hid hq
      clear hq
      go_enter Try.func16, Try.ntmps16
      go_wp2
      go_ret
      exact ⟨by rw [HQ.out]; rfl, hb⟩
  · have hq : rightC key height = false := by simp [rightC, h1]
    have HQ := Lib.hid hq
    clear hq
    go_enter Try.func16, Try.ntmps16
    go_wp2
    go_ret
    exact ⟨by rw [HQ.out]; rfl, hb⟩

/-- Two results: bytes and an error's number. -/
def BytesPost (w : World) (ok : Bool) (xs : List Int) (e : Ending) (w' : World) : Prop :=
  Below w.heap.size w w' ∧ ((ok = false ∧ e = .returned (.tuple #[.slice none 0 0, .int .i64 180])) ∨ (ok = true ∧ ∃ v, e = .returned (.tuple #[v, .int .i64 0]) ∧ Own 5 .u8 w.heap.size w' v xs))

/-- what ListBytes reads -/
def LB (w : World) (seq : Int) (a : Option Addr) (xs : List Int) (c : Nat) (w' : World) : Prop :=
  w'.heap[w.heap.size]? = some (.cells #[.int .i64 seq, .slice a xs.length c] 28 (0, 0)) ∧ SL .i64 w' (.slice a xs.length c) xs ∧ Below w.heap.size w w'
theorem LB.c0 {w : World} {seq : Int} {a : Option Addr} {xs : List Int} {c : Nat} {w' : World} (x : LB w seq a xs c w') : w'.cell? ⟨w.heap.size, 0, none⟩ = some (.int .i64 seq) := by rw [Joins.cell_of_block x.1]; rfl
theorem LB.c1 {w : World} {seq : Int} {a : Option Addr} {xs : List Int} {c : Nat} {w' : World} (x : LB w seq a xs c w') : w'.cell? ⟨w.heap.size, 1, none⟩ = some (.slice a xs.length c) := by rw [Joins.cell_of_block x.1]; rfl
theorem LB.lt {w : World} {seq : Int} {a : Option Addr} {xs : List Int} {c : Nat} {w' : World} (x : LB w seq a xs c w') : w.heap.size < w'.heap.size := (Array.getElem?_eq_some_iff.1 x.1).1
theorem LB.alloc {w : World} {seq : Int} {a : Option Addr} {xs : List Int} {c : Nat} {w' : World} (x : LB w seq a xs c w') (o : Obj) : LB w seq a xs c (w'.alloc o) :=
  ⟨(heap_alloc_old w' o x.lt).trans x.1, x.2.1.below (Joins.below_alloc1 _ _), x.2.2.alloc (Nat.le_of_lt x.lt) o⟩
theorem LB.mut {w : World} {seq : Int} {a : Option Addr} {xs : List Int} {c : Nat} {w' w'' : World} {v v' : Value} (x : LB w seq a xs c w') (hm : Mut w' w'' v v') (hv : ∀ g, v.ownBlock = some g → w.heap.size < g) (hs : ∀ g, (Value.slice a xs.length c).ownBlock = some g → g < w.heap.size) : LB w seq a xs c w'' :=
  ⟨(hm.g.block _ x.lt (fun e => by have := hv _ e.symm; omega)).trans x.1, x.2.1.mut hm (fun g hg e => by have := hv g e; have := hs g hg; omega), x.2.2.trans (hm.below (Nat.le_of_lt x.lt) (fun g hg => Nat.le_of_lt (hv g hg)))⟩

theorem goodB_all : ∀ (xs : List Int) (p : Int), goodB p xs = true → ∀ x ∈ xs, p < x ∧ x ≤ 1048576
  | [], _, _, x, hx => by cases hx
  | y :: xs, p, h, x, hx => by
    simp only [goodB, Bool.and_eq_true, decide_eq_true_eq] at h
    rcases List.mem_cons.1 hx with rfl | hx
    · exact h.1
    · have := goodB_all xs y h.2 x hx
      omega
theorem rightL_all {seq : Int} {xs : List Int} (h : rightL seq xs = true) : (0 ≤ seq ∧ seq ≤ 1073741824) ∧ xs.length ≤ 50 ∧ ∀ x ∈ xs, 0 < x ∧ x ≤ 1048576 := by
  simp only [rightL, Bool.and_eq_true, decide_eq_true_eq] at h
  exact ⟨⟨h.1.1.1, h.1.1.2⟩, h.1.2, goodB_all xs 0 h.2⟩

set_option maxHeartbeats 2000000 in
theorem listbytes_any (seq : Int) (v : Value) (xs : List Int) (w : World) (hv : SL .i64 w v xs) :
    Calls Try.prog 14 #[.agg #[.int .i64 seq, v]] w (BytesPost w (rightL seq xs) ([2] ++ uintsB [seq, xs.length] ++ uintsB xs)) := by
  obtain ⟨a, c, rfl, hm⟩ := hv.len
  have HM := Lib.hid hm
  clear hm
  have hb1 := Joins.below_alloc1 w (.cells #[.int .i64 seq, .slice a xs.length c] 28)
  have hv1 := hv.below hb1
  have hc0 : (w.alloc (.cells #[.int .i64 seq, .slice a xs.length c] 28)).heap[w.heap.size]? = some (.cells #[.int .i64 seq, .slice a xs.length c] 28 (0, 0)) := heap_alloc_new w _
  have hvl := hv.lt
  go_enter Try.func14, Try.ntmps14
  go_wp2_with (go_at_call 18; refine Stop.at_ ?_)
  refine Stop.go ((rightlist_any seq _ xs _ hv1).mono ?_)
  rintro e w2 ⟨rfl, hb⟩
  have hv2 := hv1.below hb
  have hbz := hb1.trans (hb.mono hb1.size)
  have hc1 := (hb.block w.heap.size (by simp)).trans hc0
  clear hc0 hb hb1 hv1 hv
  generalize hR : rightL seq xs = r at *
  cases r
  · clear hv2 hc1 hR
    go_wp2
    go_ret2
    exact ⟨hbz, .inl ⟨rfl, rfl⟩⟩
  · have hsz := hbz.size
    have s0 : LB w seq a xs c w2.drew := ⟨hc1, hv2, hbz.drew⟩
    clear hv2 hc1
    have hq := rightL_all hR
    have HR : Hid ((0:Int) = 0 ∧ ∀ n ∈ [seq, (xs.length : Int)], 0 ≤ n ∧ n ≤ 9223372036854775807) := Lib.hid ⟨rfl, by intro n hn; have := hq.1; have := hq.2.1; simp at hn; omega⟩
    have HX : Hid ((0:Int) = 0 ∧ ∀ n ∈ xs, 0 ≤ n ∧ n ≤ 9223372036854775807) := Lib.hid ⟨rfl, by intro n hn; have := hq.2.2 n hn; omega⟩
    have HB : Hid (([2] ++ uintsB [seq, (xs.length : Int)]).length + 10 * xs.length ≤ 140737488354000) := Lib.hid (by
      have := hq.2.1
      have := uintsB_len [seq, (xs.length : Int)]
      simp only [List.length_append, List.length_cons, List.length_nil] at *
      omega)
    clear hq hR
    go_wp2_with fail
    refine wp_region_held (S := LB w seq a xs c) (by kernel_rfl) ?_
    show wpAnyH _ _ _ _ _ 13 _ _ w2.drew
    refine take_val 1 8 rfl rfl (by kernel_rfl) (by kernel_rfl) (by kernel_rfl) (fun _ _ _ _ h => h) rfl (.pointer (some ⟨w.heap.size, 0, none⟩)) (fun w' x => by kernel_rfl) s0 ?_
    simp only [sZ, sS]
    refine take_cell 2 9 rfl rfl (by kernel_rfl) (by kernel_rfl) (by kernel_rfl) (fun _ _ _ _ h => h) rfl 3 _ rfl w.heap.size 0 (.int .i64 seq) (by kernel_rfl) (fun w' => by kernel_rfl) (fun w' x => x.c0) s0 ?_
    simp only [sZ, sS]
    refine take_val 3 10 rfl rfl (by kernel_rfl) (by kernel_rfl) (by kernel_rfl) (fun _ _ _ _ h => h) rfl (.pointer (some ⟨w.heap.size, 1, none⟩)) (fun w' x => by kernel_rfl) s0 ?_
    simp only [sZ, sS]
    refine take_cell 4 11 rfl rfl (by kernel_rfl) (by kernel_rfl) (by kernel_rfl) (fun _ _ _ _ h => h) rfl 26 _ rfl w.heap.size 1 (.slice a xs.length c) (by kernel_rfl) (fun w' => by kernel_rfl) (fun w' x => x.c1) s0 ?_
    simp only [sZ, sS]
    refine take_val 5 12 rfl rfl (by kernel_rfl) (by kernel_rfl) (by kernel_rfl) (fun _ _ _ _ h => h) rfl (.int .i64 xs.length) (fun w' x => by kernel_rfl) s0 ?_
    simp only [sZ, sS]
    refine take_val 8 15 rfl rfl (by kernel_rfl) (by kernel_rfl) (by kernel_rfl) (fun _ _ _ _ h => h) rfl (.pointer (some ⟨w.heap.size, 1, none⟩)) (fun w' x => by kernel_rfl) s0 ?_
    simp only [sZ, sS]
    refine take_cell 9 16 rfl rfl (by kernel_rfl) (by kernel_rfl) (by kernel_rfl) (fun _ _ _ _ h => h) rfl 26 _ rfl w.heap.size 1 (.slice a xs.length c) (by kernel_rfl) (fun w' => by kernel_rfl) (fun w' x => x.c1) s0 ?_
    simp only [sZ, sS]
    have hA1 : ∀ w', LB w seq a xs c w' → LB w seq a xs c (w'.alloc (.cells #[.int .u8 2] 5)) := fun w' x => x.alloc _
    refine all_new2 0 6 7 13 (by kernel_rfl) rfl rfl rfl rfl (by kernel_rfl) (by kernel_rfl) (.slice (some ⟨w2.drew.heap.size, 0, none⟩) 1 1) (.slice (some ⟨w2.drew.heap.size, 0, none⟩) 2 2)
      (w2.drew.alloc (.cells #[.int .u8 2] 5)) (w2.drew.alloc (.cells #[.int .i64 seq, .int .i64 xs.length] 3)) (by kernel_rfl) (by kernel_rfl) ⟨s0.alloc _, ?_⟩ ⟨s0.alloc _, ?_⟩
    all_goals simp only [sZ, sS]
    case' refine_1 =>
      have s1 := s0.alloc (.cells #[.int .u8 2] 5)
      have h1 : Own 5 .u8 (w.heap.size + 1) (w2.drew.alloc (.cells #[.int .u8 2] 5)) (.slice (some ⟨w2.drew.heap.size, 0, none⟩) 1 1) [2] := Own.lit _ _ [2] (by have := s0.lt; omega) (by unfold maxLen; simp) _ rfl
      generalize hw3 : w2.drew.alloc (.cells #[.int .u8 2] 5) = w3 at *
      have hp : w2.drew.heap.size < w3.heap.size := (h1.ge _ rfl).2
      have hp0 := s0.lt
      clear s0 hw3
      generalize w2.drew.heap.size = p at *
      refine all_new1 6 13 rfl rfl (by kernel_rfl) (by kernel_rfl) (.slice (some ⟨w3.heap.size, 0, none⟩) 2 2) (w3.alloc (.cells #[.int .i64 seq, .int .i64 xs.length] 3)) (by kernel_rfl) ⟨s1.alloc _, ?_⟩
      simp only [sZ, sS]
      have s2 := s1.alloc (.cells #[.int .i64 seq, .int .i64 xs.length] 3)
      have h2 := h1.alloc (.cells #[.int .i64 seq, .int .i64 xs.length] 3)
      have h3 : SL .i64 (w3.alloc (.cells #[.int .i64 seq, .int .i64 xs.length] 3)) (.slice (some ⟨w3.heap.size, 0, none⟩) 2 2) [seq, xs.length] := SL.lit2 rfl rfl
      have hpq : p ≠ w3.heap.size := by omega
      have hq0 : w.heap.size < w3.heap.size := by omega
      clear s1 h1 hp
      generalize w3.alloc (.cells #[.int .i64 seq, .int .i64 xs.length] 3) = w4 at *
      generalize w3.heap.size = q at *
    case' refine_2 =>
      have s1 := s0.alloc (.cells #[.int .i64 seq, .int .i64 xs.length] 3)
      have h3 : SL .i64 (w2.drew.alloc (.cells #[.int .i64 seq, .int .i64 xs.length] 3)) (.slice (some ⟨w2.drew.heap.size, 0, none⟩) 2 2) [seq, xs.length] := SL.lit2 rfl rfl
      generalize hw3 : w2.drew.alloc (.cells #[.int .i64 seq, .int .i64 xs.length] 3) = w3 at *
      have hp : w2.drew.heap.size < w3.heap.size := h3.lt _ rfl
      have hq0 := s0.lt
      clear s0 hw3
      generalize w2.drew.heap.size = q at *
      refine all_new1 0 7 rfl rfl (by kernel_rfl) (by kernel_rfl) (.slice (some ⟨w3.heap.size, 0, none⟩) 1 1) (w3.alloc (.cells #[.int .u8 2] 5)) (by kernel_rfl) ⟨s1.alloc _, ?_⟩
      simp only [sZ, sS]
      have s2 := s1.alloc (.cells #[.int .u8 2] 5)
      have h3 := h3.below (Joins.below_alloc1 _ (.cells #[.int .u8 2] 5))
      have h2 : Own 5 .u8 (w.heap.size + 1) (w3.alloc (.cells #[.int .u8 2] 5)) (.slice (some ⟨w3.heap.size, 0, none⟩) 1 1) [2] := Own.lit _ _ [2] (by omega) (by unfold maxLen; simp) _ rfl
      have hpq : w3.heap.size ≠ q := by omega
      have hp0 : w.heap.size < w3.heap.size := by omega
      clear s1 hp
      generalize w3.alloc (.cells #[.int .u8 2] 5) = w4 at *
      generalize w3.heap.size = p at *
    all_goals
      refine all_call 7 14 48 #[.slice (some ⟨p, 0, none⟩) 1 1, .slice (some ⟨q, 0, none⟩) 2 2] rfl rfl (by kernel_rfl) (by kernel_rfl) (by kernel_rfl) ?_
      refine (uints_mut (w.heap.size + 1) _ _ [2] [seq, xs.length] w4 h2 h3 (fun g hg hg' => hpq ?_) (by have := s2.lt; omega) HR.out.2 (by simp)).mono ?_
      · obtain rfl : q = g := by simpa [Value.ownBlock] using hg
        simpa [Value.ownBlock] using hg'
      rintro en w5 ⟨v5, rfl, h5, hm5⟩
      have s3 := s2.mut hm5 (fun g hg => by have : p = g := by simpa [Value.ownBlock] using hg
                                            omega) hvl
      refine ⟨v5, rfl, s3, ?_⟩
      simp only [sZ, sS]
      clear h2 h3 s2 hm5
      refine all_call 10 17 48 #[v5, .slice a xs.length c] rfl rfl (by kernel_rfl) (by kernel_rfl) (by kernel_rfl) ?_
      refine (uints_mut (w.heap.size + 1) _ _ _ xs w5 h5 s3.2.1 (fun g hg hg' => by have := hvl g hg; have := (h5.ge g hg').1; omega) (by have := s3.lt; omega) HX.out.2 HB.out).mono ?_
      rintro en w6 ⟨v6, rfl, h6, hm6⟩
      have s4 := s3.mut hm6 (fun g hg => by have := (h5.ge g hg).1; omega) hvl
      refine ⟨v6, rfl, s4, ?_⟩
      simp only [sZ, sS]
      clear h5 s3 hm6
      refine take_val 11 2 rfl rfl (by kernel_rfl) (by kernel_rfl) (by kernel_rfl) (fun _ _ _ _ h => h) rfl v6 (fun w' x => by kernel_rfl) s4 ?_
      simp only [sZ, sS]
      refine take_val 12 3 rfl rfl (by kernel_rfl) (by kernel_rfl) (by kernel_rfl) (fun _ _ _ _ h => h) rfl (.int .i64 0) (fun w' x => by kernel_rfl) s4 ?_
      simp only [sZ, sS]
      refine wpAnyH_done (by kernel_rfl) ?_ _
      go_wp2
      go_ret2
      exact ⟨s4.2.2, .inr ⟨rfl, v6, rfl, h6.mono (by omega)⟩⟩
end Go.Proofs.Ytanggdnmoaflfaa
