/-
  CertHas, the walk.
-/
import Derived.Test.YtoeaekamoejhcaaAwake18
import Derived.Test.YtoeaekamoejhcaaInsL
namespace Go.Proofs.Ytoeaekamoejhcaa
open Go.RowKit
set_option linter.unusedVariables false
set_option linter.unusedSimpArgs false
set_option maxRecDepth 100000

theorem LB.below {w : World} {seq : Int} {a : Option Addr} {xs : List Int} {c : Nat} {w' w'' : World} (x : LB w seq a xs c w') (hb : Below w'.heap.size w' w'') : LB w seq a xs c w'' :=
  ⟨(hb.block _ x.lt).trans x.1, x.2.1.below hb, x.2.2.trans (hb.mono (Nat.le_of_lt x.lt))⟩
theorem LB.drew {w : World} {seq : Int} {a : Option Addr} {xs : List Int} {c : Nat} {w' : World} (x : LB w seq a xs c w') : LB w seq a xs c w'.drew := ⟨x.1, x.2.1, x.2.2.drew⟩

def keyOf (x : Int) : Int := 1 + x % 1048576
theorem keyOf_range (x : Int) : 1 ≤ keyOf x ∧ keyOf x ≤ 1048576 := by unfold keyOf; omega

theorem info_i64 : (Try.prog.info? 3).map (fun i => (i.zero, i.size, i.bytes)) = some (some (.int .i64 0), 1, 8) := by kernel_rfl
theorem run_eql_int {P : Program} {w : World} {t : TypeId} {k : IntKind} (ht : P.underlying t = some (.int k)) (x y : Int) : (binOp .eql t (.int k x) (.int k y)).run P w = .ok (.bool (decide (x = y))) w := by
  simp only [binOp]
  simp only [Op.intCmp]
  by_cases h : x = y <;> simp [h]
/-- the list that is built -/
def HS (w : World) (seq : Int) (a : Option Addr) (xs : List Int) (c M : Nat) (mv : Value) (R : List Int) (w' : World) : Prop :=
  LB w seq a xs c w' ∧ w'.heap[M]? = some (.cells #[.int .i64 seq, mv] 38 (0, 0)) ∧ Own 3 .i64 (M + 1) w' mv R
section
variable {w w' w'' : World} {seq : Int} {a : Option Addr} {xs R R' : List Int} {c M : Nat} {mv v' : Value}
theorem HS.c1 (x : HS w seq a xs c M mv R w') : w'.cell? ⟨M, 1, none⟩ = some mv := by rw [Joins.cell_of_block x.2.1]; rfl
theorem HS.f1 (x : HS w seq a xs c M mv R w') : w'.frozen? ⟨M, 1, none⟩ = false := Joins.unfrozen_of_block x.2.1 1
theorem HS.lt (x : HS w seq a xs c M mv R w') : M < w'.heap.size := (Array.getElem?_eq_some_iff.1 x.2.1).1
theorem HS.alloc (x : HS w seq a xs c M mv R w') (o : Obj) : HS w seq a xs c M mv R (w'.alloc o) := ⟨x.1.alloc o, (heap_alloc_old w' o x.lt).trans x.2.1, x.2.2.alloc o⟩
theorem HS.below (x : HS w seq a xs c M mv R w') (hb : Below w'.heap.size w' w'') : HS w seq a xs c M mv R w'' := ⟨x.1.below hb, (hb.block _ x.lt).trans x.2.1, x.2.2.below hb⟩
/-- an append, not stored yet -/
theorem HS.app (x : HS w seq a xs c M mv R w') (hM : w.heap.size < M) (hvl : ∀ g, (Value.slice a xs.length c).ownBlock = some g → g < w.heap.size) (h : Mut w' w'' mv v') :
    LB w seq a xs c w'' ∧ w''.heap[M]? = some (.cells #[.int .i64 seq, mv] 38 (0, 0)) :=
  ⟨x.1.mut h (fun g hg => by have := (x.2.2.ge g hg).1; omega) hvl, (h.g.block _ x.lt (fun e => by have := (x.2.2.ge _ e.symm).1; omega)).trans x.2.1⟩
/-- the store -/
theorem HS.store (h1 : LB w seq a xs c w' ∧ w'.heap[M]? = some (.cells #[.int .i64 seq, mv] 38 (0, 0))) (hM : w.heap.size < M) (hvl : ∀ g, (Value.slice a xs.length c).ownBlock = some g → g < w.heap.size)
    (h2 : Own 3 .i64 (M + 1) w' v' R') : HS w seq a xs c M v' R' (w'.setCell ⟨M, 1, none⟩ v') := by
  have ho := Only.setCell w' ⟨M, 1, none⟩ v'
  have hb : Below M w' (w'.setCell ⟨M, 1, none⟩ v') := ho.below (Nat.le_refl _)
  refine ⟨⟨(heap_setCell_other w' _ _ v' (by simp; omega)).trans h1.1.1, h1.1.2.1.keep hb (fun g hg => by have := hvl g hg; omega), h1.1.2.2.trans (hb.mono (by omega))⟩, ?_, ?_⟩
  · rw [heap_setCell_same w' M 1 _ _ v' h1.2]; rfl
  · refine World.ownsRow.kept (row := some M) h2 ⟨ho.os, ho.tape, ho.output, Nat.le_of_eq ho.size.symm, fun i _ hi => ho.block i (fun e => hi (by rw [e]))⟩ ?_
    cases hg : v'.ownBlock with
    | none => exact .inl rfl
    | some g => exact .inr (fun e => by have := (h2.ge g hg).1; have : g = M := by simpa using e
                                        omega)
end

set_option maxHeartbeats 4000000 in
theorem certHas_walk (seq : Int) (v : Value) (xs : List Int) (more other : Int) (hmo : 0 ≤ more ∧ more ≤ 4294967295) (hot : 0 ≤ other ∧ other ≤ 4294967295) (w : World) (hv : SL .i64 w v xs) :
    Calls Try.prog 5 #[.agg #[.int .i64 seq, v], .int .u32 more, .int .u32 other] w fun e w' => e = .returned (.bool true) ∧ Below w.heap.size w w' := by
  obtain ⟨a, c, rfl, hm⟩ := hv.len
  have HM := Lib.hid hm
  clear hm
  have s0 : LB w seq a xs c (w.alloc (.cells #[.int .i64 seq, .slice a xs.length c] 38)) := ⟨heap_alloc_new w _, hv.below (Joins.below_alloc1 _ _), Joins.below_alloc1 _ _⟩
  have hvl := hv.lt
  clear hv
  go_enter Try.func5, Try.ntmps5
  go_wp2_with (go_at_call 20; refine Stop.at_ ?_)
  refine Stop.go ((rightlist_any seq _ xs _ s0.2.1).mono ?_)
  rintro e w2 ⟨rfl, hb⟩
  have s1 := s0.below hb
  clear hb s0
  generalize hR : rightL seq xs = r at *
  have hc0 := s1.c0
  have hc1 := s1.c1
  cases r
  · go_wp2_with (go_at_call 21; refine Stop.at_ ?_)
    refine Stop.go ((has_any seq _ xs _ w2 s1.2.1).mono ?_)
    rintro e w3 ⟨rfl, hb⟩
    have hbz := s1.2.2.trans (hb.mono (Nat.le_of_lt s1.lt))
    rw [hR, Bool.false_and]
    clear hc0 hc1 hb s1
    go_wp2_with (go_at_call 22; refine Stop.at_ ?_)
    refine Stop.go ((awake18 w3).mono ?_)
    rintro e w4 ⟨rfl, hb⟩
    have hbz := hbz.trans (hb.mono hbz.size)
    clear hb
    go_wp2
    go_ret
    exact ⟨rfl, hbz⟩
  by_cases hl : 50 ≤ xs.length
  · have hl2 : (50:Int) ≤ (xs.length:Int) := by omega
    have hbz := s1.2.2
    clear s1
    go_wp2_with (go_at_call 22; refine Stop.at_ ?_)
    refine Stop.go ((awake18 w2).mono ?_)
    rintro e w4 ⟨rfl, hb⟩
    have hbz := hbz.trans (hb.mono hbz.size)
    clear hb
    go_wp2
    go_ret
    exact ⟨rfl, hbz⟩
  have hl2 : (xs.length:Int) < 50 := by omega
  have hk1 := keyOf_range more
  have hk2 := keyOf_range other
  go_wp2_with (go_at_call 21; refine Stop.at_ ?_)
  refine Stop.go ((has_any seq _ xs _ w2 s1.2.1).mono ?_)
  rintro e w3 ⟨rfl, hb⟩
  have s2 := s1.below hb
  rw [hR, Bool.true_and]
  change Hid _ at HM
  rw [show 1 + more % 1048576 = keyOf more from rfl, show 1 + other % 1048576 = keyOf other from rfl]
  clear hc0 hc1 hb s1
  have hc0 := s2.c0
  have hc1 := s2.c1
  generalize keyOf more = key at *
  generalize keyOf other = ko at *
  clear hmo hot
  by_cases hin : key ∈ xs
  · rw [decide_eq_true hin]
    have hbz := s2.2.2
    clear s2
    go_wp2_with (go_at_call 22; refine Stop.at_ ?_)
    refine Stop.go ((awake18 w3).mono ?_)
    rintro e w4 ⟨rfl, hb⟩
    have hbz := hbz.trans (hb.mono hbz.size)
    clear hb
    go_wp2
    go_ret
    exact ⟨rfl, hbz⟩
  rw [decide_eq_false hin]
  go_wp2_with (with_reducible refine Stop.slot (d := 46) ?_)
  have s3 := s2.alloc (.cells #[.int .i64 seq, .slice none 0 0] 38)
  have h3 : HS w seq a xs c w3.heap.size (.slice none 0 0) [] (w3.alloc (.cells #[.int .i64 seq, .slice none 0 0] 38)) := ⟨s3, heap_alloc_new w3 _, Own.nil _ _ _ _⟩
  have hM := s2.lt
  clear s3 s2 hc0 hc1
  generalize w3.alloc (.cells #[.int .i64 seq, .slice none 0 0] 38) = w4 at *
  generalize w3.heap.size = M at *
  have hc1 := h3.1.c1
  refine Stop.go ?_
  go_wp2_with fail
  clear hc1
  go_loopw [10, 49] (fun put i wr => ∃ (k : Nat) (b : Bool) (mv : Value) (acc : List Int), k ≤ xs.length ∧ i = .int .i64 k ∧ put = .bool b ∧ HS w seq a xs c M mv acc wr ∧ acc ++ insF key b (xs.drop k) = insF key false xs ∧ acc.length ≤ k + b.toNat)
    (fun _ i _ => xs.length - (intOf i).toNat)
  case atStart => exact ⟨0, false, _, [], by omega, rfl, rfl, h3, rfl, by simp⟩
  case round =>
    obtain ⟨k, b, mv, acc, hk, rfl, rfl, hs, hI, hA⟩ := hrel
    by_cases hlt : k < xs.length
    · rcases hs.1.2.1 with ⟨h1, h2⟩ | ⟨bb, of, c', h1, h2, h3', h4, h5⟩
      · subst h2; simp at hlt
      · simp only [Value.slice.injEq] at h1
        obtain ⟨rfl, _, rfl⟩ := h1
        have hcell := h5 k hlt
        rw [insF_drop key b xs k hlt] at hI
        clear h2 h3' h4 h5
        generalize xs.getD k 0 = x at *
        have hA2 : acc.length ≤ k + 1 := by have := Bool.toNat_le b; omega
        cases b
        · by_cases hkx : key < x
          · rw [if_pos ⟨rfl, hkx⟩] at hI
            have HI := Lib.hid hI
            clear hI
            have hcA := hs.c1
            go_wp2_with (at_builtin; refine Stop.at_ ?_)
            have hsA := hs.alloc (.cells #[.int .i64 key] 3)
            refine Stop.go (app_mut rfl (.tmp 61) (.tmp 63) 36 3 .i64 8 rfl Try.underlying36 info_i64 (M + 1) mv acc (by kernel_rfl) hsA.2.2 (.slice (some ⟨wr.heap.size, 0, none⟩) 1 1) [key] (by kernel_rfl) (SL.lit1 rfl) ?g1a ?g1b ?g1c ?_)
            case g1a => simp only [List.length_append, List.length_cons, List.length_nil]; omega
            case g1b => simp only [List.length_append, List.length_cons, List.length_nil]; unfold maxLen; omega
            case g1c => have := hsA.lt; omega
            intro v5 w5 hownA hmA
            obtain ⟨a5, c5, hv5⟩ := hownA.len
            generalize hn5 : List.length _ = n5 at hv5
            subst hv5
            have h6 := hsA.app hM hvl hmA
            have hcM : w5.cell? ⟨M, 1, none⟩ = some mv := by rw [Joins.cell_of_block h6.2]; rfl
            have hfM : w5.frozen? ⟨M, 1, none⟩ = false := Joins.unfrozen_of_block h6.2 1
            have h7v5 := HS.store h6 hM hvl hownA
            clear hcA hsA hownA hmA h6 hs
            go_wp2_with (with_reducible refine Stop.slot (d := 66) ?_)
            generalize w5.setCell ⟨M, 1, none⟩ (.slice a5 n5 c5) = w7 at *
            clear hcM hfM
            refine Stop.go ?_
            have hcA := h7v5.c1
            go_wp2_with (at_builtin; refine Stop.at_ ?_)
            have hsA := h7v5.alloc (.cells #[.int .i64 x] 3)
            refine Stop.go (app_mut rfl (.tmp 67) (.tmp 69) 36 3 .i64 8 rfl Try.underlying36 info_i64 (M + 1) (.slice a5 n5 c5) (acc ++ [key]) (by kernel_rfl) hsA.2.2 (.slice (some ⟨w7.heap.size, 0, none⟩) 1 1) [x] (by kernel_rfl) (SL.lit1 rfl) ?g2a ?g2b ?g2c ?_)
            case g2a => simp only [List.length_append, List.length_cons, List.length_nil]; omega
            case g2b => simp only [List.length_append, List.length_cons, List.length_nil]; unfold maxLen; omega
            case g2c => have := hsA.lt; omega
            intro v6 w6 hownA hmA
            obtain ⟨a6, c6, hv6⟩ := hownA.len
            generalize hn6 : List.length _ = n6 at hv6
            subst hv6
            have h6 := hsA.app hM hvl hmA
            have hcM : w6.cell? ⟨M, 1, none⟩ = some (.slice a5 n5 c5) := by rw [Joins.cell_of_block h6.2]; rfl
            have hfM : w6.frozen? ⟨M, 1, none⟩ = false := Joins.unfrozen_of_block h6.2 1
            have h7v6 := HS.store h6 hM hvl hownA
            clear hcA hsA hownA hmA h6 h7v5
            go_wp2
            go_roundw
            case rel => exact ⟨k + 1, true, _, _, by omega, by go_num, rfl, h7v6, by rw [← HI.out]; simp, by simp at hA ⊢; omega⟩
            case measure => simp [intOf]; omega
          · rw [if_neg (fun h => hkx h.2)] at hI
            have HI := Lib.hid hI
            clear hI
            have hcA := hs.c1
            go_wp2_with (at_builtin; refine Stop.at_ ?_)
            have hsA := hs.alloc (.cells #[.int .i64 x] 3)
            refine Stop.go (app_mut rfl (.tmp 67) (.tmp 69) 36 3 .i64 8 rfl Try.underlying36 info_i64 (M + 1) mv acc (by kernel_rfl) hsA.2.2 (.slice (some ⟨wr.heap.size, 0, none⟩) 1 1) [x] (by kernel_rfl) (SL.lit1 rfl) ?g3a ?g3b ?g3c ?_)
            case g3a => simp only [List.length_append, List.length_cons, List.length_nil]; omega
            case g3b => simp only [List.length_append, List.length_cons, List.length_nil]; unfold maxLen; omega
            case g3c => have := hsA.lt; omega
            intro v6 w6 hownA hmA
            obtain ⟨a6, c6, hv6⟩ := hownA.len
            generalize hn6 : List.length _ = n6 at hv6
            subst hv6
            have h6 := hsA.app hM hvl hmA
            have hcM : w6.cell? ⟨M, 1, none⟩ = some mv := by rw [Joins.cell_of_block h6.2]; rfl
            have hfM : w6.frozen? ⟨M, 1, none⟩ = false := Joins.unfrozen_of_block h6.2 1
            have h7v6 := HS.store h6 hM hvl hownA
            clear hcA hsA hownA hmA h6 hs
            go_wp2
            go_roundw
            case rel => exact ⟨k + 1, false, _, _, by omega, by go_num, rfl, h7v6, by rw [← HI.out]; simp, by simp at hA ⊢; omega⟩
            case measure => simp [intOf]; omega
        · rw [if_neg (fun h => by cases h.1)] at hI
          have HI := Lib.hid hI
          clear hI
          have hcA := hs.c1
          go_wp2_with (at_builtin; refine Stop.at_ ?_)
          have hsA := hs.alloc (.cells #[.int .i64 x] 3)
          refine Stop.go (app_mut rfl (.tmp 67) (.tmp 69) 36 3 .i64 8 rfl Try.underlying36 info_i64 (M + 1) mv acc (by kernel_rfl) hsA.2.2 (.slice (some ⟨wr.heap.size, 0, none⟩) 1 1) [x] (by kernel_rfl) (SL.lit1 rfl) ?g4a ?g4b ?g4c ?_)
          case g4a => simp only [List.length_append, List.length_cons, List.length_nil]; omega
          case g4b => simp only [List.length_append, List.length_cons, List.length_nil]; unfold maxLen; omega
          case g4c => have := hsA.lt; omega
          intro v6 w6 hownA hmA
          obtain ⟨a6, c6, hv6⟩ := hownA.len
          generalize hn6 : List.length _ = n6 at hv6
          subst hv6
          have h6 := hsA.app hM hvl hmA
          have hcM : w6.cell? ⟨M, 1, none⟩ = some mv := by rw [Joins.cell_of_block h6.2]; rfl
          have hfM : w6.frozen? ⟨M, 1, none⟩ = false := Joins.unfrozen_of_block h6.2 1
          have h7v6 := HS.store h6 hM hvl hownA
          clear hcA hsA hownA hmA h6 hs
          go_wp2
          go_roundw
          case rel => exact ⟨k + 1, true, _, _, by omega, by go_num, rfl, h7v6, by rw [← HI.out]; simp, by simp at hA ⊢; omega⟩
          case measure => simp [intOf]; omega
    · obtain rfl : k = xs.length := by omega
      rw [List.drop_length] at hI
      have hRR := insF_right seq key xs hk1.1 hk1.2 hin (by omega) hR
      have hmem := insF_mem key xs
      have hA2 : acc.length ≤ xs.length + 1 := by have := Bool.toNat_le b; omega
      have HRR := Lib.hid hRR
      clear hRR
      generalize insF key false xs = R at *
      cases b
      case' true =>
        obtain rfl : acc = R := by simpa [insF] using hI
        generalize acc = R at *
        go_wp2_with fail
        have hz := hs
        clear hs
        generalize mv = mz at *
        generalize wr = wz at *
      case' false =>
        obtain rfl : acc ++ [key] = R := by simpa [insF] using hI
        have hcA := hs.c1
        go_wp2_with (at_builtin; refine Stop.at_ ?_)
        have hsA := hs.alloc (.cells #[.int .i64 key] 3)
        refine Stop.go (app_mut rfl (.tmp 76) (.tmp 78) 36 3 .i64 8 rfl Try.underlying36 info_i64 (M + 1) mv acc (by kernel_rfl) hsA.2.2 (.slice (some ⟨wr.heap.size, 0, none⟩) 1 1) [key] (by kernel_rfl) (SL.lit1 rfl) ?g9a ?g9b ?g9c ?_)
        case g9a => simp only [List.length_append, List.length_cons, List.length_nil]; omega
        case g9b => simp only [List.length_append, List.length_cons, List.length_nil]; unfold maxLen; omega
        case g9c => have := hsA.lt; omega
        intro v5 w5 hownA hmA
        obtain ⟨a5, c5, hv5⟩ := hownA.len
        generalize hn5 : List.length _ = n5 at hv5
        subst hv5
        have h6 := hsA.app hM hvl hmA
        have hcM : w5.cell? ⟨M, 1, none⟩ = some mv := by rw [Joins.cell_of_block h6.2]; rfl
        have hfM : w5.frozen? ⟨M, 1, none⟩ = false := Joins.unfrozen_of_block h6.2 1
        have h7 := HS.store h6 hM hvl hownA
        clear hcA hsA hownA hmA h6 hs
        clear hI hA hA2
        generalize acc ++ [key] = R at *
        go_wp2_with fail
        have hz := h7
        clear h7 hcM hfM
        generalize w5.setCell ⟨M, 1, none⟩ (.slice a5 n5 c5) = wz at *
        generalize Value.slice a5 n5 c5 = mz at *
      all_goals
        have hRR := HRR.out
        clear HRR
        refine wp_region_held (S := HS w seq a xs c M mz R) (by kernel_rfl) ?_
        have s0 : HS w seq a xs c M mz R wz.drew := ⟨hz.1.drew, hz.2.1, hz.2.2⟩
        clear hz
        show wpAnyH _ _ _ _ _ 25 _ _ wz.drew
        generalize wz.drew = u0 at *
        refine take_struct 0 81 rfl rfl (by kernel_rfl) (by kernel_rfl) (by kernel_rfl) (fun _ _ _ _ h => h) (by kernel_rfl) 38 _ rfl M 38 [.int .i64 seq, mz] (by kernel_rfl) (fun w' x => x.2.1) _ Try.underlying38 rfl (by kernel_rfl) s0 ?_
        simp only [List.set_cons_zero, List.set_cons_succ]
        refine all_call 1 82 20 #[.agg #[.int .i64 seq, mz]] rfl rfl (by kernel_rfl) (by kernel_rfl) (by kernel_rfl) ?_
        refine (rightlist_any seq mz R u0 s0.2.2.sl).mono ?_
        rintro en u1 ⟨rfl, hb1⟩
        have s1 := s0.below hb1
        refine ⟨.bool true, by rw [hRR], s1, ?_⟩
        simp only [List.set_cons_zero, List.set_cons_succ]
        clear s0 hb1
        refine take_val 2 83 rfl rfl (by kernel_rfl) (by kernel_rfl) (by kernel_rfl) (fun _ _ _ _ h => h) rfl (.bool true) (fun w' x => by kernel_rfl) s1 ?_
        simp only [List.set_cons_zero, List.set_cons_succ]
        refine take_struct 3 84 rfl rfl (by kernel_rfl) (by kernel_rfl) (by kernel_rfl) (fun _ _ _ _ h => h) (by kernel_rfl) 38 _ rfl M 38 [.int .i64 seq, mz] (by kernel_rfl) (fun w' x => x.2.1) _ Try.underlying38 rfl (by kernel_rfl) s1 ?_
        simp only [List.set_cons_zero, List.set_cons_succ]
        refine take_val 4 85 rfl rfl (by kernel_rfl) (by kernel_rfl) (by kernel_rfl) (fun _ _ _ _ h => h) (by kernel_rfl) (.int .i64 key) (fun w' x => by kernel_rfl) s1 ?_
        simp only [List.set_cons_zero, List.set_cons_succ]
        refine all_call 5 86 21 #[.agg #[.int .i64 seq, mz], .int .i64 key] rfl rfl (by kernel_rfl) (by kernel_rfl) (by kernel_rfl) ?_
        refine (has_any seq mz R key u1 s1.2.2.sl).mono ?_
        rintro en u2 ⟨rfl, hb2⟩
        have s2 := s1.below hb2
        refine ⟨.bool true, by rw [hRR, decide_eq_true ((hmem key).2 (.inl rfl)), Bool.true_and], s2, ?_⟩
        simp only [List.set_cons_zero, List.set_cons_succ]
        clear s1 hb2
        refine take_val 6 87 rfl rfl (by kernel_rfl) (by kernel_rfl) (by kernel_rfl) (fun _ _ _ _ h => h) rfl (.bool true) (fun w' x => by kernel_rfl) s2 ?_
        simp only [List.set_cons_zero, List.set_cons_succ]
        refine take_val 7 88 rfl rfl (by kernel_rfl) (by kernel_rfl) (by kernel_rfl) (fun _ _ _ _ h => h) rfl (.bool true) (fun w' x => by kernel_rfl) s2 ?_
        simp only [List.set_cons_zero, List.set_cons_succ]
        refine take_val 8 89 rfl rfl (by kernel_rfl) (by kernel_rfl) (by kernel_rfl) (fun _ _ _ _ h => h) (by kernel_rfl) (.int .i64 ko) (fun w' x => by kernel_rfl) s2 ?_
        simp only [List.set_cons_zero, List.set_cons_succ]
        refine take_val 9 90 rfl rfl (by kernel_rfl) (by kernel_rfl) (by kernel_rfl) (fun _ _ _ _ h => h) (by kernel_rfl) (.int .i64 key) (fun w' x => by kernel_rfl) s2 ?_
        simp only [List.set_cons_zero, List.set_cons_succ]
        refine take_bin 10 91 rfl rfl (by kernel_rfl) (by kernel_rfl) (by kernel_rfl) (fun _ _ _ _ h => h) (by kernel_rfl) .eql 3 _ _ _ rfl (.int .i64 ko) (.int .i64 key) (.bool (decide (ko = key))) (by kernel_rfl) (by kernel_rfl) (fun w' => by kernel_rfl) (fun w' => run_eql_int Try.underlying3 _ _) s2 ?_
        simp only [List.set_cons_zero, List.set_cons_succ]
        refine take_val 11 92 rfl rfl (by kernel_rfl) (by kernel_rfl) (by kernel_rfl) (fun _ _ _ _ h => h) (by kernel_rfl) (.bool (decide (ko = key))) (fun w' x => by kernel_rfl) s2 ?_
        simp only [List.set_cons_zero, List.set_cons_succ]
        by_cases hkk : ko = key
        · simp only [decide_eq_true hkk]
          refine take_skip 12 93 rfl rfl (by kernel_rfl) (by kernel_rfl) (by kernel_rfl) (fun _ _ _ _ h => h) (by kernel_rfl) s2 ?_
          simp only [List.set_cons_zero, List.set_cons_succ]
          refine take_skip 13 94 rfl rfl (by kernel_rfl) (by kernel_rfl) (by kernel_rfl) (fun _ _ _ _ h => h) (by kernel_rfl) s2 ?_
          simp only [List.set_cons_zero, List.set_cons_succ]
          refine take_skip 14 95 rfl rfl (by kernel_rfl) (by kernel_rfl) (by kernel_rfl) (fun _ _ _ _ h => h) (by kernel_rfl) s2 ?_
          simp only [List.set_cons_zero, List.set_cons_succ]
          refine take_skip 15 96 rfl rfl (by kernel_rfl) (by kernel_rfl) (by kernel_rfl) (fun _ _ _ _ h => h) (by kernel_rfl) s2 ?_
          simp only [List.set_cons_zero, List.set_cons_succ]
          refine take_skip 16 97 rfl rfl (by kernel_rfl) (by kernel_rfl) (by kernel_rfl) (fun _ _ _ _ h => h) (by kernel_rfl) s2 ?_
          simp only [List.set_cons_zero, List.set_cons_succ]
          refine take_skip 17 98 rfl rfl (by kernel_rfl) (by kernel_rfl) (by kernel_rfl) (fun _ _ _ _ h => h) (by kernel_rfl) s2 ?_
          simp only [List.set_cons_zero, List.set_cons_succ]
          refine take_skip 18 99 rfl rfl (by kernel_rfl) (by kernel_rfl) (by kernel_rfl) (fun _ _ _ _ h => h) (by kernel_rfl) s2 ?_
          simp only [List.set_cons_zero, List.set_cons_succ]
          refine take_val 19 100 rfl rfl (by kernel_rfl) (by kernel_rfl) (by kernel_rfl) (fun _ _ _ _ h => h) (by kernel_rfl) (.bool true) (fun w' x => by kernel_rfl) s2 ?_
          simp only [List.set_cons_zero, List.set_cons_succ]
          refine take_val 20 101 rfl rfl (by kernel_rfl) (by kernel_rfl) (by kernel_rfl) (fun _ _ _ _ h => h) rfl (.bool true) (fun w' x => by kernel_rfl) s2 ?_
          simp only [List.set_cons_zero, List.set_cons_succ]
          refine take_val 21 102 rfl rfl (by kernel_rfl) (by kernel_rfl) (by kernel_rfl) (fun _ _ _ _ h => h) rfl (.bool true) (fun w' x => by kernel_rfl) s2 ?_
          simp only [List.set_cons_zero, List.set_cons_succ]
          refine all_call 22 103 22 #[] rfl rfl (by kernel_rfl) (by kernel_rfl) (by kernel_rfl) ?_
          refine (awake18 _).mono ?_
          rintro en u3 ⟨rfl, hb3⟩
          have s3 := s2.below hb3
          refine ⟨.bool true, rfl, s3, ?_⟩
          simp only [List.set_cons_zero, List.set_cons_succ]
          refine take_val 23 104 rfl rfl (by kernel_rfl) (by kernel_rfl) (by kernel_rfl) (fun _ _ _ _ h => h) rfl (.bool true) (fun w' x => by kernel_rfl) s3 ?_
          simp only [List.set_cons_zero, List.set_cons_succ]
          refine take_val 24 6 rfl rfl (by kernel_rfl) (by kernel_rfl) (by kernel_rfl) (fun _ _ _ _ h => h) rfl (.bool true) (fun w' x => by kernel_rfl) s3 ?_
          simp only [List.set_cons_zero, List.set_cons_succ]
          refine wpAnyH_done (by kernel_rfl) ?_ _
          go_wp2
          go_ret
          exact ⟨rfl, s3.1.2.2⟩
        · have hme : decide (ko ∈ R) = decide (ko ∈ xs) := decide_eq_decide.2 ((hmem ko).trans ⟨fun h => h.resolve_left hkk, .inr⟩)
          simp only [decide_eq_false hkk]
          refine take_struct 12 93 rfl rfl (by kernel_rfl) (by kernel_rfl) (by kernel_rfl) (fun _ _ _ _ h => h) (by kernel_rfl) 38 _ rfl M 38 [.int .i64 seq, mz] (by kernel_rfl) (fun w' x => x.2.1) _ Try.underlying38 rfl (by kernel_rfl) s2 ?_
          simp only [List.set_cons_zero, List.set_cons_succ]
          refine take_val 13 94 rfl rfl (by kernel_rfl) (by kernel_rfl) (by kernel_rfl) (fun _ _ _ _ h => h) (by kernel_rfl) (.int .i64 ko) (fun w' x => by kernel_rfl) s2 ?_
          simp only [List.set_cons_zero, List.set_cons_succ]
          refine take_struct 15 96 rfl rfl (by kernel_rfl) (by kernel_rfl) (by kernel_rfl) (fun _ _ _ _ h => h) (by kernel_rfl) 38 _ rfl w.heap.size 38 [.int .i64 seq, .slice a xs.length c] (by kernel_rfl) (fun w' x => x.1.1) _ Try.underlying38 rfl (by kernel_rfl) s2 ?_
          simp only [List.set_cons_zero, List.set_cons_succ]
          refine take_val 16 97 rfl rfl (by kernel_rfl) (by kernel_rfl) (by kernel_rfl) (fun _ _ _ _ h => h) (by kernel_rfl) (.int .i64 ko) (fun w' x => by kernel_rfl) s2 ?_
          simp only [List.set_cons_zero, List.set_cons_succ]
          refine all_call 14 95 21 #[.agg #[.int .i64 seq, mz], .int .i64 ko] rfl rfl (by kernel_rfl) (by kernel_rfl) (by kernel_rfl) ?_
          refine (has_any seq mz R ko u2 s2.2.2.sl).mono ?_
          rintro en u3 ⟨rfl, hb3⟩
          have s3 := s2.below hb3
          refine ⟨.bool (decide (ko ∈ xs)), by rw [hRR, Bool.true_and, hme], s3, ?_⟩
          simp only [List.set_cons_zero, List.set_cons_succ]
          clear s2 hb3
          refine all_call 17 98 21 #[.agg #[.int .i64 seq, .slice a xs.length c], .int .i64 ko] rfl rfl (by kernel_rfl) (by kernel_rfl) (by kernel_rfl) ?_
          refine (has_any seq _ xs ko u3 s3.1.2.1).mono ?_
          rintro en u4 ⟨rfl, hb4⟩
          have s4 := s3.below hb4
          refine ⟨.bool (decide (ko ∈ xs)), by rw [hR, Bool.true_and], s4, ?_⟩
          simp only [List.set_cons_zero, List.set_cons_succ]
          clear s3 hb4
          refine take_bin 18 99 rfl rfl (by kernel_rfl) (by kernel_rfl) (by kernel_rfl) (fun _ _ _ _ h => h) (by kernel_rfl) .eql 4 _ _ _ rfl (.bool (decide (ko ∈ xs))) (.bool (decide (ko ∈ xs))) (.bool true) (by kernel_rfl) (by kernel_rfl) (fun w' => run_guard_bool _ _) (fun w' => by rw [run_eql_bool Try.underlying4]; simp) s4 ?_
          simp only [List.set_cons_zero, List.set_cons_succ]
          refine take_val 19 100 rfl rfl (by kernel_rfl) (by kernel_rfl) (by kernel_rfl) (fun _ _ _ _ h => h) (by kernel_rfl) (.bool true) (fun w' x => by kernel_rfl) s4 ?_
          simp only [List.set_cons_zero, List.set_cons_succ]
          refine take_val 20 101 rfl rfl (by kernel_rfl) (by kernel_rfl) (by kernel_rfl) (fun _ _ _ _ h => h) rfl (.bool true) (fun w' x => by kernel_rfl) s4 ?_
          simp only [List.set_cons_zero, List.set_cons_succ]
          refine take_val 21 102 rfl rfl (by kernel_rfl) (by kernel_rfl) (by kernel_rfl) (fun _ _ _ _ h => h) rfl (.bool true) (fun w' x => by kernel_rfl) s4 ?_
          simp only [List.set_cons_zero, List.set_cons_succ]
          refine all_call 22 103 22 #[] rfl rfl (by kernel_rfl) (by kernel_rfl) (by kernel_rfl) ?_
          refine (awake18 _).mono ?_
          rintro en u5 ⟨rfl, hb5⟩
          have s5 := s4.below hb5
          refine ⟨.bool true, rfl, s5, ?_⟩
          simp only [List.set_cons_zero, List.set_cons_succ]
          refine take_val 23 104 rfl rfl (by kernel_rfl) (by kernel_rfl) (by kernel_rfl) (fun _ _ _ _ h => h) rfl (.bool true) (fun w' x => by kernel_rfl) s5 ?_
          simp only [List.set_cons_zero, List.set_cons_succ]
          refine take_val 24 6 rfl rfl (by kernel_rfl) (by kernel_rfl) (by kernel_rfl) (fun _ _ _ _ h => h) rfl (.bool true) (fun w' x => by kernel_rfl) s5 ?_
          simp only [List.set_cons_zero, List.set_cons_succ]
          refine wpAnyH_done (by kernel_rfl) ?_ _
          go_wp2
          go_ret
          exact ⟨rfl, s5.1.2.2⟩
theorem certHas_walk2 (w : World) (seq : Int) (hseq : -9223372036854775808 ≤ seq ∧ seq ≤ 9223372036854775807) (v : Value) (xs : List Int) (hv : SL .i64 w v xs) (hxs : ∀ x ∈ xs, -9223372036854775808 ≤ x ∧ x ≤ 9223372036854775807)
    (more : Int) (hmo : 0 ≤ more ∧ more ≤ 4294967295) (other : Int) (hot : 0 ≤ other ∧ other ≤ 4294967295) :
    Calls Try.prog 5 #[.agg #[.int .i64 seq, v], .int .u32 more, .int .u32 other] w fun e w' => e = .returned (.bool true) ∧ Below w.heap.size w w' := certHas_walk seq v xs more other hmo hot w hv
end Go.Proofs.Ytoeaekamoejhcaa
