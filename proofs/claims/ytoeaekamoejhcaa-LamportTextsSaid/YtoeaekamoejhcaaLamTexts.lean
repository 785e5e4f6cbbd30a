/-
  blockhouselaw09.LamportTexts: a key's text has all of its halves.
-/
import Derived.Test.YtoeaekamoejhcaaTextP
import Derived.Test.YtoeaekamoejhcaaHeld
namespace Go.Proofs.Ytoeaekamoejhcaa
open Go.RowKit
set_option linter.unusedVariables false
set_option linter.unusedSimpArgs false
set_option maxRecDepth 100000

theorem dg_info : (Try.prog.info? 23).map (·.size) = some 32 := by kernel_rfl
theorem b32_info : (Try.prog.info? 22).map (·.size) = some 32 := by kernel_rfl
theorem dg256_info : (Try.prog.info? 25).map (·.size) = some 8192 := by kernel_rfl

def TSt (w : World) (d s h : List Int) (wr : World) : Prop :=
  Blk .u8 wr w.heap.size 23 d ∧ Blk .u8 wr (w.heap.size + 1) 27 s ∧ Blk .u8 wr (w.heap.size + 1 + 1) 25 h ∧ Below w.heap.size w wr
theorem TSt.below {w : World} {d s h : List Int} {wr w' : World} (x : TSt w d s h wr) (hb : Below wr.heap.size wr w') : TSt w d s h w' :=
  ⟨x.1.below hb, x.2.1.below hb, x.2.2.1.below hb, x.2.2.2.trans (hb.mono x.2.2.2.size)⟩
theorem TSt.only {w : World} {d s h h' : List Int} {wr w' : World} (x : TSt w d s h wr) (hb : Only (w.heap.size + 1 + 1) wr w') (hh : Blk .u8 w' (w.heap.size + 1 + 1) 25 h') : TSt w d s h' w' :=
  ⟨x.1.only hb (by omega), x.2.1.only hb (by omega), hh, x.2.2.2.trans (hb.below (by omega))⟩

theorem TSt.other {w : World} {d s h : List Int} {T : Nat} {wr w' : World} (x : TSt w d s h wr) (hb : Only T wr w') (hT : w.heap.size + 1 + 1 < T) : TSt w d s h w' :=
  ⟨x.1.only hb (by omega), x.2.1.only hb (by omega), x.2.2.1.only hb (by omega), x.2.2.2.trans (hb.below (by omega))⟩
theorem SL.only {k : IntKind} {T : Nat} {w w' : World} {v : Value} {xs : List Int} (h : SL k w v xs) (hb : Only T w w') (hT : ∀ g, v.ownBlock = some g → g < T) : SL k w' v xs :=
  h.keep (hb.below (Nat.le_refl _)) hT
theorem seg_seg (s os : List Int) (K : Nat) (hos : seg 8192 8192 s = os) (hK : K < 256) : seg (8192 + K * 32) 32 s = seg (K * 32) 32 os := by
  rw [← hos]
  simp only [seg, List.drop_take, List.take_take, List.drop_drop]
  congr 1
  omega
/-- what the last statement reads -/
def LSt (w : World) (d s h : List Int) (F : Nat) (fl : List Int) (tv : Value) (tx : List Int) (wr : World) : Prop :=
  TSt w d s h wr ∧ Blk .u8 wr F 23 fl ∧ SL .u8 wr tv tx
theorem LSt.below {w : World} {d s h : List Int} {F : Nat} {fl : List Int} {tv : Value} {tx : List Int} {wr w' : World} (x : LSt w d s h F fl tv tx wr) (hb : Below wr.heap.size wr w') : LSt w d s h F fl tv tx w' :=
  ⟨x.1.below hb, x.2.1.below hb, x.2.2.below hb⟩
theorem LSt.drew {w : World} {d s h : List Int} {F : Nat} {fl : List Int} {tv : Value} {tx : List Int} {wr : World} (x : LSt w d s h F fl tv tx wr) : LSt w d s h F fl tv tx wr.drew :=
  ⟨⟨x.1.1, x.1.2.1, x.1.2.2.1, x.1.2.2.2.drew⟩, x.2.1, x.2.2⟩
theorem LSt.all {w : World} {d s h os : List Int} {F : Nat} {fl : List Int} {tv : Value} {tx : List Int} {wr : World} (K : Nat) (hs : s.length = 16384) (hh : h.length = 8192) (hf : fl.length = 32) (hos : seg 8192 8192 s = os) (hK : K < 256) (x : LSt w d s h F fl tv tx wr) :
    wr.rangeAt F 0 (cellsOf .u8 fl).toList ∧ wr.rangeAt (w.heap.size + 1 + 1) 0 (cellsOf .u8 h).toList ∧ wr.rangeAt (w.heap.size + 1) 8192 (cellsOf .u8 os).toList ∧
    wr.rangeAt (w.heap.size + 1 + 1) (K * 32) (cellsOf .u8 (seg (K * 32) 32 h)).toList ∧ wr.rangeAt (w.heap.size + 1) (8192 + K * 32) (cellsOf .u8 (seg (K * 32) 32 os)).toList ∧ LSt w d s h F fl tv tx wr := by
  refine ⟨?_, ?_, ?_, ?_, ?_, x⟩
  · have := x.2.1.range 0 32 (by omega)
    rwa [seg_all' _ hf] at this
  · have := x.1.2.2.1.range 0 8192 (by omega)
    rwa [seg_all' _ hh] at this
  · have := x.1.2.1.range 8192 8192 (by omega)
    rwa [hos] at this
  · exact x.1.2.2.1.range (K * 32) 32 (by omega)
  · have := x.1.2.1.range (8192 + K * 32) 32 (by omega)
    have e : seg (8192 + K * 32) 32 s = seg (K * 32) 32 os := by
      rw [← hos]
      simp only [seg, List.drop_take, List.take_take, List.drop_drop]
      congr 1
      omega
    rwa [e] at this

/-- the first k digests, noughts behind them -/
def partH (s : List Int) (k : Nat) : List Int := seg 0 (32 * k) s ++ zerosL (8192 - 32 * k)
theorem partH_length (s : List Int) (k : Nat) (hs : s.length = 16384) (hk : k ≤ 256) : (partH s k).length = 8192 := by
  rw [partH, List.length_append, seg_length _ _ _ (by omega), zerosL_length]; omega
theorem partH_step (s : List Int) (k : Nat) (hs : s.length = 16384) (hk : k < 256) : over (partH s k) (k * 32) (seg (k * 32) 32 s) = partH s (k + 1) := by
  have h1 : (seg (k * 32) 32 s).length = 32 := seg_length _ _ _ (by omega)
  have h2 : (seg 0 (32 * k) s).length = k * 32 := by rw [seg_length _ _ _ (by omega)]; omega
  rw [over, h1, partH, partH, List.take_left' h2, List.drop_append, h2]
  have e1 : List.drop (k * 32 + 32) (seg 0 (32 * k) s) = [] := List.drop_of_length_le (by omega)
  have e2 : k * 32 + 32 - k * 32 = 32 := by omega
  have e3 : List.drop 32 (zerosL (8192 - 32 * k)) = zerosL (8192 - 32 * (k + 1)) := by
    rw [zerosL, List.drop_replicate, zerosL]; congr 1
  rw [e1, e2, e3, List.nil_append]
  congr 1
  simp only [seg, List.drop_zero]
  have e4 : 32 * (k + 1) = 32 * k + 32 := by omega
  rw [e4, List.take_add, Nat.mul_comm]
theorem partH_all (s : List Int) : partH s 256 = seg 0 8192 s := by simp [partH, zerosL]

set_option maxHeartbeats 4000000 in
theorem lamportTexts_walk (d : List Int) (hd : d.length = 32) (hdb : Bytes d) (s : List Int) (hs : s.length = 16384) (hsb : Bytes s)
    (at_ : Int) (hat : -9223372036854775808 ≤ at_ ∧ at_ ≤ 9223372036854775807) (place : Int) (hpl : -9223372036854775808 ≤ place ∧ place ≤ 9223372036854775807) (turn : Int) (ht : 0 ≤ turn ∧ turn ≤ 255) (w : World) :
    Calls Try.prog 3 #[.agg (cellsOf .u8 d), .agg (cellsOf .u8 s), .int .i64 at_, .int .i64 place, .int .u8 turn] w fun en w' => en = .returned (.bool true) ∧ Below w.heap.size w w' := by
  go_enter Try.func3, Try.ntmps3
  go_wp2_with (with_reducible refine Stop.slot (d := 11) ?_)
  refine Stop.go (wp_alloc rfl _ rfl _ zero_dg256 ?_)
  generalize hW : World.alloc _ (Obj.cells (Value.agg (cellsOf .u8 (zerosL 8192))).cells 25) = W
  have g012 := three_new w (.cells (cellsOf .u8 d) 23) (.cells (cellsOf .u8 s) 27) (.cells (cellsOf .u8 (zerosL 8192)) 25)
  have st : TSt w d s (partH s 0) W := by
    subst hW
    exact ⟨g012.1, g012.2.1, g012.2.2, Joins.below_alloc3 w _ _ _⟩
  clear hW g012
  go_wp2_with fail
  go_loopw [20] (fun i wr => ∃ (k : Nat), k ≤ 256 ∧ i = .int .i64 k ∧ TSt w d s (partH s k) wr)
    (fun i _ => 256 - (intOf i).toNat)
  case atStart => exact ⟨0, by omega, rfl, st⟩
  case round =>
    obtain ⟨k, hk, rfl, st'⟩ := hrel
    clear st W
    by_cases hlt : k < 256
    · have hpl := partH_length s k hs hk
      go_wp2_with (with_reducible refine Stop.slot (d := 27) ?_)
      refine Stop.go (wp_load_blk rfl 22 _ rfl (k * 32) 32 rfl st'.2.1 _ Try.underlying22 rfl b32_info (by omega) ?_)
      go_wp2_with (with_reducible refine Stop.store (y := .tmp 27) ?_)
      refine Stop.go (wp_store_blk rfl 23 _ _ rfl rfl (k * 32) (seg (k * 32) 32 s) rfl rfl st'.2.2.1 (by rw [seg_length _ _ _ (by omega)]; exact dg_info) (by rw [seg_length _ _ _ (by omega)]; omega) ?_)
      intro w1 hb1 ho1
      rw [partH_step s k hs hlt] at hb1
      have st1 := st'.only ho1 hb1
      clear st' hb1 ho1
      go_wp2
      go_roundw
      case rel => exact ⟨k + 1, by omega, by go_num, st1⟩
      case measure => simp [intOf]; omega
    · obtain rfl : k = 256 := by omega
      rw [partH_all] at st'
      have hsl : (seg 0 8192 s).length = 8192 := seg_length _ _ _ (by omega)
      have hol : (seg 8192 8192 s).length = 8192 := seg_length _ _ _ (by omega)
      have hsb' := seg_bytes 0 8192 s hsb
      have hob' := seg_bytes 8192 8192 s hsb
      go_wp2_with (with_reducible refine Stop.slot (d := 30) ?_)
      refine Stop.go (wp_load_whole rfl 23 _ rfl rfl st'.1 _ Try.underlying23 rfl (by rw [hd]; exact dg_info) ?_)
      go_wp2_with (with_reducible refine Stop.slot (d := 31) ?_)
      refine Stop.go (wp_load_whole rfl 25 _ rfl rfl st'.2.2.1 _ Try.underlying25 rfl (by rw [hsl]; exact dg256_info) ?_)
      go_wp2_with (with_reducible refine Stop.slot (d := 33) ?_)
      refine Stop.go (wp_load_blk rfl 25 _ rfl 8192 8192 rfl st'.2.1 _ Try.underlying25 rfl dg256_info (by omega) ?_)
      generalize hhs : seg 0 8192 s = hs' at *
      generalize hos : seg 8192 8192 s = os' at *
      have Hhs := Lib.hid hhs
      have Hos := Lib.hid hos
      clear hhs hos
      go_wp2_with (go_at_call 15; refine Stop.at_ ?_)
      refine Stop.go ((lamtext_any d hs' os' hd hdb hsl hol wr).mono ?_)
      rintro en w1 ⟨tv, rfl, hown1, hb1⟩
      have ts1 := hown1.sl
      have st1 := st'.below hb1
      clear st' hown1 hb1
      generalize htx : textB 3 (pairsF d hs' os' 256) = tx at *
      have Htx := Lib.hid htx
      clear htx
      go_wp2_with (with_reducible refine Stop.slot (d := 35) ?_)
      refine Stop.go (wp_load_whole rfl 23 _ rfl rfl st1.1 _ Try.underlying23 rfl (by rw [hd]; exact dg_info) ?_)
      go_wp2_with (with_reducible refine Stop.slot (d := 14) ?_)
      refine Stop.go (wp_alloc rfl _ rfl _ zero_dg ?_)
      show wpList _ _ _ _ _ (w1.alloc (.cells (cellsOf .u8 (zerosL 32)) 23))
      have bt := Blk.new (k := .u8) w1 23 (zerosL 32)
      have st2 := st1.below (Joins.below_alloc1 w1 (.cells (cellsOf .u8 (zerosL 32)) 23))
      have ts2 := ts1.below (Joins.below_alloc1 w1 (.cells (cellsOf .u8 (zerosL 32)) 23))
      have tl2 := ts1.lt
      have hT := st1.2.2.1.lt
      generalize w1.alloc (.cells (cellsOf .u8 (zerosL 32)) 23) = w2 at *
      generalize w1.heap.size = T at *
      clear st1 ts1 w1
      go_wp2_with (with_reducible refine Stop.store (y := .tmp 35) ?_)
      refine Stop.go (wp_store_blk rfl 23 _ _ rfl rfl 0 d rfl rfl bt (by rw [hd]; exact dg_info) (by rw [zerosL_length]; omega) ?_)
      intro w3 hb3 ho3
      rw [over_whole _ _ (by rw [zerosL_length]; exact hd)] at hb3
      have st3 := st2.other ho3 hT
      have ts3 := ts2.only ho3 tl2
      clear st2 ts2 bt ho3 w2
      go_wp2_with fail
      go_loopw [36] (fun i wr => ∃ (k : Nat), k ≤ 32 ∧ i = .int .i64 k ∧ TSt w d s hs' wr ∧ SL .u8 wr tv tx ∧ Blk .u8 wr T 23 (turnF d k))
        (fun i _ => 32 - (intOf i).toNat)
      case atStart => exact ⟨0, by omega, rfl, st3, ts3, hb3⟩
      case round =>
        obtain ⟨k, hk, rfl, st4, ts4, bt4⟩ := hrel
        clear st3 ts3 hb3 w3
        have htl := turnF_length d k
        by_cases hlt : k < 32
        · have hc := bt4.cell k (by omega)
          have hfr := bt4.frozen k
          clear htl
          go_wp2
          go_roundw
          case rel =>
            refine ⟨k + 1, by omega, by go_num, st4.other (Only.setCell wr ⟨T, k, none⟩ _) hT, ts4.only (Only.setCell wr ⟨T, k, none⟩ _) tl2, ?_⟩
            rw [turnF, List.getD_eq_getElem?_getD]
            exact bt4.set _
          case measure => simp [intOf]; omega
        · obtain rfl : k = 32 := by omega
          rw [hd] at htl
          have hdt := turned_bytes d hd hdb
          generalize hdT : turnF d 32 = dT at *
          have HdT := Lib.hid hdT
          clear hdT
          go_wp2_with (with_reducible refine Stop.slot (d := 45) ?_)
          refine Stop.go (wp_load_whole rfl 23 _ rfl rfl bt4 _ Try.underlying23 rfl (by rw [htl]; exact dg_info) ?_)
          go_wp2_with (with_reducible refine Stop.slot (d := 47) ?_)
          refine Stop.go (wp_load_blk rfl 25 _ rfl 8192 8192 rfl st4.2.1 _ Try.underlying25 rfl dg256_info (by omega) ?_)
          rw [Hos.out]
          go_wp2_with (with_reducible refine Stop.slot (d := 48) ?_)
          refine Stop.go (wp_load_whole rfl 25 _ rfl rfl st4.2.2.1 _ Try.underlying25 rfl (by rw [hsl]; exact dg256_info) ?_)
          go_wp2_with (go_at_call 15; refine Stop.at_ ?_)
          refine Stop.go ((lamtext_any dT os' hs' htl hdt hol hsl wr).mono ?_)
          rintro en w4 ⟨tv2, rfl, hown2, hb2⟩
          have tsb := hown2.sl
          rw [show textB 3 (pairsF dT os' hs' 256) = tx by rw [← Htx.out, ← HdT.out, pairs_turned d os' hs' hd hdb 256 (by omega)]] at tsb
          have st5 := st4.below hb2
          have ts5 := ts4.below hb2
          have hxb : Bytes tx := by rw [← Htx.out]; exact text_bytes d hs' os' hsb' hob'
          clear st4 ts4 bt4 hown2 hb2 tl2
          go_wp2_with (go_at_call 16; refine Stop.at_ ?_)
          refine Stop.go ((same_any _ _ tx tx w4 tsb ts5 hxb hxb).mono ?_)
          rintro en w5 ⟨rfl, rfl⟩
          rw [decide_eq_true rfl]
          clear tsb
          have hk := pickF_range at_ 256 (by omega)
          have hp := pickF_range place 32 (by omega)
          go_wp2_with (go_at_call 17; refine Stop.at_ ?_)
          refine Stop.go ((pick_any at_ 256 (by omega) (by omega) hat.1 hat.2 w4).mono ?_)
          rintro en w5 ⟨rfl, rfl⟩
          go_wp2_with (go_at_call 17; refine Stop.at_ ?_)
          refine Stop.go ((pick_any place 32 (by omega) (by omega) hpl.1 hpl.2 w4).mono ?_)
          rintro en w5 ⟨rfl, rfl⟩
          generalize pickF at_ 256 = Ki at *
          generalize pickF place 32 = Pi at *
          obtain ⟨K, rfl⟩ := Int.eq_ofNat_of_zero_le hk.1
          obtain ⟨Pl, rfl⟩ := Int.eq_ofNat_of_zero_le hp.1
          have hK : K < 256 := by omega
          have hP : Pl < 32 := by omega
          have hKi : (K : Int) < 256 := by omega
          have hPi : (Pl : Int) < 32 := by omega
          clear hk hp hat hpl
          go_wp2_with (with_reducible refine Stop.slot (d := 57) ?_)
          refine Stop.go (wp_load_whole rfl 25 _ rfl rfl st5.2.2.1 _ Try.underlying25 rfl (by rw [hsl]; exact dg256_info) ?_)
          go_wp2_with (with_reducible refine Stop.slot (d := 18) ?_)
          refine Stop.go (wp_alloc rfl _ rfl _ zero_dg256 ?_)
          show wpList _ _ _ _ _ (w4.alloc (.cells (cellsOf .u8 (zerosL 8192)) 25))
          have bo := Blk.new (k := .u8) w4 25 (zerosL 8192)
          have st6 := st5.below (Joins.below_alloc1 w4 (.cells (cellsOf .u8 (zerosL 8192)) 25))
          have ts6 := ts5.below (Joins.below_alloc1 w4 (.cells (cellsOf .u8 (zerosL 8192)) 25))
          have tl6 := ts5.lt
          have hO := st5.2.2.1.lt
          generalize w4.alloc (.cells (cellsOf .u8 (zerosL 8192)) 25) = w6 at *
          generalize w4.heap.size = O at *
          clear st5 ts5 w4
          go_wp2_with (with_reducible refine Stop.store (y := .tmp 57) ?_)
          refine Stop.go (wp_store_blk rfl 25 _ _ rfl rfl 0 hs' rfl rfl bo (by rw [hsl]; exact dg256_info) (by rw [zerosL_length]; omega) ?_)
          intro w7 bo7 ho7
          rw [over_whole _ _ (by rw [zerosL_length]; exact hsl)] at bo7
          have st7 := st6.other ho7 hO
          have ts7 := ts6.only ho7 tl6
          clear st6 ts6 bo ho7 w6
          have hc := bo7.cell (K * 32 + Pl) (by omega)
          have hfr := bo7.frozen (K * 32 + Pl)
          have Hsl := Lib.hid hsl
          clear hsl
          go_wp2_with fail
          go_region
          have bo8 := bo7.set (i := K * 32 + Pl) (bits .xor .u8 (hs'[K * 32 + Pl]?.getD 0) turn)
          have eo : hs'.set (K * 32 + Pl) (bits .xor .u8 (hs'[K * 32 + Pl]?.getD 0) turn) = otherF hs' (K * 32 + Pl) turn := by rw [otherF, List.getD_eq_getElem?_getD]
          rw [eo] at bo8
          have on8 := (Only.setCell w7 ⟨O, K * 32 + Pl, none⟩ (.int .u8 (bits .xor .u8 (hs'[K * 32 + Pl]?.getD 0) turn))).drew
          have st8 := st7.other on8 hO
          have ts8 := ts7.only on8 tl6
          have bo9 : Blk .u8 (w7.setCell ⟨O, K * 32 + Pl, none⟩ (.int .u8 (bits .xor .u8 (hs'[K * 32 + Pl]?.getD 0) turn))).drew O 25 (otherF hs' (K * 32 + Pl) turn) := bo8
          clear eo bo8 on8 st7 ts7 bo7 hc hfr
          generalize (w7.setCell ⟨O, K * 32 + Pl, none⟩ (.int .u8 (bits .xor .u8 (hs'[K * 32 + Pl]?.getD 0) turn))).drew = w8 at *
          clear w7
          have oln : (otherF hs' (K * 32 + Pl) turn).length = 8192 := by rw [otherF, List.length_set]; exact Hsl.out
          have oby : Bytes (otherF hs' (K * 32 + Pl) turn) := other_bytes _ _ _ hsb'
          have heq := text_other d hs' os' Hsl.out hol hsb' (K * 32 + Pl) (by omega) turn ht
          rw [Htx.out] at heq
          generalize otherF hs' (K * 32 + Pl) turn = oh at *
          go_wp2_with (with_reducible refine Stop.slot (d := 67) ?_)
          refine Stop.go (wp_load_whole rfl 23 _ rfl rfl st8.1 _ Try.underlying23 rfl (by rw [hd]; exact dg_info) ?_)
          go_wp2_with (with_reducible refine Stop.slot (d := 68) ?_)
          refine Stop.go (wp_load_whole rfl 25 _ rfl rfl bo9 _ Try.underlying25 rfl (by rw [oln]; exact dg256_info) ?_)
          go_wp2_with (with_reducible refine Stop.slot (d := 70) ?_)
          refine Stop.go (wp_load_blk rfl 25 _ rfl 8192 8192 rfl st8.2.1 _ Try.underlying25 rfl dg256_info (by omega) ?_)
          rw [Hos.out]
          go_wp2_with (go_at_call 15; refine Stop.at_ ?_)
          refine Stop.go ((lamtext_any d oh os' hd hdb oln hol w8).mono ?_)
          rintro en w9 ⟨tv3, rfl, hown3, hb3⟩
          have tsc := hown3.sl
          have txb : Bytes (textB 3 (pairsF d oh os' 256)) := text_bytes d oh os' oby hob'
          have st9 := st8.below hb3
          have ts9 := ts8.below hb3
          clear st8 ts8 bo9 hown3 hb3 w8
          have Heq := Lib.hid heq
          clear heq
          go_wp2_with (go_at_call 16; refine Stop.at_ ?_)
          refine Stop.go ((same_any _ _ _ tx w9 tsc ts9 txb hxb).mono ?_)
          rintro en w10 ⟨rfl, rfl⟩
          rw [Heq.out]
          clear tsc txb oby oln Heq
          clear tl6
          go_wp2_with (with_reducible refine Stop.slot (d := 77) ?_)
          refine Stop.go (wp_load_whole rfl 23 _ rfl rfl st9.1 _ Try.underlying23 rfl (by rw [hd]; exact dg_info) ?_)
          go_wp2_with (with_reducible refine Stop.slot (d := 19) ?_)
          refine Stop.go (wp_alloc rfl _ rfl _ zero_dg ?_)
          show wpList _ _ _ _ _ (w9.alloc (.cells (cellsOf .u8 (zerosL 32)) 23))
          have bf := Blk.new (k := .u8) w9 23 (zerosL 32)
          have st10 := st9.below (Joins.below_alloc1 w9 (.cells (cellsOf .u8 (zerosL 32)) 23))
          have ts10 := ts9.below (Joins.below_alloc1 w9 (.cells (cellsOf .u8 (zerosL 32)) 23))
          have tl10 := ts9.lt
          have hF := st9.2.2.1.lt
          generalize w9.alloc (.cells (cellsOf .u8 (zerosL 32)) 23) = w10 at *
          generalize w9.heap.size = F at *
          clear st9 ts9 w9
          go_wp2_with (with_reducible refine Stop.store (y := .tmp 77) ?_)
          refine Stop.go (wp_store_blk rfl 23 _ _ rfl rfl 0 d rfl rfl bf (by rw [hd]; exact dg_info) (by rw [zerosL_length]; omega) ?_)
          intro w11 bf11 ho11
          rw [over_whole _ _ (by rw [zerosL_length]; exact hd)] at bf11
          have st11 := st10.other ho11 hF
          have ts11 := ts10.only ho11 tl10
          clear st10 ts10 bf ho11 w10
          have hc := bf11.cell (K / 8) (by omega)
          have hfr := bf11.frozen (K / 8)
          have Hd := Lib.hid hd
          clear hd
          go_wp2_with fail
          go_region
          have bf12 := bf11.set (i := K / 8) (bits .xor .u8 (d[K / 8]?.getD 0) (128 / 2 ^ (K % 8)))
          have ef : d.set (K / 8) (bits .xor .u8 (d[K / 8]?.getD 0) (128 / 2 ^ (K % 8))) = flipF d K := by rw [flipF, List.getD_eq_getElem?_getD]
          rw [ef] at bf12
          have on12 := (Only.setCell w11 ⟨F, K / 8, none⟩ (.int .u8 (bits .xor .u8 (d[K / 8]?.getD 0) (128 / 2 ^ (K % 8))))).drew
          have st12 := st11.other on12 hF
          have ts12 := ts11.only on12 tl10
          have ls : LSt w d s hs' F (flipF d K) tv tx (w11.setCell ⟨F, K / 8, none⟩ (.int .u8 (bits .xor .u8 (d[K / 8]?.getD 0) (128 / 2 ^ (K % 8))))).drew := ⟨st12, bf12, ts12⟩
          clear ef bf12 on12 st12 ts12 st11 ts11 bf11 hc hfr tl10
          generalize (w11.setCell ⟨F, K / 8, none⟩ (.int .u8 (bits .xor .u8 (d[K / 8]?.getD 0) (128 / 2 ^ (K % 8))))).drew = w12 at *
          clear w11
          have fln : (flipF d K).length = 32 := by rw [flipF, List.length_set]; exact Hd.out
          have flb : Bytes (flipF d K) := flip_bytes d K hdb
          have heq := text_flip d hs' os' Hd.out hdb Hsl.out hol K hK
          rw [Htx.out] at heq
          generalize flipF d K = fl at *
          have txf : Bytes (textB 3 (pairsF fl hs' os' 256)) := text_bytes fl hs' os' hsb' hob'
          have hmk := fun (wr : World) (x : LSt w d s hs' F fl tv tx wr) => x.all K hs Hsl.out fln Hos.out hK
          have Hmk := Lib.hid hmk
          clear hmk
          have Heq := Lib.hid heq
          clear heq
          have ls0 : LSt w d s hs' F fl tv tx w12.drew := ls.drew
          have Hxb := Lib.hid hxb
          clear ls hsb' hob' Hhs hdt htl hxb
          go_wp2_with fail
          obtain ⟨i23, hi23, hq23⟩ := Option.map_eq_some_iff.1 dg_info
          have hs23 : i23.size = 32 := hq23
          have qg : Try.prog.eqGuardType Try.prog.depth 23 = false := by kernel_rfl
          have q4 : (seg (K * 32) 32 hs').length = 32 := seg_length _ _ _ (by have := Hsl.out; omega)
          have q5 : (seg (K * 32) 32 os').length = 32 := seg_length _ _ _ (by omega)
          have x8 := fun w' => run_idx (P := Try.prog) (w := w') Try.underlying25 hi23 hs23 (w.heap.size + 1 + 1) 0 K hK
          have x12 := fun w' => run_idx (P := Try.prog) (w := w') Try.underlying25 hi23 hs23 (w.heap.size + 1) 8192 K hK
          have X8 := Lib.hid x8
          have X12 := Lib.hid x12
          clear x8 x12
          refine wp_region_held (S := LSt w d s hs' F fl tv tx) (by kernel_rfl) ?_
          show wpAnyH _ _ _ _ _ 20 _ _ w12.drew
          refine take_blk 0 87 rfl rfl (by kernel_rfl) (by kernel_rfl) (by kernel_rfl) (fun _ _ _ _ h => h) rfl 23 _ rfl (0) 32 (by kernel_rfl) (fun w' x => x.2.1) _ Try.underlying23 rfl dg_info (by omega) fl (seg_all' fl fln) ls0 ?_
          simp only [List.set_cons_zero, List.set_cons_succ]
          have hsl := Hsl.out
          refine take_blk 1 88 rfl rfl (by kernel_rfl) (by kernel_rfl) (by kernel_rfl) (fun _ _ _ _ h => h) rfl 25 _ rfl (0) 8192 (by kernel_rfl) (fun w' x => x.1.2.2.1) _ Try.underlying25 rfl dg256_info (by omega) hs' (seg_all' hs' hsl) ls0 ?_
          simp only [List.set_cons_zero, List.set_cons_succ]
          refine take_val 2 89 rfl rfl (by kernel_rfl) (by kernel_rfl) (by kernel_rfl) (fun _ _ _ _ h => h) rfl (.pointer (some ⟨w.heap.size + 1, 8192, none⟩)) (fun w' x => by kernel_rfl) ls0 ?_
          simp only [List.set_cons_zero, List.set_cons_succ]
          refine take_blk 3 90 rfl rfl (by kernel_rfl) (by kernel_rfl) (by kernel_rfl) (fun _ _ _ _ h => h) rfl 25 _ rfl (8192) 8192 (by kernel_rfl) (fun w' x => x.1.2.1) _ Try.underlying25 rfl dg256_info (by omega) os' (Hos.out) ls0 ?_
          simp only [List.set_cons_zero, List.set_cons_succ]
          refine take_val 5 92 rfl rfl (by kernel_rfl) (by kernel_rfl) (by kernel_rfl) (fun _ _ _ _ h => h) rfl tv (fun w' x => by kernel_rfl) ls0 ?_
          simp only [List.set_cons_zero, List.set_cons_succ]
          refine take_val 7 94 rfl rfl (by kernel_rfl) (by kernel_rfl) (by kernel_rfl) (fun _ _ _ _ h => h) rfl (.int .i64 (K : Int)) (fun w' x => by kernel_rfl) ls0 ?_
          simp only [List.set_cons_zero, List.set_cons_succ]
          refine take_idx 8 95 rfl rfl (by kernel_rfl) (by kernel_rfl) (by kernel_rfl) (fun _ _ _ _ h => h) rfl 25 _ _ rfl (.pointer (some ⟨w.heap.size + 1 + 1, 0, none⟩)) (.int .i64 (K : Int)) (.pointer (some ⟨w.heap.size + 1 + 1, 0 + K * 32, none⟩)) (by kernel_rfl) (by kernel_rfl) X8.out ls0 ?_
          simp only [List.set_cons_zero, List.set_cons_succ]
          refine take_blk 9 96 rfl rfl (by kernel_rfl) (by kernel_rfl) (by kernel_rfl) (fun _ _ _ _ h => h) rfl 23 _ rfl (0 + K * 32) 32 (by kernel_rfl) (fun w' x => x.1.2.2.1) _ Try.underlying23 rfl dg_info (by omega) (seg (K * 32) 32 hs') (by rw [Nat.zero_add]) ls0 ?_
          simp only [List.set_cons_zero, List.set_cons_succ]
          refine take_val 10 97 rfl rfl (by kernel_rfl) (by kernel_rfl) (by kernel_rfl) (fun _ _ _ _ h => h) rfl (.int .i64 (K : Int)) (fun w' x => by kernel_rfl) ls0 ?_
          simp only [List.set_cons_zero, List.set_cons_succ]
          refine take_val 11 98 rfl rfl (by kernel_rfl) (by kernel_rfl) (by kernel_rfl) (fun _ _ _ _ h => h) rfl (.pointer (some ⟨w.heap.size + 1, 8192, none⟩)) (fun w' x => by kernel_rfl) ls0 ?_
          simp only [List.set_cons_zero, List.set_cons_succ]
          refine take_idx 12 99 rfl rfl (by kernel_rfl) (by kernel_rfl) (by kernel_rfl) (fun _ _ _ _ h => h) rfl 25 _ _ rfl (.pointer (some ⟨w.heap.size + 1, 8192, none⟩)) (.int .i64 (K : Int)) (.pointer (some ⟨w.heap.size + 1, 8192 + K * 32, none⟩)) (by kernel_rfl) (by kernel_rfl) X12.out ls0 ?_
          simp only [List.set_cons_zero, List.set_cons_succ]
          refine take_blk 13 100 rfl rfl (by kernel_rfl) (by kernel_rfl) (by kernel_rfl) (fun _ _ _ _ h => h) rfl 23 _ rfl (8192 + K * 32) 32 (by kernel_rfl) (fun w' x => x.1.2.1) _ Try.underlying23 rfl dg_info (by omega) (seg (K * 32) 32 os') (seg_seg s os' K Hos.out hK) ls0 ?_
          simp only [List.set_cons_zero, List.set_cons_succ]
          refine take_bin 14 101 rfl rfl (by kernel_rfl) (by kernel_rfl) (by kernel_rfl) (fun _ _ _ _ h => h) rfl .eql 23 _ _ _ rfl (.agg (cellsOf .u8 (seg (K * 32) 32 hs'))) (.agg (cellsOf .u8 (seg (K * 32) 32 os'))) (.bool (decide (seg (K * 32) 32 hs' = seg (K * 32) 32 os'))) (by kernel_rfl) (by kernel_rfl) (fun w' => run_eqGuard_agg w' _ _ _ _ _ _ qg) (fun w' => by rw [run_eql_struct, eq_array 9998 Try.underlying23 Try.underlying5 (by kernel_rfl) _ _ q4 q5]; rfl) ls0 ?_
          simp only [List.set_cons_zero, List.set_cons_succ]
          refine all_call 4 91 15 #[.agg (cellsOf .u8 fl), .agg (cellsOf .u8 hs'), .agg (cellsOf .u8 os')] rfl rfl (by kernel_rfl) rfl (by kernel_rfl) ?_
          refine (lamtext_any fl hs' os' fln flb hsl hol _).mono ?_
          rintro en w13 ⟨tv4, rfl, hown4, hb4⟩
          have ls1 := ls0.below hb4
          have ts4 := hown4.sl
          refine ⟨tv4, rfl, ls1, ?_⟩
          simp only [List.set_cons_zero, List.set_cons_succ]
          refine all_call 6 93 16 #[tv4, tv] rfl rfl (by kernel_rfl) rfl (by kernel_rfl) ?_
          refine (same_any _ _ _ tx w13 ts4 ls1.2.2 txf Hxb.out).mono ?_
          rintro en w14 ⟨rfl, rfl⟩
          refine ⟨.bool (decide (seg (K * 32) 32 hs' = seg (K * 32) 32 os')), by rw [Heq.out], ls1, ?_⟩
          simp only [List.set_cons_zero, List.set_cons_succ]
          refine take_bin 15 102 rfl rfl (by kernel_rfl) (by kernel_rfl) (by kernel_rfl) (fun _ _ _ _ h => h) rfl .eql 4 _ _ _ rfl (.bool (decide (seg (K * 32) 32 hs' = seg (K * 32) 32 os'))) (.bool (decide (seg (K * 32) 32 hs' = seg (K * 32) 32 os'))) (.bool true) (by kernel_rfl) (by kernel_rfl) (fun w' => run_guard_bool _ _) (fun w' => by rw [run_eql_bool Try.underlying4]; simp) ls1 ?_
          simp only [List.set_cons_zero, List.set_cons_succ]
          refine take_val 16 103 rfl rfl (by kernel_rfl) (by kernel_rfl) (by kernel_rfl) (fun _ _ _ _ h => h) rfl (.bool true) (fun w' x => by kernel_rfl) ls1 ?_
          simp only [List.set_cons_zero, List.set_cons_succ]
          refine all_call 17 104 18 #[] rfl rfl (by kernel_rfl) (by kernel_rfl) (by kernel_rfl) ?_
          refine (awake09 w13).mono ?_
          rintro en w15 ⟨rfl, hb5⟩
          have ls2 := ls1.below hb5
          refine ⟨.bool true, rfl, ls2, ?_⟩
          simp only [List.set_cons_zero, List.set_cons_succ]
          refine take_val 18 105 rfl rfl (by kernel_rfl) (by kernel_rfl) (by kernel_rfl) (fun _ _ _ _ h => h) rfl (.bool true) (fun w' x => by kernel_rfl) ls2 ?_
          simp only [List.set_cons_zero, List.set_cons_succ]
          refine take_val 19 10 rfl rfl (by kernel_rfl) (by kernel_rfl) (by kernel_rfl) (fun _ _ _ _ h => h) rfl (.bool true) (fun w' x => by kernel_rfl) ls2 ?_
          simp only [List.set_cons_zero, List.set_cons_succ]
          refine wpAnyH_done (by kernel_rfl) ?_ _
          go_wp2
          go_ret
          exact ⟨rfl, ls2.1.2.2.2⟩
end Go.Proofs.Ytoeaekamoejhcaa
