/-
  bytes.Uint and bytes.Blob append a number's digits (a string behind its length) to a row of the call's own.
  No conditions but that the row stays below 2^47 bytes.
-/
import Derived.Test.YteaijjefbadnbaaLen
namespace Go.Proofs.Yteaijjefbadnbaa
open Go.RowKit
set_option linter.unusedVariables false
set_option linter.unusedSimpArgs false
set_option maxRecDepth 100000

theorem info_u8 : (Try.prog.info? 5).map (fun i => (i.zero, i.size, i.bytes)) = some (some (.int .u8 0), 1, 1) := by kernel_rfl

/-- The first k digits, each with its mark. -/
def digs (n k : Nat) : List Int := (List.range k).map fun j => ((128 + n / 128 ^ j % 128 : Nat) : Int)

theorem digs_succ (n k : Nat) : digs n (k + 1) = digs n k ++ [((128 + n / 128 ^ k % 128 : Nat) : Int)] := by
  simp [digs, List.range_succ]

/-- A number written down. -/
def uintB (n : Nat) : List Int := digs n (ndig 9 n - 1) ++ [((n / 128 ^ (ndig 9 n - 1) % 256 : Nat) : Int)]

theorem digs_length (n k : Nat) : (digs n k).length = k := by simp [digs]
theorem uintB_length (n : Nat) : (uintB n).length = ndig 9 n := by
  have := ndig_pos 9 n
  simp [uintB, digs_length]; omega

/-- What an appending call comes to. -/
def AppPost (e : TypeId) (k : IntKind) (w : World) (base : Nat) (xs : List Int) (en : Ending) (w' : World) : Prop :=
  ∃ v', en = .returned v' ∧ Own e k base w' v' xs ∧ Below base w w'

/-- .. told exactly. -/
def AppPostM (e : TypeId) (k : IntKind) (w : World) (base : Nat) (v : Value) (xs : List Int) (en : Ending) (w' : World) : Prop :=
  ∃ v', en = .returned v' ∧ Own e k base w' v' xs ∧ Mut w w' v v'

theorem or128_all : ∀ i : Fin 256, bits .or .u8 (i.val : Int) 128 = ((128 + i.val % 128 : Nat) : Int) := by decide +kernel
theorem pow7 (n k : Nat) : (n : Int) / 2 ^ (7 * k) = ((n / 128 ^ k : Nat) : Int) := by
  have e : (2 : Int) ^ (7 * k) = ((128 ^ k : Nat) : Int) := by
    rw [Int.pow_mul]
    simp
  rw [e]
  exact (Int.natCast_ediv _ _).symm
theorem or128 (m : Nat) : bits .or .u8 ((m : Int) % 256) 128 = ((128 + m % 128 : Nat) : Int) := by
  have h := or128_all ⟨m % 256, Nat.mod_lt _ (by omega)⟩
  have e : (m : Int) % 256 = ((m % 256 : Nat) : Int) := by omega
  rw [e, h]
  show ((128 + (m % 256) % 128 : Nat) : Int) = _
  omega

set_option maxRecDepth 100000 in
set_option maxHeartbeats 1000000 in
theorem uint_mut (base : Nat) (v : Value) (xs : List Int) (n : Nat) (w : World) (h1 : n ≤ 18446744073709551615)
    (hown : Own 5 .u8 base w v xs) (hb : base ≤ w.heap.size) (hl : xs.length ≤ 140737488355000) :
    Calls Try.prog 91 #[v, .int .u64 (n : Int)] w (AppPostM 5 .u8 w base v (xs ++ uintB n)) := by
  have hd := ndig_pos 9 n
  have hd2 := ndig_le 9 n
  go_enter Try.func91, Try.ntmps91
  go_wp2_with (go_at_call 120; refine (digits_any _ _ (by omega)).mono ?_; rintro e w' ⟨rfl, rfl⟩)
  clear h1
  have HL := Lib.hid hl
  clear hl
  generalize hD : ndig 9 n = D at *
  have HD := Lib.hid hD
  clear hD
  go_loopw [0, 11] (fun s c wr => ∃ k : Nat, k ≤ D - 1 ∧ c = .int .i64 k ∧ Own 5 .u8 base wr s (xs ++ digs n k) ∧ Mut w wr v s)
    (fun _ c _ => D - 1 - (intOf c).toNat)
  case atStart => exact ⟨0, by omega, rfl, by simpa [digs] using hown, Mut.refl _ _⟩
  case round =>
    obtain ⟨k, hk, rfl, ho, hbw⟩ := hrel
    have hsz := hbw.g.size
    by_cases hlt : k < D - 1
    · have HO := Own.alloc ho
      have hbb : base ≤ wr.heap.size := by omega
      go_wp2_with (at_builtin; refine Stop.at_ ?_)
      refine Stop.go (app_mut rfl (.tmp 14) (.tmp 21) 30 5 .u8 1 rfl Try.underlying30 info_u8 base _ _ rfl (HO _) _ [((128 + n / 128 ^ k % 128 : Nat) : Int)] rfl (SL.lit1 ?c0) ?c1 ?c2 ?c3 ?_)
      case c0 => rw [pow7, or128]
      case c1 => have := HL.out; rw [List.length_append, digs_length]; simp only [List.length_cons, List.length_nil]; omega
      case c2 => have := HL.out; rw [List.length_append, digs_length]; simp only [List.length_cons, List.length_nil]; unfold maxLen; omega
      case c3 => simp; omega
      intro v' w' hown' hb'
      go_wp2
      go_roundw
      case rel => exact ⟨k + 1, by omega, by go_num, hown'.cast (by rw [digs_succ, List.append_assoc]), hbw.trans ((Mut.alloc _).trans hb')⟩
      case measure => simp [intOf]; omega
    · have HO := Own.alloc ho
      have hbb : base ≤ wr.heap.size := by omega
      obtain rfl : k = D - 1 := by omega
      go_wp2_with (at_builtin; refine Stop.at_ ?_)
      refine Stop.go (app_mut rfl (.tmp 24) (.tmp 30) 30 5 .u8 1 rfl Try.underlying30 info_u8 base _ _ rfl (HO _) _ [((n / 128 ^ (D - 1) % 256 : Nat) : Int)] rfl (SL.lit1 ?c0) ?c1 ?c2 ?c3 ?_)
      case c0 => rw [pow7]; omega
      case c1 => have := HL.out; rw [List.length_append, digs_length]; simp only [List.length_cons, List.length_nil]; omega
      case c2 => have := HL.out; rw [List.length_append, digs_length]; simp only [List.length_cons, List.length_nil]; unfold maxLen; omega
      case c3 => simp; omega
      intro v' w' hown' hb'
      go_wp2
      go_ret
      refine ⟨_, rfl, hown'.cast ?_, hbw.trans ((Mut.alloc _).trans hb')⟩
      rw [uintB, HD.out, List.append_assoc]
theorem uint_any (base : Nat) (v : Value) (xs : List Int) (n : Nat) (w : World) (h1 : n ≤ 18446744073709551615)
    (hown : Own 5 .u8 base w v xs) (hb : base ≤ w.heap.size) (hl : xs.length ≤ 140737488355000) :
    Calls Try.prog 91 #[v, .int .u64 (n : Int)] w (AppPost 5 .u8 w base (xs ++ uintB n)) :=
  (uint_mut base v xs n w h1 hown hb hl).mono fun e w' ⟨v', he, ho, hm⟩ => ⟨v', he, ho, hm.below hb fun g hg => (hown.ge g hg).1⟩

theorem wrap_u64_len (n : Nat) (h : n ≤ maxLen) : IntKind.u64.wrap (n : Int) = n := by
  unfold maxLen at h
  simp [IntKind.wrap, IntKind.bits, IntKind.signed]
  omega

/-- A string behind its length. -/
def blobB (ys : List Int) : List Int := uintB ys.length ++ ys
theorem uintB_len (n : Nat) : (uintB n).length ≤ 10 := by rw [uintB_length]; exact ndig_le 9 n
set_option maxRecDepth 100000 in
set_option maxHeartbeats 1000000 in
theorem blob_any (base : Nat) (v u : Value) (xs ys : List Int) (w : World)
    (hown : Own 5 .u8 base w v xs) (hu : SL .u8 w u ys) (hub : ∀ g, u.ownBlock = some g → g < base) (hb : base ≤ w.heap.size) (hl : xs.length + ys.length ≤ 140737488354000) :
    Calls Try.prog 92 #[v, u] w (AppPost 5 .u8 w base (xs ++ blobB ys)) := by
  obtain ⟨a, c, rfl, hm⟩ := hu.len
  have HM := Lib.hid hm
  clear hm
  have HL := Lib.hid hl
  clear hl
  have hn := uintB_len ys.length
  go_enter Try.func92, Try.ntmps92
  go_wp2_with (go_at_call 91; refine Stop.at_ ?_)
  rw [wrap_u64_len _ HM.out]
  refine Stop.go ((uint_any base _ xs _ _ (by have := HM.out; unfold maxLen at this; omega) hown hb (by have := HL.out; omega)).mono ?_)
  rintro e w1 ⟨v1, rfl, hown1, hb1⟩
  have hs1 := hb1.size
  go_wp2_with (at_builtin; refine Stop.at_ ?_)
  refine Stop.go (app_own rfl (.tmp 10) (.tmp 11) 30 5 .u8 1 rfl Try.underlying30 info_u8 base _ _ rfl hown1 _ ys rfl (hu.keep hb1 hub) ?c1 ?c2 ?c3 ?_)
  case c1 => have := HL.out; rw [List.length_append]; omega
  case c2 => have := HL.out; rw [List.length_append]; unfold maxLen; omega
  case c3 => omega
  intro v' w' hown' hb' _
  go_wp2
  go_ret
  exact ⟨_, rfl, hown'.cast (by rw [blobB, List.append_assoc]), hb1.trans hb'⟩
end Go.Proofs.Yteaijjefbadnbaa
