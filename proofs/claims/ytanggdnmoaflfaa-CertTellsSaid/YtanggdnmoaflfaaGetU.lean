/-
  bytes.rest, GetUint.
-/
import Derived.Test.YtanggdnmoaflfaaGetL
import Derived.Test.YtanggdnmoaflfaaPk1
namespace Go.Proofs.Ytanggdnmoaflfaa
open Go.RowKit
set_option linter.unusedVariables false
set_option linter.unusedSimpArgs false
set_option maxRecDepth 100000

theorem SL.drop {k : IntKind} {w : World} {b o n c : Nat} {xs : List Int} (h : SL k w (.slice (some ⟨b, o, none⟩) n c) xs) (m : Nat) (hm : m ≤ n) : SL k w (.slice (some ⟨b, o + m, none⟩) (n - m) (c - m)) (xs.drop m) := by
  rcases h with ⟨h, _⟩ | ⟨b', o', c', hv, h1, h2, h3, h4⟩
  · cases h
  · simp only [Value.slice.injEq, Option.some.injEq, Addr.mk.injEq] at hv
    obtain ⟨⟨rfl, rfl, _⟩, rfl, rfl⟩ := hv
    refine .inr ⟨_, _, _, by rw [List.length_drop], by rw [List.length_drop]; omega, by omega, h3, fun j hj => ?_⟩
    rw [List.length_drop] at hj
    have := h4 (m + j) (by omega)
    rw [Nat.add_assoc, this]
    simp [List.getD]

set_option maxHeartbeats 800000 in
theorem rest_any (v : Value) (xs : List Int) (at_ : Nat) (w : World) (hv : SL .u8 w v xs) (ha : at_ ≤ xs.length) :
    Calls Try.prog 98 #[v, .int .i64 at_] w fun e w' => ∃ u, e = .returned (.tuple #[u, .bool true]) ∧ w = w' ∧ SL .u8 w u (xs.drop at_) ∧ ∀ g, u.ownBlock = some g → v.ownBlock = some g := by
  have hv0 := hv
  obtain ⟨a, c, rfl, hm⟩ := hv.len
  rcases hv with ⟨h1, h2⟩ | ⟨b, o, c', h1, h2, h3, h4, h5⟩
  · subst h2
    simp only [Value.slice.injEq] at h1
    obtain ⟨rfl, _, rfl⟩ := h1
    obtain rfl : at_ = 0 := by simpa using ha
    go_enter Try.func98, Try.ntmps98
    go_wp2
    go_ret2
    exact ⟨_, rfl, rfl, SL.nil _ _, fun g hg => hg⟩
  · simp only [Value.slice.injEq] at h1
    obtain ⟨rfl, _, rfl⟩ := h1
    have hd := hv0.drop at_ ha
    have hlen : (xs.drop at_).length = xs.length - at_ := List.length_drop
    clear h5 hv0
    generalize xs.drop at_ = ys at *
    generalize xs.length = n at *
    go_enter Try.func98, Try.ntmps98
    go_wp2
    · go_ret2
      rename_i h
      have hn : n - at_ = 0 := by omega
      obtain rfl : ys = [] := List.eq_nil_of_length_eq_zero (by omega)
      refine ⟨_, rfl, rfl, ?_, fun g hg => hg⟩
      exact .inr ⟨b, o, 0, by simp [hn], by simp, by omega, h4, fun j hj => by simp at hj⟩
    · go_ret2
      exact ⟨_, rfl, rfl, hd, fun g hg => hg⟩

set_option maxHeartbeats 400000 in
theorem ends_any (x : Int) (w : World) : Calls Try.prog 100 #[.int .u8 x] w fun e w' => e = .returned (.bool (decide (x < 128))) ∧ w = w' := by
  go_enter Try.func100, Try.ntmps100
  go_wp2
  go_ret
  exact ⟨rfl, rfl⟩

/-- The place, or -1. -/
def placeF (l : List Int) : Int := match lastF l with | none => -1 | some k => (k : Int)
theorem lastF_drop (xs : List Int) (k : Nat) (hk : k < xs.length) : lastF (xs.drop k) = if xs.getD k 0 < 128 then some 0 else (lastF (xs.drop (k + 1))).map (· + 1) := by
  rw [List.drop_eq_getElem_cons hk, lastF]
  simp [hk]

set_option maxHeartbeats 800000 in
theorem idxends_any (v : Value) (xs : List Int) (w : World) (hv : SL .u8 w v xs) :
    Calls Try.prog 99 #[v, .func (.func 100) #[] #[]] w fun e w' => e = .returned (.int .i64 (placeF xs)) ∧ w = w' := by
  obtain ⟨a, c, rfl, hm⟩ := hv.len
  have HM := Lib.hid hm
  clear hm
  go_enter Try.func99, Try.ntmps99
  go_wp2_with fail
  go_loopw [8] (fun i wr => ∃ k : Nat, k ≤ xs.length ∧ i = .int .i64 k ∧ lastF xs = (lastF (xs.drop k)).map (· + k) ∧ w = wr)
    (fun i _ => xs.length - (intOf i).toNat)
  case atStart => exact ⟨0, by omega, rfl, by simp, rfl⟩
  case round =>
    obtain ⟨k, hk, rfl, hg, rfl⟩ := hrel
    have hm2 : xs.length ≤ 9223372036854775807 := HM.out
    by_cases hlt : k < xs.length
    · rcases hv with ⟨h1, h2⟩ | ⟨b, of, c', h1, h2, h3, h4, h5⟩
      · subst h2; simp at hlt
      · simp only [Value.slice.injEq] at h1
        obtain ⟨rfl, _, rfl⟩ := h1
        have hcell := h5 k hlt
        rw [lastF_drop xs k hlt] at hg
        clear h5 h4 h3 h2
        generalize xs.getD k 0 = x at *
        by_cases hx : x < 128
        · rw [if_pos hx] at hg
          have hp : placeF xs = k := by rw [placeF, hg]; simp
          have HP := Lib.hid hp
          clear hp hg
          go_wp2_with (go_at_call 100; refine Stop.at_ ?_)
          refine Stop.go ((ends_any x w).mono ?_)
          rintro e w2 ⟨rfl, rfl⟩
          rw [decide_eq_true hx]
          go_wp2
          go_ret
          exact ⟨by rw [HP.out]; rfl, rfl⟩
        · rw [if_neg hx] at hg
          have hp : lastF xs = (lastF (xs.drop (k + 1))).map (· + (k + 1)) := by
            rw [hg, Option.map_map]
            congr 1
            funext j
            simp only [Function.comp]
            omega
          have HP := Lib.hid hp
          clear hp hg
          go_wp2_with (go_at_call 100; refine Stop.at_ ?_)
          refine Stop.go ((ends_any x w).mono ?_)
          rintro e w2 ⟨rfl, rfl⟩
          rw [decide_eq_false (by omega : ¬ x < 128)]
          go_wp2
          go_roundw
          case rel => exact ⟨k + 1, by omega, by go_num, HP.out, trivial⟩
          case measure => simp [intOf]; omega
    · obtain rfl : k = xs.length := by omega
      rw [List.drop_length] at hg
      have hp : placeF xs = -1 := by rw [placeF, hg]; simp [lastF]
      have HP := Lib.hid hp
      clear hp hg
      go_wp2
      go_ret
      exact ⟨by rw [HP.out]; rfl, rfl⟩

theorem and127_all : ∀ i : Fin 256, bits .and .u8 (i.val : Int) 127 = ((i.val % 128 : Nat) : Int) := by decide +kernel
theorem horner (n : Nat) (y : Int) (h0 : 0 ≤ y) (h1 : y < 256) (h : n * 128 + 128 ≤ 2 ^ 64) : Value.int .u64 (bits .or .u64 (IntKind.u64.wrap ((n : Int) * 128)) (IntKind.u64.wrap (bits .and .u8 y 127))) = Value.int .u64 ((y.toNat % 128 + 128 * n : Nat) : Int) := by
  obtain ⟨m, rfl⟩ := Int.eq_ofNat_of_zero_le h0
  have e1 := and127_all ⟨m, by omega⟩
  simp only at e1
  rw [e1, Int.toNat_natCast, show (n : Int) * 128 = ((n * 128 : Nat) : Int) by omega]
  rw [wrap_nat (by rfl) _ (by show n * 128 < 2 ^ 64; omega), wrap_nat (by rfl) _ (by show m % 128 < 2 ^ 64; omega)]
  rw [bits_or (by rfl) _ _ (by show n * 128 < 2 ^ 64; omega) (by show m % 128 < 2 ^ 64; omega)]
  have h2 := Nat.two_pow_add_eq_or_of_lt (i := 7) (b := m % 128) (Nat.mod_lt _ (by decide)) n
  congr 2
  rw [show n * 128 = 2 ^ 7 * n by omega, ← h2]
  omega
/-- What GetUint tells at a place, l from there on. -/
def GetPost (w : World) (l : List Int) (at_ : Nat) (e : Ending) (w' : World) : Prop :=
  w = w' ∧ ((getE l ≠ 0 ∧ e = .returned (.tuple #[.int .u64 0, .int .i64 0, .int .i64 (getE l)])) ∨
    (getE l = 0 ∧ e = .returned (.tuple #[.int .u64 (getN l), .int .i64 ((at_ + getK l : Nat) : Int), .int .i64 0])))
theorem numF_step (l : List Int) (k j : Nat) (hk : k < l.length) (hj : j ≤ k) : numF ((l.take (k + 1)).drop (k - j)) = (l.getD (k - j) 0).toNat % 128 + 128 * numF ((l.take (k + 1)).drop (k - j + 1)) := by
  rw [List.drop_eq_getElem_cons (by rw [List.length_take]; omega), numF]
  congr 2
  rw [List.getElem_take]
  simp [show k - j < l.length by omega]

set_option maxHeartbeats 1600000 in
theorem getuint_any (v : Value) (xs : List Int) (at_ : Nat) (w : World) (hv : SL .u8 w v xs) (ha : at_ ≤ xs.length) (hb : Bytes xs) :
    Calls Try.prog 76 #[v, .int .i64 at_] w (GetPost w (xs.drop at_) at_) := by
  have hlb : Bytes (xs.drop at_) := fun x hx => hb x (List.mem_of_mem_drop hx)
  have hml : at_ + (xs.drop at_).length ≤ maxLen := by
    obtain ⟨_, _, _, hm⟩ := hv.len
    rw [List.length_drop]; omega
  generalize hd : xs.drop at_ = l at *
  go_enter Try.func76, Try.ntmps76
  go_wp2_with (go_at_call 98; refine Stop.at_ ?_)
  refine Stop.go ((rest_any v xs at_ w hv ha).mono ?_)
  rintro e w2 ⟨u, rfl, rfl, hu, _⟩
  rw [hd] at hu
  clear hv hb hd
  go_wp2_with (go_at_call 99; refine Stop.at_ ?_)
  refine Stop.go ((idxends_any u l w hu).mono ?_)
  rintro e w2 ⟨rfl, rfl⟩
  cases hl : lastF l with
  | none =>
    have hp : placeF l = -1 := by rw [placeF, hl]
    rw [hp]
    obtain ⟨a, c, rfl, hm⟩ := hu.len
    by_cases h10 : l.length < 10
    · have hE : getE l = 10 := by rw [getE, hl]; simp [h10]
      have HE := Lib.hid hE
      have h10' : (l.length : Int) < 10 := by omega
      clear hE hp
      go_wp2
      go_ret3
      exact ⟨rfl, .inl ⟨by rw [HE.out]; decide, by rw [HE.out]; rfl⟩⟩
    · have hE : getE l = 11 := by rw [getE, hl]; simp [h10]
      have HE := Lib.hid hE
      have h10' : ¬ (l.length : Int) < 10 := by omega
      clear hE hp
      go_wp2
      go_ret3
      exact ⟨rfl, .inl ⟨by rw [HE.out]; decide, by rw [HE.out]; rfl⟩⟩
  | some k =>
    have hp : placeF l = k := by rw [placeF, hl]
    rw [hp]
    have hlt := lastF_lt l k hl
    obtain ⟨b, o, c, rfl, hc1, hc2⟩ := hu.form (by omega)
    have hcells : ∀ j, j < l.length → w.cell? ⟨b, o + j, none⟩ = some (.int .u8 (l.getD j 0)) := by
      rcases hu with ⟨h, _⟩ | ⟨b', o', c', hv, h1, h2, h3, h4⟩
      · cases h
      · simp only [Value.slice.injEq, Option.some.injEq, Addr.mk.injEq] at hv
        obtain ⟨⟨rfl, rfl, _⟩, _, rfl⟩ := hv
        exact h4
    have hck := hcells k hlt.1
    clear hp hu
    by_cases h10 : 10 ≤ k
    · have hE : getE l = 11 := by rw [getE, hl]; simp [h10]
      have HE := Lib.hid hE
      have h10' : (10:Int) ≤ (k : Int) := by omega
      clear hE hcells
      go_wp2
      go_ret3
      exact ⟨rfl, .inl ⟨by rw [HE.out]; decide, by rw [HE.out]; rfl⟩⟩
    · have h10' : (k : Int) < 10 := by omega
      by_cases h9 : k = 9 ∧ 1 < l.getD 9 0
      · have hE : getE l = 11 := by rw [getE, hl]; simp only; rw [if_pos (.inr (.inl h9))]
        have HE := Lib.hid hE
        obtain ⟨rfl, h9'⟩ := h9
        clear hE hcells
        generalize l.getD 9 0 = x at *
        go_wp2
        go_ret3
        exact ⟨rfl, .inl ⟨by rw [HE.out]; decide, by rw [HE.out]; rfl⟩⟩
      · by_cases h0 : 0 < k ∧ l.getD k 0 = 0
        · have hE : getE l = 11 := by rw [getE, hl]; simp only; rw [if_pos (.inr (.inr h0))]
          have HE := Lib.hid hE
          obtain ⟨hk0, hx0⟩ := h0
          have hk0' : (0:Int) < (k : Int) := by omega
          rw [hx0] at hck
          clear hE hcells
          by_cases h9k : k = 9
          · subst h9k
            go_wp2
            go_ret3
            exact ⟨rfl, .inl ⟨by rw [HE.out]; decide, by rw [HE.out]; rfl⟩⟩
          · have h9k' : ¬ (k : Int) = 9 := by omega
            go_wp2
            go_ret3
            exact ⟨rfl, .inl ⟨by rw [HE.out]; decide, by rw [HE.out]; rfl⟩⟩
        · have hE : getE l = 0 := by
            rw [getE, hl]; simp only
            rw [if_neg]
            rintro (h | h | h)
            · exact h10 h
            · exact h9 h
            · exact h0 h
          have HE := Lib.hid hE
          have HN := put_get l hlb hE
          have hK : getK l = k + 1 := by rw [getK, hl]; rfl
          have hN : getN l = numF (l.take (k + 1)) := by rw [getN, hK]
          have h64 : numF (l.take (k + 1)) < 2 ^ 64 := by rw [← hN]; exact HN.2.1
          have HR : Hid (getE l = 0 ∧ getK l = k + 1 ∧ getN l = numF (l.take (k + 1))) := Lib.hid ⟨hE, hK, hN⟩
          clear hE hK hN HN HE hl
          have hx1 : ¬ (k = 9 ∧ 1 < l.getD k 0) := fun h => h9 ⟨h.1, by rw [← h.1]; exact h.2⟩
          clear h9
          generalize hx : l.getD k 0 = x at *
          have h3 : ((k : Int) = 9 ∧ (0 : Int) < (k : Int) ∧ ¬ 1 < x ∧ ¬ x = 0) ∨ (¬ (k : Int) = 9 ∧ ¬ (0 : Int) < (k : Int)) ∨ (¬ (k : Int) = 9 ∧ (0 : Int) < (k : Int) ∧ ¬ x = 0) := by
            rcases Nat.eq_zero_or_pos k with hk | hk
            · right; left; omega
            · by_cases hk9 : k = 9
              · left; refine ⟨by omega, by omega, fun h => hx1 ⟨hk9, h⟩, fun h => h0 ⟨hk, h⟩⟩
              · right; right; exact ⟨by omega, by omega, fun h => h0 ⟨hk, h⟩⟩
          clear h0 hx1
          have hkl := hlt.1
          clear hx
          have HC : Hid ((0:Int) = 0 ∧ ∀ j, j < l.length → w.cell? ⟨b, o + j, none⟩ = some (.int .u8 (l.getD j 0))) := Lib.hid ⟨rfl, hcells⟩
          have HB : Hid ((0:Int) = 0 ∧ Bytes l) := Lib.hid ⟨rfl, hlb⟩
          clear hcells hlb
          have hq5 : x = 0 ∨ (x == 0) = false := by by_cases h : x = 0 <;> simp [h]
          rcases h3 with ⟨hq1, hq2, hq3, hq4⟩ | ⟨hq1, hq2⟩ | ⟨hq1, hq2, hq4⟩
          all_goals
            (try (have hq6 : (x == 0) = false := by simpa using hq4))
            clear hq5
            (try (have hck9 : w.cell? ⟨b, o + 9, none⟩ = some (.int .u8 x) := (show k = 9 by omega) ▸ hck))
            go_wp2_with fail
            go_loopw [10, 59] (fun n i wr => ∃ j : Nat, j ≤ k + 1 ∧ i = .int .i64 j ∧ n = .int .u64 (numF ((l.take (k + 1)).drop (k + 1 - j)) : Nat) ∧ wr = w)
              (fun _ i _ => k + 1 - (intOf i).toNat)
            case atStart => exact ⟨0, by omega, rfl, by simp [numF], rfl⟩
            case round =>
              obtain ⟨j, hj, rfl, rfl, rfl⟩ := hrel
              by_cases hjk : j ≤ k
              · have hst := numF_step l k j hkl hjk
                have hcj := HC.out.2 (k - j) (by omega)
                have hyb : 0 ≤ l.getD (k - j) 0 ∧ l.getD (k - j) 0 < 256 := by
                  rw [show l.getD (k - j) 0 = l[k - j]'(by omega) by simp [show k - j < l.length by omega]]
                  exact HB.out.2 _ (List.getElem_mem _)
                have HY := Lib.hid hyb
                clear hyb
                rw [show k - j + 1 = k + 1 - j by omega] at hst
                have hle : numF ((l.take (k + 1)).drop (k - j)) ≤ numF (l.take (k + 1)) := by
                  have := numF_append ((l.take (k + 1)).take (k - j)) ((l.take (k + 1)).drop (k - j))
                  rw [List.take_append_drop] at this
                  rw [this]
                  have : 1 ≤ 128 ^ ((l.take (k + 1)).take (k - j)).length := Nat.one_le_pow _ _ (by omega)
                  calc _ = 1 * numF ((l.take (k + 1)).drop (k - j)) := (Nat.one_mul _).symm
                    _ ≤ 128 ^ ((l.take (k + 1)).take (k - j)).length * numF ((l.take (k + 1)).drop (k - j)) := Nat.mul_le_mul_right _ this
                    _ ≤ _ := Nat.le_add_left _ _
                have HS1 := Lib.hid hst
                have HL1 := Lib.hid hle
                clear hst hle
                have hsub : (k : Int) - (j : Int) = ((k - j : Nat) : Int) := by omega
                (try (have hsub9 : (9 : Int) - (j : Int) = ((k - j : Nat) : Int) := by omega))
                generalize l.getD (k - j) 0 = y at *
                generalize numF ((l.take (k + 1)).drop (k + 1 - j)) = n at *
                go_wp2
                go_roundw
                case rel =>
                  have h1 := HS1.out
                  have h2 := HL1.out
                  refine ⟨j + 1, by omega, by go_num, ?_, trivial⟩
                  rw [horner n y HY.out.1 HY.out.2 (by omega), show k + 1 - (j + 1) = k - j by omega, h1]
                case measure => simp [intOf]; omega
              · obtain rfl : j = k + 1 := by omega
                rw [Nat.sub_self, List.drop_zero]
                have hat : (at_ : Int) + (k : Int) + 1 ≤ 9223372036854775807 := by unfold maxLen at hml; omega
                have hat2 : (at_ : Int) + (k : Int) ≤ 9223372036854775806 := by omega
                have hK : ((at_ + getK l : Nat) : Int) = (at_ : Int) + (k : Int) + 1 := by rw [HR.out.2.1]; omega
                have HK := Lib.hid hK
                clear hK
                (try (have hat9 : (at_ : Int) + 9 + 1 ≤ 9223372036854775807 := by omega))
                (try (have hk9 : (k : Int) = 9 := by omega))
                go_wp2
                go_ret3
                refine ⟨rfl, .inr ⟨HR.out.1, ?_⟩⟩
                rw [HR.out.2.2, HK.out]
                first | rfl | (rw [hk9]; rfl)
end Go.Proofs.Ytanggdnmoaflfaa
