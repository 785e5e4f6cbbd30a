/-
  Certificates and lists: what the walks of the laws lean on.
-/
import Derived.Test.YtanggdnmoaflfaaCertL
import Derived.Test.YtanggdnmoaflfaaCertF
import Derived.Test.YtanggdnmoaflfaaPk1
import Derived.Test.YtanggdnmoaflfaaAwake18
namespace Go.Proofs.Ytanggdnmoaflfaa
open Go.RowKit
set_option linter.unusedVariables false
set_option linter.unusedSimpArgs false
set_option maxRecDepth 100000
attribute [local irreducible] wpList Code.wp wpAnyZ
/-- nothing, if it is not right -/
def okv (b : Bool) (xs : List Int) : List Int := if b then xs else []
def ecF (b : Bool) : Int := if b then 0 else 180
theorem okv_true {b : Bool} (h : b = true) (xs : List Int) : okv b xs = xs := by rw [h]; rfl
theorem BytesPost.uni {w : World} {b : Bool} {xs : List Int} {e : Ending} {w' : World} (h : BytesPost w b xs e w') : ∃ a c, e = .returned (.tuple #[.slice a (okv b xs).length c, .int .i64 (ecF b)]) ∧ Below w.heap.size w w' ∧
    SL .u8 w' (.slice a (okv b xs).length c) (okv b xs) ∧ ∀ i, (Value.slice a (okv b xs).length c).ownBlock = some i → w.heap.size ≤ i ∧ i < w'.heap.size := by
  obtain ⟨hb, ⟨rfl, rfl⟩ | ⟨rfl, v, rfl, ho⟩⟩ := h
  · exact ⟨none, 0, rfl, hb, SL.nil _ _, fun i hi => by cases hi⟩
  · obtain ⟨a, c, rfl⟩ := ho.len
    exact ⟨a, c, rfl, hb, ho.sl, ho.ge⟩
theorem bytes_uint (n : Nat) (h : n < 2 ^ 64) : Bytes (uintB n) := by
  intro x hx
  rw [uintB_R n h] at hx
  have : ∀ f n, n < 128 ^ f * 128 → ∀ x ∈ uintR f n, 0 ≤ x ∧ x < 256 := by
    intro f
    induction f with
    | zero => intro n hn x hx; simp [uintR] at hx; omega
    | succ f ih =>
      intro n hn x hx
      simp only [uintR] at hx
      split at hx
      · simp at hx; omega
      · rcases List.mem_cons.1 hx with rfl | hx
        · omega
        · exact ih (n / 128) (by rw [Nat.div_lt_iff_lt_mul (by omega)]; rw [Nat.pow_succ] at hn; exact hn) x hx
  exact this 9 n (by omega) x hx
theorem Bytes.app {xs ys : List Int} (h : Bytes xs) (k : Bytes ys) : Bytes (xs ++ ys) := fun x hx => (List.mem_append.1 hx).elim (h x) (k x)
theorem bytes_uints : ∀ ns : List Int, (∀ x ∈ ns, x < 18446744073709551616) → Bytes (uintsB ns)
  | [], _ => fun x hx => by cases hx
  | n :: ns, h => (bytes_uint n.toNat (by have := h n (List.mem_cons_self ..); omega)).app (bytes_uints ns fun x hx => h x (List.mem_cons_of_mem _ hx))
theorem bytes_okv {b : Bool} {xs : List Int} (h : b = true → Bytes xs) : Bytes (okv b xs) := by
  cases b
  · intro x hx; cases hx
  · exact h rfl
theorem bytes_cert {k h : Int} {root : List Int} (hr : Bytes root) : Bytes (okv (rightC k h) (certB k root h)) := bytes_okv fun hq => by
  obtain ⟨h1, h2, h3, h4⟩ := (rightC_iff k h).1 hq
  refine (Bytes.app (fun x hx => ?_) (bytes_uints _ (fun x hx => ?_))).app hr
  · have : x = 1 := by simpa using hx
    omega
  · rcases List.mem_cons.1 hx with rfl | hx
    · omega
    · have : x = h := by simpa using hx
      omega
theorem bytes_list {q : Int} {ks : List Int} : Bytes (okv (rightL q ks) (listB q ks)) := bytes_okv fun hq => by
  obtain ⟨h1, h2, h3⟩ := rightL_all hq
  refine (Bytes.app (fun x hx => by have : x = 2 := by simpa using hx
                                    omega) (bytes_uints _ (fun x hx => ?_))).app (bytes_uints _ fun x hx => by have := h3 x hx; omega)
  rcases List.mem_cons.1 hx with rfl | hx
  · omega
  · have : x = ks.length := by simpa using hx
    omega
def certK : List IntKind := [.i64] ++ (List.replicate 32 .u8 ++ ([.i64] ++ []))
theorem certK_len : certK.length = 34 := rfl
theorem certL_zip (k h : Int) (root : List Int) (hr : root.length = 32) : certL k root h = zipK certK ([k] ++ (root ++ ([h] ++ []))) := by
  unfold certK
  rw [zipK_app _ _ _ _ rfl, zipK_app _ _ _ _ (by simpa using hr), zipK_rep _ _ _ hr]
  rfl
theorem certN_len (k h : Int) (root : List Int) (hr : root.length = 32) : ([k] ++ (root ++ ([h] ++ []))).length = certK.length := by rw [certK_len]; simp [hr]
theorem certN_wf (k h : Int) (root : List Int) (hr : root.length = 32) (hb : ∀ x ∈ root, (Lit.int .u8 x).wf = true) (hk : (Lit.int .i64 k).wf = true) (hh : (Lit.int .i64 h).wf = true) : wfK certK ([k] ++ (root ++ ([h] ++ []))) :=
  wfK_append rfl (wfK_cons hk wfK_nil) (wfK_append (by simpa using hr) (wfK_rep hb) (wfK_append rfl (wfK_cons hh wfK_nil) wfK_nil))
theorem kt_cert : KT Try.prog 25 certK 3 :=
  KT.struct Try.underlying25 (by kernel_rfl) (by kernel_rfl) (KFields.cons rfl (by kernel_rfl) rfl ((KT.int Try.underlying3).up 1) (KFields.cons rfl (by kernel_rfl) rfl (by
    have := KT.array (P := Try.prog) Try.underlying23 (KT.int Try.underlying5) (by kernel_rfl) rfl (by kernel_rfl)
    exact this) (KFields.cons rfl (by kernel_rfl) rfl ((KT.int Try.underlying3).up 1) (KFields.nil _))))
structure COk (k : Int) (root : List Int) (h : Int) : Prop where
  l : root.length = 32
  b : Bytes root
  wb : ∀ x ∈ root, (Lit.int .u8 x).wf = true
  wk : (Lit.int .i64 k).wf = true
  wh : (Lit.int .i64 h).wf = true
theorem COk.of {k h : Int} {root : List Int} (hl : root.length = 32) (hb : Bytes root) (hk : rightC k h = true) : COk k root h := by
  obtain ⟨h1, h2, h3, h4⟩ := (rightC_iff k h).1 hk
  refine ⟨hl, hb, fun x hx => ?_, ?_, ?_⟩
  · have := hb x hx; simp [Lit.wf, IntKind.min, IntKind.max, IntKind.bits, IntKind.signed]; omega
  · simp [Lit.wf, IntKind.min, IntKind.max, IntKind.bits, IntKind.signed]; omega
  · simp [Lit.wf, IntKind.min, IntKind.max, IntKind.bits, IntKind.signed]; omega
theorem readC_cases (xs : List Int) : readC xs = none ∨ ∃ k r h, readC xs = some (k, r, h) := by
  cases readC xs with
  | none => exact .inl rfl
  | some t => exact .inr ⟨t.1, t.2.1, t.2.2, rfl⟩
theorem readL_cases (xs : List Int) : readL xs = none ∨ ∃ q ks, readL xs = some (q, ks) := by
  cases readL xs with
  | none => exact .inl rfl
  | some t => exact .inr ⟨t.1, t.2, rfl⟩
theorem rcert {w : World} {cs : List Value} (h : RFields [(1, RInt .i64), (32, RInts .u8 32), (1, RInt .i64)] w cs) : ∃ k r hh, cs = certL k r hh ∧ COk k r hh := by
  obtain ⟨a, b, rfl, _, ⟨k, rfl, wk⟩, a2, b2, rfl, _, ⟨r, rfl, hl, wr⟩, a3, b3, rfl, _, ⟨m, rfl, wm⟩, rfl⟩ := h
  exact ⟨k, r, m, rfl, hl, fun x hx => by have := bounds_u8 (wr x hx); omega, wr, wk, wm⟩
theorem rrev {w : World} {cs : List Value} (h : RFields [(1, RInt .i64), (1, RRow .i64)] w cs) : ∃ q v xs, cs = [.int .i64 q, v] ∧ SL .i64 w v xs := by
  obtain ⟨a, b, rfl, _, ⟨k, rfl, wk⟩, a2, b2, rfl, _, ⟨v, xs, rfl, hs, _⟩, rfl⟩ := h
  exact ⟨k, v, xs, rfl, hs⟩
end Go.Proofs.Ytanggdnmoaflfaa
