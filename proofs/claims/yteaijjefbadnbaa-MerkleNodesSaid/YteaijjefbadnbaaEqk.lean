/-
  Structs and arrays of whole numbers compared, whole; strings out of bytes compared.
  No conditions: lemmas over any program.
-/
import Derived.Test.YteaijjefbadnbaaCtl
import Derived.Test.YteaijjefbadnbaaSame
import Derived.DeepKeys
namespace Go.Proofs.Yteaijjefbadnbaa
open Go.RowKit
set_option linter.unusedVariables false
set_option linter.unusedSimpArgs false
set_option maxRecDepth 100000

section
variable {P : Program}
def zipK (ks : List IntKind) (ns : List Int) : List Value := List.zipWith Value.int ks ns
def zipL (ks : List IntKind) (ns : List Int) : List Lit := List.zipWith Lit.int ks ns
def wfK (ks : List IntKind) (ns : List Int) : Prop := ∀ (i : Nat) (k : IntKind) (n : Int), ks[i]? = some k → ns[i]? = some n → (Lit.int k n).wf = true
/-- t's cells are whole numbers of these kinds. -/
def KT (P : Program) (t : TypeId) (ks : List IntKind) (D : Nat) : Prop := ∀ ns : List Int, ns.length = ks.length → wfK ks ns → P.keyLits D t (zipK ks ns) = some (zipL ks ns)
theorem zipK_len (ks : List IntKind) (ns : List Int) (h : ns.length = ks.length) : (zipK ks ns).length = ks.length := by simp [zipK, h]
theorem zipK_app (ks kt : List IntKind) (ns nt : List Int) (h : ns.length = ks.length) : zipK (ks ++ kt) (ns ++ nt) = zipK ks ns ++ zipK kt nt := List.zipWith_append h.symm
theorem zipL_app (ks kt : List IntKind) (ns nt : List Int) (h : ns.length = ks.length) : zipL (ks ++ kt) (ns ++ nt) = zipL ks ns ++ zipL kt nt := List.zipWith_append h.symm
theorem zipK_rep (k : IntKind) : ∀ (n : Nat) (xs : List Int), xs.length = n → zipK (List.replicate n k) xs = xs.map (Value.int k)
  | 0, [], _ => rfl
  | n + 1, x :: xs, h => by
    have := zipK_rep k n xs (by simpa using h)
    simp only [zipK] at this
    simp [zipK, List.replicate_succ, this]
theorem wfK_app {ks kt : List IntKind} {ns nt : List Int} (hl : ns.length = ks.length) (h : wfK (ks ++ kt) (ns ++ nt)) : wfK ks ns ∧ wfK kt nt := by
  refine ⟨fun i k n h1 h2 => h i k n ?_ ?_, fun i k n h1 h2 => h (ks.length + i) k n ?_ ?_⟩
  · rw [List.getElem?_append_left (List.getElem?_eq_some_iff.1 h1).1]; exact h1
  · rw [List.getElem?_append_left (List.getElem?_eq_some_iff.1 h2).1]; exact h2
  · rw [List.getElem?_append_right (by omega)]; simpa using h1
  · rw [List.getElem?_append_right (by omega), hl]; simpa using h2
theorem KT.int {k : IntKind} {t : TypeId} (ht : P.underlying t = some (.int k)) : KT P t [k] 1 := by
  intro ns hl hw
  match ns, hl with
  | [n], _ =>
    have := hw 0 k n rfl rfl
    simp [Program.keyLits, ht, zipK, zipL, this]
theorem keyLits_mono {t : TypeId} : ∀ {D : Nat} {cs : List Value} {l : List Lit}, P.keyLits D t cs = some l → True := fun _ => trivial
theorem KT.lift {t : TypeId} {ks : List IntKind} {D : Nat} (h : KT P t ks D) (E : Nat) (hE : ∀ cs l, P.keyLits D t cs = some l → P.keyLits E t cs = some l) : KT P t ks E := fun ns hl hw => hE _ _ (h ns hl hw)
theorem keyLits_succ : ∀ (D : Nat) (t : TypeId) (cs : List Value) (l : List Lit), P.keyLits D t cs = some l → P.keyLits (D + 1) t cs = some l
  | 0, _, _, _, h => by simp [Program.keyLits] at h
  | D + 1, t, cs, l, h => by
    have hm : ∀ {α : Type} (f g : α → Option (List Lit)) (is : List α) (aa : List (List Lit)), (∀ x a, f x = some a → g x = some a) → is.mapM f = some aa → is.mapM g = some aa := by
      intro α f g is
      induction is with
      | nil => intro aa _ h; exact h
      | cons i is ih =>
        intro aa hfg h
        rw [List.mapM_cons] at h ⊢
        simp only [bind, Option.bind_eq_some_iff, pure, Option.some.injEq] at h ⊢
        obtain ⟨a, h1, b, h2, rfl⟩ := h
        exact ⟨a, hfg _ _ h1, b, ih _ hfg h2, rfl⟩
    rw [Program.keyLits.eq_def] at h ⊢
    simp only at h ⊢
    split at h <;> (try simp_all only [Option.some.injEq, reduceCtorEq])
    · split at h
      · rename_i hc
        rw [if_pos hc]
        simp only [Option.map_eq_some_iff] at h ⊢
        obtain ⟨aa, h1, h2⟩ := h
        exact ⟨aa, hm _ _ _ _ (fun x a hx => keyLits_succ D _ _ _ hx) h1, h2⟩
      · cases h
    · split at h
      · rename_i hc
        rw [if_pos hc]
        simp only [Option.map_eq_some_iff] at h ⊢
        obtain ⟨aa, h1, h2⟩ := h
        exact ⟨aa, hm _ _ _ _ (fun x a hx => keyLits_succ D _ _ _ hx) h1, h2⟩
      · cases h
theorem KT.up {t : TypeId} {ks : List IntKind} {D : Nat} (h : KT P t ks D) : ∀ m, KT P t ks (D + m)
  | 0 => h
  | m + 1 => fun ns hl hw => keyLits_succ _ _ _ _ (KT.up h m ns hl hw)
inductive KFields (P : Program) (D : Nat) : Nat → List Field → List IntKind → Prop where
  | nil (o : Nat) : KFields P D o [] []
  | cons {o n : Nat} {f : Field} {fs : List Field} {ks kt : List IntKind} (ho : f.offset = o) (hc : P.cellsOf f.type = n) (hn : ks.length = n) (h : KT P f.type ks D) (hr : KFields P D (o + n) fs kt) : KFields P D o (f :: fs) (ks ++ kt)
theorem kfields_go {D : Nat} : ∀ {fs : List Field} {o : Nat} {ks : List IntKind}, KFields P D o fs ks → ∀ (hd : List Value) (ns : List Int), hd.length = o → ns.length = ks.length → wfK ks ns →
    ∃ aa, fs.mapM (fun f => P.keyLits D f.type (((hd ++ zipK ks ns).drop f.offset).take (P.cellsOf f.type))) = some aa ∧ aa.flatten = zipL ks ns
  | _, _, _, .nil o, hd, ns, _, hl, _ => by
    obtain rfl : ns = [] := List.eq_nil_of_length_eq_zero (by simpa using hl)
    exact ⟨[], rfl, rfl⟩
  | _, _, _, .cons (n := n) (f := f) (fs := fs) (ks := ks) (kt := kt) ho hc hn h hr, hd, ns, hh, hl, hw => by
    rw [List.length_append] at hl
    have hs : ns = ns.take n ++ ns.drop n := (List.take_append_drop _ _).symm
    have hl1 : (ns.take n).length = ks.length := by rw [List.length_take]; omega
    have hl2 : (ns.drop n).length = kt.length := by rw [List.length_drop]; omega
    rw [hs] at hw ⊢
    obtain ⟨w1, w2⟩ := wfK_app hl1 hw
    rw [zipK_app _ _ _ _ hl1, zipL_app _ _ _ _ hl1]
    obtain ⟨aa, a1, a2⟩ := kfields_go hr (hd ++ zipK ks (ns.take n)) (ns.drop n) (by rw [List.length_append, zipK_len _ _ hl1]; omega) hl2 w2
    refine ⟨zipL ks (ns.take n) :: aa, ?_, by rw [List.flatten_cons, a2]⟩
    rw [List.mapM_cons]
    have e1 : (((hd ++ (zipK ks (ns.take n) ++ zipK kt (ns.drop n))).drop f.offset).take (P.cellsOf f.type)) = zipK ks (ns.take n) := by
      rw [ho, hc, List.drop_left' hh, List.take_left' (by rw [zipK_len _ _ hl1, hn])]
    rw [e1, h _ hl1 w1]
    rw [List.append_assoc] at a1
    rw [a1]
    rfl
theorem KT.struct {t : TypeId} {fs : Array Field} {ks : List IntKind} {D : Nat} (ht : P.underlying t = some (.struct fs)) (hc : P.cellsOf t = ks.length) (hn : fs.all (·.name != "_") = true) (hf : KFields P D 0 fs.toList ks) : KT P t ks (D + 1) := by
  intro ns hl hw
  obtain ⟨aa, h1, h2⟩ := kfields_go hf [] ns rfl hl hw
  rw [Program.keyLits.eq_def]
  simp only [ht]
  rw [if_pos ⟨by rw [zipK_len _ _ hl, hc], hn⟩]
  simp only [List.nil_append] at h1
  rw [h1, Option.map_some, h2]
theorem kflat_len (ks : List IntKind) : ∀ n, (List.replicate n ks).flatten.length = n * ks.length
  | 0 => by simp
  | n + 1 => by rw [List.replicate_succ, List.flatten_cons, List.length_append, kflat_len ks n, Nat.succ_mul]; omega
theorem karr_go {e : TypeId} {ks : List IntKind} {D M : Nat} (he : KT P e ks D) (hc : P.cellsOf e = M) (hM : ks.length = M) : ∀ (n o : Nat) (hd : List Value) (ns : List Int), hd.length = o * M → ns.length = n * M → wfK (List.replicate n ks).flatten ns →
    ∃ aa, (List.range' o n).mapM (fun i => P.keyLits D e (((hd ++ zipK (List.replicate n ks).flatten ns).drop (i * P.cellsOf e)).take (P.cellsOf e))) = some aa ∧ aa.flatten = zipL (List.replicate n ks).flatten ns
  | 0, o, hd, ns, _, hl, _ => by
    obtain rfl : ns = [] := List.eq_nil_of_length_eq_zero (by simpa using hl)
    exact ⟨[], rfl, rfl⟩
  | n + 1, o, hd, ns, hh, hl, hw => by
    rw [Nat.succ_mul] at hl
    have hs : ns = ns.take M ++ ns.drop M := (List.take_append_drop _ _).symm
    have hl1 : (ns.take M).length = ks.length := by rw [List.length_take]; omega
    have hl2 : (ns.drop M).length = n * M := by rw [List.length_drop]; omega
    rw [List.replicate_succ, List.flatten_cons] at hw ⊢
    rw [hs] at hw ⊢
    obtain ⟨w1, w2⟩ := wfK_app hl1 hw
    rw [zipK_app _ _ _ _ hl1, zipL_app _ _ _ _ hl1, List.range'_succ]
    have hz1 : (zipK ks (ns.take M)).length = M := by rw [zipK_len _ _ hl1, hM]
    obtain ⟨aa, a1, a2⟩ := karr_go he hc hM n (o + 1) (hd ++ zipK ks (ns.take M)) (ns.drop M) (by rw [List.length_append, hz1, hh, Nat.succ_mul]) hl2 w2
    refine ⟨zipL ks (ns.take M) :: aa, ?_, by rw [List.flatten_cons, a2]⟩
    rw [List.mapM_cons]
    have e1 : (((hd ++ (zipK ks (ns.take M) ++ zipK (List.replicate n ks).flatten (ns.drop M))).drop (o * P.cellsOf e)).take (P.cellsOf e)) = zipK ks (ns.take M) := by
      rw [hc, List.drop_left' hh, List.take_left' hz1]
    rw [e1, he _ hl1 w1]
    rw [List.append_assoc] at a1
    rw [a1]
    rfl
theorem KT.array {t e : TypeId} {n D M : Nat} {ks : List IntKind} (ht : P.underlying t = some (.array n e)) (he : KT P e ks D) (hc : P.cellsOf e = M) (hM : ks.length = M) (hN : P.cellsOf t = n * M) : KT P t (List.replicate n ks).flatten (D + 1) := by
  intro ns hl hw
  rw [kflat_len, hM] at hl
  obtain ⟨aa, h1, h2⟩ := karr_go he hc hM n 0 [] ns (by simp) hl hw
  rw [Program.keyLits.eq_def]
  simp only [ht]
  rw [if_pos (by rw [zipK_len _ _ (by rw [kflat_len, hM]; exact hl), kflat_len, hM, hN])]
  rw [List.range_eq_range']
  simp only [List.nil_append] at h1
  rw [h1, Option.map_some, h2]
theorem zipL_inj : ∀ (ks : List IntKind) (ns ms : List Int), ns.length = ks.length → ms.length = ks.length → (zipL ks ns = zipL ks ms ↔ ns = ms)
  | [], [], [], _, _ => by simp [zipL]
  | k :: ks, n :: ns, m :: ms, h1, h2 => by
    have := zipL_inj ks ns ms (by simpa using h1) (by simpa using h2)
    simp only [zipL] at this
    simp [zipL, this]
theorem run_eqK {t : TypeId} {ks : List IntKind} {D : Nat} (hk : KT P t ks D) (m : Nat) (hkt : P.keyTypeAt m t = true) (hm : m ≤ Op.maxDepth) {d0 : TypeDesc} (hu : P.underlying t = some d0) (hr : d0.isRow = true) (hcells : P.cellsOf t = ks.length) (w : World) (ns ms : List Int) (hn : ns.length = ks.length) (hms : ms.length = ks.length) (wn : wfK ks ns) (wm : wfK ks ms) :
    (Op.equal t (.agg (zipK ks ns).toArray) (.agg (zipK ks ms).toArray)).run P w = .ok (decide (ns = ms)) w := by
  have hform : ∀ cs : Array Value, cs.size = ks.length → Value.formed P t (.agg cs) = true := fun cs hc => by
    cases d0 <;> simp only [TypeDesc.isRow, Bool.false_eq_true] at hr <;> simp [Value.formed, hu, hc, hcells]
  obtain ⟨r, h1, h2⟩ := run_equalIn_deep (P := P) (Op.maxDepth - m) m t hkt w D D _ _ _ _ (hform (zipK ks ns).toArray (by simpa using zipK_len ks ns hn)) (hform (zipK ks ms).toArray (by simpa using zipK_len ks ms hms)) (by simpa [Value.cells] using hk ns hn wn) (by simpa [Value.cells] using hk ms hms wm)
  rw [show Op.maxDepth - m + m = Op.maxDepth by omega] at h1
  unfold Op.equal
  rw [h1]
  congr 1
  rw [zipL_inj ks ns ms hn hms] at h2
  cases r
  · symm; exact decide_eq_false fun e => by have := h2.2 e; cases this
  · symm; exact decide_eq_true (h2.1 rfl)
theorem Val.eqK {a : Act} {o : Oper} {w : World} (b : BinOp) (t ty : TypeId) (x y : Operand) (ho : o.op = .binOp b t x y ty) {ks : List IntKind} {D : Nat} (hk : KT P t ks D) (m : Nat) (hkt : P.keyTypeAt m t = true) (hm : m ≤ Op.maxDepth) {d0 : TypeDesc} (hu : P.underlying t = some d0) (hr : d0.isRow = true)
    (hcells : P.cellsOf t = ks.length) (hgt : P.eqGuardType P.depth t = false) (ns ms : List Int) (hx : a.eval x = .agg (zipK ks ns).toArray) (hy : a.eval y = .agg (zipK ks ms).toArray) (hn : ns.length = ks.length) (hms : ms.length = ks.length) (wn : wfK ks ns) (wm : wfK ks ms)
    (hb : b = .eql ∨ b = .neq) (r : Bool) (hrr : (if b = .eql then decide (ns = ms) else !decide (ns = ms)) = r) : Val P a o (.bool r) w := by
  have hq := run_eqK hk m hkt hm hu hr hcells w ns ms hn hms wn wm
  subst hrr
  refine Val.bin b t ty x y ho _ _ hx hy ?_ ?_
  · rcases hb with rfl | rfl <;> simp [eqGuard, hgt]
  · rcases hb with rfl | rfl <;> simp [binOp, hq]
theorem wfK_rep {k : IntKind} {n : Nat} {xs : List Int} (h : ∀ x ∈ xs, (Lit.int k x).wf = true) : wfK (List.replicate n k) xs := by
  intro i k' x h1 h2
  have hi : i < n := by simpa using (List.getElem?_eq_some_iff.1 h1).1
  obtain rfl : k = k' := by simpa [hi] using h1
  exact h x (List.mem_of_getElem? h2)
theorem wfK_cons {k : IntKind} {ks : List IntKind} {n : Int} {ns : List Int} (h : (Lit.int k n).wf = true) (ht : wfK ks ns) : wfK (k :: ks) (n :: ns) := by
  intro i k' x h1 h2
  cases i with
  | zero => simp at h1 h2; subst h1 h2; exact h
  | succ i => exact ht i k' x (by simpa using h1) (by simpa using h2)
theorem wfK_nil : wfK [] [] := fun i k n h => by simp at h
theorem wfK_append {ks kt : List IntKind} {ns nt : List Int} (hl : ns.length = ks.length) (h1 : wfK ks ns) (h2 : wfK kt nt) : wfK (ks ++ kt) (ns ++ nt) := by
  intro i k n hk hn
  by_cases hi : i < ks.length
  · rw [List.getElem?_append_left hi] at hk
    rw [List.getElem?_append_left (by omega)] at hn
    exact h1 i k n hk hn
  · rw [List.getElem?_append_right (by omega)] at hk
    rw [List.getElem?_append_right (by omega), hl] at hn
    exact h2 _ k n hk hn
/-- bytes as a string -/
theorem Val.str {a : Act} {o : Oper} {w : World} (src dst e : TypeId) (x : Operand) (ho : o.op = .convert src dst x) (hs : P.underlying src = some (.slice e)) (he : P.underlying e = some (.int .u8)) (hd : P.underlying dst = some .string) (v : Value) (xs : List Int) (hx : a.eval x = v) (h : SL .u8 w v xs) : Val P a o (.string (strOf xs)) w := by
  unfold Val execOp
  simp only [ho, hx, Sem.run_bind, conv_SL hs he hd h, Result.andThen_ok, Sem.run_pure]
theorem Val.eqStr {a : Act} {o : Oper} {w : World} (b : BinOp) (t ty : TypeId) (x y : Operand) (ho : o.op = .binOp b t x y ty) (xs ys : List Int) (hx : a.eval x = .string (strOf xs)) (hy : a.eval y = .string (strOf ys)) (bx : Bytes xs) (byy : Bytes ys)
    (hb : b = .eql ∨ b = .neq) (r : Bool) (hr : (if b = .eql then decide (xs = ys) else !decide (xs = ys)) = r) : Val P a o (.bool r) w := by
  have hq := strOf_eq bx byy
  subst hr
  refine Val.bin b t ty x y ho _ _ hx hy ?_ ?_
  · rcases hb with rfl | rfl <;> simp [eqGuard]
  · rcases hb with rfl | rfl <;> simp [binOp, Op.stringOp, hq, bne]
theorem Val.bools {a : Act} {o : Oper} {w : World} (b : BinOp) (t ty : TypeId) (x y : Operand) (ho : o.op = .binOp b t x y ty) (ht : P.underlying t = some .bool) (p q : Bool) (hx : a.eval x = .bool p) (hy : a.eval y = .bool q) (hb : b = .eql ∨ b = .neq) (r : Bool) (hr : (if b = .eql then p == q else p != q) = r) : Val P a o (.bool r) w := by
  subst hr
  refine Val.bin b t ty x y ho _ _ hx hy (run_guard_bool p q) ?_
  rcases hb with rfl | rfl
  · rw [run_eql_bool ht]; rfl
  · simp only [binOp]
    simp [run_equal_bool w t p q ht, bne]
end
end Go.Proofs.Yteaijjefbadnbaa
