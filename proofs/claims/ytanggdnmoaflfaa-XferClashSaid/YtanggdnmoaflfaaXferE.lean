/-
  xfer.Put.
-/
import Derived.Test.YtanggdnmoaflfaaXferD
namespace Go.Proofs.Ytanggdnmoaflfaa
open Go.RowKit
set_option linter.unusedVariables false
set_option linter.unusedSimpArgs false
set_option maxRecDepth 100000
attribute [local irreducible] wpList Code.wp wpAnyZ
section
variable {P : Program} {ops : Array Oper} {Q : Exit → Act → World → Prop} {l : List Value} {ds : List Deferred} {w : World} {oi : Oper} {rest : List Oper}
/-- copy into a row of the call's own, from a place on -/
theorem xCopyO (d : Nat) (x y : Operand) (dT sT e : TypeId) (ho : oi.op = .call { callee := .builtin .copy, args := #[x, y], argTypes := #[dT, sT] }) (hu : P.underlying dT = some (.slice e)) (hsz : (P.info? e).map (·.size) = some 1)
    (base : Nat) (xs ys : List Nat) (v : Value) (lo : Nat) (hx : (⟨l.toArray, ds⟩ : Act).eval x = sliceV v lo (nn xs).length) (O : Own e .u8 base w v (nn xs)) (u : Value) (hy : (⟨l.toArray, ds⟩ : Act).eval y = u) (hS : SL .u8 w u (nn ys)) (h0 : 0 < ys.length) (hfit : lo + ys.length ≤ xs.length)
    (h : ∀ w', Own e .u8 base w' v (nn (layB xs lo ys)) → Ev (fun i => v.ownBlock = some i) w w' → w'.heap.size = w.heap.size → wpList P ops Q rest ⟨(l.set d (.int .i64 ((ys.length : Nat) : Int))).toArray, ds⟩ w')
    (hgd : oi.guard = none := by rfl) (hd : oi.dst = some d := by rfl) : wpList P ops Q (oi :: rest) ⟨l.toArray, ds⟩ w := by
  have hO := O
  obtain ⟨hl, hc⟩ := O
  rcases hc with ⟨_, hn0⟩ | ⟨g, cap, cur, rfl, q1, q2, q3, q4, q5, q6⟩
  · rw [nn_len] at hn0; omega
  · rw [nn_len] at q3 q6 hx hl
    rcases hS with ⟨h1, h2⟩ | ⟨b, o, c, hv, h1, h2, h3, h4⟩
    · have := congrArg List.length h2; rw [nn_len] at this; simp only [List.length_nil] at this; omega
    · rw [nn_len] at hv h1 h4
      have hne : ¬ cap = lo := by omega
      have hcl : (nums .u8 (nn ys)).length = ys.length := by rw [nums_length, nn_len]
      have hx2 : (⟨l.toArray, ds⟩ : Act).eval x = .slice (some ⟨g, lo, none⟩) (xs.length - lo) (cap - lo) := by
        rw [hx]
        unfold sliceV
        simp [hne, Addr.add_mid]
      refine wpList_copy_own hgd x y dT sT ho e hu hsz g lo (xs.length - lo) (cap - lo) ⟨b, o, none⟩ ys.length c hx2 (hy.trans hv) cur e q2 (nums .u8 (nn ys)) (by rw [hcl]; show _ = min _ _; omega) ?_ (by rw [hcl, q5]; omega) ?_ ?_
      · intro j u' hj
        have hjl := (List.getElem?_eq_some_iff.1 hj).1
        rw [hcl] at hjl
        rw [Addr.add_lit, h4 j hjl, ← hj, nums_get _ _ _ (by rw [nn_len]; exact hjl)]
      · intro u' hu'
        exact ints_oneCell .u8 (nn ys) u' hu'
      · rw [hcl, show (goInt (ys.length : Int)) = .int .i64 ((ys.length : Nat) : Int) from rfl, put_list' d _ hd]
        have q6' : cur.toList.take xs.length = nums .u8 (nn xs) := by simpa using q6
        obtain ⟨rs, hrs⟩ : ∃ rs, cur.toList = nums .u8 (nn xs) ++ rs := ⟨cur.toList.drop xs.length, by rw [← q6', List.take_append_drop]⟩
        have hnl : (nums .u8 (nn xs)).length = xs.length := by rw [nums_length, nn_len]
        have e1 : cur.toList.take lo ++ (nums .u8 (nn ys) ++ cur.toList.drop (lo + ys.length)) = nums .u8 (nn (layB xs lo ys)) ++ rs := by
          rw [hrs, List.take_append_of_le_length (by omega), List.drop_append_of_le_length (by omega)]
          simp only [nums, nn, layB, List.map_append, List.map_take, List.map_drop, List.append_assoc]
        have hcs : cur.size = cur.toList.length := by simp
        have hll := layB_len (d := xs) (a := lo) (b := ys) hfit
        have hlen : (nn (layB xs lo ys)).length = (nn xs).length := by rw [nn_len, nn_len, hll]
        refine h _ ⟨by rw [nums_length, Nat.mul_one], .inr ⟨g, cap, (nums .u8 (nn (layB xs lo ys)) ++ rs).toArray, by rw [hlen], q1, ?_, by rw [nn_len, hll]; exact q3, q4, ?_, ?_⟩⟩ ⟨rfl, rfl, rfl, by simp [World.setRow], fun i _ hi => setRow_other w g i _ (fun e => hi (by rw [e]; rfl))⟩ (by simp [World.setRow])
        · rw [e1]; exact setRow_heap w g _ _ e _ q2
        · rw [List.size_toArray, List.length_append, nums_length, nn_len, hll, ← q5, hcs, hrs, List.length_append, hnl]
        · rw [nn_len, hll, Nat.mul_one]
          exact List.take_left' (by rw [nums_length, nn_len, hll])
end
theorem OwnE.ne {e t : TypeId} {k : IntKind} {z base g : Nat} {w : World} {v : Value} {es : List (List Int)} {cs : List Value} (O : OwnE e k z base w v es) (C : Cel w g t cs) (hne : e ≠ t) : ∀ i, v.ownBlock = some i → i ≠ g := fun i hi hg => by
  subst hg
  rcases O.2.2 with ⟨rfl, _⟩ | ⟨g', cap, cur, rfl, _, hh, _⟩
  · cases hi
  · have : g' = i := by simpa [Value.ownBlock] using hi
    subst this
    unfold Cel at C
    rw [hh] at C
    simp only [Option.some.injEq, Obj.cells.injEq] at C
    exact hne C.2.1
theorem putX_1 {d : List Nat} {h : List (Int × Int)} {a : Int} {b : List Nat} (hr : ¬ rightX d h = true) : putX d h a b = (d, h, 242) := by
  unfold putX; rw [if_pos (by simpa using hr)]
theorem putX_2 {d : List Nat} {h : List (Int × Int)} {a : Int} {b : List Nat} (hr : rightX d h = true) (hc : b.length < 1 ∨ 512 < b.length ∨ a < 0 ∨ (d.length : Int) - b.length < a) : putX d h a b = (d, h, 240) := by
  unfold putX; rw [if_neg (by simp [hr]), if_pos hc]
theorem putX_3 {d : List Nat} {h : List (Int × Int)} {a : Int} {b : List Nat} (hr : rightX d h = true) (hc : ¬ (b.length < 1 ∨ 512 < b.length ∨ a < 0 ∨ (d.length : Int) - b.length < a)) (hx : clashX d h a b = true) : putX d h a b = (d, h, 241) := by
  unfold putX; rw [if_neg (by simp [hr]), if_neg hc, if_pos hx]
theorem putX_4 {d : List Nat} {h : List (Int × Int)} {a : Int} {b : List Nat} (hr : rightX d h = true) (hc : ¬ (b.length < 1 ∨ 512 < b.length ∨ a < 0 ∨ (d.length : Int) - b.length < a)) (hx : ¬ clashX d h a b = true) : putX d h a b = (layB d a.toNat b, putS (a, a + b.length) h, 0) := by
  unfold putX; rw [if_neg (by simp [hr]), if_neg hc, if_neg hx]
theorem clash_dec (A0 A1 A2 : Option Addr) (C0 C1 C2 : Nat) (a : Nat) (d b : List Nat) (h : List (Int × Int)) (w : World) (D : SL .u8 w (.slice A0 d.length C0) (nn d)) (Bb : SL .u8 w (.slice A1 b.length C1) (nn b)) (H : SE .i64 2 w (.slice A2 h.length C2) (spS h)) (ha : a + b.length ≤ d.length) (hbd : ∀ j, j < h.length → 0 ≤ (h.getD j (0, 0)).1 ∧ (h.getD j (0, 0)).2 ≤ d.length) :
    Calls Try.prog 58 #[.agg #[.slice A0 d.length C0, .slice A2 h.length C2], .int .i64 ((a : Nat) : Int), .slice A1 b.length C1] w fun e w' => e = .returned (.bool (decide (clashX d h a b = true))) ∧ Below w.heap.size w w' := by
  have := clash_any A0 A1 A2 C0 C1 C2 a d b h w D Bb H ha hbd
  rwa [← Bool.decide_eq_true (b := clashX d h a b)] at this
attribute [local irreducible] rightX clashX putX layB putS fidx mrgS
set_option maxHeartbeats 4000000 in
theorem put_walk (A0 A1 A2 : Option Addr) (C0 C1 C2 : Nat) (a : Int) (hai : -9223372036854775808 ≤ a ∧ a ≤ 9223372036854775807) (d b : List Nat) (h : List (Int × Int)) (w : World) (D : SL .u8 w (.slice A0 d.length C0) (nn d)) (Bb : SL .u8 w (.slice A1 b.length C1) (nn b)) (H : SE .i64 2 w (.slice A2 h.length C2) (spS h)) (hdm : d.length ≤ 1000000) (hhm : h.length ≤ 90000) :
    Calls Try.prog 33 #[.agg #[.slice A0 d.length C0, .slice A2 h.length C2], .int .i64 a, .slice A1 b.length C1] w fun e w' => (∃ dv' hv', e = .returned (.tuple #[.agg #[dv', hv'], .int .i64 (putX d h a b).2.2]) ∧ Own 5 .u8 w.heap.size w' dv' (nn (putX d h a b).1) ∧ OwnE 70 .i64 2 w.heap.size w' hv' (spS (putX d h a b).2.1)) ∧ Below w.heap.size w w' := by
  have BL := Bl.refl w
  have hdl := D.lt
  have hbl := Bb.lt
  have hhl := H.lt
  have hnd := nn_len d
  have hnb := nn_len b
  have hbm : b.length ≤ maxLen := by obtain ⟨_, _, _, hm⟩ := Bb.len; rwa [nn_len] at hm
  unfold maxLen at hbm
  go_enter Try.func33, Try.ntmps33
  refine wp_seq_k fun K1 hK1 => ?_
  refine cPlain ?_
  refine xBox 3 56 _ [.slice A0 d.length C0, .slice A2 h.length C2] rfl (by kernel_rfl) ?_
  intro w1 n1
  have zn1 := n1.z
  have b3 := n1.c
  replace BL := BL.e0 n1.e
  replace D := D.e0 n1.e
  replace Bb := Bb.e0 n1.e
  replace H := H.e0 n1.e
  simp only [List.set_cons_zero, List.set_cons_succ]
  refine xAlloc 6 56 [.slice none 0 0, .slice none 0 0] rfl (by kernel_rfl) ?_
  intro w2 n2
  have zn2 := n2.z
  have b6 := n2.c
  replace BL := BL.e0 n2.e
  replace D := D.e0 n2.e
  replace Bb := Bb.e0 n2.e
  replace H := H.e0 n2.e
  replace b3 := b3.e0 n2.e
  simp only [List.set_cons_zero, List.set_cons_succ]
  refine sv 7 (.int .i64 0) .of ?_
  simp only [List.set_cons_zero, List.set_cons_succ]
  refine wpList_nil ?_
  refine hK1 _ _ ?_
  refine wp_seq_k fun K2 hK2 => ?_
  refine cPlain ?_
  refine sv 12 (.agg #[.slice A0 d.length C0, .slice A2 h.length C2]) (Val.cel 56 _ rfl 0 2 (by kernel_rfl) b3 _ Try.underlying56 rfl (by kernel_rfl) (by simp) [.slice A0 d.length C0, .slice A2 h.length C2] rfl) ?_
  simp only [List.set_cons_zero, List.set_cons_succ]
  refine xCall 13 57 #[.agg #[.slice A0 d.length C0, .slice A2 h.length C2]] (by kernel_rfl) ?_
  refine (own_any _ _ d h w2 D H hdm (by omega)).mono ?_
  rintro en w3 ⟨⟨r1, r2, mO, rfl, O1, O2, hm1, hm2, hmL, hmO⟩, hb1⟩
  obtain ⟨X1, Y1, hq1⟩ := O1.len
  rw [nn_len] at hq1
  subst hq1
  obtain ⟨X2, Y2, hq2, _⟩ := O2.len
  rw [spS_len] at hq2
  subst hq2
  have lO1 := fun i hi => And.intro (O1.ge i hi).1 (hm1 i hi)
  have lO2 := fun i hi => And.intro (hm2 i hi) (O2.ge i hi).2
  have e1 := belE0 hb1
  have ze1 := e1.size
  replace BL := BL.e0 e1
  replace D := D.e0 e1
  replace Bb := Bb.e0 e1
  replace H := H.e0 e1
  replace b3 := b3.e0 e1
  replace b6 := b6.e0 e1
  clear e1
  refine ⟨.agg #[.slice X1 d.length Y1, .slice X2 h.length Y2], rfl, ?_⟩
  simp only [List.set_cons_zero, List.set_cons_succ]
  refine xAlloc 8 56 [.slice none 0 0, .slice none 0 0] rfl (by kernel_rfl) ?_
  intro w4 n3
  have zn3 := n3.z
  have b8 := n3.c
  replace BL := BL.e0 n3.e
  replace D := D.e0 n3.e
  replace Bb := Bb.e0 n3.e
  replace H := H.e0 n3.e
  replace b3 := b3.e0 n3.e
  replace b6 := b6.e0 n3.e
  replace O1 := O1.e0 n3.e
  replace O2 := O2.e0 n3.e
  simp only [List.set_cons_zero, List.set_cons_succ]
  refine xStoreR 56 (.tmp 8) (.tmp 13) rfl w3.heap.size 56 [.slice none 0 0, .slice none 0 0] 0 [.slice X1 d.length Y1, .slice X2 h.length Y2] (by kernel_rfl) (by kernel_rfl) b8 (by kernel_rfl) (by simp) rfl [.slice X1 d.length Y1, .slice X2 h.length Y2] rfl ?_
  intro w5 t1
  have zt1 := t1.z
  have BL_ := BL.ev t1.e (fun i h => show w.heap.size ≤ i by have h : i = w3.heap.size := h; omega)
  have D_ := D.ev t1.e (fun i hi => show ¬ (i = w3.heap.size) by have := hdl i hi; omega)
  have Bb_ := Bb.ev t1.e (fun i hi => show ¬ (i = w3.heap.size) by have := hbl i hi; omega)
  have H_ := H.ev t1.e (fun i hi => show ¬ (i = w3.heap.size) by have := hhl i hi; omega)
  have b3_ := b3.ev t1.e (show ¬ (w.heap.size = w3.heap.size) by omega)
  have b6_ := b6.ev t1.e (show ¬ (w1.heap.size = w3.heap.size) by omega)
  have O1_ := O1.ev t1.e (fun i hi => show ¬ (i = w3.heap.size) by have := lO1 i hi; omega)
  have O2_ := O2.ev t1.e (fun i hi => show ¬ (i = w3.heap.size) by have := lO2 i hi; omega)
  replace BL := BL_; clear BL_
  replace D := D_; clear D_
  replace Bb := Bb_; clear Bb_
  replace H := H_; clear H_
  replace b3 := b3_; clear b3_
  replace b6 := b6_; clear b6_
  replace O1 := O1_; clear O1_
  replace O2 := O2_; clear O2_
  replace b8 : Cel w5 w3.heap.size 56 [.slice X1 d.length Y1, .slice X2 h.length Y2] := t1.c
  clear t1
  refine wpList_nil ?_
  refine hK2 _ _ ?_
  refine wp_seq_k fun K3 hK3 => ?_
  refine wp_block ?_
  refine wp_seq_k fun K4 hK4 => ?_
  refine cPlain ?_
  refine sv 15 (.agg #[.slice A0 d.length C0, .slice A2 h.length C2]) (Val.cel 56 _ rfl 0 2 (by kernel_rfl) b3 _ Try.underlying56 rfl (by kernel_rfl) (by simp) [.slice A0 d.length C0, .slice A2 h.length C2] rfl) ?_
  simp only [List.set_cons_zero, List.set_cons_succ]
  refine xCall 16 40 #[.agg #[.slice A0 d.length C0, .slice A2 h.length C2]] (by kernel_rfl) ?_
  refine (xright_dec _ _ d h w5 D H).mono ?_
  rintro en w6 ⟨rfl, hb1⟩
  have e2 := belE0 hb1
  have ze2 := e2.size
  replace BL := BL.e0 e2
  replace D := D.e0 e2
  replace Bb := Bb.e0 e2
  replace H := H.e0 e2
  replace b3 := b3.e0 e2
  replace b6 := b6.e0 e2
  replace O1 := O1.e0 e2
  replace O2 := O2.e0 e2
  replace b8 := b8.e0 e2
  clear e2
  refine ⟨.bool (decide (rightX d h = true)), rfl, ?_⟩
  simp only [List.set_cons_zero, List.set_cons_succ]
  refine sv 17 (.bool (decide (¬ (rightX d h = true)))) (Val.not _ _ rfl (decide (rightX d h = true)) (decide (¬ (rightX d h = true))) (by kernel_rfl) (by first | rw [decide_not] | simp)) ?_
  simp only [List.set_cons_zero, List.set_cons_succ]
  refine sv 14 (.bool (decide (¬ (rightX d h = true)))) .of ?_
  simp only [List.set_cons_zero, List.set_cons_succ]
  refine wpList_nil ?_
  refine hK4 _ _ ?_
  refine cDec (¬ (rightX d h = true)) (by kernel_rfl) (fun c14 => ?_) (fun c14 => ?_)
  · skip
    refine wp_seq_k fun K5 hK5 => ?_
    refine cPlain ?_
    refine sv 18 (.agg #[.slice X1 d.length Y1, .slice X2 h.length Y2]) (Val.cel 56 _ rfl 0 2 (by kernel_rfl) b8 _ Try.underlying56 rfl (by kernel_rfl) (by simp) [.slice X1 d.length Y1, .slice X2 h.length Y2] rfl) ?_
    simp only [List.set_cons_zero, List.set_cons_succ]
    refine xStoreR 56 (.tmp 6) (.tmp 18) rfl w1.heap.size 56 [.slice none 0 0, .slice none 0 0] 0 [.slice X1 d.length Y1, .slice X2 h.length Y2] (by kernel_rfl) (by kernel_rfl) b6 (by kernel_rfl) (by simp) rfl [.slice X1 d.length Y1, .slice X2 h.length Y2] rfl ?_
    intro w7 t2
    have zt2 := t2.z
    have BL_ := BL.ev t2.e (fun i h => show w.heap.size ≤ i by have h : i = w1.heap.size := h; omega)
    have D_ := D.ev t2.e (fun i hi => show ¬ (i = w1.heap.size) by have := hdl i hi; omega)
    have Bb_ := Bb.ev t2.e (fun i hi => show ¬ (i = w1.heap.size) by have := hbl i hi; omega)
    have H_ := H.ev t2.e (fun i hi => show ¬ (i = w1.heap.size) by have := hhl i hi; omega)
    have b3_ := b3.ev t2.e (show ¬ (w.heap.size = w1.heap.size) by omega)
    have O1_ := O1.ev t2.e (fun i hi => show ¬ (i = w1.heap.size) by have := lO1 i hi; omega)
    have O2_ := O2.ev t2.e (fun i hi => show ¬ (i = w1.heap.size) by have := lO2 i hi; omega)
    have b8_ := b8.ev t2.e (show ¬ (w3.heap.size = w1.heap.size) by omega)
    replace BL := BL_; clear BL_
    replace D := D_; clear D_
    replace Bb := Bb_; clear Bb_
    replace H := H_; clear H_
    replace b3 := b3_; clear b3_
    replace O1 := O1_; clear O1_
    replace O2 := O2_; clear O2_
    replace b8 := b8_; clear b8_
    replace b6 : Cel w7 w1.heap.size 56 [.slice X1 d.length Y1, .slice X2 h.length Y2] := t2.c
    clear t2
    refine sv 7 (.int .i64 242) .of ?_
    simp only [List.set_cons_zero, List.set_cons_succ]
    refine wpList_nil ?_
    refine hK5 _ _ ?_
    refine wp_ret ?_
    (try simp only [Exit.then, Exit.inBlock])
    refine bodyPost_ret (rCT rfl _ w1.heap.size _ _ (.int .i64 242) (by kernel_rfl) (by kernel_rfl) b6 _ Try.underlying56 rfl (by kernel_rfl)) rfl ?_
    rw [putX_1 c14]
    exact ⟨⟨_, _, rfl, O1.mono (by omega), O2.mono (by omega)⟩, BL.b⟩
  · skip
    have hr : rightX d h = true := Classical.not_not.1 c14
    have hcn := rightX_can hr
    have hln := rightX_len hr
    have hbd : ∀ j, j < h.length → 0 ≤ (h.getD j (0, 0)).1 ∧ (h.getD j (0, 0)).2 ≤ d.length := fun j hj => by have := manyS_bd (i := j) hcn hj; omega
    refine wp_seq_k fun K6 hK6 => ?_
    refine cPlain ?_
    refine sv 20 (.slice A1 b.length C1) .of ?_
    simp only [List.set_cons_zero, List.set_cons_succ]
    refine sv 21 (.int .i64 (b.length : Int)) .of ?_
    simp only [List.set_cons_zero, List.set_cons_succ]
    refine sv 22 (.bool (decide ((b.length : Int) < 1))) (Val.cmp .lss 3 _ (.tmp 21) _ rfl .i64 (b.length : Int) 1 (by kernel_rfl) (by kernel_rfl) (by simp) _ rfl) ?_
    simp only [List.set_cons_zero, List.set_cons_succ]
    refine sv 23 (.bool (decide ((b.length : Int) < 1))) .of ?_
    simp only [List.set_cons_zero, List.set_cons_succ]
    by_cases g24 : (b.length : Int) < 1
    · skip
      have dg24 : decide ((b.length : Int) < 1) = true := decide_eq_true g24
      simp only [dg24]
      clear dg24
      refine xSkip 24 ?_
      simp only [List.set_cons_zero, List.set_cons_succ]
      refine xSkip 25 ?_
      simp only [List.set_cons_zero, List.set_cons_succ]
      refine xSkip 26 ?_
      simp only [List.set_cons_zero, List.set_cons_succ]
      refine sv 27 (.bool true) .of ?_
      simp only [List.set_cons_zero, List.set_cons_succ]
      refine sv 28 (.bool true) .of ?_
      simp only [List.set_cons_zero, List.set_cons_succ]
      refine xSkip 29 ?_
      simp only [List.set_cons_zero, List.set_cons_succ]
      refine xSkip 30 ?_
      simp only [List.set_cons_zero, List.set_cons_succ]
      refine sv 31 (.bool true) .of ?_
      simp only [List.set_cons_zero, List.set_cons_succ]
      refine sv 32 (.bool true) .of ?_
      simp only [List.set_cons_zero, List.set_cons_succ]
      refine xSkip 33 ?_
      simp only [List.set_cons_zero, List.set_cons_succ]
      refine xSkip 34 ?_
      simp only [List.set_cons_zero, List.set_cons_succ]
      refine xSkip 35 ?_
      simp only [List.set_cons_zero, List.set_cons_succ]
      refine xSkip 36 ?_
      simp only [List.set_cons_zero, List.set_cons_succ]
      refine xSkip 37 ?_
      simp only [List.set_cons_zero, List.set_cons_succ]
      refine xSkip 38 ?_
      simp only [List.set_cons_zero, List.set_cons_succ]
      refine xSkip 39 ?_
      simp only [List.set_cons_zero, List.set_cons_succ]
      refine xSkip 40 ?_
      simp only [List.set_cons_zero, List.set_cons_succ]
      refine sv 41 (.bool true) .of ?_
      simp only [List.set_cons_zero, List.set_cons_succ]
      refine sv 19 (.bool true) .of ?_
      simp only [List.set_cons_zero, List.set_cons_succ]
      refine wpList_nil ?_
      refine hK6 _ _ ?_
      refine cT ?_
      refine wp_seq_k fun K7 hK7 => ?_
      refine cPlain ?_
      refine sv 42 (.agg #[.slice X1 d.length Y1, .slice X2 h.length Y2]) (Val.cel 56 _ rfl 0 2 (by kernel_rfl) b8 _ Try.underlying56 rfl (by kernel_rfl) (by simp) [.slice X1 d.length Y1, .slice X2 h.length Y2] rfl) ?_
      simp only [List.set_cons_zero, List.set_cons_succ]
      refine xStoreR 56 (.tmp 6) (.tmp 42) rfl w1.heap.size 56 [.slice none 0 0, .slice none 0 0] 0 [.slice X1 d.length Y1, .slice X2 h.length Y2] (by kernel_rfl) (by kernel_rfl) b6 (by kernel_rfl) (by simp) rfl [.slice X1 d.length Y1, .slice X2 h.length Y2] rfl ?_
      intro w8 t3
      have zt3 := t3.z
      have BL_ := BL.ev t3.e (fun i h => show w.heap.size ≤ i by have h : i = w1.heap.size := h; omega)
      have D_ := D.ev t3.e (fun i hi => show ¬ (i = w1.heap.size) by have := hdl i hi; omega)
      have Bb_ := Bb.ev t3.e (fun i hi => show ¬ (i = w1.heap.size) by have := hbl i hi; omega)
      have H_ := H.ev t3.e (fun i hi => show ¬ (i = w1.heap.size) by have := hhl i hi; omega)
      have b3_ := b3.ev t3.e (show ¬ (w.heap.size = w1.heap.size) by omega)
      have O1_ := O1.ev t3.e (fun i hi => show ¬ (i = w1.heap.size) by have := lO1 i hi; omega)
      have O2_ := O2.ev t3.e (fun i hi => show ¬ (i = w1.heap.size) by have := lO2 i hi; omega)
      have b8_ := b8.ev t3.e (show ¬ (w3.heap.size = w1.heap.size) by omega)
      replace BL := BL_; clear BL_
      replace D := D_; clear D_
      replace Bb := Bb_; clear Bb_
      replace H := H_; clear H_
      replace b3 := b3_; clear b3_
      replace O1 := O1_; clear O1_
      replace O2 := O2_; clear O2_
      replace b8 := b8_; clear b8_
      replace b6 : Cel w8 w1.heap.size 56 [.slice X1 d.length Y1, .slice X2 h.length Y2] := t3.c
      clear t3
      refine sv 7 (.int .i64 240) .of ?_
      simp only [List.set_cons_zero, List.set_cons_succ]
      refine wpList_nil ?_
      refine hK7 _ _ ?_
      refine wp_ret ?_
      (try simp only [Exit.then, Exit.inBlock])
      refine bodyPost_ret (rCT rfl _ w1.heap.size _ _ (.int .i64 240) (by kernel_rfl) (by kernel_rfl) b6 _ Try.underlying56 rfl (by kernel_rfl)) rfl ?_
      rw [putX_2 hr (by omega)]
      exact ⟨⟨_, _, rfl, O1.mono (by omega), O2.mono (by omega)⟩, BL.b⟩
    · skip
      have dg24 : decide ((b.length : Int) < 1) = false := decide_eq_false g24
      simp only [dg24]
      clear dg24
      refine sv 24 (.slice A1 b.length C1) .of ?_
      simp only [List.set_cons_zero, List.set_cons_succ]
      refine sv 25 (.int .i64 (b.length : Int)) .of ?_
      simp only [List.set_cons_zero, List.set_cons_succ]
      refine sv 26 (.bool (decide (512 < (b.length : Int)))) (Val.cmp .gtr 3 _ (.tmp 25) _ rfl .i64 (b.length : Int) 512 (by kernel_rfl) (by kernel_rfl) (by simp) _ rfl) ?_
      simp only [List.set_cons_zero, List.set_cons_succ]
      refine sv 27 (.bool (decide (512 < (b.length : Int)))) .of ?_
      simp only [List.set_cons_zero, List.set_cons_succ]
      refine sv 28 (.bool (decide (512 < (b.length : Int)))) .of ?_
      simp only [List.set_cons_zero, List.set_cons_succ]
      by_cases g29 : 512 < (b.length : Int)
      · skip
        have dg29 : decide (512 < (b.length : Int)) = true := decide_eq_true g29
        simp only [dg29]
        clear dg29
        refine xSkip 29 ?_
        simp only [List.set_cons_zero, List.set_cons_succ]
        refine xSkip 30 ?_
        simp only [List.set_cons_zero, List.set_cons_succ]
        refine sv 31 (.bool true) .of ?_
        simp only [List.set_cons_zero, List.set_cons_succ]
        refine sv 32 (.bool true) .of ?_
        simp only [List.set_cons_zero, List.set_cons_succ]
        refine xSkip 33 ?_
        simp only [List.set_cons_zero, List.set_cons_succ]
        refine xSkip 34 ?_
        simp only [List.set_cons_zero, List.set_cons_succ]
        refine xSkip 35 ?_
        simp only [List.set_cons_zero, List.set_cons_succ]
        refine xSkip 36 ?_
        simp only [List.set_cons_zero, List.set_cons_succ]
        refine xSkip 37 ?_
        simp only [List.set_cons_zero, List.set_cons_succ]
        refine xSkip 38 ?_
        simp only [List.set_cons_zero, List.set_cons_succ]
        refine xSkip 39 ?_
        simp only [List.set_cons_zero, List.set_cons_succ]
        refine xSkip 40 ?_
        simp only [List.set_cons_zero, List.set_cons_succ]
        refine sv 41 (.bool true) .of ?_
        simp only [List.set_cons_zero, List.set_cons_succ]
        refine sv 19 (.bool true) .of ?_
        simp only [List.set_cons_zero, List.set_cons_succ]
        refine wpList_nil ?_
        refine hK6 _ _ ?_
        refine cT ?_
        refine wp_seq_k fun K8 hK8 => ?_
        refine cPlain ?_
        refine sv 42 (.agg #[.slice X1 d.length Y1, .slice X2 h.length Y2]) (Val.cel 56 _ rfl 0 2 (by kernel_rfl) b8 _ Try.underlying56 rfl (by kernel_rfl) (by simp) [.slice X1 d.length Y1, .slice X2 h.length Y2] rfl) ?_
        simp only [List.set_cons_zero, List.set_cons_succ]
        refine xStoreR 56 (.tmp 6) (.tmp 42) rfl w1.heap.size 56 [.slice none 0 0, .slice none 0 0] 0 [.slice X1 d.length Y1, .slice X2 h.length Y2] (by kernel_rfl) (by kernel_rfl) b6 (by kernel_rfl) (by simp) rfl [.slice X1 d.length Y1, .slice X2 h.length Y2] rfl ?_
        intro w9 t4
        have zt4 := t4.z
        have BL_ := BL.ev t4.e (fun i h => show w.heap.size ≤ i by have h : i = w1.heap.size := h; omega)
        have D_ := D.ev t4.e (fun i hi => show ¬ (i = w1.heap.size) by have := hdl i hi; omega)
        have Bb_ := Bb.ev t4.e (fun i hi => show ¬ (i = w1.heap.size) by have := hbl i hi; omega)
        have H_ := H.ev t4.e (fun i hi => show ¬ (i = w1.heap.size) by have := hhl i hi; omega)
        have b3_ := b3.ev t4.e (show ¬ (w.heap.size = w1.heap.size) by omega)
        have O1_ := O1.ev t4.e (fun i hi => show ¬ (i = w1.heap.size) by have := lO1 i hi; omega)
        have O2_ := O2.ev t4.e (fun i hi => show ¬ (i = w1.heap.size) by have := lO2 i hi; omega)
        have b8_ := b8.ev t4.e (show ¬ (w3.heap.size = w1.heap.size) by omega)
        replace BL := BL_; clear BL_
        replace D := D_; clear D_
        replace Bb := Bb_; clear Bb_
        replace H := H_; clear H_
        replace b3 := b3_; clear b3_
        replace O1 := O1_; clear O1_
        replace O2 := O2_; clear O2_
        replace b8 := b8_; clear b8_
        replace b6 : Cel w9 w1.heap.size 56 [.slice X1 d.length Y1, .slice X2 h.length Y2] := t4.c
        clear t4
        refine sv 7 (.int .i64 240) .of ?_
        simp only [List.set_cons_zero, List.set_cons_succ]
        refine wpList_nil ?_
        refine hK8 _ _ ?_
        refine wp_ret ?_
        (try simp only [Exit.then, Exit.inBlock])
        refine bodyPost_ret (rCT rfl _ w1.heap.size _ _ (.int .i64 240) (by kernel_rfl) (by kernel_rfl) b6 _ Try.underlying56 rfl (by kernel_rfl)) rfl ?_
        rw [putX_2 hr (by omega)]
        exact ⟨⟨_, _, rfl, O1.mono (by omega), O2.mono (by omega)⟩, BL.b⟩
      · skip
        have dg29 : decide (512 < (b.length : Int)) = false := decide_eq_false g29
        simp only [dg29]
        clear dg29
        refine sv 29 (.int .i64 a) .of ?_
        simp only [List.set_cons_zero, List.set_cons_succ]
        refine sv 30 (.bool (decide (a < 0))) (Val.cmp .lss 3 _ (.tmp 29) _ rfl .i64 a 0 (by kernel_rfl) (by kernel_rfl) (by simp) _ rfl) ?_
        simp only [List.set_cons_zero, List.set_cons_succ]
        refine sv 31 (.bool (decide (a < 0))) .of ?_
        simp only [List.set_cons_zero, List.set_cons_succ]
        refine sv 32 (.bool (decide (a < 0))) .of ?_
        simp only [List.set_cons_zero, List.set_cons_succ]
        by_cases g33 : a < 0
        · skip
          have dg33 : decide (a < 0) = true := decide_eq_true g33
          simp only [dg33]
          clear dg33
          refine xSkip 33 ?_
          simp only [List.set_cons_zero, List.set_cons_succ]
          refine xSkip 34 ?_
          simp only [List.set_cons_zero, List.set_cons_succ]
          refine xSkip 35 ?_
          simp only [List.set_cons_zero, List.set_cons_succ]
          refine xSkip 36 ?_
          simp only [List.set_cons_zero, List.set_cons_succ]
          refine xSkip 37 ?_
          simp only [List.set_cons_zero, List.set_cons_succ]
          refine xSkip 38 ?_
          simp only [List.set_cons_zero, List.set_cons_succ]
          refine xSkip 39 ?_
          simp only [List.set_cons_zero, List.set_cons_succ]
          refine xSkip 40 ?_
          simp only [List.set_cons_zero, List.set_cons_succ]
          refine sv 41 (.bool true) .of ?_
          simp only [List.set_cons_zero, List.set_cons_succ]
          refine sv 19 (.bool true) .of ?_
          simp only [List.set_cons_zero, List.set_cons_succ]
          refine wpList_nil ?_
          refine hK6 _ _ ?_
          refine cT ?_
          refine wp_seq_k fun K9 hK9 => ?_
          refine cPlain ?_
          refine sv 42 (.agg #[.slice X1 d.length Y1, .slice X2 h.length Y2]) (Val.cel 56 _ rfl 0 2 (by kernel_rfl) b8 _ Try.underlying56 rfl (by kernel_rfl) (by simp) [.slice X1 d.length Y1, .slice X2 h.length Y2] rfl) ?_
          simp only [List.set_cons_zero, List.set_cons_succ]
          refine xStoreR 56 (.tmp 6) (.tmp 42) rfl w1.heap.size 56 [.slice none 0 0, .slice none 0 0] 0 [.slice X1 d.length Y1, .slice X2 h.length Y2] (by kernel_rfl) (by kernel_rfl) b6 (by kernel_rfl) (by simp) rfl [.slice X1 d.length Y1, .slice X2 h.length Y2] rfl ?_
          intro w10 t5
          have zt5 := t5.z
          have BL_ := BL.ev t5.e (fun i h => show w.heap.size ≤ i by have h : i = w1.heap.size := h; omega)
          have D_ := D.ev t5.e (fun i hi => show ¬ (i = w1.heap.size) by have := hdl i hi; omega)
          have Bb_ := Bb.ev t5.e (fun i hi => show ¬ (i = w1.heap.size) by have := hbl i hi; omega)
          have H_ := H.ev t5.e (fun i hi => show ¬ (i = w1.heap.size) by have := hhl i hi; omega)
          have b3_ := b3.ev t5.e (show ¬ (w.heap.size = w1.heap.size) by omega)
          have O1_ := O1.ev t5.e (fun i hi => show ¬ (i = w1.heap.size) by have := lO1 i hi; omega)
          have O2_ := O2.ev t5.e (fun i hi => show ¬ (i = w1.heap.size) by have := lO2 i hi; omega)
          have b8_ := b8.ev t5.e (show ¬ (w3.heap.size = w1.heap.size) by omega)
          replace BL := BL_; clear BL_
          replace D := D_; clear D_
          replace Bb := Bb_; clear Bb_
          replace H := H_; clear H_
          replace b3 := b3_; clear b3_
          replace O1 := O1_; clear O1_
          replace O2 := O2_; clear O2_
          replace b8 := b8_; clear b8_
          replace b6 : Cel w10 w1.heap.size 56 [.slice X1 d.length Y1, .slice X2 h.length Y2] := t5.c
          clear t5
          refine sv 7 (.int .i64 240) .of ?_
          simp only [List.set_cons_zero, List.set_cons_succ]
          refine wpList_nil ?_
          refine hK9 _ _ ?_
          refine wp_ret ?_
          (try simp only [Exit.then, Exit.inBlock])
          refine bodyPost_ret (rCT rfl _ w1.heap.size _ _ (.int .i64 240) (by kernel_rfl) (by kernel_rfl) b6 _ Try.underlying56 rfl (by kernel_rfl)) rfl ?_
          rw [putX_2 hr (by omega)]
          exact ⟨⟨_, _, rfl, O1.mono (by omega), O2.mono (by omega)⟩, BL.b⟩
        · skip
          have dg33 : decide (a < 0) = false := decide_eq_false g33
          simp only [dg33]
          clear dg33
          refine sv 33 (.int .i64 a) .of ?_
          simp only [List.set_cons_zero, List.set_cons_succ]
          refine sv 34 (.pointer (some ⟨w.heap.size, 0, none⟩)) .of ?_
          simp only [List.set_cons_zero, List.set_cons_succ]
          refine sv 35 (.slice A0 d.length C0) (Val.cel1 29 _ rfl w.heap.size 0 _ (by kernel_rfl) (fun _ => (by kernel_rfl)) b3 rfl) ?_
          simp only [List.set_cons_zero, List.set_cons_succ]
          refine sv 36 (.int .i64 (d.length : Int)) .of ?_
          simp only [List.set_cons_zero, List.set_cons_succ]
          refine sv 37 (.slice A1 b.length C1) .of ?_
          simp only [List.set_cons_zero, List.set_cons_succ]
          refine sv 38 (.int .i64 (b.length : Int)) .of ?_
          simp only [List.set_cons_zero, List.set_cons_succ]
          refine sv 39 (.int .i64 ((d.length : Int) - (b.length : Int))) (Val.sub 3 _ (.tmp 36) (.tmp 38) rfl (d.length : Int) (b.length : Int) (by kernel_rfl) (by kernel_rfl) (by omega)) ?_
          simp only [List.set_cons_zero, List.set_cons_succ]
          refine sv 40 (.bool (decide (((d.length : Int) - (b.length : Int)) < a))) (Val.cmp .gtr 3 _ (.tmp 33) (.tmp 39) rfl .i64 a ((d.length : Int) - (b.length : Int)) (by kernel_rfl) (by kernel_rfl) (by simp) _ rfl) ?_
          simp only [List.set_cons_zero, List.set_cons_succ]
          refine sv 41 (.bool (decide (((d.length : Int) - (b.length : Int)) < a))) .of ?_
          simp only [List.set_cons_zero, List.set_cons_succ]
          refine sv 19 (.bool (decide (((d.length : Int) - (b.length : Int)) < a))) .of ?_
          simp only [List.set_cons_zero, List.set_cons_succ]
          refine wpList_nil ?_
          refine hK6 _ _ ?_
          refine cDec (((d.length : Int) - (b.length : Int)) < a) (by kernel_rfl) (fun c19 => ?_) (fun c19 => ?_)
          · skip
            refine wp_seq_k fun K10 hK10 => ?_
            refine cPlain ?_
            refine sv 42 (.agg #[.slice X1 d.length Y1, .slice X2 h.length Y2]) (Val.cel 56 _ rfl 0 2 (by kernel_rfl) b8 _ Try.underlying56 rfl (by kernel_rfl) (by simp) [.slice X1 d.length Y1, .slice X2 h.length Y2] rfl) ?_
            simp only [List.set_cons_zero, List.set_cons_succ]
            refine xStoreR 56 (.tmp 6) (.tmp 42) rfl w1.heap.size 56 [.slice none 0 0, .slice none 0 0] 0 [.slice X1 d.length Y1, .slice X2 h.length Y2] (by kernel_rfl) (by kernel_rfl) b6 (by kernel_rfl) (by simp) rfl [.slice X1 d.length Y1, .slice X2 h.length Y2] rfl ?_
            intro w11 t6
            have zt6 := t6.z
            have BL_ := BL.ev t6.e (fun i h => show w.heap.size ≤ i by have h : i = w1.heap.size := h; omega)
            have D_ := D.ev t6.e (fun i hi => show ¬ (i = w1.heap.size) by have := hdl i hi; omega)
            have Bb_ := Bb.ev t6.e (fun i hi => show ¬ (i = w1.heap.size) by have := hbl i hi; omega)
            have H_ := H.ev t6.e (fun i hi => show ¬ (i = w1.heap.size) by have := hhl i hi; omega)
            have b3_ := b3.ev t6.e (show ¬ (w.heap.size = w1.heap.size) by omega)
            have O1_ := O1.ev t6.e (fun i hi => show ¬ (i = w1.heap.size) by have := lO1 i hi; omega)
            have O2_ := O2.ev t6.e (fun i hi => show ¬ (i = w1.heap.size) by have := lO2 i hi; omega)
            have b8_ := b8.ev t6.e (show ¬ (w3.heap.size = w1.heap.size) by omega)
            replace BL := BL_; clear BL_
            replace D := D_; clear D_
            replace Bb := Bb_; clear Bb_
            replace H := H_; clear H_
            replace b3 := b3_; clear b3_
            replace O1 := O1_; clear O1_
            replace O2 := O2_; clear O2_
            replace b8 := b8_; clear b8_
            replace b6 : Cel w11 w1.heap.size 56 [.slice X1 d.length Y1, .slice X2 h.length Y2] := t6.c
            clear t6
            refine sv 7 (.int .i64 240) .of ?_
            simp only [List.set_cons_zero, List.set_cons_succ]
            refine wpList_nil ?_
            refine hK10 _ _ ?_
            refine wp_ret ?_
            (try simp only [Exit.then, Exit.inBlock])
            refine bodyPost_ret (rCT rfl _ w1.heap.size _ _ (.int .i64 240) (by kernel_rfl) (by kernel_rfl) b6 _ Try.underlying56 rfl (by kernel_rfl)) rfl ?_
            rw [putX_2 hr (by omega)]
            exact ⟨⟨_, _, rfl, O1.mono (by omega), O2.mono (by omega)⟩, BL.b⟩
          · skip
            refine wp_seq_k fun K11 hK11 => ?_
            refine cPlain ?_
            refine sv 44 (.agg #[.slice A0 d.length C0, .slice A2 h.length C2]) (Val.cel 56 _ rfl 0 2 (by kernel_rfl) b3 _ Try.underlying56 rfl (by kernel_rfl) (by simp) [.slice A0 d.length C0, .slice A2 h.length C2] rfl) ?_
            simp only [List.set_cons_zero, List.set_cons_succ]
            refine sv 45 (.int .i64 ((a.toNat : Nat) : Int)) (Val.as (Val.of) (congrArg (Value.int .i64) (show (a : Int) = ((a.toNat : Nat) : Int) by omega))) ?_
            simp only [List.set_cons_zero, List.set_cons_succ]
            refine sv 46 (.slice A1 b.length C1) .of ?_
            simp only [List.set_cons_zero, List.set_cons_succ]
            refine xCall 47 58 #[.agg #[.slice A0 d.length C0, .slice A2 h.length C2], .int .i64 ((a.toNat : Nat) : Int), .slice A1 b.length C1] (by kernel_rfl) ?_
            refine (clash_dec A0 A1 A2 C0 C1 C2 a.toNat d b h w6 D Bb H (by omega) hbd).mono ?_
            rintro en w12 ⟨he, hb1⟩
            rw [show ((a.toNat : Nat) : Int) = a by omega] at he
            subst he
            have e3 := belE0 hb1
            have ze3 := e3.size
            replace BL := BL.e0 e3
            replace D := D.e0 e3
            replace Bb := Bb.e0 e3
            replace H := H.e0 e3
            replace b3 := b3.e0 e3
            replace b6 := b6.e0 e3
            replace O1 := O1.e0 e3
            replace O2 := O2.e0 e3
            replace b8 := b8.e0 e3
            clear e3
            refine ⟨.bool (decide (clashX d h a b = true)), rfl, ?_⟩
            simp only [List.set_cons_zero, List.set_cons_succ]
            refine sv 43 (.bool (decide (clashX d h a b = true))) .of ?_
            simp only [List.set_cons_zero, List.set_cons_succ]
            refine wpList_nil ?_
            refine hK11 _ _ ?_
            refine cDec (clashX d h a b = true) (by kernel_rfl) (fun c43 => ?_) (fun c43 => ?_)
            · skip
              refine wp_seq_k fun K12 hK12 => ?_
              refine cPlain ?_
              refine sv 48 (.agg #[.slice X1 d.length Y1, .slice X2 h.length Y2]) (Val.cel 56 _ rfl 0 2 (by kernel_rfl) b8 _ Try.underlying56 rfl (by kernel_rfl) (by simp) [.slice X1 d.length Y1, .slice X2 h.length Y2] rfl) ?_
              simp only [List.set_cons_zero, List.set_cons_succ]
              refine xStoreR 56 (.tmp 6) (.tmp 48) rfl w1.heap.size 56 [.slice none 0 0, .slice none 0 0] 0 [.slice X1 d.length Y1, .slice X2 h.length Y2] (by kernel_rfl) (by kernel_rfl) b6 (by kernel_rfl) (by simp) rfl [.slice X1 d.length Y1, .slice X2 h.length Y2] rfl ?_
              intro w13 t7
              have zt7 := t7.z
              have BL_ := BL.ev t7.e (fun i h => show w.heap.size ≤ i by have h : i = w1.heap.size := h; omega)
              have D_ := D.ev t7.e (fun i hi => show ¬ (i = w1.heap.size) by have := hdl i hi; omega)
              have Bb_ := Bb.ev t7.e (fun i hi => show ¬ (i = w1.heap.size) by have := hbl i hi; omega)
              have H_ := H.ev t7.e (fun i hi => show ¬ (i = w1.heap.size) by have := hhl i hi; omega)
              have b3_ := b3.ev t7.e (show ¬ (w.heap.size = w1.heap.size) by omega)
              have O1_ := O1.ev t7.e (fun i hi => show ¬ (i = w1.heap.size) by have := lO1 i hi; omega)
              have O2_ := O2.ev t7.e (fun i hi => show ¬ (i = w1.heap.size) by have := lO2 i hi; omega)
              have b8_ := b8.ev t7.e (show ¬ (w3.heap.size = w1.heap.size) by omega)
              replace BL := BL_; clear BL_
              replace D := D_; clear D_
              replace Bb := Bb_; clear Bb_
              replace H := H_; clear H_
              replace b3 := b3_; clear b3_
              replace O1 := O1_; clear O1_
              replace O2 := O2_; clear O2_
              replace b8 := b8_; clear b8_
              replace b6 : Cel w13 w1.heap.size 56 [.slice X1 d.length Y1, .slice X2 h.length Y2] := t7.c
              clear t7
              refine sv 7 (.int .i64 241) .of ?_
              simp only [List.set_cons_zero, List.set_cons_succ]
              refine wpList_nil ?_
              refine hK12 _ _ ?_
              refine wp_ret ?_
              (try simp only [Exit.then, Exit.inBlock])
              refine bodyPost_ret (rCT rfl _ w1.heap.size _ _ (.int .i64 241) (by kernel_rfl) (by kernel_rfl) b6 _ Try.underlying56 rfl (by kernel_rfl)) rfl ?_
              rw [putX_3 hr (by omega) c43]
              exact ⟨⟨_, _, rfl, O1.mono (by omega), O2.mono (by omega)⟩, BL.b⟩
            · skip
              refine wp_skip ?_
              refine hK3 _ _ ?_
              refine wp_seq_k fun K13 hK13 => ?_
              refine cPlain ?_
              refine sv 49 (.pointer (some ⟨w3.heap.size, 0, none⟩)) .of ?_
              simp only [List.set_cons_zero, List.set_cons_succ]
              refine sv 50 (.slice X1 d.length Y1) (Val.cel1 29 _ rfl w3.heap.size 0 _ (by kernel_rfl) (fun _ => (by kernel_rfl)) b8 rfl) ?_
              simp only [List.set_cons_zero, List.set_cons_succ]
              refine sv 51 (.int .i64 ((a.toNat : Nat) : Int)) (Val.as (Val.of) (congrArg (Value.int .i64) (show (a : Int) = ((a.toNat : Nat) : Int) by omega))) ?_
              simp only [List.set_cons_zero, List.set_cons_succ]
              refine sv 52 (sliceV (.slice X1 d.length Y1) a.toNat ((nn d).length)) (Val.slc 29 (.tmp 50) (some (.tmp 51)) none rfl (.slice X1 d.length Y1) (by kernel_rfl) O1.sl a.toNat ((nn d).length) (.inl (by kernel_rfl)) (.inr ⟨rfl, rfl⟩) (by rw [nn_len]; omega) (Nat.le_refl _) Try.underlying29 (by kernel_rfl)) ?_
              simp only [List.set_cons_zero, List.set_cons_succ]
              refine sv 53 (.slice A1 b.length C1) .of ?_
              simp only [List.set_cons_zero, List.set_cons_succ]
              refine xCopyO 54 (.tmp 52) (.tmp 53) 29 29 5 rfl Try.underlying29 (by kernel_rfl) w2.heap.size d b (.slice X1 d.length Y1) a.toNat (by kernel_rfl) O1 (.slice A1 b.length C1) (by kernel_rfl) Bb (by omega) (by omega) ?_
              intro w14 O1x hE54 hz54
              have e4 := hE54
              have ze4 := e4.size
              have BL_ := BL.ev e4 (fun i h => by have := lO1 _ h; omega)
              have D_ := D.ev e4 (fun i hi h => by have := hdl i hi; have := lO1 _ h; omega)
              have Bb_ := Bb.ev e4 (fun i hi h => by have := hbl i hi; have := lO1 _ h; omega)
              have H_ := H.ev e4 (fun i hi h => by have := hhl i hi; have := lO1 _ h; omega)
              have b3_ := b3.ev e4 (fun h => by have := lO1 _ h; omega)
              have b6_ := b6.ev e4 (fun h => by have := lO1 _ h; omega)
              have O2_ := O2.ev e4 (fun i hi h => by have := lO2 i hi; have := lO1 _ h; omega)
              have b8_ := b8.ev e4 (fun h => by have := lO1 _ h; omega)
              replace BL := BL_; clear BL_
              replace D := D_; clear D_
              replace Bb := Bb_; clear Bb_
              replace H := H_; clear H_
              replace b3 := b3_; clear b3_
              replace b6 := b6_; clear b6_
              replace O2 := O2_; clear O2_
              replace b8 := b8_; clear b8_
              clear e4
              have O1 : Own 5 .u8 w2.heap.size w14 (.slice X1 d.length Y1) (nn (layB d a.toNat b)) := O1x
              simp only [List.set_cons_zero, List.set_cons_succ]
              refine wpList_nil ?_
              refine hK13 _ _ ?_
              refine wp_seq_k fun K14 hK14 => ?_
              refine cPlain ?_
              refine sv 55 (.int .i64 a) .of ?_
              simp only [List.set_cons_zero, List.set_cons_succ]
              refine sv 56 (.int .i64 a) .of ?_
              simp only [List.set_cons_zero, List.set_cons_succ]
              refine sv 57 (.slice A1 b.length C1) .of ?_
              simp only [List.set_cons_zero, List.set_cons_succ]
              refine sv 58 (.int .i64 (b.length : Int)) .of ?_
              simp only [List.set_cons_zero, List.set_cons_succ]
              refine sv 59 (.int .i64 (a + (b.length : Int))) (Val.add 3 _ (.tmp 56) (.tmp 58) rfl a (b.length : Int) (by kernel_rfl) (by kernel_rfl) (by omega)) ?_
              simp only [List.set_cons_zero, List.set_cons_succ]
              refine sv 60 (.agg #[.int .i64 a, .int .i64 (a + (b.length : Int))]) .of ?_
              simp only [List.set_cons_zero, List.set_cons_succ]
              refine xAlloc 9 70 [.int .i64 0, .int .i64 0] rfl (by kernel_rfl) ?_
              intro w15 n4
              have zn4 := n4.z
              have b9 := n4.c
              replace BL := BL.e0 n4.e
              replace D := D.e0 n4.e
              replace Bb := Bb.e0 n4.e
              replace H := H.e0 n4.e
              replace b3 := b3.e0 n4.e
              replace b6 := b6.e0 n4.e
              replace O2 := O2.e0 n4.e
              replace b8 := b8.e0 n4.e
              replace O1 := O1.e0 n4.e
              simp only [List.set_cons_zero, List.set_cons_succ]
              refine xStoreR 70 (.tmp 9) (.tmp 60) rfl w14.heap.size 70 [.int .i64 0, .int .i64 0] 0 [.int .i64 a, .int .i64 (a + (b.length : Int))] (by kernel_rfl) (by kernel_rfl) b9 (by kernel_rfl) (by simp) rfl [.int .i64 a, .int .i64 (a + (b.length : Int))] rfl ?_
              intro w16 t8
              have zt8 := t8.z
              have BL_ := BL.ev t8.e (fun i h => show w.heap.size ≤ i by have h : i = w14.heap.size := h; omega)
              have D_ := D.ev t8.e (fun i hi => show ¬ (i = w14.heap.size) by have := hdl i hi; omega)
              have Bb_ := Bb.ev t8.e (fun i hi => show ¬ (i = w14.heap.size) by have := hbl i hi; omega)
              have H_ := H.ev t8.e (fun i hi => show ¬ (i = w14.heap.size) by have := hhl i hi; omega)
              have b3_ := b3.ev t8.e (show ¬ (w.heap.size = w14.heap.size) by omega)
              have b6_ := b6.ev t8.e (show ¬ (w1.heap.size = w14.heap.size) by omega)
              have O2_ := O2.ev t8.e (fun i hi => show ¬ (i = w14.heap.size) by have := lO2 i hi; omega)
              have b8_ := b8.ev t8.e (show ¬ (w3.heap.size = w14.heap.size) by omega)
              have O1_ := O1.ev t8.e (fun i hi => show ¬ (i = w14.heap.size) by have := lO1 i hi; omega)
              replace BL := BL_; clear BL_
              replace D := D_; clear D_
              replace Bb := Bb_; clear Bb_
              replace H := H_; clear H_
              replace b3 := b3_; clear b3_
              replace b6 := b6_; clear b6_
              replace O2 := O2_; clear O2_
              replace b8 := b8_; clear b8_
              replace O1 := O1_; clear O1_
              replace b9 : Cel w16 w14.heap.size 70 [.int .i64 a, .int .i64 (a + (b.length : Int))] := t8.c
              clear t8
              refine wpList_nil ?_
              refine hK14 _ _ ?_
              refine wp_seq_k fun K15 hK15 => ?_
              refine cPlain ?_
              refine sv 61 (.pointer (some ⟨w3.heap.size, 1, none⟩)) .of ?_
              simp only [List.set_cons_zero, List.set_cons_succ]
              refine sv 62 (.slice X2 h.length Y2) (Val.cel1 54 _ rfl w3.heap.size 1 _ (by kernel_rfl) (fun _ => (by kernel_rfl)) b8 rfl) ?_
              simp only [List.set_cons_zero, List.set_cons_succ]
              refine sv 63 (.func (.func 60) #[] #[.pointer (some ⟨w14.heap.size, 0, none⟩)]) .of ?_
              simp only [List.set_cons_zero, List.set_cons_succ]
              refine xCall 64 59 #[.slice X2 h.length Y2, .func (.func 60) #[] #[.pointer (some ⟨w14.heap.size, 0, none⟩)]] (by kernel_rfl) ?_
              refine (pidx_any X2 Y2 h w16 _ a (a + (b.length : Int)) b9 O2.se).mono ?_
              rintro en w17 ⟨hk, hb1⟩
              rcases hk with ⟨hfx, rfl⟩ | ⟨hfx, rfl⟩
              · skip
                have e5 := belE0 hb1
                have ze5 := e5.size
                replace BL := BL.e0 e5
                replace D := D.e0 e5
                replace Bb := Bb.e0 e5
                replace H := H.e0 e5
                replace b3 := b3.e0 e5
                replace b6 := b6.e0 e5
                replace O2 := O2.e0 e5
                replace b8 := b8.e0 e5
                replace O1 := O1.e0 e5
                replace b9 := b9.e0 e5
                clear e5
                refine ⟨.int .i64 (((fidx a h) : Nat) : Int), rfl, ?_⟩
                simp only [List.set_cons_zero, List.set_cons_succ]
                refine sv 10 (.int .i64 (((fidx a h) : Nat) : Int)) .of ?_
                simp only [List.set_cons_zero, List.set_cons_succ]
                refine wpList_nil ?_
                refine hK15 _ _ ?_
                refine wp_seq_k fun K16 hK16 => ?_
                refine wp_seq_k fun K17 hK17 => ?_
                refine cPlain ?_
                refine sv 65 (.int .i64 (((fidx a h) : Nat) : Int)) .of ?_
                simp only [List.set_cons_zero, List.set_cons_succ]
                refine sv 66 (.bool false) (Val.cmp .lss 3 _ (.tmp 65) _ rfl .i64 (((fidx a h) : Nat) : Int) 0 (by kernel_rfl) (by kernel_rfl) (by simp) _ (by first | (simp [cmpB]; done) | (simp [cmpB]; omega))) ?_
                simp only [List.set_cons_zero, List.set_cons_succ]
                refine wpList_nil ?_
                refine hK17 _ _ ?_
                refine cF ?_
                refine wp_skip ?_
                refine hK16 _ _ ?_
                refine wp_seq_k fun K18 hK18 => ?_
                refine cPlain ?_
                refine sv 70 (.int .i64 (((fidx a h) : Nat) : Int)) .of ?_
                simp only [List.set_cons_zero, List.set_cons_succ]
                refine sv 11 (.int .i64 (((fidx a h) : Nat) : Int)) .of ?_
                simp only [List.set_cons_zero, List.set_cons_succ]
                refine wpList_nil ?_
                refine hK18 _ _ ?_
                refine cCut (fun A_ w_ => ∃ (q : Nat) (sa sb : Int), ((q ≤ h.length) ∧ (fidx a h ≤ q) ∧ (putS (a, a + (b.length : Int)) h = h.take (fidx a h) ++ [(sa, sb)] ++ h.drop q) ∧ (∃ s1 : Nat → Value, A_ = ⟨[.agg #[.slice A0 d.length C0, .slice A2 h.length C2], .int .i64 a, .slice A1 b.length C1, .pointer (some ⟨w.heap.size, 0, none⟩), undef, undef, .pointer (some ⟨w1.heap.size, 0, none⟩), .int .i64 0, .pointer (some ⟨w3.heap.size, 0, none⟩), .pointer (some ⟨w14.heap.size, 0, none⟩), .int .i64 (((fidx a h) : Nat) : Int), .int .i64 ((q : Nat) : Int), .agg #[.slice A0 d.length C0, .slice A2 h.length C2], .agg #[.slice X1 d.length Y1, .slice X2 h.length Y2], .bool (decide (¬ (rightX d h = true))), .agg #[.slice A0 d.length C0, .slice A2 h.length C2], .bool (decide (rightX d h = true)), .bool (decide (¬ (rightX d h = true))), undef, .bool (decide (((d.length : Int) - (b.length : Int)) < a)), .slice A1 b.length C1, .int .i64 (b.length : Int), .bool false, .bool false, .slice A1 b.length C1, .int .i64 (b.length : Int), .bool false, .bool false, .bool false, .int .i64 a, .bool false, .bool false, .bool false, .int .i64 a, .pointer (some ⟨w.heap.size, 0, none⟩), .slice A0 d.length C0, .int .i64 (d.length : Int), .slice A1 b.length C1, .int .i64 (b.length : Int), .int .i64 ((d.length : Int) - (b.length : Int)), .bool (decide (((d.length : Int) - (b.length : Int)) < a)), .bool (decide (((d.length : Int) - (b.length : Int)) < a)), undef, .bool (decide (clashX d h a b = true)), .agg #[.slice A0 d.length C0, .slice A2 h.length C2], .int .i64 ((a.toNat : Nat) : Int), .slice A1 b.length C1, .bool (decide (clashX d h a b = true)), undef, .pointer (some ⟨w3.heap.size, 0, none⟩), .slice X1 d.length Y1, .int .i64 ((a.toNat : Nat) : Int), sliceV (.slice X1 d.length Y1) a.toNat ((nn d).length), .slice A1 b.length C1, .int .i64 ((b.length : Nat) : Int), .int .i64 a, .int .i64 a, .slice A1 b.length C1, .int .i64 (b.length : Int), .int .i64 (a + (b.length : Int)), .agg #[.int .i64 a, .int .i64 (a + (b.length : Int))], .pointer (some ⟨w3.heap.size, 1, none⟩), .slice X2 h.length Y2, .func (.func 60) #[] #[.pointer (some ⟨w14.heap.size, 0, none⟩)], .int .i64 (((fidx a h) : Nat) : Int), .int .i64 (((fidx a h) : Nat) : Int), .bool false, undef, undef, undef, .int .i64 (((fidx a h) : Nat) : Int), (s1 71), (s1 72), (s1 73), (s1 74), (s1 75), (s1 76), (s1 77), (s1 78), (s1 79), (s1 80), (s1 81), (s1 82), (s1 83), (s1 84), (s1 85), (s1 86), (s1 87), (s1 88), (s1 89), (s1 90), (s1 91), (s1 92), (s1 93), (s1 94), (s1 95), (s1 96), (s1 97), (s1 98), (s1 99), (s1 100), (s1 101), (s1 102), (s1 103), (s1 104), (s1 105), (s1 106), (s1 107), (s1 108), undef, undef, undef, undef, undef, undef, undef, undef, undef].toArray, []⟩) ∧ Bl w.heap.size w w_ ∧ SL .u8 w_ (.slice A0 d.length C0) (nn d) ∧ SL .u8 w_ (.slice A1 b.length C1) (nn b) ∧ SE .i64 2 w_ (.slice A2 h.length C2) (spS h) ∧ Cel w_ w.heap.size 56 [.slice A0 d.length C0, .slice A2 h.length C2] ∧ Cel w_ w1.heap.size 56 [.slice none 0 0, .slice none 0 0] ∧ OwnE 70 .i64 2 w2.heap.size w_ (.slice X2 h.length Y2) (spS h) ∧ Cel w_ w3.heap.size 56 [.slice X1 d.length Y1, .slice X2 h.length Y2] ∧ Own 5 .u8 w2.heap.size w_ (.slice X1 d.length Y1) (nn (layB d a.toNat b)) ∧ Cel w_ w14.heap.size 70 [.int .i64 sa, .int .i64 sb] ∧ w17.heap.size ≤ w_.heap.size)) ?_ ?_
                · skip
                  refine wp_block ?_
                  refine cLoop (fun N_ A_ w_ => ∃ (q : Nat) (sa sb : Int), (N_ = h.length - q ∧ (q ≤ h.length) ∧ (fidx a h ≤ q) ∧ (mrgS (a, a + (b.length : Int)) (h.drop (fidx a h)) = mrgS (sa, sb) (h.drop q)) ∧ (∃ s2 : Nat → Value, A_ = ⟨[.agg #[.slice A0 d.length C0, .slice A2 h.length C2], .int .i64 a, .slice A1 b.length C1, .pointer (some ⟨w.heap.size, 0, none⟩), undef, undef, .pointer (some ⟨w1.heap.size, 0, none⟩), .int .i64 0, .pointer (some ⟨w3.heap.size, 0, none⟩), .pointer (some ⟨w14.heap.size, 0, none⟩), .int .i64 (((fidx a h) : Nat) : Int), .int .i64 ((q : Nat) : Int), .agg #[.slice A0 d.length C0, .slice A2 h.length C2], .agg #[.slice X1 d.length Y1, .slice X2 h.length Y2], .bool (decide (¬ (rightX d h = true))), .agg #[.slice A0 d.length C0, .slice A2 h.length C2], .bool (decide (rightX d h = true)), .bool (decide (¬ (rightX d h = true))), undef, .bool (decide (((d.length : Int) - (b.length : Int)) < a)), .slice A1 b.length C1, .int .i64 (b.length : Int), .bool false, .bool false, .slice A1 b.length C1, .int .i64 (b.length : Int), .bool false, .bool false, .bool false, .int .i64 a, .bool false, .bool false, .bool false, .int .i64 a, .pointer (some ⟨w.heap.size, 0, none⟩), .slice A0 d.length C0, .int .i64 (d.length : Int), .slice A1 b.length C1, .int .i64 (b.length : Int), .int .i64 ((d.length : Int) - (b.length : Int)), .bool (decide (((d.length : Int) - (b.length : Int)) < a)), .bool (decide (((d.length : Int) - (b.length : Int)) < a)), undef, .bool (decide (clashX d h a b = true)), .agg #[.slice A0 d.length C0, .slice A2 h.length C2], .int .i64 ((a.toNat : Nat) : Int), .slice A1 b.length C1, .bool (decide (clashX d h a b = true)), undef, .pointer (some ⟨w3.heap.size, 0, none⟩), .slice X1 d.length Y1, .int .i64 ((a.toNat : Nat) : Int), sliceV (.slice X1 d.length Y1) a.toNat ((nn d).length), .slice A1 b.length C1, .int .i64 ((b.length : Nat) : Int), .int .i64 a, .int .i64 a, .slice A1 b.length C1, .int .i64 (b.length : Int), .int .i64 (a + (b.length : Int)), .agg #[.int .i64 a, .int .i64 (a + (b.length : Int))], .pointer (some ⟨w3.heap.size, 1, none⟩), .slice X2 h.length Y2, .func (.func 60) #[] #[.pointer (some ⟨w14.heap.size, 0, none⟩)], .int .i64 (((fidx a h) : Nat) : Int), .int .i64 (((fidx a h) : Nat) : Int), .bool false, undef, undef, undef, .int .i64 (((fidx a h) : Nat) : Int), (s2 71), (s2 72), (s2 73), (s2 74), (s2 75), (s2 76), (s2 77), (s2 78), (s2 79), (s2 80), (s2 81), (s2 82), (s2 83), (s2 84), (s2 85), (s2 86), (s2 87), (s2 88), (s2 89), (s2 90), (s2 91), (s2 92), (s2 93), (s2 94), (s2 95), (s2 96), (s2 97), (s2 98), (s2 99), (s2 100), (s2 101), (s2 102), (s2 103), (s2 104), (s2 105), (s2 106), (s2 107), (s2 108), undef, undef, undef, undef, undef, undef, undef, undef, undef].toArray, []⟩) ∧ Bl w.heap.size w w_ ∧ SL .u8 w_ (.slice A0 d.length C0) (nn d) ∧ SL .u8 w_ (.slice A1 b.length C1) (nn b) ∧ SE .i64 2 w_ (.slice A2 h.length C2) (spS h) ∧ Cel w_ w.heap.size 56 [.slice A0 d.length C0, .slice A2 h.length C2] ∧ Cel w_ w1.heap.size 56 [.slice none 0 0, .slice none 0 0] ∧ OwnE 70 .i64 2 w2.heap.size w_ (.slice X2 h.length Y2) (spS h) ∧ Cel w_ w3.heap.size 56 [.slice X1 d.length Y1, .slice X2 h.length Y2] ∧ Own 5 .u8 w2.heap.size w_ (.slice X1 d.length Y1) (nn (layB d a.toNat b)) ∧ Cel w_ w14.heap.size 70 [.int .i64 sa, .int .i64 sb] ∧ w17.heap.size ≤ w_.heap.size)) _ ⟨(fidx a h), a, (a + (b.length : Int)), rfl, (fidx_le _ _), (Nat.le_refl _), rfl, cutE, BL, D, Bb, H, b3, b6, O2, b8, O1, b9, Nat.le_refl _⟩ ?_
                  clear BL D Bb H b3 b6 O2 b8 O1 b9
                  rintro n_ a_ wl0 ⟨q, sa, sb, rfl, hc0_0, hc0_1, hc0_2, ⟨s2, rfl⟩, BL, D, Bb, H, b3, b6, O2, b8, O1, b9, zl0⟩
                  have lO2_1 := O2.ge
                  have lO1_1 := O1.ge
                  refine wp_seq_k fun K19 hK19 => ?_
                  refine wp_seq_k fun K20 hK20 => ?_
                  have e6 := drew_e0 wl0
                  refine zg (fun w_ => Bl w.heap.size w w_ ∧ SL .u8 w_ (.slice A0 d.length C0) (nn d) ∧ SL .u8 w_ (.slice A1 b.length C1) (nn b) ∧ SE .i64 2 w_ (.slice A2 h.length C2) (spS h) ∧ Cel w_ w.heap.size 56 [.slice A0 d.length C0, .slice A2 h.length C2] ∧ Cel w_ w1.heap.size 56 [.slice none 0 0, .slice none 0 0] ∧ OwnE 70 .i64 2 w2.heap.size w_ (.slice X2 h.length Y2) (spS h) ∧ Cel w_ w3.heap.size 56 [.slice X1 d.length Y1, .slice X2 h.length Y2] ∧ Own 5 .u8 w2.heap.size w_ (.slice X1 d.length Y1) (nn (layB d a.toNat b)) ∧ Cel w_ w14.heap.size 70 [.int .i64 sa, .int .i64 sb] ∧ wl0.heap.size ≤ w_.heap.size) (fun w_ => Bl w.heap.size w w_ ∧ SL .u8 w_ (.slice A0 d.length C0) (nn d) ∧ SL .u8 w_ (.slice A1 b.length C1) (nn b) ∧ SE .i64 2 w_ (.slice A2 h.length C2) (spS h) ∧ Cel w_ w.heap.size 56 [.slice A0 d.length C0, .slice A2 h.length C2] ∧ Cel w_ w1.heap.size 56 [.slice none 0 0, .slice none 0 0] ∧ OwnE 70 .i64 2 w2.heap.size w_ (.slice X2 h.length Y2) (spS h) ∧ Cel w_ w3.heap.size 56 [.slice X1 d.length Y1, .slice X2 h.length Y2] ∧ Own 5 .u8 w2.heap.size w_ (.slice X1 d.length Y1) (nn (layB d a.toNat b)) ∧ Cel w_ w14.heap.size 70 [.int .i64 sa, .int .i64 sb] ∧ wl0.heap.size ≤ w_.heap.size) 100000 16 ⟨BL.e0 e6, D.e0 e6, Bb.e0 e6, H.e0 e6, b3.e0 e6, b6.e0 e6, O2.e0 e6, b8.e0 e6, O1.e0 e6, b9.e0 e6, Nat.le_refl _⟩ ?_
                  clear BL D Bb H b3 b6 O2 b8 O1 b9
                  clear e6
                  intro w18
                  rintro ⟨BL, D, Bb, H, b3, b6, O2, b8, O1, b9, z1⟩
                  refine zv 0 71 (.int .i64 ((q : Nat) : Int)) (fun _ _ => .of) ⟨BL, D, Bb, H, b3, b6, O2, b8, O1, b9, by omega⟩ ?_
                  simp only [List.set_cons_zero, List.set_cons_succ]
                  refine zv 1 72 (.pointer (some ⟨w3.heap.size, 1, none⟩)) (fun _ _ => .of) ⟨BL, D, Bb, H, b3, b6, O2, b8, O1, b9, by omega⟩ ?_
                  simp only [List.set_cons_zero, List.set_cons_succ]
                  refine zv 2 73 (.slice X2 h.length Y2) (fun _ ⟨BL, D, Bb, H, b3, b6, O2, b8, O1, b9, z1⟩ => Val.cel1 54 _ rfl w3.heap.size 1 _ (by kernel_rfl) (fun _ => (by kernel_rfl)) b8 rfl) ⟨BL, D, Bb, H, b3, b6, O2, b8, O1, b9, by omega⟩ ?_
                  simp only [List.set_cons_zero, List.set_cons_succ]
                  refine zv 3 74 (.int .i64 (h.length : Int)) (fun _ _ => .of) ⟨BL, D, Bb, H, b3, b6, O2, b8, O1, b9, by omega⟩ ?_
                  simp only [List.set_cons_zero, List.set_cons_succ]
                  refine zv 4 75 (.bool (decide (((q : Nat) : Int) < (h.length : Int)))) (fun _ ⟨BL, D, Bb, H, b3, b6, O2, b8, O1, b9, z1⟩ => Val.cmp .lss 3 _ (.tmp 71) (.tmp 74) rfl .i64 ((q : Nat) : Int) (h.length : Int) (by kernel_rfl) (by kernel_rfl) (by simp) _ rfl) ⟨BL, D, Bb, H, b3, b6, O2, b8, O1, b9, by omega⟩ ?_
                  simp only [List.set_cons_zero, List.set_cons_succ]
                  refine zv 5 76 (.bool (decide (((q : Nat) : Int) < (h.length : Int)))) (fun _ _ => .of) ⟨BL, D, Bb, H, b3, b6, O2, b8, O1, b9, by omega⟩ ?_
                  simp only [List.set_cons_zero, List.set_cons_succ]
                  by_cases g77 : ((q : Nat) : Int) < (h.length : Int)
                  · skip
                    have dg77 : decide (((q : Nat) : Int) < (h.length : Int)) = true := decide_eq_true g77
                    simp only [dg77]
                    clear dg77
                    refine zv 6 77 (.pointer (some ⟨w3.heap.size, 1, none⟩)) (fun _ _ => .of) ⟨BL, D, Bb, H, b3, b6, O2, b8, O1, b9, by omega⟩ ?_
                    simp only [List.set_cons_zero, List.set_cons_succ]
                    refine zv 7 78 (.slice X2 h.length Y2) (fun _ ⟨BL, D, Bb, H, b3, b6, O2, b8, O1, b9, z1⟩ => Val.cel1 54 _ rfl w3.heap.size 1 _ (by kernel_rfl) (fun _ => (by kernel_rfl)) b8 rfl) ⟨BL, D, Bb, H, b3, b6, O2, b8, O1, b9, by omega⟩ ?_
                    simp only [List.set_cons_zero, List.set_cons_succ]
                    refine zv 8 79 (.int .i64 ((q : Nat) : Int)) (fun _ _ => .of) ⟨BL, D, Bb, H, b3, b6, O2, b8, O1, b9, by omega⟩ ?_
                    simp only [List.set_cons_zero, List.set_cons_succ]
                    refine zv 9 80 (elemE 2 (.slice X2 h.length Y2) q) (fun _ ⟨BL, D, Bb, H, b3, b6, O2, b8, O1, b9, z1⟩ => Val.ixE 54 (.tmp 78) (.tmp 79) rfl (.slice X2 h.length Y2) q (by kernel_rfl) (by kernel_rfl) O2.se Try.underlying54 (by kernel_rfl) (by simp only [spS_len]; omega)) ⟨BL, D, Bb, H, b3, b6, O2, b8, O1, b9, by omega⟩ ?_
                    simp only [List.set_cons_zero, List.set_cons_succ]
                    refine zv 10 81 (elemF (.slice X2 h.length Y2) q 0) (fun _ ⟨BL, D, Bb, H, b3, b6, O2, b8, O1, b9, z1⟩ => Val.fldE 70 _ 0 rfl (.slice X2 h.length Y2) q (by kernel_rfl) O2.se Try.underlying70 0 (by kernel_rfl) (by omega)) ⟨BL, D, Bb, H, b3, b6, O2, b8, O1, b9, by omega⟩ ?_
                    simp only [List.set_cons_zero, List.set_cons_succ]
                    refine zv 11 82 (.int .i64 (h.getD q (0, 0)).1) (fun _ ⟨BL, D, Bb, H, b3, b6, O2, b8, O1, b9, z1⟩ => Val.ldF0 3 _ rfl (.slice X2 h.length Y2) q (by kernel_rfl) (fun _ => (by kernel_rfl)) O2.se (by omega)) ⟨BL, D, Bb, H, b3, b6, O2, b8, O1, b9, by omega⟩ ?_
                    simp only [List.set_cons_zero, List.set_cons_succ]
                    refine zv 12 83 (.pointer (some ⟨w14.heap.size, 1, none⟩)) (fun _ _ => .of) ⟨BL, D, Bb, H, b3, b6, O2, b8, O1, b9, by omega⟩ ?_
                    simp only [List.set_cons_zero, List.set_cons_succ]
                    refine zv 13 84 (.int .i64 sb) (fun _ ⟨BL, D, Bb, H, b3, b6, O2, b8, O1, b9, z1⟩ => Val.cel1 3 _ rfl w14.heap.size 1 _ (by kernel_rfl) (fun _ => (by kernel_rfl)) b9 rfl) ⟨BL, D, Bb, H, b3, b6, O2, b8, O1, b9, by omega⟩ ?_
                    simp only [List.set_cons_zero, List.set_cons_succ]
                    refine zv 14 85 (.bool (decide ((h.getD q (0, 0)).1 ≤ sb))) (fun _ ⟨BL, D, Bb, H, b3, b6, O2, b8, O1, b9, z1⟩ => Val.cmp .leq 3 _ (.tmp 82) (.tmp 84) rfl .i64 ((h.getD q (0, 0)).1) sb (by kernel_rfl) (by kernel_rfl) (by simp) _ rfl) ⟨BL, D, Bb, H, b3, b6, O2, b8, O1, b9, by omega⟩ ?_
                    simp only [List.set_cons_zero, List.set_cons_succ]
                    refine zv 15 86 (.bool (decide ((h.getD q (0, 0)).1 ≤ sb))) (fun _ _ => .of) ⟨BL, D, Bb, H, b3, b6, O2, b8, O1, b9, by omega⟩ ?_
                    simp only [List.set_cons_zero, List.set_cons_succ]
                    refine zd (by kernel_rfl) ?_ _
                    refine hK20 _ _ ?_
                    refine cDec ((h.getD q (0, 0)).1 ≤ sb) (by kernel_rfl) (fun c86 => ?_) (fun c86 => ?_)
                    · skip
                      refine wp_skip ?_
                      refine hK19 _ _ ?_
                      refine wp_block ?_
                      refine wp_seq_k fun K21 hK21 => ?_
                      have e7 := drew_e0 w18
                      refine zg (fun w_ => Bl w.heap.size w w_ ∧ SL .u8 w_ (.slice A0 d.length C0) (nn d) ∧ SL .u8 w_ (.slice A1 b.length C1) (nn b) ∧ SE .i64 2 w_ (.slice A2 h.length C2) (spS h) ∧ Cel w_ w.heap.size 56 [.slice A0 d.length C0, .slice A2 h.length C2] ∧ Cel w_ w1.heap.size 56 [.slice none 0 0, .slice none 0 0] ∧ OwnE 70 .i64 2 w2.heap.size w_ (.slice X2 h.length Y2) (spS h) ∧ Cel w_ w3.heap.size 56 [.slice X1 d.length Y1, .slice X2 h.length Y2] ∧ Own 5 .u8 w2.heap.size w_ (.slice X1 d.length Y1) (nn (layB d a.toNat b)) ∧ w18.heap.size ≤ w_.heap.size) (fun w_ => Bl w.heap.size w w_ ∧ SL .u8 w_ (.slice A0 d.length C0) (nn d) ∧ SL .u8 w_ (.slice A1 b.length C1) (nn b) ∧ SE .i64 2 w_ (.slice A2 h.length C2) (spS h) ∧ Cel w_ w.heap.size 56 [.slice A0 d.length C0, .slice A2 h.length C2] ∧ Cel w_ w1.heap.size 56 [.slice none 0 0, .slice none 0 0] ∧ OwnE 70 .i64 2 w2.heap.size w_ (.slice X2 h.length Y2) (spS h) ∧ Cel w_ w3.heap.size 56 [.slice X1 d.length Y1, .slice X2 h.length Y2] ∧ Own 5 .u8 w2.heap.size w_ (.slice X1 d.length Y1) (nn (layB d a.toNat b)) ∧ Cel w_ w14.heap.size 70 [.int .i64 sa, .int .i64 sb] ∧ w18.heap.size ≤ w_.heap.size) 21 22 ⟨BL.e0 e7, D.e0 e7, Bb.e0 e7, H.e0 e7, b3.e0 e7, b6.e0 e7, O2.e0 e7, b8.e0 e7, O1.e0 e7, b9.e0 e7, Nat.le_refl _⟩ ?_
                      clear BL D Bb H b3 b6 O2 b8 O1 b9
                      clear e7
                      intro w19
                      rintro ⟨BL, D, Bb, H, b3, b6, O2, b8, O1, b9, z2⟩
                      refine zv 0 87 (.pointer (some ⟨w14.heap.size, 0, none⟩)) (fun _ _ => .of) ⟨BL, D, Bb, H, b3, b6, O2, b8, O1, by omega⟩ ?_
                      simp only [List.set_cons_zero, List.set_cons_succ]
                      refine zv 2 89 (.pointer (some ⟨w3.heap.size, 1, none⟩)) (fun _ _ => .of) ⟨BL, D, Bb, H, b3, b6, O2, b8, O1, by omega⟩ ?_
                      simp only [List.set_cons_zero, List.set_cons_succ]
                      refine zv 3 90 (.slice X2 h.length Y2) (fun _ ⟨BL, D, Bb, H, b3, b6, O2, b8, O1, z2⟩ => Val.cel1 54 _ rfl w3.heap.size 1 _ (by kernel_rfl) (fun _ => (by kernel_rfl)) b8 rfl) ⟨BL, D, Bb, H, b3, b6, O2, b8, O1, by omega⟩ ?_
                      simp only [List.set_cons_zero, List.set_cons_succ]
                      refine zv 4 91 (.int .i64 ((q : Nat) : Int)) (fun _ _ => .of) ⟨BL, D, Bb, H, b3, b6, O2, b8, O1, by omega⟩ ?_
                      simp only [List.set_cons_zero, List.set_cons_succ]
                      refine zv 5 92 (elemE 2 (.slice X2 h.length Y2) q) (fun _ ⟨BL, D, Bb, H, b3, b6, O2, b8, O1, z2⟩ => Val.ixE 54 (.tmp 90) (.tmp 91) rfl (.slice X2 h.length Y2) q (by kernel_rfl) (by kernel_rfl) O2.se Try.underlying54 (by kernel_rfl) (by simp only [spS_len]; omega)) ⟨BL, D, Bb, H, b3, b6, O2, b8, O1, by omega⟩ ?_
                      simp only [List.set_cons_zero, List.set_cons_succ]
                      refine zv 6 93 (elemF (.slice X2 h.length Y2) q 0) (fun _ ⟨BL, D, Bb, H, b3, b6, O2, b8, O1, z2⟩ => Val.fldE 70 _ 0 rfl (.slice X2 h.length Y2) q (by kernel_rfl) O2.se Try.underlying70 0 (by kernel_rfl) (by omega)) ⟨BL, D, Bb, H, b3, b6, O2, b8, O1, by omega⟩ ?_
                      simp only [List.set_cons_zero, List.set_cons_succ]
                      refine zv 7 94 (.int .i64 (h.getD q (0, 0)).1) (fun _ ⟨BL, D, Bb, H, b3, b6, O2, b8, O1, z2⟩ => Val.ldF0 3 _ rfl (.slice X2 h.length Y2) q (by kernel_rfl) (fun _ => (by kernel_rfl)) O2.se (by omega)) ⟨BL, D, Bb, H, b3, b6, O2, b8, O1, by omega⟩ ?_
                      simp only [List.set_cons_zero, List.set_cons_succ]
                      refine zv 9 96 (.pointer (some ⟨w14.heap.size, 1, none⟩)) (fun _ _ => .of) ⟨BL, D, Bb, H, b3, b6, O2, b8, O1, by omega⟩ ?_
                      simp only [List.set_cons_zero, List.set_cons_succ]
                      refine zv 11 98 (.pointer (some ⟨w3.heap.size, 1, none⟩)) (fun _ _ => .of) ⟨BL, D, Bb, H, b3, b6, O2, b8, O1, by omega⟩ ?_
                      simp only [List.set_cons_zero, List.set_cons_succ]
                      refine zv 12 99 (.slice X2 h.length Y2) (fun _ ⟨BL, D, Bb, H, b3, b6, O2, b8, O1, z2⟩ => Val.cel1 54 _ rfl w3.heap.size 1 _ (by kernel_rfl) (fun _ => (by kernel_rfl)) b8 rfl) ⟨BL, D, Bb, H, b3, b6, O2, b8, O1, by omega⟩ ?_
                      simp only [List.set_cons_zero, List.set_cons_succ]
                      refine zv 13 100 (.int .i64 ((q : Nat) : Int)) (fun _ _ => .of) ⟨BL, D, Bb, H, b3, b6, O2, b8, O1, by omega⟩ ?_
                      simp only [List.set_cons_zero, List.set_cons_succ]
                      refine zv 14 101 (elemE 2 (.slice X2 h.length Y2) q) (fun _ ⟨BL, D, Bb, H, b3, b6, O2, b8, O1, z2⟩ => Val.ixE 54 (.tmp 99) (.tmp 100) rfl (.slice X2 h.length Y2) q (by kernel_rfl) (by kernel_rfl) O2.se Try.underlying54 (by kernel_rfl) (by simp only [spS_len]; omega)) ⟨BL, D, Bb, H, b3, b6, O2, b8, O1, by omega⟩ ?_
                      simp only [List.set_cons_zero, List.set_cons_succ]
                      refine zv 15 102 (elemF (.slice X2 h.length Y2) q 1) (fun _ ⟨BL, D, Bb, H, b3, b6, O2, b8, O1, z2⟩ => Val.fldE 70 _ 1 rfl (.slice X2 h.length Y2) q (by kernel_rfl) O2.se Try.underlying70 1 (by kernel_rfl) (by omega)) ⟨BL, D, Bb, H, b3, b6, O2, b8, O1, by omega⟩ ?_
                      simp only [List.set_cons_zero, List.set_cons_succ]
                      refine zv 16 103 (.int .i64 (h.getD q (0, 0)).2) (fun _ ⟨BL, D, Bb, H, b3, b6, O2, b8, O1, z2⟩ => Val.ldF1 3 _ rfl (.slice X2 h.length Y2) q (by kernel_rfl) (fun _ => (by kernel_rfl)) O2.se (by omega)) ⟨BL, D, Bb, H, b3, b6, O2, b8, O1, by omega⟩ ?_
                      simp only [List.set_cons_zero, List.set_cons_succ]
                      refine zo2 1 10 rfl rfl ?_ ?_
                      · skip
                        refine sv 88 (.int .i64 sa) (Val.cel1 3 _ rfl w14.heap.size 0 _ (by kernel_rfl) (fun _ => (by kernel_rfl)) b9 rfl) ?_
                        refine ze 1 ⟨BL, D, Bb, H, b3, b6, O2, b8, O1, by omega⟩ ?_
                        simp only [List.set_cons_zero, List.set_cons_succ]
                        refine zv 8 95 (.int .i64 (min sa ((h.getD q (0, 0)).1))) (fun _ ⟨BL, D, Bb, H, b3, b6, O2, b8, O1, z2⟩ => Val.minI (.tmp 88) (.tmp 94) _ rfl sa ((h.getD q (0, 0)).1) (by kernel_rfl) (by kernel_rfl)) ⟨BL, D, Bb, H, b3, b6, O2, b8, O1, by omega⟩ ?_
                        simp only [List.set_cons_zero, List.set_cons_succ]
                        refine zo1 10 rfl ?_
                        refine sv 97 (.int .i64 sb) (Val.cel1 3 _ rfl w14.heap.size 1 _ (by kernel_rfl) (fun _ => (by kernel_rfl)) b9 rfl) ?_
                        refine ze 10 ⟨BL, D, Bb, H, b3, b6, O2, b8, O1, by omega⟩ ?_
                        simp only [List.set_cons_zero, List.set_cons_succ]
                        refine zv 17 104 (.int .i64 (max sb ((h.getD q (0, 0)).2))) (fun _ ⟨BL, D, Bb, H, b3, b6, O2, b8, O1, z2⟩ => Val.maxI (.tmp 97) (.tmp 103) _ rfl sb ((h.getD q (0, 0)).2) (by kernel_rfl) (by kernel_rfl)) ⟨BL, D, Bb, H, b3, b6, O2, b8, O1, by omega⟩ ?_
                        simp only [List.set_cons_zero, List.set_cons_succ]
                        refine zv 18 105 (.pointer (some ⟨w14.heap.size, 0, none⟩)) (fun _ _ => .of) ⟨BL, D, Bb, H, b3, b6, O2, b8, O1, by omega⟩ ?_
                        simp only [List.set_cons_zero, List.set_cons_succ]
                        refine zo1 19 rfl ?_
                        refine xStore 3 (.tmp 105) (.tmp 95) rfl w14.heap.size 70 [.int .i64 sa, .int .i64 sb] 0 (.int .i64 (min sa ((h.getD q (0, 0)).1))) (by kernel_rfl) (by kernel_rfl) b9 (by kernel_rfl) (by simp) rfl [.int .i64 (min sa ((h.getD q (0, 0)).1)), .int .i64 sb] rfl ?_
                        intro w20 t9
                        have zt9 := t9.z
                        have BL_ := BL.ev t9.e (fun i h => show w.heap.size ≤ i by have h : i = w14.heap.size := h; omega)
                        have D_ := D.ev t9.e (fun i hi => show ¬ (i = w14.heap.size) by have := hdl i hi; omega)
                        have Bb_ := Bb.ev t9.e (fun i hi => show ¬ (i = w14.heap.size) by have := hbl i hi; omega)
                        have H_ := H.ev t9.e (fun i hi => show ¬ (i = w14.heap.size) by have := hhl i hi; omega)
                        have b3_ := b3.ev t9.e (show ¬ (w.heap.size = w14.heap.size) by omega)
                        have b6_ := b6.ev t9.e (show ¬ (w1.heap.size = w14.heap.size) by omega)
                        have O2_ := O2.ev t9.e (fun i hi => show ¬ (i = w14.heap.size) by have := lO2 i hi; omega)
                        have b8_ := b8.ev t9.e (show ¬ (w3.heap.size = w14.heap.size) by omega)
                        have O1_ := O1.ev t9.e (fun i hi => show ¬ (i = w14.heap.size) by have := lO1 i hi; omega)
                        replace BL := BL_; clear BL_
                        replace D := D_; clear D_
                        replace Bb := Bb_; clear Bb_
                        replace H := H_; clear H_
                        replace b3 := b3_; clear b3_
                        replace b6 := b6_; clear b6_
                        replace O2 := O2_; clear O2_
                        replace b8 := b8_; clear b8_
                        replace O1 := O1_; clear O1_
                        replace b9 : Cel w20 w14.heap.size 70 [.int .i64 (min sa ((h.getD q (0, 0)).1)), .int .i64 sb] := t9.c
                        clear t9
                        refine ze 19 ⟨BL, D, Bb, H, b3, b6, O2, b8, O1, by omega⟩ ?_
                        refine zv 20 106 (.pointer (some ⟨w14.heap.size, 1, none⟩)) (fun _ _ => .of) ⟨BL, D, Bb, H, b3, b6, O2, b8, O1, by omega⟩ ?_
                        simp only [List.set_cons_zero, List.set_cons_succ]
                        refine zo1 21 rfl ?_
                        refine xStore 3 (.tmp 106) (.tmp 104) rfl w14.heap.size 70 [.int .i64 (min sa ((h.getD q (0, 0)).1)), .int .i64 sb] 1 (.int .i64 (max sb ((h.getD q (0, 0)).2))) (by kernel_rfl) (by kernel_rfl) b9 (by kernel_rfl) (by simp) rfl [.int .i64 (min sa ((h.getD q (0, 0)).1)), .int .i64 (max sb ((h.getD q (0, 0)).2))] rfl ?_
                        intro w21 t10
                        have zt10 := t10.z
                        have BL_ := BL.ev t10.e (fun i h => show w.heap.size ≤ i by have h : i = w14.heap.size := h; omega)
                        have D_ := D.ev t10.e (fun i hi => show ¬ (i = w14.heap.size) by have := hdl i hi; omega)
                        have Bb_ := Bb.ev t10.e (fun i hi => show ¬ (i = w14.heap.size) by have := hbl i hi; omega)
                        have H_ := H.ev t10.e (fun i hi => show ¬ (i = w14.heap.size) by have := hhl i hi; omega)
                        have b3_ := b3.ev t10.e (show ¬ (w.heap.size = w14.heap.size) by omega)
                        have b6_ := b6.ev t10.e (show ¬ (w1.heap.size = w14.heap.size) by omega)
                        have O2_ := O2.ev t10.e (fun i hi => show ¬ (i = w14.heap.size) by have := lO2 i hi; omega)
                        have b8_ := b8.ev t10.e (show ¬ (w3.heap.size = w14.heap.size) by omega)
                        have O1_ := O1.ev t10.e (fun i hi => show ¬ (i = w14.heap.size) by have := lO1 i hi; omega)
                        replace BL := BL_; clear BL_
                        replace D := D_; clear D_
                        replace Bb := Bb_; clear Bb_
                        replace H := H_; clear H_
                        replace b3 := b3_; clear b3_
                        replace b6 := b6_; clear b6_
                        replace O2 := O2_; clear O2_
                        replace b8 := b8_; clear b8_
                        replace O1 := O1_; clear O1_
                        replace b9 : Cel w21 w14.heap.size 70 [.int .i64 (min sa ((h.getD q (0, 0)).1)), .int .i64 (max sb ((h.getD q (0, 0)).2))] := t10.c
                        clear t10
                        refine zz 21 ?_
                        refine zd (by kernel_rfl) ?_ _
                        refine hK21 _ _ ?_
                        refine cPlain ?_
                        refine sv 107 (.int .i64 ((q : Nat) : Int)) .of ?_
                        simp only [List.set_cons_zero, List.set_cons_succ]
                        refine sv 108 (.int .i64 (((q : Nat) : Int) + 1)) (Val.add 3 _ (.tmp 107) _ rfl ((q : Nat) : Int) 1 (by kernel_rfl) (by kernel_rfl) (by omega)) ?_
                        simp only [List.set_cons_zero, List.set_cons_succ]
                        refine sv 11 (.int .i64 (((q : Nat) : Int) + 1)) .of ?_
                        simp only [List.set_cons_zero, List.set_cons_succ]
                        refine wpList_nil ?_
                        refine ⟨_, ?_, q + 1, (min sa ((h.getD q (0, 0)).1)), (max sb ((h.getD q (0, 0)).2)), rfl, (by omega), (by omega), (hc0_2.trans (mrgS_go (s := (sa, sb)) (by omega) c86)), cutE, BL, D, Bb, H, b3, b6, O2, b8, O1, b9, by omega⟩
                        omega
                      · skip
                        refine sv 97 (.int .i64 sb) (Val.cel1 3 _ rfl w14.heap.size 1 _ (by kernel_rfl) (fun _ => (by kernel_rfl)) b9 rfl) ?_
                        refine ze 10 ⟨BL, D, Bb, H, b3, b6, O2, b8, O1, by omega⟩ ?_
                        simp only [List.set_cons_zero, List.set_cons_succ]
                        refine zv 17 104 (.int .i64 (max sb ((h.getD q (0, 0)).2))) (fun _ ⟨BL, D, Bb, H, b3, b6, O2, b8, O1, z2⟩ => Val.maxI (.tmp 97) (.tmp 103) _ rfl sb ((h.getD q (0, 0)).2) (by kernel_rfl) (by kernel_rfl)) ⟨BL, D, Bb, H, b3, b6, O2, b8, O1, by omega⟩ ?_
                        simp only [List.set_cons_zero, List.set_cons_succ]
                        refine zo1 1 rfl ?_
                        refine sv 88 (.int .i64 sa) (Val.cel1 3 _ rfl w14.heap.size 0 _ (by kernel_rfl) (fun _ => (by kernel_rfl)) b9 rfl) ?_
                        refine ze 1 ⟨BL, D, Bb, H, b3, b6, O2, b8, O1, by omega⟩ ?_
                        simp only [List.set_cons_zero, List.set_cons_succ]
                        refine zv 8 95 (.int .i64 (min sa ((h.getD q (0, 0)).1))) (fun _ ⟨BL, D, Bb, H, b3, b6, O2, b8, O1, z2⟩ => Val.minI (.tmp 88) (.tmp 94) _ rfl sa ((h.getD q (0, 0)).1) (by kernel_rfl) (by kernel_rfl)) ⟨BL, D, Bb, H, b3, b6, O2, b8, O1, by omega⟩ ?_
                        simp only [List.set_cons_zero, List.set_cons_succ]
                        refine zv 18 105 (.pointer (some ⟨w14.heap.size, 0, none⟩)) (fun _ _ => .of) ⟨BL, D, Bb, H, b3, b6, O2, b8, O1, by omega⟩ ?_
                        simp only [List.set_cons_zero, List.set_cons_succ]
                        refine zo1 19 rfl ?_
                        refine xStore 3 (.tmp 105) (.tmp 95) rfl w14.heap.size 70 [.int .i64 sa, .int .i64 sb] 0 (.int .i64 (min sa ((h.getD q (0, 0)).1))) (by kernel_rfl) (by kernel_rfl) b9 (by kernel_rfl) (by simp) rfl [.int .i64 (min sa ((h.getD q (0, 0)).1)), .int .i64 sb] rfl ?_
                        intro w22 t11
                        have zt11 := t11.z
                        have BL_ := BL.ev t11.e (fun i h => show w.heap.size ≤ i by have h : i = w14.heap.size := h; omega)
                        have D_ := D.ev t11.e (fun i hi => show ¬ (i = w14.heap.size) by have := hdl i hi; omega)
                        have Bb_ := Bb.ev t11.e (fun i hi => show ¬ (i = w14.heap.size) by have := hbl i hi; omega)
                        have H_ := H.ev t11.e (fun i hi => show ¬ (i = w14.heap.size) by have := hhl i hi; omega)
                        have b3_ := b3.ev t11.e (show ¬ (w.heap.size = w14.heap.size) by omega)
                        have b6_ := b6.ev t11.e (show ¬ (w1.heap.size = w14.heap.size) by omega)
                        have O2_ := O2.ev t11.e (fun i hi => show ¬ (i = w14.heap.size) by have := lO2 i hi; omega)
                        have b8_ := b8.ev t11.e (show ¬ (w3.heap.size = w14.heap.size) by omega)
                        have O1_ := O1.ev t11.e (fun i hi => show ¬ (i = w14.heap.size) by have := lO1 i hi; omega)
                        replace BL := BL_; clear BL_
                        replace D := D_; clear D_
                        replace Bb := Bb_; clear Bb_
                        replace H := H_; clear H_
                        replace b3 := b3_; clear b3_
                        replace b6 := b6_; clear b6_
                        replace O2 := O2_; clear O2_
                        replace b8 := b8_; clear b8_
                        replace O1 := O1_; clear O1_
                        replace b9 : Cel w22 w14.heap.size 70 [.int .i64 (min sa ((h.getD q (0, 0)).1)), .int .i64 sb] := t11.c
                        clear t11
                        refine ze 19 ⟨BL, D, Bb, H, b3, b6, O2, b8, O1, by omega⟩ ?_
                        refine zv 20 106 (.pointer (some ⟨w14.heap.size, 1, none⟩)) (fun _ _ => .of) ⟨BL, D, Bb, H, b3, b6, O2, b8, O1, by omega⟩ ?_
                        simp only [List.set_cons_zero, List.set_cons_succ]
                        refine zo1 21 rfl ?_
                        refine xStore 3 (.tmp 106) (.tmp 104) rfl w14.heap.size 70 [.int .i64 (min sa ((h.getD q (0, 0)).1)), .int .i64 sb] 1 (.int .i64 (max sb ((h.getD q (0, 0)).2))) (by kernel_rfl) (by kernel_rfl) b9 (by kernel_rfl) (by simp) rfl [.int .i64 (min sa ((h.getD q (0, 0)).1)), .int .i64 (max sb ((h.getD q (0, 0)).2))] rfl ?_
                        intro w23 t12
                        have zt12 := t12.z
                        have BL_ := BL.ev t12.e (fun i h => show w.heap.size ≤ i by have h : i = w14.heap.size := h; omega)
                        have D_ := D.ev t12.e (fun i hi => show ¬ (i = w14.heap.size) by have := hdl i hi; omega)
                        have Bb_ := Bb.ev t12.e (fun i hi => show ¬ (i = w14.heap.size) by have := hbl i hi; omega)
                        have H_ := H.ev t12.e (fun i hi => show ¬ (i = w14.heap.size) by have := hhl i hi; omega)
                        have b3_ := b3.ev t12.e (show ¬ (w.heap.size = w14.heap.size) by omega)
                        have b6_ := b6.ev t12.e (show ¬ (w1.heap.size = w14.heap.size) by omega)
                        have O2_ := O2.ev t12.e (fun i hi => show ¬ (i = w14.heap.size) by have := lO2 i hi; omega)
                        have b8_ := b8.ev t12.e (show ¬ (w3.heap.size = w14.heap.size) by omega)
                        have O1_ := O1.ev t12.e (fun i hi => show ¬ (i = w14.heap.size) by have := lO1 i hi; omega)
                        replace BL := BL_; clear BL_
                        replace D := D_; clear D_
                        replace Bb := Bb_; clear Bb_
                        replace H := H_; clear H_
                        replace b3 := b3_; clear b3_
                        replace b6 := b6_; clear b6_
                        replace O2 := O2_; clear O2_
                        replace b8 := b8_; clear b8_
                        replace O1 := O1_; clear O1_
                        replace b9 : Cel w23 w14.heap.size 70 [.int .i64 (min sa ((h.getD q (0, 0)).1)), .int .i64 (max sb ((h.getD q (0, 0)).2))] := t12.c
                        clear t12
                        refine zz 21 ?_
                        refine zd (by kernel_rfl) ?_ _
                        refine hK21 _ _ ?_
                        refine cPlain ?_
                        refine sv 107 (.int .i64 ((q : Nat) : Int)) .of ?_
                        simp only [List.set_cons_zero, List.set_cons_succ]
                        refine sv 108 (.int .i64 (((q : Nat) : Int) + 1)) (Val.add 3 _ (.tmp 107) _ rfl ((q : Nat) : Int) 1 (by kernel_rfl) (by kernel_rfl) (by omega)) ?_
                        simp only [List.set_cons_zero, List.set_cons_succ]
                        refine sv 11 (.int .i64 (((q : Nat) : Int) + 1)) .of ?_
                        simp only [List.set_cons_zero, List.set_cons_succ]
                        refine wpList_nil ?_
                        refine ⟨_, ?_, q + 1, (min sa ((h.getD q (0, 0)).1)), (max sb ((h.getD q (0, 0)).2)), rfl, (by omega), (by omega), (hc0_2.trans (mrgS_go (s := (sa, sb)) (by omega) c86)), cutE, BL, D, Bb, H, b3, b6, O2, b8, O1, b9, by omega⟩
                        omega
                    · skip
                      refine wp_exit ?_
                      simp only [Exit.then, Exit.inBlock, ↓reduceIte, Nat.reduceEqDiff]
                      exact ⟨q, sa, sb, (by omega), (by omega), (by rw [putS_fidx]; show h.take (fidx a h) ++ mrgS (a, a + (b.length : Int)) (h.drop (fidx a h)) = _; rw [hc0_2, mrgS_stop (by first | exact .inl (by omega) | exact .inr c86), List.append_assoc]; rfl), cutE, BL, D, Bb, H, b3, b6, O2, b8, O1, b9, by omega⟩
                  · skip
                    have dg77 : decide (((q : Nat) : Int) < (h.length : Int)) = false := decide_eq_false g77
                    simp only [dg77]
                    clear dg77
                    refine zs 6 77 ⟨BL, D, Bb, H, b3, b6, O2, b8, O1, b9, by omega⟩ ?_
                    simp only [List.set_cons_zero, List.set_cons_succ]
                    refine zs 7 78 ⟨BL, D, Bb, H, b3, b6, O2, b8, O1, b9, by omega⟩ ?_
                    simp only [List.set_cons_zero, List.set_cons_succ]
                    refine zs 8 79 ⟨BL, D, Bb, H, b3, b6, O2, b8, O1, b9, by omega⟩ ?_
                    simp only [List.set_cons_zero, List.set_cons_succ]
                    refine zs 9 80 ⟨BL, D, Bb, H, b3, b6, O2, b8, O1, b9, by omega⟩ ?_
                    simp only [List.set_cons_zero, List.set_cons_succ]
                    refine zs 10 81 ⟨BL, D, Bb, H, b3, b6, O2, b8, O1, b9, by omega⟩ ?_
                    simp only [List.set_cons_zero, List.set_cons_succ]
                    refine zs 11 82 ⟨BL, D, Bb, H, b3, b6, O2, b8, O1, b9, by omega⟩ ?_
                    simp only [List.set_cons_zero, List.set_cons_succ]
                    refine zs 12 83 ⟨BL, D, Bb, H, b3, b6, O2, b8, O1, b9, by omega⟩ ?_
                    simp only [List.set_cons_zero, List.set_cons_succ]
                    refine zs 13 84 ⟨BL, D, Bb, H, b3, b6, O2, b8, O1, b9, by omega⟩ ?_
                    simp only [List.set_cons_zero, List.set_cons_succ]
                    refine zs 14 85 ⟨BL, D, Bb, H, b3, b6, O2, b8, O1, b9, by omega⟩ ?_
                    simp only [List.set_cons_zero, List.set_cons_succ]
                    refine zv 15 86 (.bool false) (fun _ _ => .of) ⟨BL, D, Bb, H, b3, b6, O2, b8, O1, b9, by omega⟩ ?_
                    simp only [List.set_cons_zero, List.set_cons_succ]
                    refine zd (by kernel_rfl) ?_ _
                    refine hK20 _ _ ?_
                    refine cF ?_
                    refine wp_exit ?_
                    simp only [Exit.then, Exit.inBlock, ↓reduceIte, Nat.reduceEqDiff]
                    exact ⟨q, sa, sb, (by omega), (by omega), (by rw [putS_fidx]; show h.take (fidx a h) ++ mrgS (a, a + (b.length : Int)) (h.drop (fidx a h)) = _; rw [hc0_2, mrgS_stop (by first | exact .inl (by omega) | exact .inr c86), List.append_assoc]; rfl), cutE, BL, D, Bb, H, b3, b6, O2, b8, O1, b9, by omega⟩
                · skip
                  clear BL D Bb H b3 b6 O2 b8 O1 b9
                  rintro a_ wJ1 ⟨q, sa, sb, hJ1_0, hJ1_1, hJ1_2, ⟨s1, rfl⟩, BL, D, Bb, H, b3, b6, O2, b8, O1, b9, zJ1⟩
                  refine wp_seq_k fun K22 hK22 => ?_
                  refine cPlain ?_
                  refine sv 109 (.pointer (some ⟨w3.heap.size, 1, none⟩)) .of ?_
                  simp only [List.set_cons_zero, List.set_cons_succ]
                  refine sv 110 (.slice X2 h.length Y2) (Val.cel1 54 _ rfl w3.heap.size 1 _ (by kernel_rfl) (fun _ => (by kernel_rfl)) b8 rfl) ?_
                  simp only [List.set_cons_zero, List.set_cons_succ]
                  refine sv 111 (.int .i64 (((fidx a h) : Nat) : Int)) .of ?_
                  simp only [List.set_cons_zero, List.set_cons_succ]
                  refine sv 112 (.int .i64 ((q : Nat) : Int)) .of ?_
                  simp only [List.set_cons_zero, List.set_cons_succ]
                  refine sv 113 (.agg #[.int .i64 sa, .int .i64 sb]) (Val.cel 70 _ rfl 0 2 (by kernel_rfl) b9 _ Try.underlying70 rfl (by kernel_rfl) (by simp) [.int .i64 sa, .int .i64 sb] rfl) ?_
                  simp only [List.set_cons_zero, List.set_cons_succ]
                  refine xLit 114 54 70 1 _ #[(0, .agg #[.int .i64 sa, .int .i64 sb])] [.int .i64 sa, .int .i64 sb] rfl (by kernel_rfl) (by kernel_rfl) ?_
                  intro w24 n5
                  have zn5 := n5.z
                  have b114 := n5.c
                  replace BL := BL.e0 n5.e
                  replace D := D.e0 n5.e
                  replace Bb := Bb.e0 n5.e
                  replace H := H.e0 n5.e
                  replace b3 := b3.e0 n5.e
                  replace b6 := b6.e0 n5.e
                  replace O2 := O2.e0 n5.e
                  replace b8 := b8.e0 n5.e
                  replace O1 := O1.e0 n5.e
                  replace b9 := b9.e0 n5.e
                  simp only [List.set_cons_zero, List.set_cons_succ]
                  refine xCall 115 61 #[.slice X2 h.length Y2, .int .i64 (((fidx a h) : Nat) : Int), .int .i64 ((q : Nat) : Int), .slice (some ⟨wJ1.heap.size, 0, none⟩) 1 1] (by kernel_rfl) ?_
                  refine (repl_any h (sa, sb) (.slice X2 h.length Y2) _ _ (fidx a h) q w24 O2 b114 (fun hh => by have := lO2 _ hh; omega) (by omega) (by omega) (by omega) (by omega)).mono ?_
                  rintro en w25 ⟨r, rfl, hO, hEV⟩
                  obtain ⟨X3, Y3, hq3, _⟩ := hO.len
                  rw [spS_len] at hq3
                  subst hq3
                  have e8 := hEV
                  have ze8 := e8.size
                  have BL_ := BL.ev e8 (fun i h => by have := lO2 _ h; omega)
                  have D_ := D.ev e8 (fun i hi h => by have := hdl i hi; have := lO2 _ h; omega)
                  have Bb_ := Bb.ev e8 (fun i hi h => by have := hbl i hi; have := lO2 _ h; omega)
                  have H_ := H.ev e8 (fun i hi h => by have := hhl i hi; have := lO2 _ h; omega)
                  have b3_ := b3.ev e8 (fun h => by have := lO2 _ h; omega)
                  have b6_ := b6.ev e8 (fun h => by have := lO2 _ h; omega)
                  have b8_ := b8.ev e8 (fun h => by have := lO2 _ h; omega)
                  have O1_ := O1.ev e8 (fun i hi h => by have := lO1 i hi; have := lO2 _ h; omega)
                  have b9_ := b9.ev e8 (fun h => by have := lO2 _ h; omega)
                  have b114_ := b114.ev e8 (fun h => by have := lO2 _ h; omega)
                  replace BL := BL_; clear BL_
                  replace D := D_; clear D_
                  replace Bb := Bb_; clear Bb_
                  replace H := H_; clear H_
                  replace b3 := b3_; clear b3_
                  replace b6 := b6_; clear b6_
                  replace b8 := b8_; clear b8_
                  replace O1 := O1_; clear O1_
                  replace b9 := b9_; clear b9_
                  replace b114 := b114_; clear b114_
                  clear e8
                  have O2 : OwnE 70 .i64 2 w2.heap.size w25 (.slice X3 (h.take (fidx a h) ++ [(sa, sb)] ++ h.drop q).length Y3) (spS (h.take (fidx a h) ++ [(sa, sb)] ++ h.drop q)) := hO
                  have lO3 : ∀ i, Value.ownBlock (.slice X3 (h.take (fidx a h) ++ [(sa, sb)] ++ h.drop q).length Y3) = some i → (w2.heap.size ≤ i ∧ i < w25.heap.size) ∧ i ≠ w3.heap.size := fun i hi => ⟨O2.ge i hi, OwnE.ne O2 b8 (by decide) i hi⟩
                  refine ⟨.slice X3 (h.take (fidx a h) ++ [(sa, sb)] ++ h.drop q).length Y3, rfl, ?_⟩
                  simp only [List.set_cons_zero, List.set_cons_succ]
                  refine sv 116 (.pointer (some ⟨w3.heap.size, 1, none⟩)) .of ?_
                  simp only [List.set_cons_zero, List.set_cons_succ]
                  refine xStore 54 (.tmp 116) (.tmp 115) rfl w3.heap.size 56 [.slice X1 d.length Y1, .slice X2 h.length Y2] 1 (.slice X3 (h.take (fidx a h) ++ [(sa, sb)] ++ h.drop q).length Y3) (by kernel_rfl) (by kernel_rfl) b8 (by kernel_rfl) (by simp) rfl [.slice X1 d.length Y1, .slice X3 (h.take (fidx a h) ++ [(sa, sb)] ++ h.drop q).length Y3] rfl ?_
                  intro w26 t13
                  have zt13 := t13.z
                  have BL_ := BL.ev t13.e (fun i h => show w.heap.size ≤ i by have h : i = w3.heap.size := h; omega)
                  have D_ := D.ev t13.e (fun i hi => show ¬ (i = w3.heap.size) by have := hdl i hi; omega)
                  have Bb_ := Bb.ev t13.e (fun i hi => show ¬ (i = w3.heap.size) by have := hbl i hi; omega)
                  have H_ := H.ev t13.e (fun i hi => show ¬ (i = w3.heap.size) by have := hhl i hi; omega)
                  have b3_ := b3.ev t13.e (show ¬ (w.heap.size = w3.heap.size) by omega)
                  have b6_ := b6.ev t13.e (show ¬ (w1.heap.size = w3.heap.size) by omega)
                  have O1_ := O1.ev t13.e (fun i hi => show ¬ (i = w3.heap.size) by have := lO1 i hi; omega)
                  have b9_ := b9.ev t13.e (show ¬ (w14.heap.size = w3.heap.size) by omega)
                  have b114_ := b114.ev t13.e (show ¬ (wJ1.heap.size = w3.heap.size) by omega)
                  have O2_ := O2.ev t13.e (fun i hi => show ¬ (i = w3.heap.size) by have := lO3 i hi; omega)
                  replace BL := BL_; clear BL_
                  replace D := D_; clear D_
                  replace Bb := Bb_; clear Bb_
                  replace H := H_; clear H_
                  replace b3 := b3_; clear b3_
                  replace b6 := b6_; clear b6_
                  replace O1 := O1_; clear O1_
                  replace b9 := b9_; clear b9_
                  replace b114 := b114_; clear b114_
                  replace O2 := O2_; clear O2_
                  replace b8 : Cel w26 w3.heap.size 56 [.slice X1 d.length Y1, .slice X3 (h.take (fidx a h) ++ [(sa, sb)] ++ h.drop q).length Y3] := t13.c
                  clear t13
                  refine wpList_nil ?_
                  refine hK22 _ _ ?_
                  refine wp_seq_k fun K23 hK23 => ?_
                  refine cPlain ?_
                  refine sv 117 (.agg #[.slice X1 d.length Y1, .slice X3 (h.take (fidx a h) ++ [(sa, sb)] ++ h.drop q).length Y3]) (Val.cel 56 _ rfl 0 2 (by kernel_rfl) b8 _ Try.underlying56 rfl (by kernel_rfl) (by simp) [.slice X1 d.length Y1, .slice X3 (h.take (fidx a h) ++ [(sa, sb)] ++ h.drop q).length Y3] rfl) ?_
                  simp only [List.set_cons_zero, List.set_cons_succ]
                  refine xStoreR 56 (.tmp 6) (.tmp 117) rfl w1.heap.size 56 [.slice none 0 0, .slice none 0 0] 0 [.slice X1 d.length Y1, .slice X3 (h.take (fidx a h) ++ [(sa, sb)] ++ h.drop q).length Y3] (by kernel_rfl) (by kernel_rfl) b6 (by kernel_rfl) (by simp) rfl [.slice X1 d.length Y1, .slice X3 (h.take (fidx a h) ++ [(sa, sb)] ++ h.drop q).length Y3] rfl ?_
                  intro w27 t14
                  have zt14 := t14.z
                  have BL_ := BL.ev t14.e (fun i h => show w.heap.size ≤ i by have h : i = w1.heap.size := h; omega)
                  have D_ := D.ev t14.e (fun i hi => show ¬ (i = w1.heap.size) by have := hdl i hi; omega)
                  have Bb_ := Bb.ev t14.e (fun i hi => show ¬ (i = w1.heap.size) by have := hbl i hi; omega)
                  have H_ := H.ev t14.e (fun i hi => show ¬ (i = w1.heap.size) by have := hhl i hi; omega)
                  have b3_ := b3.ev t14.e (show ¬ (w.heap.size = w1.heap.size) by omega)
                  have b8_ := b8.ev t14.e (show ¬ (w3.heap.size = w1.heap.size) by omega)
                  have O1_ := O1.ev t14.e (fun i hi => show ¬ (i = w1.heap.size) by have := lO1 i hi; omega)
                  have b9_ := b9.ev t14.e (show ¬ (w14.heap.size = w1.heap.size) by omega)
                  have b114_ := b114.ev t14.e (show ¬ (wJ1.heap.size = w1.heap.size) by omega)
                  have O2_ := O2.ev t14.e (fun i hi => show ¬ (i = w1.heap.size) by have := lO3 i hi; omega)
                  replace BL := BL_; clear BL_
                  replace D := D_; clear D_
                  replace Bb := Bb_; clear Bb_
                  replace H := H_; clear H_
                  replace b3 := b3_; clear b3_
                  replace b8 := b8_; clear b8_
                  replace O1 := O1_; clear O1_
                  replace b9 := b9_; clear b9_
                  replace b114 := b114_; clear b114_
                  replace O2 := O2_; clear O2_
                  replace b6 : Cel w27 w1.heap.size 56 [.slice X1 d.length Y1, .slice X3 (h.take (fidx a h) ++ [(sa, sb)] ++ h.drop q).length Y3] := t14.c
                  clear t14
                  refine sv 7 (.int .i64 0) .of ?_
                  simp only [List.set_cons_zero, List.set_cons_succ]
                  refine wpList_nil ?_
                  refine hK23 _ _ ?_
                  refine wp_ret ?_
                  (try simp only [Exit.then, Exit.inBlock])
                  refine bodyPost_ret (rCT rfl _ w1.heap.size _ _ (.int .i64 0) (by kernel_rfl) (by kernel_rfl) b6 _ Try.underlying56 rfl (by kernel_rfl)) rfl ?_
                  rw [putX_4 hr (by omega) c43]
                  rw [show putS (a, a + (b.length : Int)) h = h.take (fidx a h) ++ [(sa, sb)] ++ h.drop q from by assumption]
                  exact ⟨⟨_, _, rfl, O1.mono (by omega), O2.mono (by omega)⟩, BL.b⟩
              · skip
                have e9 := belE0 hb1
                have ze9 := e9.size
                replace BL := BL.e0 e9
                replace D := D.e0 e9
                replace Bb := Bb.e0 e9
                replace H := H.e0 e9
                replace b3 := b3.e0 e9
                replace b6 := b6.e0 e9
                replace O2 := O2.e0 e9
                replace b8 := b8.e0 e9
                replace O1 := O1.e0 e9
                replace b9 := b9.e0 e9
                clear e9
                refine ⟨.int .i64 (-1), rfl, ?_⟩
                simp only [List.set_cons_zero, List.set_cons_succ]
                refine sv 10 (.int .i64 (-1)) .of ?_
                simp only [List.set_cons_zero, List.set_cons_succ]
                refine wpList_nil ?_
                refine hK15 _ _ ?_
                refine wp_seq_k fun K24 hK24 => ?_
                refine wp_seq_k fun K25 hK25 => ?_
                refine cPlain ?_
                refine sv 65 (.int .i64 (-1)) .of ?_
                simp only [List.set_cons_zero, List.set_cons_succ]
                refine sv 66 (.bool true) (Val.cmp .lss 3 _ (.tmp 65) _ rfl .i64 (-1) 0 (by kernel_rfl) (by kernel_rfl) (by simp) _ rfl) ?_
                simp only [List.set_cons_zero, List.set_cons_succ]
                refine wpList_nil ?_
                refine hK25 _ _ ?_
                refine cT ?_
                refine cPlain ?_
                refine sv 67 (.pointer (some ⟨w3.heap.size, 1, none⟩)) .of ?_
                simp only [List.set_cons_zero, List.set_cons_succ]
                refine sv 68 (.slice X2 h.length Y2) (Val.cel1 54 _ rfl w3.heap.size 1 _ (by kernel_rfl) (fun _ => (by kernel_rfl)) b8 rfl) ?_
                simp only [List.set_cons_zero, List.set_cons_succ]
                refine sv 69 (.int .i64 (((fidx a h) : Nat) : Int)) (Val.as (Val.of) (congrArg (Value.int .i64) (show ((h.length : Int) : Int) = (((fidx a h) : Nat) : Int) by omega))) ?_
                simp only [List.set_cons_zero, List.set_cons_succ]
                refine sv 10 (.int .i64 (((fidx a h) : Nat) : Int)) .of ?_
                simp only [List.set_cons_zero, List.set_cons_succ]
                refine wpList_nil ?_
                refine hK24 _ _ ?_
                refine wp_seq_k fun K26 hK26 => ?_
                refine cPlain ?_
                refine sv 70 (.int .i64 (((fidx a h) : Nat) : Int)) .of ?_
                simp only [List.set_cons_zero, List.set_cons_succ]
                refine sv 11 (.int .i64 (((fidx a h) : Nat) : Int)) .of ?_
                simp only [List.set_cons_zero, List.set_cons_succ]
                refine wpList_nil ?_
                refine hK26 _ _ ?_
                refine cCut (fun A_ w_ => ∃ (q : Nat) (sa sb : Int), ((q ≤ h.length) ∧ (fidx a h ≤ q) ∧ (putS (a, a + (b.length : Int)) h = h.take (fidx a h) ++ [(sa, sb)] ++ h.drop q) ∧ (∃ s3 : Nat → Value, A_ = ⟨[.agg #[.slice A0 d.length C0, .slice A2 h.length C2], .int .i64 a, .slice A1 b.length C1, .pointer (some ⟨w.heap.size, 0, none⟩), undef, undef, .pointer (some ⟨w1.heap.size, 0, none⟩), .int .i64 0, .pointer (some ⟨w3.heap.size, 0, none⟩), .pointer (some ⟨w14.heap.size, 0, none⟩), .int .i64 (((fidx a h) : Nat) : Int), .int .i64 ((q : Nat) : Int), .agg #[.slice A0 d.length C0, .slice A2 h.length C2], .agg #[.slice X1 d.length Y1, .slice X2 h.length Y2], .bool (decide (¬ (rightX d h = true))), .agg #[.slice A0 d.length C0, .slice A2 h.length C2], .bool (decide (rightX d h = true)), .bool (decide (¬ (rightX d h = true))), undef, .bool (decide (((d.length : Int) - (b.length : Int)) < a)), .slice A1 b.length C1, .int .i64 (b.length : Int), .bool false, .bool false, .slice A1 b.length C1, .int .i64 (b.length : Int), .bool false, .bool false, .bool false, .int .i64 a, .bool false, .bool false, .bool false, .int .i64 a, .pointer (some ⟨w.heap.size, 0, none⟩), .slice A0 d.length C0, .int .i64 (d.length : Int), .slice A1 b.length C1, .int .i64 (b.length : Int), .int .i64 ((d.length : Int) - (b.length : Int)), .bool (decide (((d.length : Int) - (b.length : Int)) < a)), .bool (decide (((d.length : Int) - (b.length : Int)) < a)), undef, .bool (decide (clashX d h a b = true)), .agg #[.slice A0 d.length C0, .slice A2 h.length C2], .int .i64 ((a.toNat : Nat) : Int), .slice A1 b.length C1, .bool (decide (clashX d h a b = true)), undef, .pointer (some ⟨w3.heap.size, 0, none⟩), .slice X1 d.length Y1, .int .i64 ((a.toNat : Nat) : Int), sliceV (.slice X1 d.length Y1) a.toNat ((nn d).length), .slice A1 b.length C1, .int .i64 ((b.length : Nat) : Int), .int .i64 a, .int .i64 a, .slice A1 b.length C1, .int .i64 (b.length : Int), .int .i64 (a + (b.length : Int)), .agg #[.int .i64 a, .int .i64 (a + (b.length : Int))], .pointer (some ⟨w3.heap.size, 1, none⟩), .slice X2 h.length Y2, .func (.func 60) #[] #[.pointer (some ⟨w14.heap.size, 0, none⟩)], .int .i64 (-1), .int .i64 (-1), .bool true, .pointer (some ⟨w3.heap.size, 1, none⟩), .slice X2 h.length Y2, .int .i64 (((fidx a h) : Nat) : Int), .int .i64 (((fidx a h) : Nat) : Int), (s3 71), (s3 72), (s3 73), (s3 74), (s3 75), (s3 76), (s3 77), (s3 78), (s3 79), (s3 80), (s3 81), (s3 82), (s3 83), (s3 84), (s3 85), (s3 86), (s3 87), (s3 88), (s3 89), (s3 90), (s3 91), (s3 92), (s3 93), (s3 94), (s3 95), (s3 96), (s3 97), (s3 98), (s3 99), (s3 100), (s3 101), (s3 102), (s3 103), (s3 104), (s3 105), (s3 106), (s3 107), (s3 108), undef, undef, undef, undef, undef, undef, undef, undef, undef].toArray, []⟩) ∧ Bl w.heap.size w w_ ∧ SL .u8 w_ (.slice A0 d.length C0) (nn d) ∧ SL .u8 w_ (.slice A1 b.length C1) (nn b) ∧ SE .i64 2 w_ (.slice A2 h.length C2) (spS h) ∧ Cel w_ w.heap.size 56 [.slice A0 d.length C0, .slice A2 h.length C2] ∧ Cel w_ w1.heap.size 56 [.slice none 0 0, .slice none 0 0] ∧ OwnE 70 .i64 2 w2.heap.size w_ (.slice X2 h.length Y2) (spS h) ∧ Cel w_ w3.heap.size 56 [.slice X1 d.length Y1, .slice X2 h.length Y2] ∧ Own 5 .u8 w2.heap.size w_ (.slice X1 d.length Y1) (nn (layB d a.toNat b)) ∧ Cel w_ w14.heap.size 70 [.int .i64 sa, .int .i64 sb] ∧ w17.heap.size ≤ w_.heap.size)) ?_ ?_
                · skip
                  refine wp_block ?_
                  refine cLoop (fun N_ A_ w_ => ∃ (q : Nat) (sa sb : Int), (N_ = h.length - q ∧ (q ≤ h.length) ∧ (fidx a h ≤ q) ∧ (mrgS (a, a + (b.length : Int)) (h.drop (fidx a h)) = mrgS (sa, sb) (h.drop q)) ∧ (∃ s4 : Nat → Value, A_ = ⟨[.agg #[.slice A0 d.length C0, .slice A2 h.length C2], .int .i64 a, .slice A1 b.length C1, .pointer (some ⟨w.heap.size, 0, none⟩), undef, undef, .pointer (some ⟨w1.heap.size, 0, none⟩), .int .i64 0, .pointer (some ⟨w3.heap.size, 0, none⟩), .pointer (some ⟨w14.heap.size, 0, none⟩), .int .i64 (((fidx a h) : Nat) : Int), .int .i64 ((q : Nat) : Int), .agg #[.slice A0 d.length C0, .slice A2 h.length C2], .agg #[.slice X1 d.length Y1, .slice X2 h.length Y2], .bool (decide (¬ (rightX d h = true))), .agg #[.slice A0 d.length C0, .slice A2 h.length C2], .bool (decide (rightX d h = true)), .bool (decide (¬ (rightX d h = true))), undef, .bool (decide (((d.length : Int) - (b.length : Int)) < a)), .slice A1 b.length C1, .int .i64 (b.length : Int), .bool false, .bool false, .slice A1 b.length C1, .int .i64 (b.length : Int), .bool false, .bool false, .bool false, .int .i64 a, .bool false, .bool false, .bool false, .int .i64 a, .pointer (some ⟨w.heap.size, 0, none⟩), .slice A0 d.length C0, .int .i64 (d.length : Int), .slice A1 b.length C1, .int .i64 (b.length : Int), .int .i64 ((d.length : Int) - (b.length : Int)), .bool (decide (((d.length : Int) - (b.length : Int)) < a)), .bool (decide (((d.length : Int) - (b.length : Int)) < a)), undef, .bool (decide (clashX d h a b = true)), .agg #[.slice A0 d.length C0, .slice A2 h.length C2], .int .i64 ((a.toNat : Nat) : Int), .slice A1 b.length C1, .bool (decide (clashX d h a b = true)), undef, .pointer (some ⟨w3.heap.size, 0, none⟩), .slice X1 d.length Y1, .int .i64 ((a.toNat : Nat) : Int), sliceV (.slice X1 d.length Y1) a.toNat ((nn d).length), .slice A1 b.length C1, .int .i64 ((b.length : Nat) : Int), .int .i64 a, .int .i64 a, .slice A1 b.length C1, .int .i64 (b.length : Int), .int .i64 (a + (b.length : Int)), .agg #[.int .i64 a, .int .i64 (a + (b.length : Int))], .pointer (some ⟨w3.heap.size, 1, none⟩), .slice X2 h.length Y2, .func (.func 60) #[] #[.pointer (some ⟨w14.heap.size, 0, none⟩)], .int .i64 (-1), .int .i64 (-1), .bool true, .pointer (some ⟨w3.heap.size, 1, none⟩), .slice X2 h.length Y2, .int .i64 (((fidx a h) : Nat) : Int), .int .i64 (((fidx a h) : Nat) : Int), (s4 71), (s4 72), (s4 73), (s4 74), (s4 75), (s4 76), (s4 77), (s4 78), (s4 79), (s4 80), (s4 81), (s4 82), (s4 83), (s4 84), (s4 85), (s4 86), (s4 87), (s4 88), (s4 89), (s4 90), (s4 91), (s4 92), (s4 93), (s4 94), (s4 95), (s4 96), (s4 97), (s4 98), (s4 99), (s4 100), (s4 101), (s4 102), (s4 103), (s4 104), (s4 105), (s4 106), (s4 107), (s4 108), undef, undef, undef, undef, undef, undef, undef, undef, undef].toArray, []⟩) ∧ Bl w.heap.size w w_ ∧ SL .u8 w_ (.slice A0 d.length C0) (nn d) ∧ SL .u8 w_ (.slice A1 b.length C1) (nn b) ∧ SE .i64 2 w_ (.slice A2 h.length C2) (spS h) ∧ Cel w_ w.heap.size 56 [.slice A0 d.length C0, .slice A2 h.length C2] ∧ Cel w_ w1.heap.size 56 [.slice none 0 0, .slice none 0 0] ∧ OwnE 70 .i64 2 w2.heap.size w_ (.slice X2 h.length Y2) (spS h) ∧ Cel w_ w3.heap.size 56 [.slice X1 d.length Y1, .slice X2 h.length Y2] ∧ Own 5 .u8 w2.heap.size w_ (.slice X1 d.length Y1) (nn (layB d a.toNat b)) ∧ Cel w_ w14.heap.size 70 [.int .i64 sa, .int .i64 sb] ∧ w17.heap.size ≤ w_.heap.size)) _ ⟨(fidx a h), a, (a + (b.length : Int)), rfl, (fidx_le _ _), (Nat.le_refl _), rfl, cutE, BL, D, Bb, H, b3, b6, O2, b8, O1, b9, Nat.le_refl _⟩ ?_
                  clear BL D Bb H b3 b6 O2 b8 O1 b9
                  rintro n_ a_ wl0 ⟨q, sa, sb, rfl, hc0_0, hc0_1, hc0_2, ⟨s4, rfl⟩, BL, D, Bb, H, b3, b6, O2, b8, O1, b9, zl0⟩
                  have lO2_2 := O2.ge
                  have lO1_2 := O1.ge
                  refine wp_seq_k fun K27 hK27 => ?_
                  refine wp_seq_k fun K28 hK28 => ?_
                  have e10 := drew_e0 wl0
                  refine zg (fun w_ => Bl w.heap.size w w_ ∧ SL .u8 w_ (.slice A0 d.length C0) (nn d) ∧ SL .u8 w_ (.slice A1 b.length C1) (nn b) ∧ SE .i64 2 w_ (.slice A2 h.length C2) (spS h) ∧ Cel w_ w.heap.size 56 [.slice A0 d.length C0, .slice A2 h.length C2] ∧ Cel w_ w1.heap.size 56 [.slice none 0 0, .slice none 0 0] ∧ OwnE 70 .i64 2 w2.heap.size w_ (.slice X2 h.length Y2) (spS h) ∧ Cel w_ w3.heap.size 56 [.slice X1 d.length Y1, .slice X2 h.length Y2] ∧ Own 5 .u8 w2.heap.size w_ (.slice X1 d.length Y1) (nn (layB d a.toNat b)) ∧ Cel w_ w14.heap.size 70 [.int .i64 sa, .int .i64 sb] ∧ wl0.heap.size ≤ w_.heap.size) (fun w_ => Bl w.heap.size w w_ ∧ SL .u8 w_ (.slice A0 d.length C0) (nn d) ∧ SL .u8 w_ (.slice A1 b.length C1) (nn b) ∧ SE .i64 2 w_ (.slice A2 h.length C2) (spS h) ∧ Cel w_ w.heap.size 56 [.slice A0 d.length C0, .slice A2 h.length C2] ∧ Cel w_ w1.heap.size 56 [.slice none 0 0, .slice none 0 0] ∧ OwnE 70 .i64 2 w2.heap.size w_ (.slice X2 h.length Y2) (spS h) ∧ Cel w_ w3.heap.size 56 [.slice X1 d.length Y1, .slice X2 h.length Y2] ∧ Own 5 .u8 w2.heap.size w_ (.slice X1 d.length Y1) (nn (layB d a.toNat b)) ∧ Cel w_ w14.heap.size 70 [.int .i64 sa, .int .i64 sb] ∧ wl0.heap.size ≤ w_.heap.size) 100000 16 ⟨BL.e0 e10, D.e0 e10, Bb.e0 e10, H.e0 e10, b3.e0 e10, b6.e0 e10, O2.e0 e10, b8.e0 e10, O1.e0 e10, b9.e0 e10, Nat.le_refl _⟩ ?_
                  clear BL D Bb H b3 b6 O2 b8 O1 b9
                  clear e10
                  intro w28
                  rintro ⟨BL, D, Bb, H, b3, b6, O2, b8, O1, b9, z3⟩
                  refine zv 0 71 (.int .i64 ((q : Nat) : Int)) (fun _ _ => .of) ⟨BL, D, Bb, H, b3, b6, O2, b8, O1, b9, by omega⟩ ?_
                  simp only [List.set_cons_zero, List.set_cons_succ]
                  refine zv 1 72 (.pointer (some ⟨w3.heap.size, 1, none⟩)) (fun _ _ => .of) ⟨BL, D, Bb, H, b3, b6, O2, b8, O1, b9, by omega⟩ ?_
                  simp only [List.set_cons_zero, List.set_cons_succ]
                  refine zv 2 73 (.slice X2 h.length Y2) (fun _ ⟨BL, D, Bb, H, b3, b6, O2, b8, O1, b9, z3⟩ => Val.cel1 54 _ rfl w3.heap.size 1 _ (by kernel_rfl) (fun _ => (by kernel_rfl)) b8 rfl) ⟨BL, D, Bb, H, b3, b6, O2, b8, O1, b9, by omega⟩ ?_
                  simp only [List.set_cons_zero, List.set_cons_succ]
                  refine zv 3 74 (.int .i64 (h.length : Int)) (fun _ _ => .of) ⟨BL, D, Bb, H, b3, b6, O2, b8, O1, b9, by omega⟩ ?_
                  simp only [List.set_cons_zero, List.set_cons_succ]
                  refine zv 4 75 (.bool (decide (((q : Nat) : Int) < (h.length : Int)))) (fun _ ⟨BL, D, Bb, H, b3, b6, O2, b8, O1, b9, z3⟩ => Val.cmp .lss 3 _ (.tmp 71) (.tmp 74) rfl .i64 ((q : Nat) : Int) (h.length : Int) (by kernel_rfl) (by kernel_rfl) (by simp) _ rfl) ⟨BL, D, Bb, H, b3, b6, O2, b8, O1, b9, by omega⟩ ?_
                  simp only [List.set_cons_zero, List.set_cons_succ]
                  refine zv 5 76 (.bool (decide (((q : Nat) : Int) < (h.length : Int)))) (fun _ _ => .of) ⟨BL, D, Bb, H, b3, b6, O2, b8, O1, b9, by omega⟩ ?_
                  simp only [List.set_cons_zero, List.set_cons_succ]
                  by_cases g77 : ((q : Nat) : Int) < (h.length : Int)
                  · skip
                    have dg77 : decide (((q : Nat) : Int) < (h.length : Int)) = true := decide_eq_true g77
                    simp only [dg77]
                    clear dg77
                    refine zv 6 77 (.pointer (some ⟨w3.heap.size, 1, none⟩)) (fun _ _ => .of) ⟨BL, D, Bb, H, b3, b6, O2, b8, O1, b9, by omega⟩ ?_
                    simp only [List.set_cons_zero, List.set_cons_succ]
                    refine zv 7 78 (.slice X2 h.length Y2) (fun _ ⟨BL, D, Bb, H, b3, b6, O2, b8, O1, b9, z3⟩ => Val.cel1 54 _ rfl w3.heap.size 1 _ (by kernel_rfl) (fun _ => (by kernel_rfl)) b8 rfl) ⟨BL, D, Bb, H, b3, b6, O2, b8, O1, b9, by omega⟩ ?_
                    simp only [List.set_cons_zero, List.set_cons_succ]
                    refine zv 8 79 (.int .i64 ((q : Nat) : Int)) (fun _ _ => .of) ⟨BL, D, Bb, H, b3, b6, O2, b8, O1, b9, by omega⟩ ?_
                    simp only [List.set_cons_zero, List.set_cons_succ]
                    refine zv 9 80 (elemE 2 (.slice X2 h.length Y2) q) (fun _ ⟨BL, D, Bb, H, b3, b6, O2, b8, O1, b9, z3⟩ => Val.ixE 54 (.tmp 78) (.tmp 79) rfl (.slice X2 h.length Y2) q (by kernel_rfl) (by kernel_rfl) O2.se Try.underlying54 (by kernel_rfl) (by simp only [spS_len]; omega)) ⟨BL, D, Bb, H, b3, b6, O2, b8, O1, b9, by omega⟩ ?_
                    simp only [List.set_cons_zero, List.set_cons_succ]
                    refine zv 10 81 (elemF (.slice X2 h.length Y2) q 0) (fun _ ⟨BL, D, Bb, H, b3, b6, O2, b8, O1, b9, z3⟩ => Val.fldE 70 _ 0 rfl (.slice X2 h.length Y2) q (by kernel_rfl) O2.se Try.underlying70 0 (by kernel_rfl) (by omega)) ⟨BL, D, Bb, H, b3, b6, O2, b8, O1, b9, by omega⟩ ?_
                    simp only [List.set_cons_zero, List.set_cons_succ]
                    refine zv 11 82 (.int .i64 (h.getD q (0, 0)).1) (fun _ ⟨BL, D, Bb, H, b3, b6, O2, b8, O1, b9, z3⟩ => Val.ldF0 3 _ rfl (.slice X2 h.length Y2) q (by kernel_rfl) (fun _ => (by kernel_rfl)) O2.se (by omega)) ⟨BL, D, Bb, H, b3, b6, O2, b8, O1, b9, by omega⟩ ?_
                    simp only [List.set_cons_zero, List.set_cons_succ]
                    refine zv 12 83 (.pointer (some ⟨w14.heap.size, 1, none⟩)) (fun _ _ => .of) ⟨BL, D, Bb, H, b3, b6, O2, b8, O1, b9, by omega⟩ ?_
                    simp only [List.set_cons_zero, List.set_cons_succ]
                    refine zv 13 84 (.int .i64 sb) (fun _ ⟨BL, D, Bb, H, b3, b6, O2, b8, O1, b9, z3⟩ => Val.cel1 3 _ rfl w14.heap.size 1 _ (by kernel_rfl) (fun _ => (by kernel_rfl)) b9 rfl) ⟨BL, D, Bb, H, b3, b6, O2, b8, O1, b9, by omega⟩ ?_
                    simp only [List.set_cons_zero, List.set_cons_succ]
                    refine zv 14 85 (.bool (decide ((h.getD q (0, 0)).1 ≤ sb))) (fun _ ⟨BL, D, Bb, H, b3, b6, O2, b8, O1, b9, z3⟩ => Val.cmp .leq 3 _ (.tmp 82) (.tmp 84) rfl .i64 ((h.getD q (0, 0)).1) sb (by kernel_rfl) (by kernel_rfl) (by simp) _ rfl) ⟨BL, D, Bb, H, b3, b6, O2, b8, O1, b9, by omega⟩ ?_
                    simp only [List.set_cons_zero, List.set_cons_succ]
                    refine zv 15 86 (.bool (decide ((h.getD q (0, 0)).1 ≤ sb))) (fun _ _ => .of) ⟨BL, D, Bb, H, b3, b6, O2, b8, O1, b9, by omega⟩ ?_
                    simp only [List.set_cons_zero, List.set_cons_succ]
                    refine zd (by kernel_rfl) ?_ _
                    refine hK28 _ _ ?_
                    refine cDec ((h.getD q (0, 0)).1 ≤ sb) (by kernel_rfl) (fun c86 => ?_) (fun c86 => ?_)
                    · skip
                      refine wp_skip ?_
                      refine hK27 _ _ ?_
                      refine wp_block ?_
                      refine wp_seq_k fun K29 hK29 => ?_
                      have e11 := drew_e0 w28
                      refine zg (fun w_ => Bl w.heap.size w w_ ∧ SL .u8 w_ (.slice A0 d.length C0) (nn d) ∧ SL .u8 w_ (.slice A1 b.length C1) (nn b) ∧ SE .i64 2 w_ (.slice A2 h.length C2) (spS h) ∧ Cel w_ w.heap.size 56 [.slice A0 d.length C0, .slice A2 h.length C2] ∧ Cel w_ w1.heap.size 56 [.slice none 0 0, .slice none 0 0] ∧ OwnE 70 .i64 2 w2.heap.size w_ (.slice X2 h.length Y2) (spS h) ∧ Cel w_ w3.heap.size 56 [.slice X1 d.length Y1, .slice X2 h.length Y2] ∧ Own 5 .u8 w2.heap.size w_ (.slice X1 d.length Y1) (nn (layB d a.toNat b)) ∧ w28.heap.size ≤ w_.heap.size) (fun w_ => Bl w.heap.size w w_ ∧ SL .u8 w_ (.slice A0 d.length C0) (nn d) ∧ SL .u8 w_ (.slice A1 b.length C1) (nn b) ∧ SE .i64 2 w_ (.slice A2 h.length C2) (spS h) ∧ Cel w_ w.heap.size 56 [.slice A0 d.length C0, .slice A2 h.length C2] ∧ Cel w_ w1.heap.size 56 [.slice none 0 0, .slice none 0 0] ∧ OwnE 70 .i64 2 w2.heap.size w_ (.slice X2 h.length Y2) (spS h) ∧ Cel w_ w3.heap.size 56 [.slice X1 d.length Y1, .slice X2 h.length Y2] ∧ Own 5 .u8 w2.heap.size w_ (.slice X1 d.length Y1) (nn (layB d a.toNat b)) ∧ Cel w_ w14.heap.size 70 [.int .i64 sa, .int .i64 sb] ∧ w28.heap.size ≤ w_.heap.size) 21 22 ⟨BL.e0 e11, D.e0 e11, Bb.e0 e11, H.e0 e11, b3.e0 e11, b6.e0 e11, O2.e0 e11, b8.e0 e11, O1.e0 e11, b9.e0 e11, Nat.le_refl _⟩ ?_
                      clear BL D Bb H b3 b6 O2 b8 O1 b9
                      clear e11
                      intro w29
                      rintro ⟨BL, D, Bb, H, b3, b6, O2, b8, O1, b9, z4⟩
                      refine zv 0 87 (.pointer (some ⟨w14.heap.size, 0, none⟩)) (fun _ _ => .of) ⟨BL, D, Bb, H, b3, b6, O2, b8, O1, by omega⟩ ?_
                      simp only [List.set_cons_zero, List.set_cons_succ]
                      refine zv 2 89 (.pointer (some ⟨w3.heap.size, 1, none⟩)) (fun _ _ => .of) ⟨BL, D, Bb, H, b3, b6, O2, b8, O1, by omega⟩ ?_
                      simp only [List.set_cons_zero, List.set_cons_succ]
                      refine zv 3 90 (.slice X2 h.length Y2) (fun _ ⟨BL, D, Bb, H, b3, b6, O2, b8, O1, z4⟩ => Val.cel1 54 _ rfl w3.heap.size 1 _ (by kernel_rfl) (fun _ => (by kernel_rfl)) b8 rfl) ⟨BL, D, Bb, H, b3, b6, O2, b8, O1, by omega⟩ ?_
                      simp only [List.set_cons_zero, List.set_cons_succ]
                      refine zv 4 91 (.int .i64 ((q : Nat) : Int)) (fun _ _ => .of) ⟨BL, D, Bb, H, b3, b6, O2, b8, O1, by omega⟩ ?_
                      simp only [List.set_cons_zero, List.set_cons_succ]
                      refine zv 5 92 (elemE 2 (.slice X2 h.length Y2) q) (fun _ ⟨BL, D, Bb, H, b3, b6, O2, b8, O1, z4⟩ => Val.ixE 54 (.tmp 90) (.tmp 91) rfl (.slice X2 h.length Y2) q (by kernel_rfl) (by kernel_rfl) O2.se Try.underlying54 (by kernel_rfl) (by simp only [spS_len]; omega)) ⟨BL, D, Bb, H, b3, b6, O2, b8, O1, by omega⟩ ?_
                      simp only [List.set_cons_zero, List.set_cons_succ]
                      refine zv 6 93 (elemF (.slice X2 h.length Y2) q 0) (fun _ ⟨BL, D, Bb, H, b3, b6, O2, b8, O1, z4⟩ => Val.fldE 70 _ 0 rfl (.slice X2 h.length Y2) q (by kernel_rfl) O2.se Try.underlying70 0 (by kernel_rfl) (by omega)) ⟨BL, D, Bb, H, b3, b6, O2, b8, O1, by omega⟩ ?_
                      simp only [List.set_cons_zero, List.set_cons_succ]
                      refine zv 7 94 (.int .i64 (h.getD q (0, 0)).1) (fun _ ⟨BL, D, Bb, H, b3, b6, O2, b8, O1, z4⟩ => Val.ldF0 3 _ rfl (.slice X2 h.length Y2) q (by kernel_rfl) (fun _ => (by kernel_rfl)) O2.se (by omega)) ⟨BL, D, Bb, H, b3, b6, O2, b8, O1, by omega⟩ ?_
                      simp only [List.set_cons_zero, List.set_cons_succ]
                      refine zv 9 96 (.pointer (some ⟨w14.heap.size, 1, none⟩)) (fun _ _ => .of) ⟨BL, D, Bb, H, b3, b6, O2, b8, O1, by omega⟩ ?_
                      simp only [List.set_cons_zero, List.set_cons_succ]
                      refine zv 11 98 (.pointer (some ⟨w3.heap.size, 1, none⟩)) (fun _ _ => .of) ⟨BL, D, Bb, H, b3, b6, O2, b8, O1, by omega⟩ ?_
                      simp only [List.set_cons_zero, List.set_cons_succ]
                      refine zv 12 99 (.slice X2 h.length Y2) (fun _ ⟨BL, D, Bb, H, b3, b6, O2, b8, O1, z4⟩ => Val.cel1 54 _ rfl w3.heap.size 1 _ (by kernel_rfl) (fun _ => (by kernel_rfl)) b8 rfl) ⟨BL, D, Bb, H, b3, b6, O2, b8, O1, by omega⟩ ?_
                      simp only [List.set_cons_zero, List.set_cons_succ]
                      refine zv 13 100 (.int .i64 ((q : Nat) : Int)) (fun _ _ => .of) ⟨BL, D, Bb, H, b3, b6, O2, b8, O1, by omega⟩ ?_
                      simp only [List.set_cons_zero, List.set_cons_succ]
                      refine zv 14 101 (elemE 2 (.slice X2 h.length Y2) q) (fun _ ⟨BL, D, Bb, H, b3, b6, O2, b8, O1, z4⟩ => Val.ixE 54 (.tmp 99) (.tmp 100) rfl (.slice X2 h.length Y2) q (by kernel_rfl) (by kernel_rfl) O2.se Try.underlying54 (by kernel_rfl) (by simp only [spS_len]; omega)) ⟨BL, D, Bb, H, b3, b6, O2, b8, O1, by omega⟩ ?_
                      simp only [List.set_cons_zero, List.set_cons_succ]
                      refine zv 15 102 (elemF (.slice X2 h.length Y2) q 1) (fun _ ⟨BL, D, Bb, H, b3, b6, O2, b8, O1, z4⟩ => Val.fldE 70 _ 1 rfl (.slice X2 h.length Y2) q (by kernel_rfl) O2.se Try.underlying70 1 (by kernel_rfl) (by omega)) ⟨BL, D, Bb, H, b3, b6, O2, b8, O1, by omega⟩ ?_
                      simp only [List.set_cons_zero, List.set_cons_succ]
                      refine zv 16 103 (.int .i64 (h.getD q (0, 0)).2) (fun _ ⟨BL, D, Bb, H, b3, b6, O2, b8, O1, z4⟩ => Val.ldF1 3 _ rfl (.slice X2 h.length Y2) q (by kernel_rfl) (fun _ => (by kernel_rfl)) O2.se (by omega)) ⟨BL, D, Bb, H, b3, b6, O2, b8, O1, by omega⟩ ?_
                      simp only [List.set_cons_zero, List.set_cons_succ]
                      refine zo2 1 10 rfl rfl ?_ ?_
                      · skip
                        refine sv 88 (.int .i64 sa) (Val.cel1 3 _ rfl w14.heap.size 0 _ (by kernel_rfl) (fun _ => (by kernel_rfl)) b9 rfl) ?_
                        refine ze 1 ⟨BL, D, Bb, H, b3, b6, O2, b8, O1, by omega⟩ ?_
                        simp only [List.set_cons_zero, List.set_cons_succ]
                        refine zv 8 95 (.int .i64 (min sa ((h.getD q (0, 0)).1))) (fun _ ⟨BL, D, Bb, H, b3, b6, O2, b8, O1, z4⟩ => Val.minI (.tmp 88) (.tmp 94) _ rfl sa ((h.getD q (0, 0)).1) (by kernel_rfl) (by kernel_rfl)) ⟨BL, D, Bb, H, b3, b6, O2, b8, O1, by omega⟩ ?_
                        simp only [List.set_cons_zero, List.set_cons_succ]
                        refine zo1 10 rfl ?_
                        refine sv 97 (.int .i64 sb) (Val.cel1 3 _ rfl w14.heap.size 1 _ (by kernel_rfl) (fun _ => (by kernel_rfl)) b9 rfl) ?_
                        refine ze 10 ⟨BL, D, Bb, H, b3, b6, O2, b8, O1, by omega⟩ ?_
                        simp only [List.set_cons_zero, List.set_cons_succ]
                        refine zv 17 104 (.int .i64 (max sb ((h.getD q (0, 0)).2))) (fun _ ⟨BL, D, Bb, H, b3, b6, O2, b8, O1, z4⟩ => Val.maxI (.tmp 97) (.tmp 103) _ rfl sb ((h.getD q (0, 0)).2) (by kernel_rfl) (by kernel_rfl)) ⟨BL, D, Bb, H, b3, b6, O2, b8, O1, by omega⟩ ?_
                        simp only [List.set_cons_zero, List.set_cons_succ]
                        refine zv 18 105 (.pointer (some ⟨w14.heap.size, 0, none⟩)) (fun _ _ => .of) ⟨BL, D, Bb, H, b3, b6, O2, b8, O1, by omega⟩ ?_
                        simp only [List.set_cons_zero, List.set_cons_succ]
                        refine zo1 19 rfl ?_
                        refine xStore 3 (.tmp 105) (.tmp 95) rfl w14.heap.size 70 [.int .i64 sa, .int .i64 sb] 0 (.int .i64 (min sa ((h.getD q (0, 0)).1))) (by kernel_rfl) (by kernel_rfl) b9 (by kernel_rfl) (by simp) rfl [.int .i64 (min sa ((h.getD q (0, 0)).1)), .int .i64 sb] rfl ?_
                        intro w30 t15
                        have zt15 := t15.z
                        have BL_ := BL.ev t15.e (fun i h => show w.heap.size ≤ i by have h : i = w14.heap.size := h; omega)
                        have D_ := D.ev t15.e (fun i hi => show ¬ (i = w14.heap.size) by have := hdl i hi; omega)
                        have Bb_ := Bb.ev t15.e (fun i hi => show ¬ (i = w14.heap.size) by have := hbl i hi; omega)
                        have H_ := H.ev t15.e (fun i hi => show ¬ (i = w14.heap.size) by have := hhl i hi; omega)
                        have b3_ := b3.ev t15.e (show ¬ (w.heap.size = w14.heap.size) by omega)
                        have b6_ := b6.ev t15.e (show ¬ (w1.heap.size = w14.heap.size) by omega)
                        have O2_ := O2.ev t15.e (fun i hi => show ¬ (i = w14.heap.size) by have := lO2 i hi; omega)
                        have b8_ := b8.ev t15.e (show ¬ (w3.heap.size = w14.heap.size) by omega)
                        have O1_ := O1.ev t15.e (fun i hi => show ¬ (i = w14.heap.size) by have := lO1 i hi; omega)
                        replace BL := BL_; clear BL_
                        replace D := D_; clear D_
                        replace Bb := Bb_; clear Bb_
                        replace H := H_; clear H_
                        replace b3 := b3_; clear b3_
                        replace b6 := b6_; clear b6_
                        replace O2 := O2_; clear O2_
                        replace b8 := b8_; clear b8_
                        replace O1 := O1_; clear O1_
                        replace b9 : Cel w30 w14.heap.size 70 [.int .i64 (min sa ((h.getD q (0, 0)).1)), .int .i64 sb] := t15.c
                        clear t15
                        refine ze 19 ⟨BL, D, Bb, H, b3, b6, O2, b8, O1, by omega⟩ ?_
                        refine zv 20 106 (.pointer (some ⟨w14.heap.size, 1, none⟩)) (fun _ _ => .of) ⟨BL, D, Bb, H, b3, b6, O2, b8, O1, by omega⟩ ?_
                        simp only [List.set_cons_zero, List.set_cons_succ]
                        refine zo1 21 rfl ?_
                        refine xStore 3 (.tmp 106) (.tmp 104) rfl w14.heap.size 70 [.int .i64 (min sa ((h.getD q (0, 0)).1)), .int .i64 sb] 1 (.int .i64 (max sb ((h.getD q (0, 0)).2))) (by kernel_rfl) (by kernel_rfl) b9 (by kernel_rfl) (by simp) rfl [.int .i64 (min sa ((h.getD q (0, 0)).1)), .int .i64 (max sb ((h.getD q (0, 0)).2))] rfl ?_
                        intro w31 t16
                        have zt16 := t16.z
                        have BL_ := BL.ev t16.e (fun i h => show w.heap.size ≤ i by have h : i = w14.heap.size := h; omega)
                        have D_ := D.ev t16.e (fun i hi => show ¬ (i = w14.heap.size) by have := hdl i hi; omega)
                        have Bb_ := Bb.ev t16.e (fun i hi => show ¬ (i = w14.heap.size) by have := hbl i hi; omega)
                        have H_ := H.ev t16.e (fun i hi => show ¬ (i = w14.heap.size) by have := hhl i hi; omega)
                        have b3_ := b3.ev t16.e (show ¬ (w.heap.size = w14.heap.size) by omega)
                        have b6_ := b6.ev t16.e (show ¬ (w1.heap.size = w14.heap.size) by omega)
                        have O2_ := O2.ev t16.e (fun i hi => show ¬ (i = w14.heap.size) by have := lO2 i hi; omega)
                        have b8_ := b8.ev t16.e (show ¬ (w3.heap.size = w14.heap.size) by omega)
                        have O1_ := O1.ev t16.e (fun i hi => show ¬ (i = w14.heap.size) by have := lO1 i hi; omega)
                        replace BL := BL_; clear BL_
                        replace D := D_; clear D_
                        replace Bb := Bb_; clear Bb_
                        replace H := H_; clear H_
                        replace b3 := b3_; clear b3_
                        replace b6 := b6_; clear b6_
                        replace O2 := O2_; clear O2_
                        replace b8 := b8_; clear b8_
                        replace O1 := O1_; clear O1_
                        replace b9 : Cel w31 w14.heap.size 70 [.int .i64 (min sa ((h.getD q (0, 0)).1)), .int .i64 (max sb ((h.getD q (0, 0)).2))] := t16.c
                        clear t16
                        refine zz 21 ?_
                        refine zd (by kernel_rfl) ?_ _
                        refine hK29 _ _ ?_
                        refine cPlain ?_
                        refine sv 107 (.int .i64 ((q : Nat) : Int)) .of ?_
                        simp only [List.set_cons_zero, List.set_cons_succ]
                        refine sv 108 (.int .i64 (((q : Nat) : Int) + 1)) (Val.add 3 _ (.tmp 107) _ rfl ((q : Nat) : Int) 1 (by kernel_rfl) (by kernel_rfl) (by omega)) ?_
                        simp only [List.set_cons_zero, List.set_cons_succ]
                        refine sv 11 (.int .i64 (((q : Nat) : Int) + 1)) .of ?_
                        simp only [List.set_cons_zero, List.set_cons_succ]
                        refine wpList_nil ?_
                        refine ⟨_, ?_, q + 1, (min sa ((h.getD q (0, 0)).1)), (max sb ((h.getD q (0, 0)).2)), rfl, (by omega), (by omega), (hc0_2.trans (mrgS_go (s := (sa, sb)) (by omega) c86)), cutE, BL, D, Bb, H, b3, b6, O2, b8, O1, b9, by omega⟩
                        omega
                      · skip
                        refine sv 97 (.int .i64 sb) (Val.cel1 3 _ rfl w14.heap.size 1 _ (by kernel_rfl) (fun _ => (by kernel_rfl)) b9 rfl) ?_
                        refine ze 10 ⟨BL, D, Bb, H, b3, b6, O2, b8, O1, by omega⟩ ?_
                        simp only [List.set_cons_zero, List.set_cons_succ]
                        refine zv 17 104 (.int .i64 (max sb ((h.getD q (0, 0)).2))) (fun _ ⟨BL, D, Bb, H, b3, b6, O2, b8, O1, z4⟩ => Val.maxI (.tmp 97) (.tmp 103) _ rfl sb ((h.getD q (0, 0)).2) (by kernel_rfl) (by kernel_rfl)) ⟨BL, D, Bb, H, b3, b6, O2, b8, O1, by omega⟩ ?_
                        simp only [List.set_cons_zero, List.set_cons_succ]
                        refine zo1 1 rfl ?_
                        refine sv 88 (.int .i64 sa) (Val.cel1 3 _ rfl w14.heap.size 0 _ (by kernel_rfl) (fun _ => (by kernel_rfl)) b9 rfl) ?_
                        refine ze 1 ⟨BL, D, Bb, H, b3, b6, O2, b8, O1, by omega⟩ ?_
                        simp only [List.set_cons_zero, List.set_cons_succ]
                        refine zv 8 95 (.int .i64 (min sa ((h.getD q (0, 0)).1))) (fun _ ⟨BL, D, Bb, H, b3, b6, O2, b8, O1, z4⟩ => Val.minI (.tmp 88) (.tmp 94) _ rfl sa ((h.getD q (0, 0)).1) (by kernel_rfl) (by kernel_rfl)) ⟨BL, D, Bb, H, b3, b6, O2, b8, O1, by omega⟩ ?_
                        simp only [List.set_cons_zero, List.set_cons_succ]
                        refine zv 18 105 (.pointer (some ⟨w14.heap.size, 0, none⟩)) (fun _ _ => .of) ⟨BL, D, Bb, H, b3, b6, O2, b8, O1, by omega⟩ ?_
                        simp only [List.set_cons_zero, List.set_cons_succ]
                        refine zo1 19 rfl ?_
                        refine xStore 3 (.tmp 105) (.tmp 95) rfl w14.heap.size 70 [.int .i64 sa, .int .i64 sb] 0 (.int .i64 (min sa ((h.getD q (0, 0)).1))) (by kernel_rfl) (by kernel_rfl) b9 (by kernel_rfl) (by simp) rfl [.int .i64 (min sa ((h.getD q (0, 0)).1)), .int .i64 sb] rfl ?_
                        intro w32 t17
                        have zt17 := t17.z
                        have BL_ := BL.ev t17.e (fun i h => show w.heap.size ≤ i by have h : i = w14.heap.size := h; omega)
                        have D_ := D.ev t17.e (fun i hi => show ¬ (i = w14.heap.size) by have := hdl i hi; omega)
                        have Bb_ := Bb.ev t17.e (fun i hi => show ¬ (i = w14.heap.size) by have := hbl i hi; omega)
                        have H_ := H.ev t17.e (fun i hi => show ¬ (i = w14.heap.size) by have := hhl i hi; omega)
                        have b3_ := b3.ev t17.e (show ¬ (w.heap.size = w14.heap.size) by omega)
                        have b6_ := b6.ev t17.e (show ¬ (w1.heap.size = w14.heap.size) by omega)
                        have O2_ := O2.ev t17.e (fun i hi => show ¬ (i = w14.heap.size) by have := lO2 i hi; omega)
                        have b8_ := b8.ev t17.e (show ¬ (w3.heap.size = w14.heap.size) by omega)
                        have O1_ := O1.ev t17.e (fun i hi => show ¬ (i = w14.heap.size) by have := lO1 i hi; omega)
                        replace BL := BL_; clear BL_
                        replace D := D_; clear D_
                        replace Bb := Bb_; clear Bb_
                        replace H := H_; clear H_
                        replace b3 := b3_; clear b3_
                        replace b6 := b6_; clear b6_
                        replace O2 := O2_; clear O2_
                        replace b8 := b8_; clear b8_
                        replace O1 := O1_; clear O1_
                        replace b9 : Cel w32 w14.heap.size 70 [.int .i64 (min sa ((h.getD q (0, 0)).1)), .int .i64 sb] := t17.c
                        clear t17
                        refine ze 19 ⟨BL, D, Bb, H, b3, b6, O2, b8, O1, by omega⟩ ?_
                        refine zv 20 106 (.pointer (some ⟨w14.heap.size, 1, none⟩)) (fun _ _ => .of) ⟨BL, D, Bb, H, b3, b6, O2, b8, O1, by omega⟩ ?_
                        simp only [List.set_cons_zero, List.set_cons_succ]
                        refine zo1 21 rfl ?_
                        refine xStore 3 (.tmp 106) (.tmp 104) rfl w14.heap.size 70 [.int .i64 (min sa ((h.getD q (0, 0)).1)), .int .i64 sb] 1 (.int .i64 (max sb ((h.getD q (0, 0)).2))) (by kernel_rfl) (by kernel_rfl) b9 (by kernel_rfl) (by simp) rfl [.int .i64 (min sa ((h.getD q (0, 0)).1)), .int .i64 (max sb ((h.getD q (0, 0)).2))] rfl ?_
                        intro w33 t18
                        have zt18 := t18.z
                        have BL_ := BL.ev t18.e (fun i h => show w.heap.size ≤ i by have h : i = w14.heap.size := h; omega)
                        have D_ := D.ev t18.e (fun i hi => show ¬ (i = w14.heap.size) by have := hdl i hi; omega)
                        have Bb_ := Bb.ev t18.e (fun i hi => show ¬ (i = w14.heap.size) by have := hbl i hi; omega)
                        have H_ := H.ev t18.e (fun i hi => show ¬ (i = w14.heap.size) by have := hhl i hi; omega)
                        have b3_ := b3.ev t18.e (show ¬ (w.heap.size = w14.heap.size) by omega)
                        have b6_ := b6.ev t18.e (show ¬ (w1.heap.size = w14.heap.size) by omega)
                        have O2_ := O2.ev t18.e (fun i hi => show ¬ (i = w14.heap.size) by have := lO2 i hi; omega)
                        have b8_ := b8.ev t18.e (show ¬ (w3.heap.size = w14.heap.size) by omega)
                        have O1_ := O1.ev t18.e (fun i hi => show ¬ (i = w14.heap.size) by have := lO1 i hi; omega)
                        replace BL := BL_; clear BL_
                        replace D := D_; clear D_
                        replace Bb := Bb_; clear Bb_
                        replace H := H_; clear H_
                        replace b3 := b3_; clear b3_
                        replace b6 := b6_; clear b6_
                        replace O2 := O2_; clear O2_
                        replace b8 := b8_; clear b8_
                        replace O1 := O1_; clear O1_
                        replace b9 : Cel w33 w14.heap.size 70 [.int .i64 (min sa ((h.getD q (0, 0)).1)), .int .i64 (max sb ((h.getD q (0, 0)).2))] := t18.c
                        clear t18
                        refine zz 21 ?_
                        refine zd (by kernel_rfl) ?_ _
                        refine hK29 _ _ ?_
                        refine cPlain ?_
                        refine sv 107 (.int .i64 ((q : Nat) : Int)) .of ?_
                        simp only [List.set_cons_zero, List.set_cons_succ]
                        refine sv 108 (.int .i64 (((q : Nat) : Int) + 1)) (Val.add 3 _ (.tmp 107) _ rfl ((q : Nat) : Int) 1 (by kernel_rfl) (by kernel_rfl) (by omega)) ?_
                        simp only [List.set_cons_zero, List.set_cons_succ]
                        refine sv 11 (.int .i64 (((q : Nat) : Int) + 1)) .of ?_
                        simp only [List.set_cons_zero, List.set_cons_succ]
                        refine wpList_nil ?_
                        refine ⟨_, ?_, q + 1, (min sa ((h.getD q (0, 0)).1)), (max sb ((h.getD q (0, 0)).2)), rfl, (by omega), (by omega), (hc0_2.trans (mrgS_go (s := (sa, sb)) (by omega) c86)), cutE, BL, D, Bb, H, b3, b6, O2, b8, O1, b9, by omega⟩
                        omega
                    · skip
                      refine wp_exit ?_
                      simp only [Exit.then, Exit.inBlock, ↓reduceIte, Nat.reduceEqDiff]
                      exact ⟨q, sa, sb, (by omega), (by omega), (by rw [putS_fidx]; show h.take (fidx a h) ++ mrgS (a, a + (b.length : Int)) (h.drop (fidx a h)) = _; rw [hc0_2, mrgS_stop (by first | exact .inl (by omega) | exact .inr c86), List.append_assoc]; rfl), cutE, BL, D, Bb, H, b3, b6, O2, b8, O1, b9, by omega⟩
                  · skip
                    have dg77 : decide (((q : Nat) : Int) < (h.length : Int)) = false := decide_eq_false g77
                    simp only [dg77]
                    clear dg77
                    refine zs 6 77 ⟨BL, D, Bb, H, b3, b6, O2, b8, O1, b9, by omega⟩ ?_
                    simp only [List.set_cons_zero, List.set_cons_succ]
                    refine zs 7 78 ⟨BL, D, Bb, H, b3, b6, O2, b8, O1, b9, by omega⟩ ?_
                    simp only [List.set_cons_zero, List.set_cons_succ]
                    refine zs 8 79 ⟨BL, D, Bb, H, b3, b6, O2, b8, O1, b9, by omega⟩ ?_
                    simp only [List.set_cons_zero, List.set_cons_succ]
                    refine zs 9 80 ⟨BL, D, Bb, H, b3, b6, O2, b8, O1, b9, by omega⟩ ?_
                    simp only [List.set_cons_zero, List.set_cons_succ]
                    refine zs 10 81 ⟨BL, D, Bb, H, b3, b6, O2, b8, O1, b9, by omega⟩ ?_
                    simp only [List.set_cons_zero, List.set_cons_succ]
                    refine zs 11 82 ⟨BL, D, Bb, H, b3, b6, O2, b8, O1, b9, by omega⟩ ?_
                    simp only [List.set_cons_zero, List.set_cons_succ]
                    refine zs 12 83 ⟨BL, D, Bb, H, b3, b6, O2, b8, O1, b9, by omega⟩ ?_
                    simp only [List.set_cons_zero, List.set_cons_succ]
                    refine zs 13 84 ⟨BL, D, Bb, H, b3, b6, O2, b8, O1, b9, by omega⟩ ?_
                    simp only [List.set_cons_zero, List.set_cons_succ]
                    refine zs 14 85 ⟨BL, D, Bb, H, b3, b6, O2, b8, O1, b9, by omega⟩ ?_
                    simp only [List.set_cons_zero, List.set_cons_succ]
                    refine zv 15 86 (.bool false) (fun _ _ => .of) ⟨BL, D, Bb, H, b3, b6, O2, b8, O1, b9, by omega⟩ ?_
                    simp only [List.set_cons_zero, List.set_cons_succ]
                    refine zd (by kernel_rfl) ?_ _
                    refine hK28 _ _ ?_
                    refine cF ?_
                    refine wp_exit ?_
                    simp only [Exit.then, Exit.inBlock, ↓reduceIte, Nat.reduceEqDiff]
                    exact ⟨q, sa, sb, (by omega), (by omega), (by rw [putS_fidx]; show h.take (fidx a h) ++ mrgS (a, a + (b.length : Int)) (h.drop (fidx a h)) = _; rw [hc0_2, mrgS_stop (by first | exact .inl (by omega) | exact .inr c86), List.append_assoc]; rfl), cutE, BL, D, Bb, H, b3, b6, O2, b8, O1, b9, by omega⟩
                · skip
                  clear BL D Bb H b3 b6 O2 b8 O1 b9
                  rintro a_ wJ2 ⟨q, sa, sb, hJ2_0, hJ2_1, hJ2_2, ⟨s3, rfl⟩, BL, D, Bb, H, b3, b6, O2, b8, O1, b9, zJ2⟩
                  refine wp_seq_k fun K30 hK30 => ?_
                  refine cPlain ?_
                  refine sv 109 (.pointer (some ⟨w3.heap.size, 1, none⟩)) .of ?_
                  simp only [List.set_cons_zero, List.set_cons_succ]
                  refine sv 110 (.slice X2 h.length Y2) (Val.cel1 54 _ rfl w3.heap.size 1 _ (by kernel_rfl) (fun _ => (by kernel_rfl)) b8 rfl) ?_
                  simp only [List.set_cons_zero, List.set_cons_succ]
                  refine sv 111 (.int .i64 (((fidx a h) : Nat) : Int)) .of ?_
                  simp only [List.set_cons_zero, List.set_cons_succ]
                  refine sv 112 (.int .i64 ((q : Nat) : Int)) .of ?_
                  simp only [List.set_cons_zero, List.set_cons_succ]
                  refine sv 113 (.agg #[.int .i64 sa, .int .i64 sb]) (Val.cel 70 _ rfl 0 2 (by kernel_rfl) b9 _ Try.underlying70 rfl (by kernel_rfl) (by simp) [.int .i64 sa, .int .i64 sb] rfl) ?_
                  simp only [List.set_cons_zero, List.set_cons_succ]
                  refine xLit 114 54 70 1 _ #[(0, .agg #[.int .i64 sa, .int .i64 sb])] [.int .i64 sa, .int .i64 sb] rfl (by kernel_rfl) (by kernel_rfl) ?_
                  intro w34 n6
                  have zn6 := n6.z
                  have b114 := n6.c
                  replace BL := BL.e0 n6.e
                  replace D := D.e0 n6.e
                  replace Bb := Bb.e0 n6.e
                  replace H := H.e0 n6.e
                  replace b3 := b3.e0 n6.e
                  replace b6 := b6.e0 n6.e
                  replace O2 := O2.e0 n6.e
                  replace b8 := b8.e0 n6.e
                  replace O1 := O1.e0 n6.e
                  replace b9 := b9.e0 n6.e
                  simp only [List.set_cons_zero, List.set_cons_succ]
                  refine xCall 115 61 #[.slice X2 h.length Y2, .int .i64 (((fidx a h) : Nat) : Int), .int .i64 ((q : Nat) : Int), .slice (some ⟨wJ2.heap.size, 0, none⟩) 1 1] (by kernel_rfl) ?_
                  refine (repl_any h (sa, sb) (.slice X2 h.length Y2) _ _ (fidx a h) q w34 O2 b114 (fun hh => by have := lO2 _ hh; omega) (by omega) (by omega) (by omega) (by omega)).mono ?_
                  rintro en w35 ⟨r, rfl, hO, hEV⟩
                  obtain ⟨X3, Y3, hq3, _⟩ := hO.len
                  rw [spS_len] at hq3
                  subst hq3
                  have e12 := hEV
                  have ze12 := e12.size
                  have BL_ := BL.ev e12 (fun i h => by have := lO2 _ h; omega)
                  have D_ := D.ev e12 (fun i hi h => by have := hdl i hi; have := lO2 _ h; omega)
                  have Bb_ := Bb.ev e12 (fun i hi h => by have := hbl i hi; have := lO2 _ h; omega)
                  have H_ := H.ev e12 (fun i hi h => by have := hhl i hi; have := lO2 _ h; omega)
                  have b3_ := b3.ev e12 (fun h => by have := lO2 _ h; omega)
                  have b6_ := b6.ev e12 (fun h => by have := lO2 _ h; omega)
                  have b8_ := b8.ev e12 (fun h => by have := lO2 _ h; omega)
                  have O1_ := O1.ev e12 (fun i hi h => by have := lO1 i hi; have := lO2 _ h; omega)
                  have b9_ := b9.ev e12 (fun h => by have := lO2 _ h; omega)
                  have b114_ := b114.ev e12 (fun h => by have := lO2 _ h; omega)
                  replace BL := BL_; clear BL_
                  replace D := D_; clear D_
                  replace Bb := Bb_; clear Bb_
                  replace H := H_; clear H_
                  replace b3 := b3_; clear b3_
                  replace b6 := b6_; clear b6_
                  replace b8 := b8_; clear b8_
                  replace O1 := O1_; clear O1_
                  replace b9 := b9_; clear b9_
                  replace b114 := b114_; clear b114_
                  clear e12
                  have O2 : OwnE 70 .i64 2 w2.heap.size w35 (.slice X3 (h.take (fidx a h) ++ [(sa, sb)] ++ h.drop q).length Y3) (spS (h.take (fidx a h) ++ [(sa, sb)] ++ h.drop q)) := hO
                  have lO3 : ∀ i, Value.ownBlock (.slice X3 (h.take (fidx a h) ++ [(sa, sb)] ++ h.drop q).length Y3) = some i → (w2.heap.size ≤ i ∧ i < w35.heap.size) ∧ i ≠ w3.heap.size := fun i hi => ⟨O2.ge i hi, OwnE.ne O2 b8 (by decide) i hi⟩
                  refine ⟨.slice X3 (h.take (fidx a h) ++ [(sa, sb)] ++ h.drop q).length Y3, rfl, ?_⟩
                  simp only [List.set_cons_zero, List.set_cons_succ]
                  refine sv 116 (.pointer (some ⟨w3.heap.size, 1, none⟩)) .of ?_
                  simp only [List.set_cons_zero, List.set_cons_succ]
                  refine xStore 54 (.tmp 116) (.tmp 115) rfl w3.heap.size 56 [.slice X1 d.length Y1, .slice X2 h.length Y2] 1 (.slice X3 (h.take (fidx a h) ++ [(sa, sb)] ++ h.drop q).length Y3) (by kernel_rfl) (by kernel_rfl) b8 (by kernel_rfl) (by simp) rfl [.slice X1 d.length Y1, .slice X3 (h.take (fidx a h) ++ [(sa, sb)] ++ h.drop q).length Y3] rfl ?_
                  intro w36 t19
                  have zt19 := t19.z
                  have BL_ := BL.ev t19.e (fun i h => show w.heap.size ≤ i by have h : i = w3.heap.size := h; omega)
                  have D_ := D.ev t19.e (fun i hi => show ¬ (i = w3.heap.size) by have := hdl i hi; omega)
                  have Bb_ := Bb.ev t19.e (fun i hi => show ¬ (i = w3.heap.size) by have := hbl i hi; omega)
                  have H_ := H.ev t19.e (fun i hi => show ¬ (i = w3.heap.size) by have := hhl i hi; omega)
                  have b3_ := b3.ev t19.e (show ¬ (w.heap.size = w3.heap.size) by omega)
                  have b6_ := b6.ev t19.e (show ¬ (w1.heap.size = w3.heap.size) by omega)
                  have O1_ := O1.ev t19.e (fun i hi => show ¬ (i = w3.heap.size) by have := lO1 i hi; omega)
                  have b9_ := b9.ev t19.e (show ¬ (w14.heap.size = w3.heap.size) by omega)
                  have b114_ := b114.ev t19.e (show ¬ (wJ2.heap.size = w3.heap.size) by omega)
                  have O2_ := O2.ev t19.e (fun i hi => show ¬ (i = w3.heap.size) by have := lO3 i hi; omega)
                  replace BL := BL_; clear BL_
                  replace D := D_; clear D_
                  replace Bb := Bb_; clear Bb_
                  replace H := H_; clear H_
                  replace b3 := b3_; clear b3_
                  replace b6 := b6_; clear b6_
                  replace O1 := O1_; clear O1_
                  replace b9 := b9_; clear b9_
                  replace b114 := b114_; clear b114_
                  replace O2 := O2_; clear O2_
                  replace b8 : Cel w36 w3.heap.size 56 [.slice X1 d.length Y1, .slice X3 (h.take (fidx a h) ++ [(sa, sb)] ++ h.drop q).length Y3] := t19.c
                  clear t19
                  refine wpList_nil ?_
                  refine hK30 _ _ ?_
                  refine wp_seq_k fun K31 hK31 => ?_
                  refine cPlain ?_
                  refine sv 117 (.agg #[.slice X1 d.length Y1, .slice X3 (h.take (fidx a h) ++ [(sa, sb)] ++ h.drop q).length Y3]) (Val.cel 56 _ rfl 0 2 (by kernel_rfl) b8 _ Try.underlying56 rfl (by kernel_rfl) (by simp) [.slice X1 d.length Y1, .slice X3 (h.take (fidx a h) ++ [(sa, sb)] ++ h.drop q).length Y3] rfl) ?_
                  simp only [List.set_cons_zero, List.set_cons_succ]
                  refine xStoreR 56 (.tmp 6) (.tmp 117) rfl w1.heap.size 56 [.slice none 0 0, .slice none 0 0] 0 [.slice X1 d.length Y1, .slice X3 (h.take (fidx a h) ++ [(sa, sb)] ++ h.drop q).length Y3] (by kernel_rfl) (by kernel_rfl) b6 (by kernel_rfl) (by simp) rfl [.slice X1 d.length Y1, .slice X3 (h.take (fidx a h) ++ [(sa, sb)] ++ h.drop q).length Y3] rfl ?_
                  intro w37 t20
                  have zt20 := t20.z
                  have BL_ := BL.ev t20.e (fun i h => show w.heap.size ≤ i by have h : i = w1.heap.size := h; omega)
                  have D_ := D.ev t20.e (fun i hi => show ¬ (i = w1.heap.size) by have := hdl i hi; omega)
                  have Bb_ := Bb.ev t20.e (fun i hi => show ¬ (i = w1.heap.size) by have := hbl i hi; omega)
                  have H_ := H.ev t20.e (fun i hi => show ¬ (i = w1.heap.size) by have := hhl i hi; omega)
                  have b3_ := b3.ev t20.e (show ¬ (w.heap.size = w1.heap.size) by omega)
                  have b8_ := b8.ev t20.e (show ¬ (w3.heap.size = w1.heap.size) by omega)
                  have O1_ := O1.ev t20.e (fun i hi => show ¬ (i = w1.heap.size) by have := lO1 i hi; omega)
                  have b9_ := b9.ev t20.e (show ¬ (w14.heap.size = w1.heap.size) by omega)
                  have b114_ := b114.ev t20.e (show ¬ (wJ2.heap.size = w1.heap.size) by omega)
                  have O2_ := O2.ev t20.e (fun i hi => show ¬ (i = w1.heap.size) by have := lO3 i hi; omega)
                  replace BL := BL_; clear BL_
                  replace D := D_; clear D_
                  replace Bb := Bb_; clear Bb_
                  replace H := H_; clear H_
                  replace b3 := b3_; clear b3_
                  replace b8 := b8_; clear b8_
                  replace O1 := O1_; clear O1_
                  replace b9 := b9_; clear b9_
                  replace b114 := b114_; clear b114_
                  replace O2 := O2_; clear O2_
                  replace b6 : Cel w37 w1.heap.size 56 [.slice X1 d.length Y1, .slice X3 (h.take (fidx a h) ++ [(sa, sb)] ++ h.drop q).length Y3] := t20.c
                  clear t20
                  refine sv 7 (.int .i64 0) .of ?_
                  simp only [List.set_cons_zero, List.set_cons_succ]
                  refine wpList_nil ?_
                  refine hK31 _ _ ?_
                  refine wp_ret ?_
                  (try simp only [Exit.then, Exit.inBlock])
                  refine bodyPost_ret (rCT rfl _ w1.heap.size _ _ (.int .i64 0) (by kernel_rfl) (by kernel_rfl) b6 _ Try.underlying56 rfl (by kernel_rfl)) rfl ?_
                  rw [putX_4 hr (by omega) c43]
                  rw [show putS (a, a + (b.length : Int)) h = h.take (fidx a h) ++ [(sa, sb)] ++ h.drop q from by assumption]
                  exact ⟨⟨_, _, rfl, O1.mono (by omega), O2.mono (by omega)⟩, BL.b⟩

/-- Put: what comes out is the call's own. -/
theorem put_any (dv hv bv : Value) (a : Int) (hai : -9223372036854775808 ≤ a ∧ a ≤ 9223372036854775807) (d b : List Nat) (h : List (Int × Int)) (w : World) (D : SL .u8 w dv (nn d)) (Bb : SL .u8 w bv (nn b)) (H : SE .i64 2 w hv (spS h)) (hdm : d.length ≤ 1000000) (hhm : h.length ≤ 90000) :
    Calls Try.prog 33 #[.agg #[dv, hv], .int .i64 a, bv] w fun e w' => (∃ dv' hv', e = .returned (.tuple #[.agg #[dv', hv'], .int .i64 (putX d h a b).2.2]) ∧ Own 5 .u8 w.heap.size w' dv' (nn (putX d h a b).1) ∧ OwnE 70 .i64 2 w.heap.size w' hv' (spS (putX d h a b).2.1)) ∧ Below w.heap.size w w' := by
  obtain ⟨A0, C0, hv0, _⟩ := D.len
  rw [nn_len] at hv0
  obtain ⟨A1, C1, hv1, _⟩ := Bb.len
  rw [nn_len] at hv1
  obtain ⟨A2, C2, hv2, _⟩ := H.len
  rw [spS_len] at hv2
  subst hv0 hv1 hv2
  exact put_walk A0 A1 A2 C0 C1 C2 a hai d b h w D Bb H hdm hhm
end Go.Proofs.Ytanggdnmoaflfaa
