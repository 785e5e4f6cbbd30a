/-
  slices.Insert and slices.Replace at spans, one span put in.
-/
import Derived.Test.YtanggdnmoaflfaaReplM
namespace Go.Proofs.Ytanggdnmoaflfaa
open Go.RowKit
set_option linter.unusedVariables false
set_option linter.unusedSimpArgs false
set_option maxRecDepth 100000
attribute [local irreducible] wpList Code.wp wpAnyZ
theorem ins_end (h : List (Int × Int)) (s : Int × Int) (v : Value) (base vb : Nat) (w : World) (O : OwnE 70 .i64 2 base w v (spS h)) (VB : SE .i64 2 w (.slice (some ⟨vb, 0, none⟩) 1 1) (spS [s])) (hb : base ≤ w.heap.size) (hl : h.length ≤ 100000) :
    Calls Try.prog 89 #[v, .int .i64 ((h.length : Nat) : Int), .slice (some ⟨vb, 0, none⟩) 1 1] w fun e w' => ∃ r, e = .returned r ∧ OwnE 70 .i64 2 base w' r (spS (h ++ [s])) ∧ Ev (fun i => v.ownBlock = some i) w w' := by
  obtain ⟨A, C, hv, hc⟩ := O.len
  rw [spS_len] at hv hc
  subst hv
  have lO := O.ge
  have lVB := VB.lt
  have EV := Ev.refl (fun i => Value.ownBlock (.slice A h.length C) = some i) w
  go_enter Try.func89, Try.ntmps89
  refine wp_seq_k fun K1 hK1 => ?_
  refine cPlain ?_
  refine sv 6 (.slice none 0 0) .of ?_
  simp only [List.set_cons_zero, List.set_cons_succ]
  refine wpList_nil ?_
  refine hK1 _ _ ?_
  refine wp_seq_k fun K2 hK2 => ?_
  refine cPlain ?_
  refine sv 10 (.slice A h.length C) .of ?_
  simp only [List.set_cons_zero, List.set_cons_succ]
  refine sv 11 (.int .i64 ((h.length : Nat) : Int)) .of ?_
  simp only [List.set_cons_zero, List.set_cons_succ]
  refine sv 12 (sliceE 2 (.slice A h.length C) h.length h.length) (Val.slcE 54 (.tmp 10) (some (.tmp 11)) none rfl (.slice A h.length C) (by kernel_rfl) O.se h.length h.length (.inl (by kernel_rfl)) (.inr ⟨rfl, (by simp only [spS_len])⟩) (Nat.le_refl _) (by rw [spS_len]; exact Nat.le_refl _) Try.underlying54 (by kernel_rfl)) ?_
  simp only [List.set_cons_zero, List.set_cons_succ]
  refine wpList_nil ?_
  refine hK2 _ _ ?_
  refine wp_seq_k fun K3 hK3 => ?_
  refine cPlain ?_
  refine sv 13 (.slice (some ⟨vb, 0, none⟩) 1 1) .of ?_
  simp only [List.set_cons_zero, List.set_cons_succ]
  refine sv 14 (.int .i64 (1 : Int)) .of ?_
  simp only [List.set_cons_zero, List.set_cons_succ]
  refine sv 7 (.int .i64 (1 : Int)) .of ?_
  simp only [List.set_cons_zero, List.set_cons_succ]
  refine wpList_nil ?_
  refine hK3 _ _ ?_
  refine wp_seq_k fun K4 hK4 => ?_
  refine wp_seq_k fun K5 hK5 => ?_
  refine cPlain ?_
  refine sv 15 (.int .i64 (1 : Int)) .of ?_
  simp only [List.set_cons_zero, List.set_cons_succ]
  refine sv 16 (.bool false) (Val.cmp .eql 3 _ (.tmp 15) _ rfl .i64 (1 : Int) 0 (by kernel_rfl) (by kernel_rfl) (by simp) _ (by first | (simp [cmpB]; done) | (simp [cmpB]; omega))) ?_
  simp only [List.set_cons_zero, List.set_cons_succ]
  refine wpList_nil ?_
  refine hK5 _ _ ?_
  refine cF ?_
  refine wp_skip ?_
  refine hK4 _ _ ?_
  refine wp_seq_k fun K6 hK6 => ?_
  refine cPlain ?_
  refine sv 18 (.slice A h.length C) .of ?_
  simp only [List.set_cons_zero, List.set_cons_succ]
  refine sv 19 (.int .i64 (h.length : Int)) .of ?_
  simp only [List.set_cons_zero, List.set_cons_succ]
  refine sv 8 (.int .i64 (h.length : Int)) .of ?_
  simp only [List.set_cons_zero, List.set_cons_succ]
  refine wpList_nil ?_
  refine hK6 _ _ ?_
  refine wp_seq_k fun K7 hK7 => ?_
  refine wp_seq_k fun K8 hK8 => ?_
  refine cPlain ?_
  refine sv 20 (.int .i64 ((h.length : Nat) : Int)) .of ?_
  simp only [List.set_cons_zero, List.set_cons_succ]
  refine sv 21 (.int .i64 (h.length : Int)) .of ?_
  simp only [List.set_cons_zero, List.set_cons_succ]
  refine sv 22 (.bool true) (Val.cmp .eql 3 _ (.tmp 20) (.tmp 21) rfl .i64 ((h.length : Nat) : Int) (h.length : Int) (by kernel_rfl) (by kernel_rfl) (by simp) _ (by first | (simp [cmpB]; done) | (simp [cmpB]; omega))) ?_
  simp only [List.set_cons_zero, List.set_cons_succ]
  refine wpList_nil ?_
  refine hK8 _ _ ?_
  refine cT ?_
  refine wp_seq_k fun K9 hK9 => ?_
  refine cPlain ?_
  refine sv 23 (.slice A h.length C) .of ?_
  simp only [List.set_cons_zero, List.set_cons_succ]
  refine sv 24 (.slice (some ⟨vb, 0, none⟩) 1 1) .of ?_
  simp only [List.set_cons_zero, List.set_cons_succ]
  refine xAppE 25 (.tmp 23) (.tmp 24) 54 70 .i64 2 16 rfl Try.underlying54 (by kernel_rfl) (by omega) base (.slice A h.length C) (spS h) (by kernel_rfl) O (.slice (some ⟨vb, 0, none⟩) 1 1) (spS [s]) (by kernel_rfl) VB ?va1_1 ?va1_2 ?va1_3 ?_
  case va1_1 => simp only [spS_len, List.length_append, List.length_cons, List.length_nil]; omega
  case va1_2 => simp only [spS_len, List.length_append, List.length_cons, List.length_nil]; unfold maxLen; omega
  case va1_3 => omega
  intro va1 w1 rva1 e1
  have ze1 := e1.size
  have EV : Ev (fun i => Value.ownBlock (.slice A h.length C) = some i) w w1 := Ev.trans EV e1
  rw [← spS_app] at rva1
  replace O := rva1
  clear rva1 e1
  have lO_1 := O.ge
  simp only [List.set_cons_zero, List.set_cons_succ]
  refine sv 6 (va1) .of ?_
  simp only [List.set_cons_zero, List.set_cons_succ]
  refine wpList_nil ?_
  refine hK9 _ _ ?_
  refine wp_ret ?_
  (try simp only [Exit.then, Exit.inBlock])
  refine bodyPost_ret (v := va1) rT rfl ?_
  exact ⟨_, rfl, O, EV⟩

theorem ins_new (h : List (Int × Int)) (s : Int × Int) (g c vb base : Nat) (full : List (Value × Value)) (w : World) (F : Cel w g 70 (pairC full)) (ht : full.take h.length = h.map encP) (hfc : full.length = c) (hc : h.length ≤ c) (hcm : c ≤ maxLen) (hbg : base ≤ g) (VB : Cel w vb 70 (pairC [encP s])) (hne : vb ≠ g) (hbw : base ≤ w.heap.size) (hl : h.length ≤ 100000) (i : Nat) (hi : i < h.length) (hr : c < h.length + 1) :
    Calls Try.prog 89 #[.slice (some ⟨g, 0, none⟩) h.length c, .int .i64 ((i : Nat) : Int), .slice (some ⟨vb, 0, none⟩) 1 1] w fun e w' => ∃ r, e = .returned r ∧ OwnE 70 .i64 2 base w' r (spS (h.take i ++ [s] ++ h.drop i)) ∧ Ev (fun i => Value.ownBlock (.slice (some ⟨g, 0, none⟩) h.length c) = some i) w w' := by
  skip
  have hgl := Cel.lt F
  have hvl := Cel.lt VB
  have hVS : SrcP w (.slice (some ⟨vb, 0, none⟩) 1 1) [encP s] := .inr ⟨vb, 0, 1, rfl, fun j v hv => by rw [Nat.zero_add]; exact Cel.cell VB j v hv⟩
  have EV := Ev.refl (fun i => Value.ownBlock (.slice (some ⟨g, 0, none⟩) h.length c) = some i) w
  go_enter Try.func89, Try.ntmps89
  refine wp_seq_k fun K1 hK1 => ?_
  refine cPlain ?_
  refine sv 6 (.slice none 0 0) .of ?_
  simp only [List.set_cons_zero, List.set_cons_succ]
  refine wpList_nil ?_
  refine hK1 _ _ ?_
  refine wp_seq_k fun K2 hK2 => ?_
  refine cPlain ?_
  refine sv 10 (.slice (some ⟨g, 0, none⟩) h.length c) .of ?_
  simp only [List.set_cons_zero, List.set_cons_succ]
  refine sv 11 (.int .i64 ((i : Nat) : Int)) .of ?_
  simp only [List.set_cons_zero, List.set_cons_succ]
  refine sv 12 (sliceE 2 (.slice (some ⟨g, 0, none⟩) h.length c) i h.length) (Val.slcX 54 (.tmp 10) (some (.tmp 11)) none rfl ⟨g, 0, none⟩ h.length c (by kernel_rfl) i h.length (.inl (by kernel_rfl)) (.inr ⟨rfl, rfl⟩) (by omega) (by omega) Try.underlying54 (by kernel_rfl)) ?_
  simp only [List.set_cons_zero, List.set_cons_succ]
  refine wpList_nil ?_
  refine hK2 _ _ ?_
  refine wp_seq_k fun K3 hK3 => ?_
  refine cPlain ?_
  refine sv 13 (.slice (some ⟨vb, 0, none⟩) 1 1) .of ?_
  simp only [List.set_cons_zero, List.set_cons_succ]
  refine sv 14 (.int .i64 (1 : Int)) .of ?_
  simp only [List.set_cons_zero, List.set_cons_succ]
  refine sv 7 (.int .i64 (1 : Int)) .of ?_
  simp only [List.set_cons_zero, List.set_cons_succ]
  refine wpList_nil ?_
  refine hK3 _ _ ?_
  refine wp_seq_k fun K4 hK4 => ?_
  refine wp_seq_k fun K5 hK5 => ?_
  refine cPlain ?_
  refine sv 15 (.int .i64 (1 : Int)) .of ?_
  simp only [List.set_cons_zero, List.set_cons_succ]
  refine sv 16 (.bool false) (Val.cmp .eql 3 _ (.tmp 15) _ rfl .i64 (1 : Int) 0 (by kernel_rfl) (by kernel_rfl) (by simp) _ (by first | (simp [cmpB]; done) | (simp [cmpB]; omega))) ?_
  simp only [List.set_cons_zero, List.set_cons_succ]
  refine wpList_nil ?_
  refine hK5 _ _ ?_
  refine cF ?_
  refine wp_skip ?_
  refine hK4 _ _ ?_
  refine wp_seq_k fun K6 hK6 => ?_
  refine cPlain ?_
  refine sv 18 (.slice (some ⟨g, 0, none⟩) h.length c) .of ?_
  simp only [List.set_cons_zero, List.set_cons_succ]
  refine sv 19 (.int .i64 (h.length : Int)) .of ?_
  simp only [List.set_cons_zero, List.set_cons_succ]
  refine sv 8 (.int .i64 (h.length : Int)) .of ?_
  simp only [List.set_cons_zero, List.set_cons_succ]
  refine wpList_nil ?_
  refine hK6 _ _ ?_
  refine wp_seq_k fun K7 hK7 => ?_
  refine wp_seq_k fun K8 hK8 => ?_
  refine cPlain ?_
  refine sv 20 (.int .i64 ((i : Nat) : Int)) .of ?_
  simp only [List.set_cons_zero, List.set_cons_succ]
  refine sv 21 (.int .i64 (h.length : Int)) .of ?_
  simp only [List.set_cons_zero, List.set_cons_succ]
  refine sv 22 (.bool false) (Val.cmp .eql 3 _ (.tmp 20) (.tmp 21) rfl .i64 ((i : Nat) : Int) (h.length : Int) (by kernel_rfl) (by kernel_rfl) (by simp) _ (by first | (simp [cmpB]; done) | (simp [cmpB]; omega))) ?_
  simp only [List.set_cons_zero, List.set_cons_succ]
  refine wpList_nil ?_
  refine hK8 _ _ ?_
  refine cF ?_
  refine wp_skip ?_
  refine hK7 _ _ ?_
  refine wp_seq_k fun K9 hK9 => ?_
  refine wp_seq_k fun K10 hK10 => ?_
  refine cPlain ?_
  refine sv 26 (.int .i64 (h.length : Int)) .of ?_
  simp only [List.set_cons_zero, List.set_cons_succ]
  refine sv 27 (.int .i64 (1 : Int)) .of ?_
  simp only [List.set_cons_zero, List.set_cons_succ]
  refine sv 28 (.int .i64 ((h.length + 1 : Nat) : Int)) (Val.as (Val.add 3 _ (.tmp 26) (.tmp 27) rfl (h.length : Int) (1 : Int) (by kernel_rfl) (by kernel_rfl) (by omega)) (congrArg (Value.int .i64) (by omega))) ?_
  simp only [List.set_cons_zero, List.set_cons_succ]
  refine sv 29 (.slice (some ⟨g, 0, none⟩) h.length c) .of ?_
  simp only [List.set_cons_zero, List.set_cons_succ]
  refine sv 30 (.int .i64 ((c : Nat) : Int)) .of ?_
  simp only [List.set_cons_zero, List.set_cons_succ]
  refine sv 31 (.bool true) (Val.cmp .gtr 3 _ (.tmp 28) (.tmp 30) rfl .i64 ((h.length + 1 : Nat) : Int) ((c : Nat) : Int) (by kernel_rfl) (by kernel_rfl) (by simp) _ (by first | (simp [cmpB]; done) | (simp [cmpB]; omega))) ?_
  simp only [List.set_cons_zero, List.set_cons_succ]
  refine wpList_nil ?_
  refine hK10 _ _ ?_
  refine cT ?_
  refine wp_seq_k fun K11 hK11 => ?_
  refine cPlain ?_
  refine sv 32 (.slice (some ⟨g, 0, none⟩) h.length c) .of ?_
  simp only [List.set_cons_zero, List.set_cons_succ]
  refine sv 33 (.int .i64 ((i : Nat) : Int)) .of ?_
  simp only [List.set_cons_zero, List.set_cons_succ]
  refine sv 34 (.slice (some ⟨g, 0, none⟩) i c) (Val.slc0 (z := 2) 54 (.tmp 32) (some (.tmp 33)) rfl g h.length c (by kernel_rfl) i (by kernel_rfl) (by omega) Try.underlying54 (by kernel_rfl)) ?_
  simp only [List.set_cons_zero, List.set_cons_succ]
  refine sv 35 (.int .i64 (h.length : Int)) .of ?_
  simp only [List.set_cons_zero, List.set_cons_succ]
  refine sv 36 (.int .i64 (1 : Int)) .of ?_
  simp only [List.set_cons_zero, List.set_cons_succ]
  refine sv 37 (.int .i64 ((h.length + 1 : Nat) : Int)) (Val.as (Val.add 3 _ (.tmp 35) (.tmp 36) rfl (h.length : Int) (1 : Int) (by kernel_rfl) (by kernel_rfl) (by omega)) (congrArg (Value.int .i64) (by omega))) ?_
  simp only [List.set_cons_zero, List.set_cons_succ]
  refine sv 38 (.int .i64 ((i : Nat) : Int)) .of ?_
  simp only [List.set_cons_zero, List.set_cons_succ]
  refine sv 39 (.int .i64 ((h.length + 1 - i : Nat) : Int)) (Val.as (Val.sub 3 _ (.tmp 37) (.tmp 38) rfl ((h.length + 1 : Nat) : Int) ((i : Nat) : Int) (by kernel_rfl) (by kernel_rfl) (by omega)) (congrArg (Value.int .i64) (by omega))) ?_
  simp only [List.set_cons_zero, List.set_cons_succ]
  refine xAppMk 40 (.tmp 34) (.tmp 39) 54 3 70 .i64 rfl Try.underlying54 Try.underlying3 (by kernel_rfl) g 70 full i c (by kernel_rfl) (h.length + 1 - i) (by kernel_rfl) F (by omega) (by omega) (by omega) (by omega) ?_
  intro c2 w1 hc2a hc2b F2 hE hsz
  have e1 : E0 w w1 := hE
  have ze1 := e1.size
  replace F := F.e0 e1
  replace VB := VB.e0 e1
  have EV : Ev (fun i => Value.ownBlock (.slice (some ⟨g, 0, none⟩) h.length c) = some i) w w1 := Ev.then0 EV e1
  clear e1
  have hl2 : (full.take i ++ List.replicate (c2 - i) (encP (0, 0))).length = c2 := by simp only [List.length_append, List.length_take, List.length_replicate]; omega
  have hl3 : (overP (full.take i ++ List.replicate (c2 - i) (encP (0, 0))) i ([encP s].take 1)).length = c2 := by rw [overP_len (by rw [hl2]; simp; omega), hl2]
  simp only [List.set_cons_zero, List.set_cons_succ]
  refine sv 9 (.slice (some ⟨w.heap.size, 0, none⟩) (i + (h.length + 1 - i)) c2) .of ?_
  simp only [List.set_cons_zero, List.set_cons_succ]
  refine wpList_nil ?_
  refine hK11 _ _ ?_
  refine wp_seq_k fun K12 hK12 => ?_
  refine cPlain ?_
  refine sv 41 (.slice (some ⟨w.heap.size, 0, none⟩) (i + (h.length + 1 - i)) c2) .of ?_
  simp only [List.set_cons_zero, List.set_cons_succ]
  refine sv 42 (.int .i64 ((i : Nat) : Int)) .of ?_
  simp only [List.set_cons_zero, List.set_cons_succ]
  refine sv 43 (sliceE 2 (.slice (some ⟨w.heap.size, 0, none⟩) (i + (h.length + 1 - i)) c2) i (i + (h.length + 1 - i))) (Val.slcX 54 (.tmp 41) (some (.tmp 42)) none rfl ⟨w.heap.size, 0, none⟩ (i + (h.length + 1 - i)) c2 (by kernel_rfl) i (i + (h.length + 1 - i)) (.inl (by kernel_rfl)) (.inr ⟨rfl, rfl⟩) (by omega) (by omega) Try.underlying54 (by kernel_rfl)) ?_
  simp only [List.set_cons_zero, List.set_cons_succ]
  refine sv 44 (.slice (some ⟨vb, 0, none⟩) 1 1) .of ?_
  simp only [List.set_cons_zero, List.set_cons_succ]
  refine xCopyF 45 (.tmp 43) (.tmp 44) 54 54 70 rfl Try.underlying54 (by kernel_rfl) w.heap.size 70 (full.take i ++ List.replicate (c2 - i) (encP (0, 0))) (i + (h.length + 1 - i)) c2 i (i + (h.length + 1 - i)) (by kernel_rfl) (.slice (some ⟨vb, 0, none⟩) 1 1) (by kernel_rfl) F2 (by omega) (by rw [hl2]; omega) hl2 [encP s] (.inr ⟨vb, 0, 1, rfl, fun j v hv => by rw [Nat.zero_add]; exact Cel.cell VB j v hv⟩) 1 (by simp; omega) ((onesP.enc [s]).take 1) ?_
  intro w2 tF45
  have e2 := tF45.e
  have ze2 := e2.size
  have F_ := F.ev e2 (show ¬ (g = w.heap.size) by omega)
  have VB_ := VB.ev e2 (show ¬ (vb = w.heap.size) by omega)
  have EV : Ev (fun i => Value.ownBlock (.slice (some ⟨g, 0, none⟩) h.length c) = some i) w w2 := Ev.thenO EV e2 (by first | exact .inl rfl | (right; omega))
  replace F := F_; clear F_
  replace VB := VB_; clear VB_
  clear e2
  have F2 : Cel w2 w.heap.size 70 (pairC (overP (full.take i ++ List.replicate (c2 - i) (encP (0, 0))) i ([encP s].take 1))) := tF45.c
  simp only [List.set_cons_zero, List.set_cons_succ]
  refine wpList_nil ?_
  refine hK12 _ _ ?_
  refine wp_seq_k fun K13 hK13 => ?_
  have e3 := drew_e0 w2
  refine zg (fun w_ => Cel w_ g 70 (pairC full) ∧ Cel w_ vb 70 (pairC [encP s]) ∧ Ev (fun i => Value.ownBlock (.slice (some ⟨g, 0, none⟩) h.length c) = some i) w w_ ∧ w2.heap.size ≤ w_.heap.size) (fun w_ => Cel w_ g 70 (pairC full) ∧ Cel w_ vb 70 (pairC [encP s]) ∧ Ev (fun i => Value.ownBlock (.slice (some ⟨g, 0, none⟩) h.length c) = some i) w w_ ∧ Cel w_ w.heap.size 70 (pairC (overP (full.take i ++ List.replicate (c2 - i) (encP (0, 0))) i ([encP s].take 1))) ∧ w2.heap.size ≤ w_.heap.size) 100000 9 ⟨F.e0 e3, VB.e0 e3, Ev.then0 EV e3, F2.e0 e3, Nat.le_refl _⟩ ?_
  clear F VB EV F2
  clear e3
  intro w3
  rintro ⟨F, VB, EV, F2, z1⟩
  refine zv 0 46 (.slice (some ⟨w.heap.size, 0, none⟩) (i + (h.length + 1 - i)) c2) (fun _ _ => .of) ⟨F, VB, EV, by omega⟩ ?_
  simp only [List.set_cons_zero, List.set_cons_succ]
  refine zv 1 47 (.int .i64 ((i : Nat) : Int)) (fun _ _ => .of) ⟨F, VB, EV, by omega⟩ ?_
  simp only [List.set_cons_zero, List.set_cons_succ]
  refine zv 2 48 (.int .i64 (1 : Int)) (fun _ _ => .of) ⟨F, VB, EV, by omega⟩ ?_
  simp only [List.set_cons_zero, List.set_cons_succ]
  refine zv 3 49 (.int .i64 ((i + 1 : Nat) : Int)) (fun _ ⟨F, VB, EV, z1⟩ => Val.as (Val.add 3 _ (.tmp 47) (.tmp 48) rfl ((i : Nat) : Int) (1 : Int) (by kernel_rfl) (by kernel_rfl) (by omega)) (congrArg (Value.int .i64) (by omega))) ⟨F, VB, EV, by omega⟩ ?_
  simp only [List.set_cons_zero, List.set_cons_succ]
  refine zv 4 50 (sliceE 2 (.slice (some ⟨w.heap.size, 0, none⟩) (i + (h.length + 1 - i)) c2) (i + 1) (i + (h.length + 1 - i))) (fun _ ⟨F, VB, EV, z1⟩ => Val.slcX 54 (.tmp 46) (some (.tmp 49)) none rfl ⟨w.heap.size, 0, none⟩ (i + (h.length + 1 - i)) c2 (by kernel_rfl) (i + 1) (i + (h.length + 1 - i)) (.inl (by kernel_rfl)) (.inr ⟨rfl, rfl⟩) (by omega) (by omega) Try.underlying54 (by kernel_rfl)) ⟨F, VB, EV, by omega⟩ ?_
  simp only [List.set_cons_zero, List.set_cons_succ]
  refine zv 5 51 (.slice (some ⟨g, 0, none⟩) h.length c) (fun _ _ => .of) ⟨F, VB, EV, by omega⟩ ?_
  simp only [List.set_cons_zero, List.set_cons_succ]
  refine zv 6 52 (.int .i64 ((i : Nat) : Int)) (fun _ _ => .of) ⟨F, VB, EV, by omega⟩ ?_
  simp only [List.set_cons_zero, List.set_cons_succ]
  refine zv 7 53 (sliceE 2 (.slice (some ⟨g, 0, none⟩) h.length c) i h.length) (fun _ ⟨F, VB, EV, z1⟩ => Val.slcX 54 (.tmp 51) (some (.tmp 52)) none rfl ⟨g, 0, none⟩ h.length c (by kernel_rfl) i h.length (.inl (by kernel_rfl)) (.inr ⟨rfl, rfl⟩) (by omega) (by omega) Try.underlying54 (by kernel_rfl)) ⟨F, VB, EV, by omega⟩ ?_
  simp only [List.set_cons_zero, List.set_cons_succ]
  refine zo1 8 rfl ?_
  refine xCopyF 54 (.tmp 50) (.tmp 53) 54 54 70 rfl Try.underlying54 (by kernel_rfl) w.heap.size 70 (overP (full.take i ++ List.replicate (c2 - i) (encP (0, 0))) i ([encP s].take 1)) (i + (h.length + 1 - i)) c2 (i + 1) (i + (h.length + 1 - i)) (by kernel_rfl) (sliceE 2 (.slice (some ⟨g, 0, none⟩) h.length c) i h.length) (by kernel_rfl) F2 (by omega) (by rw [hl3]; omega) hl3 ((full.drop i).take (h.length - i)) (FB.src F h.length c i h.length (by omega) (by omega) hfc) (h.length - i) (by simp only [List.length_take, List.length_drop]; omega) (onesP_seg ht _ _ _ (by omega)) ?_
  intro w4 tF54
  have e4 := tF54.e
  have ze4 := e4.size
  have F_ := F.ev e4 (show ¬ (g = w.heap.size) by omega)
  have VB_ := VB.ev e4 (show ¬ (vb = w.heap.size) by omega)
  have EV : Ev (fun i => Value.ownBlock (.slice (some ⟨g, 0, none⟩) h.length c) = some i) w w4 := Ev.thenO EV e4 (by first | exact .inl rfl | (right; omega))
  replace F := F_; clear F_
  replace VB := VB_; clear VB_
  clear e4
  have F2 : Cel w4 w.heap.size 70 (pairC (overP (overP (full.take i ++ List.replicate (c2 - i) (encP (0, 0))) i ([encP s].take 1)) (i + 1) (((full.drop i).take (h.length - i)).take (h.length - i)))) := tF54.c
  refine ze 8 ⟨F, VB, EV, by omega⟩ ?_
  simp only [List.set_cons_zero, List.set_cons_succ]
  refine zd (by kernel_rfl) ?_ _
  refine hK13 _ _ ?_
  refine wp_seq_k fun K14 hK14 => ?_
  refine cPlain ?_
  refine sv 55 (.slice (some ⟨w.heap.size, 0, none⟩) (i + (h.length + 1 - i)) c2) .of ?_
  simp only [List.set_cons_zero, List.set_cons_succ]
  refine sv 6 (.slice (some ⟨w.heap.size, 0, none⟩) (i + (h.length + 1 - i)) c2) .of ?_
  simp only [List.set_cons_zero, List.set_cons_succ]
  refine wpList_nil ?_
  refine hK14 _ _ ?_
  refine wp_ret ?_
  (try simp only [Exit.then, Exit.inBlock])
  refine bodyPost_ret (v := .slice (some ⟨w.heap.size, 0, none⟩) (i + (h.length + 1 - i)) c2) rT rfl ?_
  have hfin := ins_grow (s := s) (c := c2) ht hi (by omega) (by omega) (encP (0, 0))
  rw [show h.length + 1 = i + (h.length + 1 - i) by omega] at hfin
  refine ⟨_, rfl, FB.owne F2 hfin (by rw [repl_len h i i s (by omega) (by omega)]; omega) ?_ (by omega) hc2b (by omega), EV⟩
  rw [overP_len (by rw [hl3]; simp only [List.length_take, List.length_drop]; omega), hl3]

theorem ins_place (h : List (Int × Int)) (s : Int × Int) (g c vb base : Nat) (full : List (Value × Value)) (w : World) (F : Cel w g 70 (pairC full)) (ht : full.take h.length = h.map encP) (hfc : full.length = c) (hc : h.length ≤ c) (hcm : c ≤ maxLen) (hbg : base ≤ g) (VB : Cel w vb 70 (pairC [encP s])) (hne : vb ≠ g) (hbw : base ≤ w.heap.size) (hl : h.length ≤ 100000) (i : Nat) (hi : i < h.length) (hr : h.length + 1 ≤ c) :
    Calls Try.prog 89 #[.slice (some ⟨g, 0, none⟩) h.length c, .int .i64 ((i : Nat) : Int), .slice (some ⟨vb, 0, none⟩) 1 1] w fun e w' => ∃ r, e = .returned r ∧ OwnE 70 .i64 2 base w' r (spS (h.take i ++ [s] ++ h.drop i)) ∧ Ev (fun i => Value.ownBlock (.slice (some ⟨g, 0, none⟩) h.length c) = some i) w w' := by
  have hl3 : (overP full (i + 1) (((full.drop i).take (h.length + 1 - i)).take (h.length - i))).length = c := by rw [overP_len (by simp only [List.length_take, List.length_drop]; omega), hfc]
  have hgl := Cel.lt F
  have hvl := Cel.lt VB
  have hVS : SrcP w (.slice (some ⟨vb, 0, none⟩) 1 1) [encP s] := .inr ⟨vb, 0, 1, rfl, fun j v hv => by rw [Nat.zero_add]; exact Cel.cell VB j v hv⟩
  have EV := Ev.refl (fun i => Value.ownBlock (.slice (some ⟨g, 0, none⟩) h.length c) = some i) w
  go_enter Try.func89, Try.ntmps89
  refine wp_seq_k fun K1 hK1 => ?_
  refine cPlain ?_
  refine sv 6 (.slice none 0 0) .of ?_
  simp only [List.set_cons_zero, List.set_cons_succ]
  refine wpList_nil ?_
  refine hK1 _ _ ?_
  refine wp_seq_k fun K2 hK2 => ?_
  refine cPlain ?_
  refine sv 10 (.slice (some ⟨g, 0, none⟩) h.length c) .of ?_
  simp only [List.set_cons_zero, List.set_cons_succ]
  refine sv 11 (.int .i64 ((i : Nat) : Int)) .of ?_
  simp only [List.set_cons_zero, List.set_cons_succ]
  refine sv 12 (sliceE 2 (.slice (some ⟨g, 0, none⟩) h.length c) i h.length) (Val.slcX 54 (.tmp 10) (some (.tmp 11)) none rfl ⟨g, 0, none⟩ h.length c (by kernel_rfl) i h.length (.inl (by kernel_rfl)) (.inr ⟨rfl, rfl⟩) (by omega) (by omega) Try.underlying54 (by kernel_rfl)) ?_
  simp only [List.set_cons_zero, List.set_cons_succ]
  refine wpList_nil ?_
  refine hK2 _ _ ?_
  refine wp_seq_k fun K3 hK3 => ?_
  refine cPlain ?_
  refine sv 13 (.slice (some ⟨vb, 0, none⟩) 1 1) .of ?_
  simp only [List.set_cons_zero, List.set_cons_succ]
  refine sv 14 (.int .i64 (1 : Int)) .of ?_
  simp only [List.set_cons_zero, List.set_cons_succ]
  refine sv 7 (.int .i64 (1 : Int)) .of ?_
  simp only [List.set_cons_zero, List.set_cons_succ]
  refine wpList_nil ?_
  refine hK3 _ _ ?_
  refine wp_seq_k fun K4 hK4 => ?_
  refine wp_seq_k fun K5 hK5 => ?_
  refine cPlain ?_
  refine sv 15 (.int .i64 (1 : Int)) .of ?_
  simp only [List.set_cons_zero, List.set_cons_succ]
  refine sv 16 (.bool false) (Val.cmp .eql 3 _ (.tmp 15) _ rfl .i64 (1 : Int) 0 (by kernel_rfl) (by kernel_rfl) (by simp) _ (by first | (simp [cmpB]; done) | (simp [cmpB]; omega))) ?_
  simp only [List.set_cons_zero, List.set_cons_succ]
  refine wpList_nil ?_
  refine hK5 _ _ ?_
  refine cF ?_
  refine wp_skip ?_
  refine hK4 _ _ ?_
  refine wp_seq_k fun K6 hK6 => ?_
  refine cPlain ?_
  refine sv 18 (.slice (some ⟨g, 0, none⟩) h.length c) .of ?_
  simp only [List.set_cons_zero, List.set_cons_succ]
  refine sv 19 (.int .i64 (h.length : Int)) .of ?_
  simp only [List.set_cons_zero, List.set_cons_succ]
  refine sv 8 (.int .i64 (h.length : Int)) .of ?_
  simp only [List.set_cons_zero, List.set_cons_succ]
  refine wpList_nil ?_
  refine hK6 _ _ ?_
  refine wp_seq_k fun K7 hK7 => ?_
  refine wp_seq_k fun K8 hK8 => ?_
  refine cPlain ?_
  refine sv 20 (.int .i64 ((i : Nat) : Int)) .of ?_
  simp only [List.set_cons_zero, List.set_cons_succ]
  refine sv 21 (.int .i64 (h.length : Int)) .of ?_
  simp only [List.set_cons_zero, List.set_cons_succ]
  refine sv 22 (.bool false) (Val.cmp .eql 3 _ (.tmp 20) (.tmp 21) rfl .i64 ((i : Nat) : Int) (h.length : Int) (by kernel_rfl) (by kernel_rfl) (by simp) _ (by first | (simp [cmpB]; done) | (simp [cmpB]; omega))) ?_
  simp only [List.set_cons_zero, List.set_cons_succ]
  refine wpList_nil ?_
  refine hK8 _ _ ?_
  refine cF ?_
  refine wp_skip ?_
  refine hK7 _ _ ?_
  refine wp_seq_k fun K9 hK9 => ?_
  refine wp_seq_k fun K10 hK10 => ?_
  refine cPlain ?_
  refine sv 26 (.int .i64 (h.length : Int)) .of ?_
  simp only [List.set_cons_zero, List.set_cons_succ]
  refine sv 27 (.int .i64 (1 : Int)) .of ?_
  simp only [List.set_cons_zero, List.set_cons_succ]
  refine sv 28 (.int .i64 ((h.length + 1 : Nat) : Int)) (Val.as (Val.add 3 _ (.tmp 26) (.tmp 27) rfl (h.length : Int) (1 : Int) (by kernel_rfl) (by kernel_rfl) (by omega)) (congrArg (Value.int .i64) (by omega))) ?_
  simp only [List.set_cons_zero, List.set_cons_succ]
  refine sv 29 (.slice (some ⟨g, 0, none⟩) h.length c) .of ?_
  simp only [List.set_cons_zero, List.set_cons_succ]
  refine sv 30 (.int .i64 ((c : Nat) : Int)) .of ?_
  simp only [List.set_cons_zero, List.set_cons_succ]
  refine sv 31 (.bool false) (Val.cmp .gtr 3 _ (.tmp 28) (.tmp 30) rfl .i64 ((h.length + 1 : Nat) : Int) ((c : Nat) : Int) (by kernel_rfl) (by kernel_rfl) (by simp) _ (by first | (simp [cmpB]; done) | (simp [cmpB]; omega))) ?_
  simp only [List.set_cons_zero, List.set_cons_succ]
  refine wpList_nil ?_
  refine hK10 _ _ ?_
  refine cF ?_
  refine wp_skip ?_
  refine hK9 _ _ ?_
  refine wp_seq_k fun K11 hK11 => ?_
  refine cPlain ?_
  refine sv 56 (.slice (some ⟨g, 0, none⟩) h.length c) .of ?_
  simp only [List.set_cons_zero, List.set_cons_succ]
  refine sv 57 (.int .i64 (h.length : Int)) .of ?_
  simp only [List.set_cons_zero, List.set_cons_succ]
  refine sv 58 (.int .i64 (1 : Int)) .of ?_
  simp only [List.set_cons_zero, List.set_cons_succ]
  refine sv 59 (.int .i64 ((h.length + 1 : Nat) : Int)) (Val.as (Val.add 3 _ (.tmp 57) (.tmp 58) rfl (h.length : Int) (1 : Int) (by kernel_rfl) (by kernel_rfl) (by omega)) (congrArg (Value.int .i64) (by omega))) ?_
  simp only [List.set_cons_zero, List.set_cons_succ]
  refine sv 60 (.slice (some ⟨g, 0, none⟩) (h.length + 1) c) (Val.slc0 (z := 2) 54 (.tmp 56) (some (.tmp 59)) rfl g h.length c (by kernel_rfl) (h.length + 1) (by kernel_rfl) (by omega) Try.underlying54 (by kernel_rfl)) ?_
  simp only [List.set_cons_zero, List.set_cons_succ]
  refine sv 0 (.slice (some ⟨g, 0, none⟩) (h.length + 1) c) .of ?_
  simp only [List.set_cons_zero, List.set_cons_succ]
  refine wpList_nil ?_
  refine hK11 _ _ ?_
  refine wp_seq_k fun K12 hK12 => ?_
  refine wp_seq_k fun K13 hK13 => ?_
  refine cPlain ?_
  refine sv 61 (.slice (some ⟨vb, 0, none⟩) 1 1) .of ?_
  simp only [List.set_cons_zero, List.set_cons_succ]
  refine sv 62 (.slice (some ⟨g, 0, none⟩) (h.length + 1) c) .of ?_
  simp only [List.set_cons_zero, List.set_cons_succ]
  refine sv 63 (.int .i64 ((i : Nat) : Int)) .of ?_
  simp only [List.set_cons_zero, List.set_cons_succ]
  refine sv 64 (.int .i64 (1 : Int)) .of ?_
  simp only [List.set_cons_zero, List.set_cons_succ]
  refine sv 65 (.int .i64 ((i + 1 : Nat) : Int)) (Val.as (Val.add 3 _ (.tmp 63) (.tmp 64) rfl ((i : Nat) : Int) (1 : Int) (by kernel_rfl) (by kernel_rfl) (by omega)) (congrArg (Value.int .i64) (by omega))) ?_
  simp only [List.set_cons_zero, List.set_cons_succ]
  refine sv 66 (sliceE 2 (.slice (some ⟨g, 0, none⟩) (h.length + 1) c) (i + 1) (h.length + 1)) (Val.slcX 54 (.tmp 62) (some (.tmp 65)) none rfl ⟨g, 0, none⟩ (h.length + 1) c (by kernel_rfl) (i + 1) (h.length + 1) (.inl (by kernel_rfl)) (.inr ⟨rfl, rfl⟩) (by omega) (by omega) Try.underlying54 (by kernel_rfl)) ?_
  simp only [List.set_cons_zero, List.set_cons_succ]
  refine sv 67 (.bool false) (Val.ovl 90 (.tmp 61) (.tmp 66) _ rfl Try.func90 (by kernel_rfl) (by kernel_rfl) (by kernel_rfl) 54 4 70 (by kernel_rfl) Try.underlying54 (by kernel_rfl) vb 1 1 g (h.length + 1) c (i + 1) (h.length + 1) (by kernel_rfl) (by kernel_rfl) VB F hne (by omega)) ?_
  simp only [List.set_cons_zero, List.set_cons_succ]
  refine sv 68 (.bool true) .of ?_
  simp only [List.set_cons_zero, List.set_cons_succ]
  refine wpList_nil ?_
  refine hK13 _ _ ?_
  refine cT ?_
  refine wp_seq_k fun K14 hK14 => ?_
  have e1 := drew_e0 w
  refine zg (fun w_ => Cel w_ vb 70 (pairC [encP s]) ∧ Ev (fun i => Value.ownBlock (.slice (some ⟨g, 0, none⟩) h.length c) = some i) w w_ ∧ w.heap.size ≤ w_.heap.size) (fun w_ => Cel w_ g 70 (pairC full) ∧ Cel w_ vb 70 (pairC [encP s]) ∧ Ev (fun i => Value.ownBlock (.slice (some ⟨g, 0, none⟩) h.length c) = some i) w w_ ∧ w.heap.size ≤ w_.heap.size) 100000 9 ⟨F.e0 e1, VB.e0 e1, Ev.then0 EV e1, Nat.le_refl _⟩ ?_
  clear F VB EV
  clear e1
  intro w1
  rintro ⟨F, VB, EV, z1⟩
  refine zv 0 69 (.slice (some ⟨g, 0, none⟩) (h.length + 1) c) (fun _ _ => .of) ⟨VB, EV, by omega⟩ ?_
  simp only [List.set_cons_zero, List.set_cons_succ]
  refine zv 1 70 (.int .i64 ((i : Nat) : Int)) (fun _ _ => .of) ⟨VB, EV, by omega⟩ ?_
  simp only [List.set_cons_zero, List.set_cons_succ]
  refine zv 2 71 (.int .i64 (1 : Int)) (fun _ _ => .of) ⟨VB, EV, by omega⟩ ?_
  simp only [List.set_cons_zero, List.set_cons_succ]
  refine zv 3 72 (.int .i64 ((i + 1 : Nat) : Int)) (fun _ ⟨VB, EV, z1⟩ => Val.as (Val.add 3 _ (.tmp 70) (.tmp 71) rfl ((i : Nat) : Int) (1 : Int) (by kernel_rfl) (by kernel_rfl) (by omega)) (congrArg (Value.int .i64) (by omega))) ⟨VB, EV, by omega⟩ ?_
  simp only [List.set_cons_zero, List.set_cons_succ]
  refine zv 4 73 (sliceE 2 (.slice (some ⟨g, 0, none⟩) (h.length + 1) c) (i + 1) (h.length + 1)) (fun _ ⟨VB, EV, z1⟩ => Val.slcX 54 (.tmp 69) (some (.tmp 72)) none rfl ⟨g, 0, none⟩ (h.length + 1) c (by kernel_rfl) (i + 1) (h.length + 1) (.inl (by kernel_rfl)) (.inr ⟨rfl, rfl⟩) (by omega) (by omega) Try.underlying54 (by kernel_rfl)) ⟨VB, EV, by omega⟩ ?_
  simp only [List.set_cons_zero, List.set_cons_succ]
  refine zv 5 74 (.slice (some ⟨g, 0, none⟩) (h.length + 1) c) (fun _ _ => .of) ⟨VB, EV, by omega⟩ ?_
  simp only [List.set_cons_zero, List.set_cons_succ]
  refine zv 6 75 (.int .i64 ((i : Nat) : Int)) (fun _ _ => .of) ⟨VB, EV, by omega⟩ ?_
  simp only [List.set_cons_zero, List.set_cons_succ]
  refine zv 7 76 (sliceE 2 (.slice (some ⟨g, 0, none⟩) (h.length + 1) c) i (h.length + 1)) (fun _ ⟨VB, EV, z1⟩ => Val.slcX 54 (.tmp 74) (some (.tmp 75)) none rfl ⟨g, 0, none⟩ (h.length + 1) c (by kernel_rfl) i (h.length + 1) (.inl (by kernel_rfl)) (.inr ⟨rfl, rfl⟩) (by omega) (by omega) Try.underlying54 (by kernel_rfl)) ⟨VB, EV, by omega⟩ ?_
  simp only [List.set_cons_zero, List.set_cons_succ]
  refine zo1 8 rfl ?_
  refine xCopyF 77 (.tmp 73) (.tmp 76) 54 54 70 rfl Try.underlying54 (by kernel_rfl) g 70 full (h.length + 1) c (i + 1) (h.length + 1) (by kernel_rfl) (sliceE 2 (.slice (some ⟨g, 0, none⟩) (h.length + 1) c) i (h.length + 1)) (by kernel_rfl) F (by omega) (by rw [hfc]; omega) hfc ((full.drop i).take (h.length + 1 - i)) (FB.src F (h.length + 1) c i (h.length + 1) (by omega) (by omega) hfc) (h.length - i) (by simp only [List.length_take, List.length_drop]; omega) (onesP_seg ht _ _ _ (by omega)) ?_
  intro w2 tF77
  have e2 := tF77.e
  have ze2 := e2.size
  have VB_ := VB.ev e2 (show ¬ (vb = g) by omega)
  have EV : Ev (fun i => Value.ownBlock (.slice (some ⟨g, 0, none⟩) h.length c) = some i) w w2 := Ev.thenO EV e2 (by first | exact .inl rfl | (right; omega))
  replace VB := VB_; clear VB_
  clear e2
  have F : Cel w2 g 70 (pairC (overP full (i + 1) (((full.drop i).take (h.length + 1 - i)).take (h.length - i)))) := tF77.c
  refine ze 8 ⟨VB, EV, by omega⟩ ?_
  simp only [List.set_cons_zero, List.set_cons_succ]
  refine zd (by kernel_rfl) ?_ _
  refine hK14 _ _ ?_
  refine wp_seq_k fun K15 hK15 => ?_
  refine cPlain ?_
  refine sv 78 (.slice (some ⟨g, 0, none⟩) (h.length + 1) c) .of ?_
  simp only [List.set_cons_zero, List.set_cons_succ]
  refine sv 79 (.int .i64 ((i : Nat) : Int)) .of ?_
  simp only [List.set_cons_zero, List.set_cons_succ]
  refine sv 80 (sliceE 2 (.slice (some ⟨g, 0, none⟩) (h.length + 1) c) i (h.length + 1)) (Val.slcX 54 (.tmp 78) (some (.tmp 79)) none rfl ⟨g, 0, none⟩ (h.length + 1) c (by kernel_rfl) i (h.length + 1) (.inl (by kernel_rfl)) (.inr ⟨rfl, rfl⟩) (by omega) (by omega) Try.underlying54 (by kernel_rfl)) ?_
  simp only [List.set_cons_zero, List.set_cons_succ]
  refine sv 81 (.slice (some ⟨vb, 0, none⟩) 1 1) .of ?_
  simp only [List.set_cons_zero, List.set_cons_succ]
  refine xCopyF 82 (.tmp 80) (.tmp 81) 54 54 70 rfl Try.underlying54 (by kernel_rfl) g 70 (overP full (i + 1) (((full.drop i).take (h.length + 1 - i)).take (h.length - i))) (h.length + 1) c i (h.length + 1) (by kernel_rfl) (.slice (some ⟨vb, 0, none⟩) 1 1) (by kernel_rfl) F (by omega) (by rw [hl3]; omega) hl3 [encP s] (.inr ⟨vb, 0, 1, rfl, fun j v hv => by rw [Nat.zero_add]; exact Cel.cell VB j v hv⟩) 1 (by simp; omega) ((onesP.enc [s]).take 1) ?_
  intro w3 tF82
  have e3 := tF82.e
  have ze3 := e3.size
  have VB_ := VB.ev e3 (show ¬ (vb = g) by omega)
  have EV : Ev (fun i => Value.ownBlock (.slice (some ⟨g, 0, none⟩) h.length c) = some i) w w3 := Ev.thenO EV e3 (by first | exact .inl rfl | (right; omega))
  replace VB := VB_; clear VB_
  clear e3
  have F : Cel w3 g 70 (pairC (overP (overP full (i + 1) (((full.drop i).take (h.length + 1 - i)).take (h.length - i))) i ([encP s].take 1))) := tF82.c
  simp only [List.set_cons_zero, List.set_cons_succ]
  refine wpList_nil ?_
  refine hK15 _ _ ?_
  refine wp_seq_k fun K16 hK16 => ?_
  refine cPlain ?_
  refine sv 83 (.slice (some ⟨g, 0, none⟩) (h.length + 1) c) .of ?_
  simp only [List.set_cons_zero, List.set_cons_succ]
  refine sv 6 (.slice (some ⟨g, 0, none⟩) (h.length + 1) c) .of ?_
  simp only [List.set_cons_zero, List.set_cons_succ]
  refine wpList_nil ?_
  refine hK16 _ _ ?_
  refine wp_ret ?_
  (try simp only [Exit.then, Exit.inBlock])
  refine bodyPost_ret (v := .slice (some ⟨g, 0, none⟩) (h.length + 1) c) rT rfl ?_
  refine ⟨_, rfl, FB.owne F (ins_room (s := s) ht hi (by omega)) (by rw [repl_len h i i s (by omega) (by omega)]; omega) ?_ (by omega) hcm (by omega), EV⟩
  rw [overP_len (by rw [hl3]; simp; omega), hl3]

theorem span_se {w : World} {vb : Nat} {t : TypeId} {s : Int × Int} (VB : Cel w vb t (pairC [encP s])) : SE .i64 2 w (.slice (some ⟨vb, 0, none⟩) 1 1) (spS [s]) :=
  (OwnE.ofCel (e := t) (base := 0) (ds := spS [s]) VB (spS_lens _) rfl (Nat.zero_le _) (by show 1 ≤ maxLen; unfold maxLen; omega)).se
/-- slices.Insert, one span -/
theorem ins_any (h : List (Int × Int)) (s : Int × Int) (v : Value) (base vb i : Nat) (w : World) (O : OwnE 70 .i64 2 base w v (spS h)) (VB : Cel w vb 70 (pairC [encP s])) (hne : v.ownBlock ≠ some vb) (hb : base ≤ w.heap.size) (hl : h.length ≤ 100000) (hi : i ≤ h.length) :
    Calls Try.prog 89 #[v, .int .i64 ((i : Nat) : Int), .slice (some ⟨vb, 0, none⟩) 1 1] w fun e w' => ∃ r, e = .returned r ∧ OwnE 70 .i64 2 base w' r (spS (h.take i ++ [s] ++ h.drop i)) ∧ Ev (fun i => v.ownBlock = some i) w w' := by
  by_cases he : i = h.length
  · subst he
    rw [List.take_length, List.drop_length, List.append_nil]
    exact ins_end h s v base vb w O (span_se VB) hb hl
  · rcases O.fb with ⟨_, rfl⟩ | ⟨g, c, rest, rfl, hg, F, hfl, hc, hcm⟩
    · simp only [List.length_nil] at hi he; omega
    · have hne' : vb ≠ g := fun e => hne (by rw [e]; rfl)
      have ht : (h.map encP ++ rest).take h.length = h.map encP := by rw [List.take_left' (by simp)]
      by_cases hr : h.length + 1 ≤ c
      · exact ins_place h s g c vb base _ w F ht hfl hc hcm hg VB hne' hb hl i (by omega) hr
      · exact ins_new h s g c vb base _ w F ht hfl hc hcm hg VB hne' hb hl i (by omega) (by omega)

theorem repl_ins (h : List (Int × Int)) (s : Int × Int) (v : Value) (base vb i : Nat) (w : World) (O : OwnE 70 .i64 2 base w v (spS h)) (VB : Cel w vb 70 (pairC [encP s])) (hne : v.ownBlock ≠ some vb) (hb : base ≤ w.heap.size) (hl : h.length ≤ 100000) (hi : i ≤ h.length) :
    Calls Try.prog 61 #[v, .int .i64 ((i : Nat) : Int), .int .i64 ((i : Nat) : Int), .slice (some ⟨vb, 0, none⟩) 1 1] w fun e w' => ∃ r, e = .returned r ∧ OwnE 70 .i64 2 base w' r (spS (h.take i ++ [s] ++ h.drop i)) ∧ Ev (fun i => v.ownBlock = some i) w w' := by
  obtain ⟨A, C, hv, hc⟩ := O.len
  rw [spS_len] at hv hc
  subst hv
  have lO := O.ge
  have hvl := Cel.lt VB
  go_enter Try.func61, Try.ntmps61
  refine wp_seq_k fun K1 hK1 => ?_
  refine cPlain ?_
  refine sv 8 (.slice none 0 0) .of ?_
  simp only [List.set_cons_zero, List.set_cons_succ]
  refine wpList_nil ?_
  refine hK1 _ _ ?_
  refine wp_seq_k fun K2 hK2 => ?_
  refine cPlain ?_
  refine sv 15 (.slice A h.length C) .of ?_
  simp only [List.set_cons_zero, List.set_cons_succ]
  refine sv 16 (.int .i64 ((i : Nat) : Int)) .of ?_
  simp only [List.set_cons_zero, List.set_cons_succ]
  refine sv 17 (.int .i64 ((i : Nat) : Int)) .of ?_
  simp only [List.set_cons_zero, List.set_cons_succ]
  refine sv 18 (sliceE 2 (.slice A h.length C) i i) (Val.slcE 54 (.tmp 15) (some (.tmp 16)) (some (.tmp 17)) rfl (.slice A h.length C) (by kernel_rfl) O.se i i (.inl (by kernel_rfl)) (.inl (by kernel_rfl)) (Nat.le_refl _) (by rw [spS_len]; exact hi) Try.underlying54 (by kernel_rfl)) ?_
  simp only [List.set_cons_zero, List.set_cons_succ]
  refine wpList_nil ?_
  refine hK2 _ _ ?_
  refine wp_seq_k fun K3 hK3 => ?_
  refine wp_seq_k fun K4 hK4 => ?_
  refine cPlain ?_
  refine sv 19 (.int .i64 ((i : Nat) : Int)) .of ?_
  simp only [List.set_cons_zero, List.set_cons_succ]
  refine sv 20 (.int .i64 ((i : Nat) : Int)) .of ?_
  simp only [List.set_cons_zero, List.set_cons_succ]
  refine sv 21 (.bool true) (Val.cmp .eql 3 _ (.tmp 19) (.tmp 20) rfl .i64 ((i : Nat) : Int) ((i : Nat) : Int) (by kernel_rfl) (by kernel_rfl) (by simp) _ (by first | (simp [cmpB]; done) | (simp [cmpB]; omega))) ?_
  simp only [List.set_cons_zero, List.set_cons_succ]
  refine wpList_nil ?_
  refine hK4 _ _ ?_
  refine cT ?_
  refine wp_seq_k fun K5 hK5 => ?_
  refine cPlain ?_
  refine sv 22 (.slice A h.length C) .of ?_
  simp only [List.set_cons_zero, List.set_cons_succ]
  refine sv 23 (.int .i64 ((i : Nat) : Int)) .of ?_
  simp only [List.set_cons_zero, List.set_cons_succ]
  refine sv 24 (.slice (some ⟨vb, 0, none⟩) 1 1) .of ?_
  simp only [List.set_cons_zero, List.set_cons_succ]
  refine xCall 25 89 #[.slice A h.length C, .int .i64 ((i : Nat) : Int), .slice (some ⟨vb, 0, none⟩) 1 1] (by kernel_rfl) ?_
  refine (ins_any h s _ base vb i w O VB hne (by omega) hl hi).mono ?_
  rintro en w1 ⟨r, rfl, hO, hEV⟩
  have e1 := hEV
  have ze1 := e1.size
  clear e1
  refine ⟨r, rfl, ?_⟩
  simp only [List.set_cons_zero, List.set_cons_succ]
  refine sv 8 (r) .of ?_
  simp only [List.set_cons_zero, List.set_cons_succ]
  refine wpList_nil ?_
  refine hK5 _ _ ?_
  refine wp_ret ?_
  (try simp only [Exit.then, Exit.inBlock])
  refine bodyPost_ret (v := r) rT rfl ?_
  exact ⟨_, rfl, hO, hEV⟩

theorem repl_last (h : List (Int × Int)) (s : Int × Int) (g c vb base : Nat) (full : List (Value × Value)) (w : World) (F : Cel w g 70 (pairC full)) (ht : full.take h.length = h.map encP) (hfc : full.length = c) (hc : h.length ≤ c) (hcm : c ≤ maxLen) (hbg : base ≤ g) (VB : Cel w vb 70 (pairC [encP s])) (hne : vb ≠ g) (hbw : base ≤ w.heap.size) (hl : h.length ≤ 100000) (i : Nat) (hi : i < h.length) :
    Calls Try.prog 61 #[.slice (some ⟨g, 0, none⟩) h.length c, .int .i64 ((i : Nat) : Int), .int .i64 ((h.length : Nat) : Int), .slice (some ⟨vb, 0, none⟩) 1 1] w fun e w' => ∃ r, e = .returned r ∧ OwnE 70 .i64 2 base w' r (spS (h.take i ++ [s] ++ h.drop h.length)) ∧ Ev (fun i => Value.ownBlock (.slice (some ⟨g, 0, none⟩) h.length c) = some i) w w' := by
  have hl1 : (overP full i [encP s]).length = c := by rw [overP_len (by simp; omega), hfc]
  have hgl := Cel.lt F
  have hvl := Cel.lt VB
  have hVS : SrcP w (.slice (some ⟨vb, 0, none⟩) 1 1) [encP s] := .inr ⟨vb, 0, 1, rfl, fun j v hv => by rw [Nat.zero_add]; exact Cel.cell VB j v hv⟩
  have EV := Ev.refl (fun i => Value.ownBlock (.slice (some ⟨g, 0, none⟩) h.length c) = some i) w
  go_enter Try.func61, Try.ntmps61
  refine wp_seq_k fun K1 hK1 => ?_
  refine cPlain ?_
  refine sv 8 (.slice none 0 0) .of ?_
  simp only [List.set_cons_zero, List.set_cons_succ]
  refine wpList_nil ?_
  refine hK1 _ _ ?_
  refine wp_seq_k fun K2 hK2 => ?_
  refine cPlain ?_
  refine sv 15 (.slice (some ⟨g, 0, none⟩) h.length c) .of ?_
  simp only [List.set_cons_zero, List.set_cons_succ]
  refine sv 16 (.int .i64 ((i : Nat) : Int)) .of ?_
  simp only [List.set_cons_zero, List.set_cons_succ]
  refine sv 17 (.int .i64 ((h.length : Nat) : Int)) .of ?_
  simp only [List.set_cons_zero, List.set_cons_succ]
  refine sv 18 (sliceE 2 (.slice (some ⟨g, 0, none⟩) h.length c) i h.length) (Val.slcX 54 (.tmp 15) (some (.tmp 16)) (some (.tmp 17)) rfl ⟨g, 0, none⟩ h.length c (by kernel_rfl) i h.length (.inl (by kernel_rfl)) (.inl (by kernel_rfl)) (by omega) (by omega) Try.underlying54 (by kernel_rfl)) ?_
  simp only [List.set_cons_zero, List.set_cons_succ]
  refine wpList_nil ?_
  refine hK2 _ _ ?_
  refine wp_seq_k fun K3 hK3 => ?_
  refine wp_seq_k fun K4 hK4 => ?_
  refine cPlain ?_
  refine sv 19 (.int .i64 ((i : Nat) : Int)) .of ?_
  simp only [List.set_cons_zero, List.set_cons_succ]
  refine sv 20 (.int .i64 ((h.length : Nat) : Int)) .of ?_
  simp only [List.set_cons_zero, List.set_cons_succ]
  refine sv 21 (.bool false) (Val.cmp .eql 3 _ (.tmp 19) (.tmp 20) rfl .i64 ((i : Nat) : Int) ((h.length : Nat) : Int) (by kernel_rfl) (by kernel_rfl) (by simp) _ (by first | (simp [cmpB]; done) | (simp [cmpB]; omega))) ?_
  simp only [List.set_cons_zero, List.set_cons_succ]
  refine wpList_nil ?_
  refine hK4 _ _ ?_
  refine cF ?_
  refine wp_skip ?_
  refine hK3 _ _ ?_
  refine wp_seq_k fun K5 hK5 => ?_
  refine wp_seq_k fun K6 hK6 => ?_
  refine cPlain ?_
  refine sv 26 (.int .i64 ((h.length : Nat) : Int)) .of ?_
  simp only [List.set_cons_zero, List.set_cons_succ]
  refine sv 27 (.slice (some ⟨g, 0, none⟩) h.length c) .of ?_
  simp only [List.set_cons_zero, List.set_cons_succ]
  refine sv 28 (.int .i64 (h.length : Int)) .of ?_
  simp only [List.set_cons_zero, List.set_cons_succ]
  refine sv 29 (.bool true) (Val.cmp .eql 3 _ (.tmp 26) (.tmp 28) rfl .i64 ((h.length : Nat) : Int) (h.length : Int) (by kernel_rfl) (by kernel_rfl) (by simp) _ (by first | (simp [cmpB]; done) | (simp [cmpB]; omega))) ?_
  simp only [List.set_cons_zero, List.set_cons_succ]
  refine wpList_nil ?_
  refine hK6 _ _ ?_
  refine cT ?_
  refine wp_seq_k fun K7 hK7 => ?_
  refine cPlain ?_
  refine sv 30 (.slice (some ⟨g, 0, none⟩) h.length c) .of ?_
  simp only [List.set_cons_zero, List.set_cons_succ]
  refine sv 31 (.int .i64 ((i : Nat) : Int)) .of ?_
  simp only [List.set_cons_zero, List.set_cons_succ]
  refine sv 32 (.slice (some ⟨g, 0, none⟩) i c) (Val.slc0 (z := 2) 54 (.tmp 30) (some (.tmp 31)) rfl g h.length c (by kernel_rfl) i (by kernel_rfl) (by omega) Try.underlying54 (by kernel_rfl)) ?_
  simp only [List.set_cons_zero, List.set_cons_succ]
  refine sv 33 (.slice (some ⟨vb, 0, none⟩) 1 1) .of ?_
  simp only [List.set_cons_zero, List.set_cons_succ]
  refine xAppF 34 (.tmp 32) (.tmp 33) 54 70 rfl Try.underlying54 (by kernel_rfl) g 70 full i c (by kernel_rfl) vb 0 1 1 (by kernel_rfl) F hfc [encP s] (fun j v hv => by rw [Nat.zero_add]; exact Cel.cell VB j v hv) rfl (onesP.enc [s]) (by omega) ?_
  intro w1 tA
  have e1 := tA.e
  have ze1 := e1.size
  have VB_ := VB.ev e1 (show ¬ (vb = g) by omega)
  have EV : Ev (fun i => Value.ownBlock (.slice (some ⟨g, 0, none⟩) h.length c) = some i) w w1 := Ev.thenO EV e1 (by first | exact .inl rfl | (right; omega))
  replace VB := VB_; clear VB_
  clear e1
  have F : Cel w1 g 70 (pairC (overP full i [encP s])) := tA.c
  simp only [List.set_cons_zero, List.set_cons_succ]
  refine sv 9 (.slice (some ⟨g, 0, none⟩) (i + 1) c) .of ?_
  simp only [List.set_cons_zero, List.set_cons_succ]
  refine wpList_nil ?_
  refine hK7 _ _ ?_
  refine wp_seq_k fun K8 hK8 => ?_
  refine wp_seq_k fun K9 hK9 => ?_
  refine cPlain ?_
  refine sv 35 (.slice (some ⟨g, 0, none⟩) (i + 1) c) .of ?_
  simp only [List.set_cons_zero, List.set_cons_succ]
  refine sv 36 (.int .i64 ((i + 1 : Nat) : Int)) .of ?_
  simp only [List.set_cons_zero, List.set_cons_succ]
  refine sv 37 (.slice (some ⟨g, 0, none⟩) h.length c) .of ?_
  simp only [List.set_cons_zero, List.set_cons_succ]
  refine sv 38 (.int .i64 (h.length : Int)) .of ?_
  simp only [List.set_cons_zero, List.set_cons_succ]
  refine sv 39 (.bool (decide (((i + 1 : Nat) : Int) < (h.length : Int)))) (Val.cmp .lss 3 _ (.tmp 36) (.tmp 38) rfl .i64 ((i + 1 : Nat) : Int) (h.length : Int) (by kernel_rfl) (by kernel_rfl) (by simp) _ rfl) ?_
  simp only [List.set_cons_zero, List.set_cons_succ]
  refine wpList_nil ?_
  refine hK9 _ _ ?_
  refine cDec (((i + 1 : Nat) : Int) < (h.length : Int)) (by kernel_rfl) (fun c39 => ?_) (fun c39 => ?_)
  · skip
    refine cPlain ?_
    refine sv 40 (.slice (some ⟨g, 0, none⟩) h.length c) .of ?_
    simp only [List.set_cons_zero, List.set_cons_succ]
    refine sv 41 (.slice (some ⟨g, 0, none⟩) (i + 1) c) .of ?_
    simp only [List.set_cons_zero, List.set_cons_succ]
    refine sv 42 (.int .i64 ((i + 1 : Nat) : Int)) .of ?_
    simp only [List.set_cons_zero, List.set_cons_succ]
    refine sv 43 (sliceE 2 (.slice (some ⟨g, 0, none⟩) h.length c) (i + 1) h.length) (Val.slcX 54 (.tmp 40) (some (.tmp 42)) none rfl ⟨g, 0, none⟩ h.length c (by kernel_rfl) (i + 1) h.length (.inl (by kernel_rfl)) (.inr ⟨rfl, rfl⟩) (by omega) (by omega) Try.underlying54 (by kernel_rfl)) ?_
    simp only [List.set_cons_zero, List.set_cons_succ]
    refine xClearF (.tmp 43) 54 70 rfl Try.underlying54 (by kernel_rfl) g 70 (overP full i [encP s]) h.length c (i + 1) h.length (by kernel_rfl) F (by omega) (by rw [hl1]; omega) hl1 ?_
    intro w2 tC
    have e2 := tC.e
    have ze2 := e2.size
    have VB_ := VB.ev e2 (show ¬ (vb = g) by omega)
    have EV : Ev (fun i => Value.ownBlock (.slice (some ⟨g, 0, none⟩) h.length c) = some i) w w2 := Ev.thenO EV e2 (by first | exact .inl rfl | (right; omega))
    replace VB := VB_; clear VB_
    clear e2
    have F : Cel w2 g 70 (pairC (overP (overP full i [encP s]) (i + 1) (List.replicate (h.length - (i + 1)) (encP (0, 0))))) := tC.c
    refine wpList_nil ?_
    refine hK8 _ _ ?_
    refine wp_seq_k fun K10 hK10 => ?_
    refine cPlain ?_
    refine sv 44 (.slice (some ⟨g, 0, none⟩) (i + 1) c) .of ?_
    simp only [List.set_cons_zero, List.set_cons_succ]
    refine sv 8 (.slice (some ⟨g, 0, none⟩) (i + 1) c) .of ?_
    simp only [List.set_cons_zero, List.set_cons_succ]
    refine wpList_nil ?_
    refine hK10 _ _ ?_
    refine wp_ret ?_
    (try simp only [Exit.then, Exit.inBlock])
    refine bodyPost_ret (v := .slice (some ⟨g, 0, none⟩) (i + 1) c) rT rfl ?_
    refine ⟨_, rfl, FB.owne F (repl_end (s := s) ht hi (by omega) (encP (0, 0)) _ (by omega)) (by rw [repl_len h i h.length s (by omega) (by omega)]; omega) ?_ (by omega) hcm (by omega), EV⟩
    rw [overP_len (by rw [hl1]; simp; omega), hl1]
  · skip
    refine wp_skip ?_
    refine hK8 _ _ ?_
    refine wp_seq_k fun K11 hK11 => ?_
    refine cPlain ?_
    refine sv 44 (.slice (some ⟨g, 0, none⟩) (i + 1) c) .of ?_
    simp only [List.set_cons_zero, List.set_cons_succ]
    refine sv 8 (.slice (some ⟨g, 0, none⟩) (i + 1) c) .of ?_
    simp only [List.set_cons_zero, List.set_cons_succ]
    refine wpList_nil ?_
    refine hK11 _ _ ?_
    refine wp_ret ?_
    (try simp only [Exit.then, Exit.inBlock])
    refine bodyPost_ret (v := .slice (some ⟨g, 0, none⟩) (i + 1) c) rT rfl ?_
    exact ⟨_, rfl, FB.owne F (repl_end1 (s := s) ht hi (by omega)) (by rw [repl_len h i h.length s (by omega) (by omega)]; omega) hl1 (by omega) hcm (by omega), EV⟩

theorem repl_in (h : List (Int × Int)) (s : Int × Int) (g c vb base : Nat) (full : List (Value × Value)) (w : World) (F : Cel w g 70 (pairC full)) (ht : full.take h.length = h.map encP) (hfc : full.length = c) (hc : h.length ≤ c) (hcm : c ≤ maxLen) (hbg : base ≤ g) (VB : Cel w vb 70 (pairC [encP s])) (hne : vb ≠ g) (hbw : base ≤ w.heap.size) (hl : h.length ≤ 100000) (i j : Nat) (hi : i < j) (hj : j < h.length) :
    Calls Try.prog 61 #[.slice (some ⟨g, 0, none⟩) h.length c, .int .i64 ((i : Nat) : Int), .int .i64 ((j : Nat) : Int), .slice (some ⟨vb, 0, none⟩) 1 1] w fun e w' => ∃ r, e = .returned r ∧ OwnE 70 .i64 2 base w' r (spS (h.take i ++ [s] ++ h.drop j)) ∧ Ev (fun i => Value.ownBlock (.slice (some ⟨g, 0, none⟩) h.length c) = some i) w w' := by
  have hl1 : (overP full i ([encP s].take 1)).length = c := by rw [overP_len (by simp; omega), hfc]
  have hl2 : ((((overP full i ([encP s].take 1)).drop j).take (h.length - j)).take (h.length - j)).length = h.length - j := by simp only [List.length_take, List.length_drop, hl1]; omega
  have hl3 : (overP (overP full i ([encP s].take 1)) (i + 1) ((((overP full i ([encP s].take 1)).drop j).take (h.length - j)).take (h.length - j))).length = c := by rw [overP_len (by rw [hl1, hl2]; omega), hl1]
  have hgl := Cel.lt F
  have hvl := Cel.lt VB
  have hVS : SrcP w (.slice (some ⟨vb, 0, none⟩) 1 1) [encP s] := .inr ⟨vb, 0, 1, rfl, fun j v hv => by rw [Nat.zero_add]; exact Cel.cell VB j v hv⟩
  have EV := Ev.refl (fun i => Value.ownBlock (.slice (some ⟨g, 0, none⟩) h.length c) = some i) w
  go_enter Try.func61, Try.ntmps61
  refine wp_seq_k fun K1 hK1 => ?_
  refine cPlain ?_
  refine sv 8 (.slice none 0 0) .of ?_
  simp only [List.set_cons_zero, List.set_cons_succ]
  refine wpList_nil ?_
  refine hK1 _ _ ?_
  refine wp_seq_k fun K2 hK2 => ?_
  refine cPlain ?_
  refine sv 15 (.slice (some ⟨g, 0, none⟩) h.length c) .of ?_
  simp only [List.set_cons_zero, List.set_cons_succ]
  refine sv 16 (.int .i64 ((i : Nat) : Int)) .of ?_
  simp only [List.set_cons_zero, List.set_cons_succ]
  refine sv 17 (.int .i64 ((j : Nat) : Int)) .of ?_
  simp only [List.set_cons_zero, List.set_cons_succ]
  refine sv 18 (sliceE 2 (.slice (some ⟨g, 0, none⟩) h.length c) i j) (Val.slcX 54 (.tmp 15) (some (.tmp 16)) (some (.tmp 17)) rfl ⟨g, 0, none⟩ h.length c (by kernel_rfl) i j (.inl (by kernel_rfl)) (.inl (by kernel_rfl)) (by omega) (by omega) Try.underlying54 (by kernel_rfl)) ?_
  simp only [List.set_cons_zero, List.set_cons_succ]
  refine wpList_nil ?_
  refine hK2 _ _ ?_
  refine wp_seq_k fun K3 hK3 => ?_
  refine wp_seq_k fun K4 hK4 => ?_
  refine cPlain ?_
  refine sv 19 (.int .i64 ((i : Nat) : Int)) .of ?_
  simp only [List.set_cons_zero, List.set_cons_succ]
  refine sv 20 (.int .i64 ((j : Nat) : Int)) .of ?_
  simp only [List.set_cons_zero, List.set_cons_succ]
  refine sv 21 (.bool false) (Val.cmp .eql 3 _ (.tmp 19) (.tmp 20) rfl .i64 ((i : Nat) : Int) ((j : Nat) : Int) (by kernel_rfl) (by kernel_rfl) (by simp) _ (by first | (simp [cmpB]; done) | (simp [cmpB]; omega))) ?_
  simp only [List.set_cons_zero, List.set_cons_succ]
  refine wpList_nil ?_
  refine hK4 _ _ ?_
  refine cF ?_
  refine wp_skip ?_
  refine hK3 _ _ ?_
  refine wp_seq_k fun K5 hK5 => ?_
  refine wp_seq_k fun K6 hK6 => ?_
  refine cPlain ?_
  refine sv 26 (.int .i64 ((j : Nat) : Int)) .of ?_
  simp only [List.set_cons_zero, List.set_cons_succ]
  refine sv 27 (.slice (some ⟨g, 0, none⟩) h.length c) .of ?_
  simp only [List.set_cons_zero, List.set_cons_succ]
  refine sv 28 (.int .i64 (h.length : Int)) .of ?_
  simp only [List.set_cons_zero, List.set_cons_succ]
  refine sv 29 (.bool false) (Val.cmp .eql 3 _ (.tmp 26) (.tmp 28) rfl .i64 ((j : Nat) : Int) (h.length : Int) (by kernel_rfl) (by kernel_rfl) (by simp) _ (by first | (simp [cmpB]; done) | (simp [cmpB]; omega))) ?_
  simp only [List.set_cons_zero, List.set_cons_succ]
  refine wpList_nil ?_
  refine hK6 _ _ ?_
  refine cF ?_
  refine wp_skip ?_
  refine hK5 _ _ ?_
  refine wp_seq_k fun K7 hK7 => ?_
  have e1 := drew_e0 w
  refine zg (fun w_ => Cel w_ g 70 (pairC full) ∧ Cel w_ vb 70 (pairC [encP s]) ∧ Ev (fun i => Value.ownBlock (.slice (some ⟨g, 0, none⟩) h.length c) = some i) w w_ ∧ w.heap.size ≤ w_.heap.size) (fun w_ => Cel w_ g 70 (pairC full) ∧ Cel w_ vb 70 (pairC [encP s]) ∧ Ev (fun i => Value.ownBlock (.slice (some ⟨g, 0, none⟩) h.length c) = some i) w w_ ∧ w.heap.size ≤ w_.heap.size) 100000 13 ⟨F.e0 e1, VB.e0 e1, Ev.then0 EV e1, Nat.le_refl _⟩ ?_
  clear F VB EV
  clear e1
  intro w1
  rintro ⟨F, VB, EV, z1⟩
  refine zv 0 45 (.slice (some ⟨g, 0, none⟩) h.length c) (fun _ _ => .of) ⟨F, VB, EV, by omega⟩ ?_
  simp only [List.set_cons_zero, List.set_cons_succ]
  refine zv 1 46 (.int .i64 ((i : Nat) : Int)) (fun _ _ => .of) ⟨F, VB, EV, by omega⟩ ?_
  simp only [List.set_cons_zero, List.set_cons_succ]
  refine zv 2 47 (.slice (some ⟨g, 0, none⟩) i c) (fun _ ⟨F, VB, EV, z1⟩ => Val.slc0 (z := 2) 54 (.tmp 45) (some (.tmp 46)) rfl g h.length c (by kernel_rfl) i (by kernel_rfl) (by omega) Try.underlying54 (by kernel_rfl)) ⟨F, VB, EV, by omega⟩ ?_
  simp only [List.set_cons_zero, List.set_cons_succ]
  refine zv 3 48 (.int .i64 ((i : Nat) : Int)) (fun _ _ => .of) ⟨F, VB, EV, by omega⟩ ?_
  simp only [List.set_cons_zero, List.set_cons_succ]
  refine zv 4 49 (.slice (some ⟨vb, 0, none⟩) 1 1) (fun _ _ => .of) ⟨F, VB, EV, by omega⟩ ?_
  simp only [List.set_cons_zero, List.set_cons_succ]
  refine zv 5 50 (.int .i64 (1 : Int)) (fun _ _ => .of) ⟨F, VB, EV, by omega⟩ ?_
  simp only [List.set_cons_zero, List.set_cons_succ]
  refine zv 6 51 (.int .i64 ((i + 1 : Nat) : Int)) (fun _ ⟨F, VB, EV, z1⟩ => Val.as (Val.add 3 _ (.tmp 48) (.tmp 50) rfl ((i : Nat) : Int) (1 : Int) (by kernel_rfl) (by kernel_rfl) (by omega)) (congrArg (Value.int .i64) (by omega))) ⟨F, VB, EV, by omega⟩ ?_
  simp only [List.set_cons_zero, List.set_cons_succ]
  refine zv 7 52 (.slice (some ⟨g, 0, none⟩) h.length c) (fun _ _ => .of) ⟨F, VB, EV, by omega⟩ ?_
  simp only [List.set_cons_zero, List.set_cons_succ]
  refine zv 8 53 (.int .i64 ((j : Nat) : Int)) (fun _ _ => .of) ⟨F, VB, EV, by omega⟩ ?_
  simp only [List.set_cons_zero, List.set_cons_succ]
  refine zv 9 54 (sliceE 2 (.slice (some ⟨g, 0, none⟩) h.length c) j h.length) (fun _ ⟨F, VB, EV, z1⟩ => Val.slcX 54 (.tmp 52) (some (.tmp 53)) none rfl ⟨g, 0, none⟩ h.length c (by kernel_rfl) j h.length (.inl (by kernel_rfl)) (.inr ⟨rfl, rfl⟩) (by omega) (by omega) Try.underlying54 (by kernel_rfl)) ⟨F, VB, EV, by omega⟩ ?_
  simp only [List.set_cons_zero, List.set_cons_succ]
  refine zv 10 55 (.int .i64 ((h.length - j : Nat) : Int)) (fun _ _ => .of) ⟨F, VB, EV, by omega⟩ ?_
  simp only [List.set_cons_zero, List.set_cons_succ]
  refine zv 11 56 (.int .i64 ((i + 1 + (h.length - j) : Nat) : Int)) (fun _ ⟨F, VB, EV, z1⟩ => Val.as (Val.add 3 _ (.tmp 51) (.tmp 55) rfl ((i + 1 : Nat) : Int) ((h.length - j : Nat) : Int) (by kernel_rfl) (by kernel_rfl) (by omega)) (congrArg (Value.int .i64) (by omega))) ⟨F, VB, EV, by omega⟩ ?_
  simp only [List.set_cons_zero, List.set_cons_succ]
  refine zv 12 10 (.int .i64 ((i + 1 + (h.length - j) : Nat) : Int)) (fun _ _ => .of) ⟨F, VB, EV, by omega⟩ ?_
  simp only [List.set_cons_zero, List.set_cons_succ]
  refine zd (by kernel_rfl) ?_ _
  refine hK7 _ _ ?_
  refine wp_seq_k fun K8 hK8 => ?_
  refine wp_seq_k fun K9 hK9 => ?_
  refine cPlain ?_
  refine sv 57 (.int .i64 ((i + 1 + (h.length - j) : Nat) : Int)) .of ?_
  simp only [List.set_cons_zero, List.set_cons_succ]
  refine sv 58 (.slice (some ⟨g, 0, none⟩) h.length c) .of ?_
  simp only [List.set_cons_zero, List.set_cons_succ]
  refine sv 59 (.int .i64 ((c : Nat) : Int)) .of ?_
  simp only [List.set_cons_zero, List.set_cons_succ]
  refine sv 60 (.bool false) (Val.cmp .gtr 3 _ (.tmp 57) (.tmp 59) rfl .i64 ((i + 1 + (h.length - j) : Nat) : Int) ((c : Nat) : Int) (by kernel_rfl) (by kernel_rfl) (by simp) _ (by first | (simp [cmpB]; done) | (simp [cmpB]; omega))) ?_
  simp only [List.set_cons_zero, List.set_cons_succ]
  refine wpList_nil ?_
  refine hK9 _ _ ?_
  refine cF ?_
  refine wp_skip ?_
  refine hK8 _ _ ?_
  refine wp_seq_k fun K10 hK10 => ?_
  refine cPlain ?_
  refine sv 84 (.slice (some ⟨g, 0, none⟩) h.length c) .of ?_
  simp only [List.set_cons_zero, List.set_cons_succ]
  refine sv 85 (.int .i64 ((i + 1 + (h.length - j) : Nat) : Int)) .of ?_
  simp only [List.set_cons_zero, List.set_cons_succ]
  refine sv 86 (.slice (some ⟨g, 0, none⟩) (i + 1 + (h.length - j)) c) (Val.slc0 (z := 2) 54 (.tmp 84) (some (.tmp 85)) rfl g h.length c (by kernel_rfl) (i + 1 + (h.length - j)) (by kernel_rfl) (by omega) Try.underlying54 (by kernel_rfl)) ?_
  simp only [List.set_cons_zero, List.set_cons_succ]
  refine sv 12 (.slice (some ⟨g, 0, none⟩) (i + 1 + (h.length - j)) c) .of ?_
  simp only [List.set_cons_zero, List.set_cons_succ]
  refine wpList_nil ?_
  refine hK10 _ _ ?_
  refine wp_seq_k fun K11 hK11 => ?_
  refine wp_seq_k fun K12 hK12 => ?_
  refine cPlain ?_
  refine sv 87 (.int .i64 ((i : Nat) : Int)) .of ?_
  simp only [List.set_cons_zero, List.set_cons_succ]
  refine sv 88 (.slice (some ⟨vb, 0, none⟩) 1 1) .of ?_
  simp only [List.set_cons_zero, List.set_cons_succ]
  refine sv 89 (.int .i64 (1 : Int)) .of ?_
  simp only [List.set_cons_zero, List.set_cons_succ]
  refine sv 90 (.int .i64 ((i + 1 : Nat) : Int)) (Val.as (Val.add 3 _ (.tmp 87) (.tmp 89) rfl ((i : Nat) : Int) (1 : Int) (by kernel_rfl) (by kernel_rfl) (by omega)) (congrArg (Value.int .i64) (by omega))) ?_
  simp only [List.set_cons_zero, List.set_cons_succ]
  refine sv 91 (.int .i64 ((j : Nat) : Int)) .of ?_
  simp only [List.set_cons_zero, List.set_cons_succ]
  refine sv 92 (.bool true) (Val.cmp .leq 3 _ (.tmp 90) (.tmp 91) rfl .i64 ((i + 1 : Nat) : Int) ((j : Nat) : Int) (by kernel_rfl) (by kernel_rfl) (by simp) _ (by first | (simp [cmpB]; done) | (simp [cmpB]; omega))) ?_
  simp only [List.set_cons_zero, List.set_cons_succ]
  refine wpList_nil ?_
  refine hK12 _ _ ?_
  refine cT ?_
  refine wp_seq_k fun K13 hK13 => ?_
  refine cPlain ?_
  refine sv 93 (.slice (some ⟨g, 0, none⟩) (i + 1 + (h.length - j)) c) .of ?_
  simp only [List.set_cons_zero, List.set_cons_succ]
  refine sv 94 (.int .i64 ((i : Nat) : Int)) .of ?_
  simp only [List.set_cons_zero, List.set_cons_succ]
  refine sv 95 (sliceE 2 (.slice (some ⟨g, 0, none⟩) (i + 1 + (h.length - j)) c) i (i + 1 + (h.length - j))) (Val.slcX 54 (.tmp 93) (some (.tmp 94)) none rfl ⟨g, 0, none⟩ (i + 1 + (h.length - j)) c (by kernel_rfl) i (i + 1 + (h.length - j)) (.inl (by kernel_rfl)) (.inr ⟨rfl, rfl⟩) (by omega) (by omega) Try.underlying54 (by kernel_rfl)) ?_
  simp only [List.set_cons_zero, List.set_cons_succ]
  refine sv 96 (.slice (some ⟨vb, 0, none⟩) 1 1) .of ?_
  simp only [List.set_cons_zero, List.set_cons_succ]
  refine xCopyF 97 (.tmp 95) (.tmp 96) 54 54 70 rfl Try.underlying54 (by kernel_rfl) g 70 full (i + 1 + (h.length - j)) c i (i + 1 + (h.length - j)) (by kernel_rfl) (.slice (some ⟨vb, 0, none⟩) 1 1) (by kernel_rfl) F (by omega) (by rw [hfc]; omega) hfc [encP s] (.inr ⟨vb, 0, 1, rfl, fun j v hv => by rw [Nat.zero_add]; exact Cel.cell VB j v hv⟩) 1 (by simp; omega) ((onesP.enc [s]).take 1) ?_
  intro w2 tF97
  have e2 := tF97.e
  have ze2 := e2.size
  have VB_ := VB.ev e2 (show ¬ (vb = g) by omega)
  have EV : Ev (fun i => Value.ownBlock (.slice (some ⟨g, 0, none⟩) h.length c) = some i) w w2 := Ev.thenO EV e2 (by first | exact .inl rfl | (right; omega))
  replace VB := VB_; clear VB_
  clear e2
  have F : Cel w2 g 70 (pairC (overP full i ([encP s].take 1))) := tF97.c
  simp only [List.set_cons_zero, List.set_cons_succ]
  refine wpList_nil ?_
  refine hK13 _ _ ?_
  refine wp_seq_k fun K14 hK14 => ?_
  have e3 := drew_e0 w2
  refine zg (fun w_ => Cel w_ vb 70 (pairC [encP s]) ∧ Ev (fun i => Value.ownBlock (.slice (some ⟨g, 0, none⟩) h.length c) = some i) w w_ ∧ w2.heap.size ≤ w_.heap.size) (fun w_ => Cel w_ vb 70 (pairC [encP s]) ∧ Ev (fun i => Value.ownBlock (.slice (some ⟨g, 0, none⟩) h.length c) = some i) w w_ ∧ Cel w_ g 70 (pairC (overP full i ([encP s].take 1))) ∧ w2.heap.size ≤ w_.heap.size) 100000 10 ⟨VB.e0 e3, Ev.then0 EV e3, F.e0 e3, Nat.le_refl _⟩ ?_
  clear VB EV F
  clear e3
  intro w3
  rintro ⟨VB, EV, F, z2⟩
  refine zv 0 98 (.slice (some ⟨g, 0, none⟩) (i + 1 + (h.length - j)) c) (fun _ _ => .of) ⟨VB, EV, by omega⟩ ?_
  simp only [List.set_cons_zero, List.set_cons_succ]
  refine zv 1 99 (.int .i64 ((i : Nat) : Int)) (fun _ _ => .of) ⟨VB, EV, by omega⟩ ?_
  simp only [List.set_cons_zero, List.set_cons_succ]
  refine zv 2 100 (.slice (some ⟨vb, 0, none⟩) 1 1) (fun _ _ => .of) ⟨VB, EV, by omega⟩ ?_
  simp only [List.set_cons_zero, List.set_cons_succ]
  refine zv 3 101 (.int .i64 (1 : Int)) (fun _ _ => .of) ⟨VB, EV, by omega⟩ ?_
  simp only [List.set_cons_zero, List.set_cons_succ]
  refine zv 4 102 (.int .i64 ((i + 1 : Nat) : Int)) (fun _ ⟨VB, EV, z2⟩ => Val.as (Val.add 3 _ (.tmp 99) (.tmp 101) rfl ((i : Nat) : Int) (1 : Int) (by kernel_rfl) (by kernel_rfl) (by omega)) (congrArg (Value.int .i64) (by omega))) ⟨VB, EV, by omega⟩ ?_
  simp only [List.set_cons_zero, List.set_cons_succ]
  refine zv 5 103 (sliceE 2 (.slice (some ⟨g, 0, none⟩) (i + 1 + (h.length - j)) c) (i + 1) (i + 1 + (h.length - j))) (fun _ ⟨VB, EV, z2⟩ => Val.slcX 54 (.tmp 98) (some (.tmp 102)) none rfl ⟨g, 0, none⟩ (i + 1 + (h.length - j)) c (by kernel_rfl) (i + 1) (i + 1 + (h.length - j)) (.inl (by kernel_rfl)) (.inr ⟨rfl, rfl⟩) (by omega) (by omega) Try.underlying54 (by kernel_rfl)) ⟨VB, EV, by omega⟩ ?_
  simp only [List.set_cons_zero, List.set_cons_succ]
  refine zv 6 104 (.slice (some ⟨g, 0, none⟩) h.length c) (fun _ _ => .of) ⟨VB, EV, by omega⟩ ?_
  simp only [List.set_cons_zero, List.set_cons_succ]
  refine zv 7 105 (.int .i64 ((j : Nat) : Int)) (fun _ _ => .of) ⟨VB, EV, by omega⟩ ?_
  simp only [List.set_cons_zero, List.set_cons_succ]
  refine zv 8 106 (sliceE 2 (.slice (some ⟨g, 0, none⟩) h.length c) j h.length) (fun _ ⟨VB, EV, z2⟩ => Val.slcX 54 (.tmp 104) (some (.tmp 105)) none rfl ⟨g, 0, none⟩ h.length c (by kernel_rfl) j h.length (.inl (by kernel_rfl)) (.inr ⟨rfl, rfl⟩) (by omega) (by omega) Try.underlying54 (by kernel_rfl)) ⟨VB, EV, by omega⟩ ?_
  simp only [List.set_cons_zero, List.set_cons_succ]
  refine zo1 9 rfl ?_
  refine xCopyF 107 (.tmp 103) (.tmp 106) 54 54 70 rfl Try.underlying54 (by kernel_rfl) g 70 (overP full i ([encP s].take 1)) (i + 1 + (h.length - j)) c (i + 1) (i + 1 + (h.length - j)) (by kernel_rfl) (sliceE 2 (.slice (some ⟨g, 0, none⟩) h.length c) j h.length) (by kernel_rfl) F (by omega) (by rw [hl1]; omega) hl1 (((overP full i ([encP s].take 1)).drop j).take (h.length - j)) (FB.src F h.length c j h.length (by omega) (by rw [hl1]; omega) hl1) (h.length - j) (by simp only [List.length_take, List.length_drop, hl1]; omega) (onesP_seg (over_set ht (by omega) (by omega)) _ _ _ (by rw [List.length_set]; omega)) ?_
  intro w4 tF107
  have e4 := tF107.e
  have ze4 := e4.size
  have VB_ := VB.ev e4 (show ¬ (vb = g) by omega)
  have EV : Ev (fun i => Value.ownBlock (.slice (some ⟨g, 0, none⟩) h.length c) = some i) w w4 := Ev.thenO EV e4 (by first | exact .inl rfl | (right; omega))
  replace VB := VB_; clear VB_
  clear e4
  have F : Cel w4 g 70 (pairC (overP (overP full i ([encP s].take 1)) (i + 1) ((((overP full i ([encP s].take 1)).drop j).take (h.length - j)).take (h.length - j)))) := tF107.c
  refine ze 9 ⟨VB, EV, by omega⟩ ?_
  simp only [List.set_cons_zero, List.set_cons_succ]
  refine zd (by kernel_rfl) ?_ _
  refine hK14 _ _ ?_
  refine wp_seq_k fun K15 hK15 => ?_
  refine cPlain ?_
  refine sv 108 (.slice (some ⟨g, 0, none⟩) h.length c) .of ?_
  simp only [List.set_cons_zero, List.set_cons_succ]
  refine sv 109 (.int .i64 ((i + 1 + (h.length - j) : Nat) : Int)) .of ?_
  simp only [List.set_cons_zero, List.set_cons_succ]
  refine sv 110 (sliceE 2 (.slice (some ⟨g, 0, none⟩) h.length c) (i + 1 + (h.length - j)) h.length) (Val.slcX 54 (.tmp 108) (some (.tmp 109)) none rfl ⟨g, 0, none⟩ h.length c (by kernel_rfl) (i + 1 + (h.length - j)) h.length (.inl (by kernel_rfl)) (.inr ⟨rfl, rfl⟩) (by omega) (by omega) Try.underlying54 (by kernel_rfl)) ?_
  simp only [List.set_cons_zero, List.set_cons_succ]
  refine xClearF (.tmp 110) 54 70 rfl Try.underlying54 (by kernel_rfl) g 70 (overP (overP full i ([encP s].take 1)) (i + 1) ((((overP full i ([encP s].take 1)).drop j).take (h.length - j)).take (h.length - j))) h.length c (i + 1 + (h.length - j)) h.length (by kernel_rfl) F (by omega) (by rw [hl3]; omega) hl3 ?_
  intro w5 tC
  have e5 := tC.e
  have ze5 := e5.size
  have VB_ := VB.ev e5 (show ¬ (vb = g) by omega)
  have EV : Ev (fun i => Value.ownBlock (.slice (some ⟨g, 0, none⟩) h.length c) = some i) w w5 := Ev.thenO EV e5 (by first | exact .inl rfl | (right; omega))
  replace VB := VB_; clear VB_
  clear e5
  have F : Cel w5 g 70 (pairC (overP (overP (overP full i ([encP s].take 1)) (i + 1) ((((overP full i ([encP s].take 1)).drop j).take (h.length - j)).take (h.length - j))) (i + 1 + (h.length - j)) (List.replicate (h.length - (i + 1 + (h.length - j))) (encP (0, 0))))) := tC.c
  refine wpList_nil ?_
  refine hK15 _ _ ?_
  refine wp_seq_k fun K16 hK16 => ?_
  refine cPlain ?_
  refine sv 111 (.slice (some ⟨g, 0, none⟩) (i + 1 + (h.length - j)) c) .of ?_
  simp only [List.set_cons_zero, List.set_cons_succ]
  refine sv 8 (.slice (some ⟨g, 0, none⟩) (i + 1 + (h.length - j)) c) .of ?_
  simp only [List.set_cons_zero, List.set_cons_succ]
  refine wpList_nil ?_
  refine hK16 _ _ ?_
  refine wp_ret ?_
  (try simp only [Exit.then, Exit.inBlock])
  refine bodyPost_ret (v := .slice (some ⟨g, 0, none⟩) (i + 1 + (h.length - j)) c) rT rfl ?_
  refine ⟨_, rfl, FB.owne F (repl_mid (s := s) ht hi hj (by omega) (encP (0, 0)) _ (by omega)) (by rw [repl_len h i j s (by omega) (by omega)]) ?_ (by omega) hcm (by omega), EV⟩
  rw [overP_len (by rw [hl3]; simp; omega), hl3]

/-- slices.Replace, by one span -/
theorem repl_any (h : List (Int × Int)) (s : Int × Int) (v : Value) (base vb i j : Nat) (w : World) (O : OwnE 70 .i64 2 base w v (spS h)) (VB : Cel w vb 70 (pairC [encP s])) (hne : v.ownBlock ≠ some vb) (hb : base ≤ w.heap.size) (hl : h.length ≤ 100000) (hi : i ≤ j) (hj : j ≤ h.length) :
    Calls Try.prog 61 #[v, .int .i64 ((i : Nat) : Int), .int .i64 ((j : Nat) : Int), .slice (some ⟨vb, 0, none⟩) 1 1] w fun e w' => ∃ r, e = .returned r ∧ OwnE 70 .i64 2 base w' r (spS (h.take i ++ [s] ++ h.drop j)) ∧ Ev (fun i => v.ownBlock = some i) w w' := by
  by_cases he : i = j
  · subst he
    exact repl_ins h s v base vb i w O VB hne hb hl hj
  · rcases O.fb with ⟨_, rfl⟩ | ⟨g, c, rest, rfl, hg, F, hfl, hc, hcm⟩
    · simp only [List.length_nil] at hj; omega
    · have hne' : vb ≠ g := fun e => hne (by rw [e]; rfl)
      have ht : (h.map encP ++ rest).take h.length = h.map encP := by rw [List.take_left' (by simp)]
      by_cases hn : j = h.length
      · subst hn
        exact repl_last h s g c vb base _ w F ht hfl hc hcm hg VB hne' hb hl i (by omega)
      · exact repl_in h s g c vb base _ w F ht hfl hc hcm hg VB hne' hb hl i j (by omega) (by omega)
end Go.Proofs.Ytanggdnmoaflfaa
