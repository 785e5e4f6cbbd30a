/-
  The document's table, reckoned by numbers of many digits: what each step yields.
  No conditions: plain laws.
-/
import Derived.Test.YteaijjefbadnbaaShaTl
namespace Go.Proofs.Yteaijjefbadnbaa
set_option linter.unusedVariables false
set_option linter.unusedSimpArgs false
set_option maxRecDepth 100000
/-- A number's digits of sixteen bits. -/
def dgsR : Nat → Nat → List Nat
  | 0, _ => []
  | f + 1, m => if m = 0 then [] else m % 65536 :: dgsR f (m / 65536)
theorem dgsR_lt : ∀ (f m : Nat), ∀ d ∈ dgsR f m, d < 65536
  | 0, m, d, h => by cases h
  | f + 1, m, d, h => by
    unfold dgsR at h
    split at h
    · cases h
    · rcases List.mem_cons.1 h with rfl | h
      · omega
      · exact dgsR_lt f _ d h
theorem dgsR_le : ∀ (f m : Nat), (dgsR f m).length ≤ f
  | 0, m => Nat.le_refl _
  | f + 1, m => by
    unfold dgsR
    split
    · exact Nat.zero_le _
    · have := dgsR_le f (m / 65536)
      simp only [List.length_cons]; omega
/-- One row of a product. -/
def innR (ai : Nat) (b : List Nat) (i : Nat) : Nat → List Nat → Nat → Nat → List Nat
  | 0, out, _, _ => out
  | f + 1, out, k, c => if k < b.length ∨ 0 < c then
      innR ai b i f (out.set (i + k) ((out.getD (i + k) 0 + c + (if k < b.length then ai * b.getD k 0 else 0)) % 65536)) (k + 1) ((out.getD (i + k) 0 + c + (if k < b.length then ai * b.getD k 0 else 0)) / 65536)
    else out
def timesG (a b : List Nat) (n : Nat) : List Nat := (List.range n).foldl (fun out i => innR (a.getD i 0) b i (b.length + 2) out 0 0) (List.replicate (a.length + b.length + 1) 0)
def timesR (a b : List Nat) : List Nat := timesG a b a.length
theorem timesG_succ (a b : List Nat) (n : Nat) : timesG a b (n + 1) = innR (a.getD n 0) b n (b.length + 2) (timesG a b n) 0 0 := by
  unfold timesG; rw [List.range_succ, List.foldl_append]; rfl
theorem innR_len (ai : Nat) (b : List Nat) (i : Nat) : ∀ (f : Nat) (out : List Nat) (k c : Nat), (innR ai b i f out k c).length = out.length
  | 0, out, k, c => rfl
  | f + 1, out, k, c => by
    unfold innR
    split
    · rw [innR_len ai b i f, List.length_set]
    · rfl
theorem timesG_len (a b : List Nat) : ∀ n, (timesG a b n).length = a.length + b.length + 1
  | 0 => by simp [timesG]
  | n + 1 => by rw [timesG_succ, innR_len, timesG_len a b n]
theorem innR_stop {ai : Nat} {b : List Nat} {i f : Nat} {out : List Nat} {k c : Nat} (h : ¬ (k < b.length ∨ 0 < c)) : innR ai b i f out k c = out := by
  cases f with
  | zero => rfl
  | succ f => unfold innR; rw [if_neg h]
/-- Is a number greater than another one? From place n down. -/
def grtR (a b : List Nat) : Nat → Bool
  | 0 => false
  | n + 1 => if a.getD n 0 = b.getD n 0 then grtR a b n else decide (b.getD n 0 < a.getD n 0)
def greaterR (a b : List Nat) : Bool := grtR a b (max a.length b.length)
def powR (p power : Nat) : List Nat := List.replicate (2 * power) 0 ++ dgsR 4 p
def stepR (p power c bit : Nat) : Nat :=
  let d := dgsR 4 (c + bit)
  let x := timesR d d
  let y := if power = 3 then timesR x d else x
  if greaterR y (powR p power) then c else c + bit
def rootR (p power : Nat) : Nat := ((List.range 36).foldl (fun c j => stepR p power c (2 ^ (35 - j))) 0) % 4294967296
def primeR (p : Nat) : Bool := (List.range p).all fun k => decide (k < 2) || decide (p % k ≠ 0)
def tabS (r : Nat → Nat → Nat) (s : Nat × List Nat) (p : Nat) : Nat × List Nat := if primeR p then (s.1 + 1, (if s.1 < 8 then s.2.set s.1 (r p 2) else s.2).set (8 + s.1) (r p 3)) else s
def tabG (r : Nat → Nat → Nat) (n : Nat) : Nat × List Nat := (List.range n).foldl (fun s j => tabS r s (j + 2)) (0, List.replicate 72 0)
theorem rt2_2 : rootR 2 2 = 1779033703 := by decide +kernel
theorem rt2_3 : rootR 3 2 = 3144134277 := by decide +kernel
theorem rt2_5 : rootR 5 2 = 1013904242 := by decide +kernel
theorem rt2_7 : rootR 7 2 = 2773480762 := by decide +kernel
theorem rt2_11 : rootR 11 2 = 1359893119 := by decide +kernel
theorem rt2_13 : rootR 13 2 = 2600822924 := by decide +kernel
theorem rt2_17 : rootR 17 2 = 528734635 := by decide +kernel
theorem rt2_19 : rootR 19 2 = 1541459225 := by decide +kernel
theorem rt3_2 : rootR 2 3 = 1116352408 := by decide +kernel
theorem rt3_3 : rootR 3 3 = 1899447441 := by decide +kernel
theorem rt3_5 : rootR 5 3 = 3049323471 := by decide +kernel
theorem rt3_7 : rootR 7 3 = 3921009573 := by decide +kernel
theorem rt3_11 : rootR 11 3 = 961987163 := by decide +kernel
theorem rt3_13 : rootR 13 3 = 1508970993 := by decide +kernel
theorem rt3_17 : rootR 17 3 = 2453635748 := by decide +kernel
theorem rt3_19 : rootR 19 3 = 2870763221 := by decide +kernel
theorem rt3_23 : rootR 23 3 = 3624381080 := by decide +kernel
theorem rt3_29 : rootR 29 3 = 310598401 := by decide +kernel
theorem rt3_31 : rootR 31 3 = 607225278 := by decide +kernel
theorem rt3_37 : rootR 37 3 = 1426881987 := by decide +kernel
theorem rt3_41 : rootR 41 3 = 1925078388 := by decide +kernel
theorem rt3_43 : rootR 43 3 = 2162078206 := by decide +kernel
theorem rt3_47 : rootR 47 3 = 2614888103 := by decide +kernel
theorem rt3_53 : rootR 53 3 = 3248222580 := by decide +kernel
theorem rt3_59 : rootR 59 3 = 3835390401 := by decide +kernel
theorem rt3_61 : rootR 61 3 = 4022224774 := by decide +kernel
theorem rt3_67 : rootR 67 3 = 264347078 := by decide +kernel
theorem rt3_71 : rootR 71 3 = 604807628 := by decide +kernel
theorem rt3_73 : rootR 73 3 = 770255983 := by decide +kernel
theorem rt3_79 : rootR 79 3 = 1249150122 := by decide +kernel
theorem rt3_83 : rootR 83 3 = 1555081692 := by decide +kernel
theorem rt3_89 : rootR 89 3 = 1996064986 := by decide +kernel
theorem rt3_97 : rootR 97 3 = 2554220882 := by decide +kernel
theorem rt3_101 : rootR 101 3 = 2821834349 := by decide +kernel
theorem rt3_103 : rootR 103 3 = 2952996808 := by decide +kernel
theorem rt3_107 : rootR 107 3 = 3210313671 := by decide +kernel
theorem rt3_109 : rootR 109 3 = 3336571891 := by decide +kernel
theorem rt3_113 : rootR 113 3 = 3584528711 := by decide +kernel
theorem rt3_127 : rootR 127 3 = 113926993 := by decide +kernel
theorem rt3_131 : rootR 131 3 = 338241895 := by decide +kernel
theorem rt3_137 : rootR 137 3 = 666307205 := by decide +kernel
theorem rt3_139 : rootR 139 3 = 773529912 := by decide +kernel
theorem rt3_149 : rootR 149 3 = 1294757372 := by decide +kernel
theorem rt3_151 : rootR 151 3 = 1396182291 := by decide +kernel
theorem rt3_157 : rootR 157 3 = 1695183700 := by decide +kernel
theorem rt3_163 : rootR 163 3 = 1986661051 := by decide +kernel
theorem rt3_167 : rootR 167 3 = 2177026350 := by decide +kernel
theorem rt3_173 : rootR 173 3 = 2456956037 := by decide +kernel
theorem rt3_179 : rootR 179 3 = 2730485921 := by decide +kernel
theorem rt3_181 : rootR 181 3 = 2820302411 := by decide +kernel
theorem rt3_191 : rootR 191 3 = 3259730800 := by decide +kernel
theorem rt3_193 : rootR 193 3 = 3345764771 := by decide +kernel
theorem rt3_197 : rootR 197 3 = 3516065817 := by decide +kernel
theorem rt3_199 : rootR 199 3 = 3600352804 := by decide +kernel
theorem rt3_211 : rootR 211 3 = 4094571909 := by decide +kernel
theorem rt3_223 : rootR 223 3 = 275423344 := by decide +kernel
theorem rt3_227 : rootR 227 3 = 430227734 := by decide +kernel
theorem rt3_229 : rootR 229 3 = 506948616 := by decide +kernel
theorem rt3_233 : rootR 233 3 = 659060556 := by decide +kernel
theorem rt3_239 : rootR 239 3 = 883997877 := by decide +kernel
theorem rt3_241 : rootR 241 3 = 958139571 := by decide +kernel
theorem rt3_251 : rootR 251 3 = 1322822218 := by decide +kernel
theorem rt3_257 : rootR 257 3 = 1537002063 := by decide +kernel
theorem rt3_263 : rootR 263 3 = 1747873779 := by decide +kernel
theorem rt3_269 : rootR 269 3 = 1955562222 := by decide +kernel
theorem rt3_271 : rootR 271 3 = 2024104815 := by decide +kernel
theorem rt3_277 : rootR 277 3 = 2227730452 := by decide +kernel
theorem rt3_281 : rootR 281 3 = 2361852424 := by decide +kernel
theorem rt3_283 : rootR 283 3 = 2428436474 := by decide +kernel
theorem rt3_293 : rootR 293 3 = 2756734187 := by decide +kernel
theorem rt3_307 : rootR 307 3 = 3204031479 := by decide +kernel
theorem rt3_311 : rootR 311 3 = 3329325298 := by decide +kernel
theorem tab_gen (r : Nat → Nat → Nat) : tabG r 310 = (64, [r 2 2, r 3 2, r 5 2, r 7 2, r 11 2, r 13 2, r 17 2, r 19 2, r 2 3, r 3 3, r 5 3, r 7 3, r 11 3, r 13 3, r 17 3, r 19 3, r 23 3, r 29 3, r 31 3, r 37 3, r 41 3, r 43 3, r 47 3, r 53 3, r 59 3, r 61 3, r 67 3, r 71 3, r 73 3, r 79 3, r 83 3, r 89 3, r 97 3, r 101 3, r 103 3, r 107 3, r 109 3, r 113 3, r 127 3, r 131 3, r 137 3, r 139 3, r 149 3, r 151 3, r 157 3, r 163 3, r 167 3, r 173 3, r 179 3, r 181 3, r 191 3, r 193 3, r 197 3, r 199 3, r 211 3, r 223 3, r 227 3, r 229 3, r 233 3, r 239 3, r 241 3, r 251 3, r 257 3, r 263 3, r 269 3, r 271 3, r 277 3, r 281 3, r 283 3, r 293 3, r 307 3, r 311 3]) := by kernel_rfl
theorem tab_all : tabG rootR 310 = (64, tabL) := by
  rw [tab_gen]
  rw [rt2_2, rt2_3, rt2_5, rt2_7, rt2_11, rt2_13, rt2_17, rt2_19, rt3_2, rt3_3, rt3_5, rt3_7, rt3_11, rt3_13, rt3_17, rt3_19, rt3_23, rt3_29, rt3_31, rt3_37, rt3_41, rt3_43, rt3_47, rt3_53, rt3_59, rt3_61, rt3_67, rt3_71, rt3_73, rt3_79, rt3_83, rt3_89, rt3_97, rt3_101, rt3_103, rt3_107, rt3_109, rt3_113, rt3_127, rt3_131, rt3_137, rt3_139, rt3_149, rt3_151, rt3_157, rt3_163, rt3_167, rt3_173, rt3_179, rt3_181, rt3_191, rt3_193, rt3_197, rt3_199, rt3_211, rt3_223, rt3_227, rt3_229, rt3_233, rt3_239, rt3_241, rt3_251, rt3_257, rt3_263, rt3_269, rt3_271, rt3_277, rt3_281, rt3_283, rt3_293, rt3_307, rt3_311]
  rfl
end Go.Proofs.Yteaijjefbadnbaa
