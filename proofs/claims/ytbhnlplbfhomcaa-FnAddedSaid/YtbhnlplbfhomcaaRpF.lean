/-
  Plain words of FnAdded.
  No condition.
-/
import Derived.Test.YtbhnlplbfhomcaaRpE
import Derived.Test.YtbhnlplbfhomcaaRlK
set_option linter.unusedVariables false
set_option linter.unusedSimpArgs false
namespace Go.SX
open Go Go.Proofs

def csA : List Cbl := [(0, 1), (1, 0)]
def msA (p : Pt) : List Mod := [mSum, mDel [p] 0]
theorem ordA (p : Pt) : ordL (msA p) csA = [0, 1] := rfl
theorem stepA (o : Nat → Or) (z p : Pt) : stepRackF o csA 0 z (msA p) = (msA (addPt (0, 0) (addPt (addPt (0, 0) z) p)), [addPt (addPt (0, 0) z) p, p]) := by
  rw [stepRackF, ordA]
  simp [sweep, sweep1, msA, outs0, inSum, feedsF, csA, stepF, mSum, mDel]
def psum (X : List WP) : Nat → WP
  | 0 => (0, 0)
  | k + 1 => ((aD X k).1 + (psum X k).1, (aD X k).2 + (psum X k).2)
theorem psum_in {X : List WP} (hX : ∀ p ∈ X, inW 3 p) : ∀ k : Nat, inW (3 * (k : Int)) (psum X k)
  | 0 => by simp [inW, psum]
  | k + 1 => inW_add (aD_in hX k) (psum_in hX k) (by omega)
def sA (X : List WP) (k : Nat) : Pt := wP (psum X k)
theorem sA_zero (X : List WP) : sA X 0 = (0, 0) := wP_zero
theorem sA_next {X : List WP} (hX : ∀ p ∈ X, inW 3 p) {k : Nat} (hk : k ≤ 100) : addPt (wP (aD X k)) (sA X k) = sA X (k + 1) := addPt_wP (aD_in hX k) (psum_in hX k) (by omega) (by omega) (by omega)
theorem zero_wP {N : Int} {p : WP} (h : inW N p) (hN : N ≤ 100000) (h0 : 0 ≤ N) : addPt (0, 0) (wP p) = wP p := by
  have h1 := addPt_wP (M := 0) (p := (0, 0)) ⟨by decide, by decide, by decide, by decide⟩ h (by omega) (by omega) h0
  rw [wP_zero] at h1
  rw [h1]
  congr 1
  simp
theorem runA {X : List WP} (hX : ∀ p ∈ X, inW 3 p) (O : Nat → Nat → Or) : ∀ k, k ≤ 100 → runS O csA 0 0 (wL X) (msA (0, 0)) k = (msA (sA X k), (List.range k).map fun i => sA X (i + 1))
  | 0, _ => by simp only [runS, sA_zero]; rfl
  | k + 1, h => by
    simp only [runS, runA hX O k (by omega), stepA, wL_getD, zero_wP (aD_in hX k) (by omega) (by omega), sA_next hX (show k ≤ 100 by omega)]
    have e : addPt (0, 0) (sA X (k + 1)) = sA X (k + 1) := zero_wP (psum_in hX (k + 1)) (by omega) (by omega)
    rw [e]
    simp [List.range_succ]
theorem isA : isRackF (msA (0, 0)) csA = true := by kernel_rfl
theorem canA {n : Nat} (h : n ≤ 100) : canRunF (msA (0, 0)) csA 0 0 (n : Int) = true := by
  have h1 : plugF (msA (0, 0)).length 0 0 = true := rfl
  simp only [canRunF, isA, h1, Bool.true_and, Bool.and_eq_true, decide_eq_true_eq]
  omega
theorem addA0 : addF (msA (0, 0)) csA 0 0 = false := by kernel_rfl
theorem addA1 : addF (msA (0, 0)) csA 1 1 = true := by kernel_rfl
theorem caseA {X : List WP} (hX : ∀ p ∈ X, inW 3 p) (hl : X.length ≤ 100) {i : Nat} (hi : i < X.length) : ∃ z1 z2 y1 y2 : Nat, (tI (rowsZ (wL X)))[i]? = some [T.im (.cpx .f32 z1 z2)] ∧
    (tI (rowsZ ((List.range X.length).map fun i => sA X (i + 1))))[i]? = some [T.im (.cpx .f32 y1 y2)] ∧
    fop .add .f32 (sA X i).1 z1 = (sA X (i + 1)).1 ∧ fop .add .f32 (sA X i).2 z2 = (sA X (i + 1)).2 ∧ fcmp .eql .f32 y1 (sA X (i + 1)).1 = true ∧ fcmp .eql .f32 y2 (sA X (i + 1)).2 = true := by
  obtain ⟨p, hp⟩ : ∃ p, X[i]? = some p := ⟨_, List.getElem?_eq_getElem hi⟩
  have e : aD X i = p := by rw [aD, List.getD_eq_getElem?_getD, hp]; rfl
  have gx := aD_in hX i
  have gp := psum_in hX i
  have gn := psum_in hX (i + 1)
  have n1 : (psum X (i + 1)).1 = (aD X i).1 + (psum X i).1 := rfl
  have n2 : (psum X (i + 1)).2 = (aD X i).2 + (psum X i).2 := rfl
  rw [e] at gx n1 n2
  obtain ⟨x1, x2, x3, x4⟩ := gx
  obtain ⟨p1, p2, p3, p4⟩ := gp
  obtain ⟨q1, q2, q3, q4⟩ := gn
  refine ⟨wI p.1, wI p.2, wI (psum X (i + 1)).1, wI (psum X (i + 1)).2, ?_, ?_, ?_, ?_, eql_wI (by omega), eql_wI (by omega)⟩
  · exact tIZ_at (l := wL X) (k := i) (p := wP p) (by simp [wL, hp])
  · exact tIZ_at (k := i) (p := wP (psum X (i + 1))) (by rw [List.getElem?_map, List.getElem?_range hi]; rfl)
  · show fop .add .f32 (wI (psum X i).1) (wI p.1) = wI (psum X (i + 1)).1
    rw [n1, Int.add_comm]
    exact add_wI (by omega) (by omega) (by omega)
  · show fop .add .f32 (wI (psum X i).2) (wI p.2) = wI (psum X (i + 1)).2
    rw [n2, Int.add_comm]
    exact add_wI (by omega) (by omega) (by omega)
theorem okM_A : ∀ m ∈ msA (0, 0), OkM m := by
  intro m hm
  have hsm : sm = 16777216 := rfl
  simp only [msA, List.mem_cons, List.not_mem_nil, or_false] at hm
  rcases hm with rfl | rfl <;> refine ⟨?_, ?_, ?_⟩ <;> simp [mSum, mDel] <;> omega
end Go.SX
