/-
  Plain words of FnSuperposed: the rack and the inputs.
  No condition.
-/
import Derived.Test.YtbhnlplbfhomcaaRpD
import Derived.Test.YtbhnlplbfhomcaaRlE
set_option linter.unusedVariables false
set_option linter.unusedSimpArgs false
namespace Go.SX
open Go Go.Proofs

/-- The rack's modules and cables, by the law's text. -/
def fS (l : List Int) (i : Nat) : Option Nat := if (atF l i).tmod 2 = 0 then some (1 + (atF l (i + 6)).tmod 3).toNat else none
def cS (l : List Int) (i : Nat) : Nat := ((atF l (i + 12)).tmod (i : Int)).toNat
def mS : Option Nat → Mod
  | none => mSum
  | some n => mDel (zs n) 0
def msK (l : List Int) (k : Nat) : List Mod := (List.range k).map fun i => mS (fS l i)
theorem msK_len (l : List Int) (k : Nat) : (msK l k).length = k := by simp [msK]
theorem fS_rng {l : List Int} (hb : ∀ b ∈ l, 0 ≤ b ∧ b < 256) (i : Nat) : fS l i = none ∨ ∃ n, fS l i = some n ∧ 1 ≤ n ∧ n ≤ 3 := by
  unfold fS
  split
  · obtain ⟨q, hq, hq3⟩ := at_mod hb (i + 6) 3 (by omega)
    have hq : (atF l (i + 6)).tmod 3 = (q : Int) := hq
    exact .inr ⟨_, rfl, by rw [hq]; omega, by rw [hq]; omega⟩
  · exact .inl rfl
theorem cS_lt {l : List Int} (hb : ∀ b ∈ l, 0 ≤ b ∧ b < 256) : ∀ i, 1 ≤ i → i < 6 → cS l i < i := by
  intro i h1 _
  obtain ⟨q, hq, hq3⟩ := at_mod hb (i + 12) i (by omega)
  unfold cS
  rw [hq]; omega
theorem msK_getD (l : List Int) {i : Nat} (h : i < 6) : (msK l 6).getD i dMod = mS (fS l i) := by
  rw [msK, List.getD_eq_getElem?_getD, List.getElem?_map, List.getElem?_range h]; rfl
theorem R4_msK {l : List Int} (hb : ∀ b ∈ l, 0 ≤ b ∧ b < 256) : R4 (msK l 6) (msK l 6) (msK l 6) (msK l 6) := by
  refine ⟨msK_len _ _, msK_len _ _, msK_len _ _, msK_len _ _, fun i hi => ?_⟩
  rw [msK_getD l hi]
  rcases fS_rng hb i with h | ⟨n, h, h1, h2⟩
  · rw [h]; exact .inl ⟨rfl, rfl, rfl, rfl⟩
  · rw [h]
    have hl : (zs n).length = n := by simp [zs]
    refine .inr ⟨n, 0, zs n, zs n, zs n, zs n, by omega, hl, hl, hl, hl, rfl, rfl, rfl, rfl, fun j => ?_⟩
    have : (zs n).getD j (0, 0) = (0, 0) := by
      rw [List.getD_eq_getElem?_getD, zs, List.getElem?_replicate]
      split <;> rfl
    rw [this]
    exact W4_zero (Int.le_of_lt (Nb_pos i))
theorem okM_msK {l : List Int} (hb : ∀ b ∈ l, 0 ≤ b ∧ b < 256) (k : Nat) : ∀ m ∈ msK l k, OkM m ∧ isModuleF m = true := by
  intro m hm
  simp only [msK, List.mem_map] at hm
  obtain ⟨i, _, rfl⟩ := hm
  have hsm : sm = 16777216 := rfl
  rcases fS_rng hb i with h | ⟨n, h, h1, h2⟩
  · rw [h]; exact ⟨⟨by simp [mS, mSum], by simp [mS, mSum], by simp [mS, mSum]⟩, by kernel_rfl⟩
  · rw [h]
    refine ⟨⟨by simp [mS, mDel, zs]; omega, by simp [mS, mDel], by simp [mS, mDel]⟩, ?_⟩
    have := del_ok h1 (by omega)
    simpa [mS, mDel, zs] using this
theorem canS {l : List Int} (hb : ∀ b ∈ l, 0 ≤ b ∧ b < 256) : canRunF (msK l 6) (csK (cS l) 6) 0 5 24 = true := by
  have hf := csK_fwd (cS_lt hb)
  have h1 : (msK l 6).all isModuleF = true := List.all_eq_true.2 fun m hm => (okM_msK hb 6 m hm).2
  have h2 : (csK (cS l) 6).all (cabF 6) = true := by
    have q1 := cS_lt hb 1 (by omega) (by omega)
    have q2 := cS_lt hb 2 (by omega) (by omega)
    have q3 := cS_lt hb 3 (by omega) (by omega)
    have q4 := cS_lt hb 4 (by omega) (by omega)
    have q5 := cS_lt hb 5 (by omega) (by omega)
    rw [csK_6]
    simp [cabF]
    omega
  have h3 : (orderF (msK l 6) (csK (cS l) 6)).isSome = true := by rw [order_fwd hf]; rfl
  have h4 : (csK (cS l) 6).length = 10 := rfl
  simp [canRunF, isRackF, plugF, msK_len, h1, h2, h3, h4]
def aD (X : List WP) (i : Nat) : WP := X.getD i (0, 0)
def bo (X Y : List WP) (k : Nat) : List WP := (List.range k).map fun j => ((aD X j).1 + (aD Y j).1, (aD X j).2 + (aD Y j).2)
def tw (X : List WP) (k : Nat) : List WP := (List.range k).map fun j => (2 * (aD X j).1, 2 * (aD X j).2)
theorem bo_next (X Y : List WP) (k : Nat) : bo X Y k ++ [((aD X k).1 + (aD Y k).1, (aD X k).2 + (aD Y k).2)] = bo X Y (k + 1) := by simp [bo, List.range_succ]
theorem tw_next (X : List WP) (k : Nat) : tw X k ++ [(2 * (aD X k).1, 2 * (aD X k).2)] = tw X (k + 1) := by simp [tw, List.range_succ]
theorem bo_len (X Y : List WP) (k : Nat) : (bo X Y k).length = k := by simp [bo]
theorem tw_len (X : List WP) (k : Nat) : (tw X k).length = k := by simp [tw]
theorem aD_in {X : List WP} (h : ∀ p ∈ X, inW 3 p) (i : Nat) : inW 3 (aD X i) := by
  unfold aD
  rw [List.getD_eq_getElem?_getD]
  cases e : X[i]? with
  | none => exact ⟨by decide, by decide, by decide, by decide⟩
  | some p => exact h p (List.mem_of_getElem? e)
theorem wL_getD (X : List WP) (i : Nat) : (wL X).getD i (0, 0) = wP (aD X i) := by
  rw [wL, aD, List.getD_eq_getElem?_getD, List.getD_eq_getElem?_getD, List.getElem?_map]
  cases X[i]? with
  | none => exact wP_zero.symm
  | some p => rfl
theorem aD_out {X : List WP} {i : Nat} (h : X.length ≤ i) : aD X i = (0, 0) := by
  rw [aD, List.getD_eq_getElem?_getD, List.getElem?_eq_none h]; rfl
theorem inputs_4 {X Y : List WP} (hX : ∀ p ∈ X, inW 3 p) (hY : ∀ p ∈ Y, inW 3 p) (lX : X.length ≤ 20) (lY : Y.length ≤ 20) (k : Nat) :
    W4 3 ((wL X).getD k (0, 0)) ((wL Y).getD k (0, 0)) ((wL (bo X Y 20)).getD k (0, 0)) ((wL (tw X 20)).getD k (0, 0)) := by
  refine ⟨aD X k, aD Y k, aD_in hX k, aD_in hY k, wL_getD X k, wL_getD Y k, ?_, ?_⟩
  · rw [wL_getD]
    by_cases h : k < 20
    · congr 1
      rw [aD, List.getD_eq_getElem?_getD, bo, List.getElem?_map, List.getElem?_range h]; rfl
    · rw [aD_out (by rw [bo_len]; omega), aD_out (X := X) (by omega), aD_out (X := Y) (by omega)]; rfl
  · rw [wL_getD]
    by_cases h : k < 20
    · congr 1
      rw [aD, List.getD_eq_getElem?_getD, tw, List.getElem?_map, List.getElem?_range h]; rfl
    · rw [aD_out (by rw [tw_len]; omega), aD_out (X := X) (by omega)]; rfl
/-- What the law's text reckons of two inputs' whole numbers. -/
theorem W4_sum {a b : Int} (ha : -3 ≤ a ∧ a ≤ 3) (hb : -3 ≤ b ∧ b ≤ 3) : fop .add .f32 (wI a) (wI b) = wI (a + b) := add_wI (by omega) (by omega) (by omega)
theorem W4_dbl {a : Int} (ha : -100000 ≤ a ∧ a ≤ 100000) : fop .mul .f32 1073741824 (wI a) = wI (2 * a) := by
  rw [← wI_two]; exact mul_wI (by decide) (by omega) (by decide) (by omega)
theorem W4_test {u v w t : Pt} (h : W4 96 u v w t) : fcmp .eql .f32 w.1 (fop .add .f32 u.1 v.1) = true ∧ fcmp .eql .f32 w.2 (fop .add .f32 u.2 v.2) = true ∧
    fcmp .eql .f32 t.1 (fop .mul .f32 1073741824 u.1) = true ∧ fcmp .eql .f32 t.2 (fop .mul .f32 1073741824 u.2) = true := by
  obtain ⟨a, b, ⟨a1, a2, a3, a4⟩, ⟨b1, b2, b3, b4⟩, rfl, rfl, rfl, rfl⟩ := h
  simp only [wP]
  rw [add_wI (by omega) (by omega) (by omega), add_wI (by omega) (by omega) (by omega), W4_dbl (by omega), W4_dbl (by omega)]
  exact ⟨eql_wI (by omega), eql_wI (by omega), eql_wI (by omega), eql_wI (by omega)⟩
theorem caseXY {X Y : List WP} (hX : ∀ p ∈ X, inW 3 p) (hY : ∀ p ∈ Y, inW 3 p) (i : Nat) : ∃ x1 x2 y1 y2 w1 w2 t1 t2 : Nat,
    (i < X.length → (tI (rowsZ (wL X)))[i]? = some [T.im (.cpx .f32 x1 x2)]) ∧ (¬ i < X.length → x1 = 0 ∧ x2 = 0) ∧
    (i < Y.length → (tI (rowsZ (wL Y)))[i]? = some [T.im (.cpx .f32 y1 y2)]) ∧ (¬ i < Y.length → y1 = 0 ∧ y2 = 0) ∧
    fop .add .f32 x1 y1 = w1 ∧ fop .add .f32 x2 y2 = w2 ∧ fop .mul .f32 1073741824 x1 = t1 ∧ fop .mul .f32 1073741824 x2 = t2 ∧
    wL (bo X Y i) ++ [(w1, w2)] = wL (bo X Y (i + 1)) ∧ wL (tw X i) ++ [(t1, t2)] = wL (tw X (i + 1)) := by
  have gx := aD_in hX i
  have gy := aD_in hY i
  have row : ∀ X : List WP, i < X.length → (tI (rowsZ (wL X)))[i]? = some [T.im (.cpx .f32 (wI (aD X i).1) (wI (aD X i).2))] := fun X hl => by
    obtain ⟨p, hp⟩ : ∃ p, X[i]? = some p := ⟨_, List.getElem?_eq_getElem hl⟩
    have e : aD X i = p := by rw [aD, List.getD_eq_getElem?_getD, hp]; rfl
    rw [e]
    exact tIZ_at (l := wL X) (k := i) (p := wP p) (by simp [wL, hp])
  have zero : ∀ X : List WP, ¬ i < X.length → wI (aD X i).1 = 0 ∧ wI (aD X i).2 = 0 := fun X hl => by
    rw [aD_out (by omega)]; exact ⟨wI_zero, wI_zero⟩
  refine ⟨wI (aD X i).1, wI (aD X i).2, wI (aD Y i).1, wI (aD Y i).2, _, _, _, _, row X, zero X, row Y, zero Y, W4_sum ⟨gx.1, gx.2.1⟩ ⟨gy.1, gy.2.1⟩, W4_sum ⟨gx.2.2.1, gx.2.2.2⟩ ⟨gy.2.2.1, gy.2.2.2⟩,
    W4_dbl (by have := gx.1; have := gx.2.1; omega), W4_dbl (by have := gx.2.2.1; have := gx.2.2.2; omega), ?_, ?_⟩
  · rw [← bo_next, ← wL_app]
  · rw [← tw_next, ← wL_app]
end Go.SX
