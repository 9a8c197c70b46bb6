/-
  Plain words of FnHeld.
  No condition.
-/
import Derived.Test.YtbhnlplbfhomcaaRpG
import Derived.Test.YtbhnlplbfhomcaaRpA
set_option linter.unusedVariables false
set_option linter.unusedSimpArgs false
namespace Go.SX
open Go Go.Proofs

def csH : List Cbl := [(0, 1)]
def msH (s : Pt) (n l : Int) (st : List Pt) (a : Int) : List Mod := [mHold s n l, mDel st a]
theorem ordH (s : Pt) (n l : Int) (st : List Pt) (a : Int) : ordL (msH s n l st a) csH = [0, 1] := rfl
def hoF (s : Pt) (n l : Int) (z : Pt) : Pt × Int := if l = 0 then (z, n - 1) else (s, l - 1)
theorem stepH (o : Nat → Or) (z s : Pt) (n l : Int) (st : List Pt) (a : Int) : stepRackF o csH 0 z (msH s n l st a) =
    (msH (hoF s n l (addPt (0, 0) z)).1 n (hoF s n l (addPt (0, 0) z)).2 (st.set a.toNat (addPt (0, 0) (hoF s n l (addPt (0, 0) z)).1)) ((a + 1) % (st.length : Int)), [(hoF s n l (addPt (0, 0) z)).1, st.getD a.toNat (0, 0)]) := by
  rw [stepRackF, ordH]
  by_cases h : l = 0
  · simp [sweep, sweep1, msH, outs0, inSum, feedsF, csH, stepF, mHold, mDel, hoF, h]
  · simp [sweep, sweep1, msH, outs0, inSum, feedsF, csH, stepF, mHold, mDel, hoF, h]
/-- What is held in round i. -/
def hF (n : Nat) (X : List Pt) (i : Nat) : Pt := addPt (0, 0) (X.getD (i - i % n) (0, 0))
def lH (n i : Nat) : Int := if i % n = 0 then 0 else (n : Int) - (i % n : Nat)
theorem lH_next {n i : Nat} (hn : 1 ≤ n) : lH n (i + 1) = if lH n i = 0 then (n : Int) - 1 else lH n i - 1 := by
  have h1 := Nat.mod_lt i (show n > 0 by omega)
  have h2 : (i + 1) % n = if i % n + 1 = n then 0 else i % n + 1 := by
    rw [← Nat.mod_add_mod]
    split
    · rename_i e; rw [e, Nat.mod_self]
    · exact Nat.mod_eq_of_lt (by omega)
  unfold lH
  rw [h2]
  by_cases h0 : i % n = 0
  · simp only [h0, if_true]
    by_cases h3 : 0 + 1 = n
    · rw [if_pos h3]; simp; omega
    · rw [if_neg h3]; simp
  · have h4 : ¬ (n : Int) - (i % n : Nat) = 0 := by omega
    simp only [h0, if_false, h4]
    by_cases h3 : i % n + 1 = n
    · rw [if_pos h3]; simp; omega
    · rw [if_neg h3]; simp; omega
theorem hF_next {n i : Nat} {X : List Pt} (hn : 1 ≤ n) (h : ¬ lH n (i + 1) = 0) : hF n X (i + 1) = hF n X i := by
  have h1 := Nat.mod_lt i (show n > 0 by omega)
  have h2 : (i + 1) % n = if i % n + 1 = n then 0 else i % n + 1 := by
    rw [← Nat.mod_add_mod]
    split
    · rename_i e; rw [e, Nat.mod_self]
    · exact Nat.mod_eq_of_lt (by omega)
  have h3 : ¬ (i + 1) % n = 0 := fun e => h (by simp [lH, e])
  have h5 : ¬ i % n + 1 = n := fun e => h3 (by rw [h2, if_pos e])
  unfold hF
  rw [h2, if_neg h5]
  congr 2
  omega
theorem hF_zero {n i : Nat} {X : List Pt} (hn : 1 ≤ n) (h : lH n i = 0) : hF n X i = addPt (0, 0) (X.getD i (0, 0)) := by
  have h1 := Nat.mod_lt i (show n > 0 by omega)
  have h3 : i % n = 0 := by
    unfold lH at h
    split at h
    · assumption
    · omega
  unfold hF
  rw [h3]; rfl
def gF (n : Nat) (X : List Pt) (i : Nat) : Pt := addPt (0, 0) (hF n X i)
theorem runH {n k : Nat} (hn : 1 ≤ n) (hk : 1 ≤ k) (X : List Pt) (b : Int) (O : Nat → Nat → Or) : ∀ m, ∃ s, (lH n m = 0 ∨ (∃ j, m = j + 1 ∧ s = hF n X j)) ∧
    runS O csH 0 b X (msH (0, 0) n 0 (zs k) 0) m = (msH s n (lH n m) (dst k (gF n X) m) ((m % k : Nat) : Int), (List.range m).map fun i => [hF n X i, dlF k (gF n X) i].getD b.toNat (0, 0))
  | 0 => ⟨(0, 0), .inl (by simp [lH]), by simp [runS, lH, dst, zs]⟩
  | m + 1 => by
    obtain ⟨s, hs, hr⟩ := runH hn hk X b O m
    have hout : (hoF s n (lH n m) (addPt (0, 0) (X.getD m (0, 0)))).1 = hF n X m := by
      unfold hoF
      by_cases h0 : lH n m = 0
      · rw [if_pos h0]; exact (hF_zero hn h0).symm
      · rw [if_neg h0]
        rcases hs with h | ⟨j, rfl, rfl⟩
        · exact absurd h h0
        · exact (hF_next hn h0).symm
    have hleft : (hoF s n (lH n m) (addPt (0, 0) (X.getD m (0, 0)))).2 = lH n (m + 1) := by
      rw [lH_next hn]
      unfold hoF
      split <;> rfl
    refine ⟨hF n X m, .inr ⟨m, rfl, rfl⟩, ?_⟩
    simp only [runS, hr, stepH, hout, hleft, Int.toNat_natCast, dst_len, dst_out hk, mod_next]
    simp only [List.range_succ, List.map_append, List.map_cons, List.map_nil]
    rfl
theorem holdH {n : Nat} (h1 : 1 ≤ n) (h2 : n ≤ 100) : isModuleF (mHold (0, 0) n 0) = true := hold_ok (n := (n : Int)) (by omega) (by omega)
theorem canH {n k : Nat} (h1 : 1 ≤ n) (h2 : n ≤ 100) (h3 : 1 ≤ k) (h4 : k ≤ 16) {b m : Nat} (hb : b < 2) (hm : m ≤ 500) : canRunF (msH (0, 0) n 0 (zs k) 0) csH 0 (b : Int) (m : Int) = true := by
  have hd : isModuleF (mDel (zs k) 0) = true := by
    have := del_ok h3 h4
    simpa [mDel, zs] using this
  have ho : (orderF (msH (0, 0) n 0 (zs k) 0) csH).isSome = true := rfl
  have hc : csH.all (cabF (msH (0, 0) n 0 (zs k) 0).length) = true := rfl
  have hml : (msH (0, 0) (n : Int) 0 (zs k) 0).length = 2 := rfl
  have hal : (msH (0, 0) (n : Int) 0 (zs k) 0).all isModuleF = true := by simp [msH, holdH h1 h2, hd]
  simp only [canRunF, isRackF, ho, hc, hal, hml, plugF, Bool.and_eq_true, decide_eq_true_eq, Bool.and_true, Bool.true_and]
  simp [csH]
  exact ⟨rfl, by omega, by omega⟩
theorem okM_H {n k : Nat} (h4 : k ≤ 16) : ∀ m ∈ msH (0, 0) n 0 (zs k) 0, OkM m := by
  intro m hm
  have hsm : sm = 16777216 := rfl
  simp only [msH, List.mem_cons, List.not_mem_nil, or_false] at hm
  rcases hm with rfl | rfl <;> refine ⟨?_, ?_, ?_⟩ <;> simp [mHold, mDel, zs] <;> omega
/-- The law's test at a sample v = X[i - i mod n]: y the held, z the delayed. -/
theorem testH {v : Pt} : ((fcmp .eql .f32 v.1 v.1 && fcmp .eql .f32 v.2 v.2) = true ∧ (fcmp .eql .f32 (addPt (0, 0) v).1 v.1 && fcmp .eql .f32 (addPt (0, 0) v).2 v.2) = true ∧ (fcmp .eql .f32 (addPt (0, 0) (addPt (0, 0) v)).1 v.1 && fcmp .eql .f32 (addPt (0, 0) (addPt (0, 0) v)).2 v.2) = true) ∨
    ((fcmp .eql .f32 v.1 v.1 && fcmp .eql .f32 v.2 v.2) = false ∧ (fcmp .eql .f32 (addPt (0, 0) v).1 v.1 && fcmp .eql .f32 (addPt (0, 0) v).2 v.2) = false ∧ (fcmp .eql .f32 (addPt (0, 0) (addPt (0, 0) v)).1 v.1 && fcmp .eql .f32 (addPt (0, 0) (addPt (0, 0) v)).2 v.2) = false) := by
  cases h : (fcmp .eql .f32 v.1 v.1 && fcmp .eql .f32 v.2 v.2) with
  | true =>
    simp only [Bool.and_eq_true] at h
    refine .inl ⟨rfl, ?_, ?_⟩
    · simp only [addPt, Bool.and_eq_true]
      exact ⟨zero_sum _ h.1, zero_sum _ h.2⟩
    · simp only [addPt, Bool.and_eq_true, zero_idem _ h.1, zero_idem _ h.2]
      exact ⟨zero_sum _ h.1, zero_sum _ h.2⟩
  | false =>
    have key : ∀ a b : Nat, (fcmp .eql .f32 a v.1 && fcmp .eql .f32 b v.2) = false := fun a b => by
      rw [Bool.eq_false_iff]
      intro e
      simp only [Bool.and_eq_true] at e
      rw [eql_right e.1, eql_right e.2] at h
      cases h
    exact .inr ⟨rfl, key _ _, key _ _⟩
theorem caseH {n k : Nat} (hn : 1 ≤ n) {X : List Pt} {i : Nat} (hi : i < X.length) : ∃ v1 v2 y1 y2 z1 z2 : Nat, (tI (rowsZ X))[i - i % n]? = some [T.im (.cpx .f32 v1 v2)] ∧
    (tI (rowsZ ((List.range X.length).map (hF n X))))[i]? = some [T.im (.cpx .f32 y1 y2)] ∧ (tI (rowsZ ((List.range (X.length + k)).map (dlF k (gF n X)))))[i + k]? = some [T.im (.cpx .f32 z1 z2)] ∧
    (((fcmp .eql .f32 v1 v1 && fcmp .eql .f32 v2 v2) = true ∧ (fcmp .eql .f32 y1 v1 && fcmp .eql .f32 y2 v2) = true ∧ (fcmp .eql .f32 z1 v1 && fcmp .eql .f32 z2 v2) = true) ∨
     ((fcmp .eql .f32 v1 v1 && fcmp .eql .f32 v2 v2) = false ∧ (fcmp .eql .f32 y1 v1 && fcmp .eql .f32 y2 v2) = false ∧ (fcmp .eql .f32 z1 v1 && fcmp .eql .f32 z2 v2) = false)) := by
  have hlt : i - i % n < X.length := by omega
  obtain ⟨v, hv⟩ : ∃ v, X[i - i % n]? = some v := ⟨_, List.getElem?_eq_getElem hlt⟩
  have hh : hF n X i = addPt (0, 0) v := by
    unfold hF
    rw [List.getD_eq_getElem?_getD, hv]; rfl
  have hz : dlF k (gF n X) (i + k) = addPt (0, 0) (addPt (0, 0) v) := by
    unfold dlF gF
    rw [if_neg (by omega), Nat.add_sub_cancel, hh]
  refine ⟨v.1, v.2, (addPt (0, 0) v).1, (addPt (0, 0) v).2, (addPt (0, 0) (addPt (0, 0) v)).1, (addPt (0, 0) (addPt (0, 0) v)).2, tIZ_at hv, tIZ_at ?_, tIZ_at ?_, testH⟩
  · rw [List.getElem?_map, List.getElem?_range hi, ← hh]; rfl
  · rw [List.getElem?_map, List.getElem?_range (by omega), ← hz]; rfl
end Go.SX
