/-
  Whole numbers as numbers of single precision: below 2^24 their sums and products are exact.
  No condition.
-/
import Derived.Test.YtbhnlplbfhomcaaSyC
set_option linter.unusedVariables false
set_option linter.unusedSimpArgs false
namespace Go.SX
open Go Ieee

theorem shl_mul (m k : Nat) : m <<< k = m * 2 ^ k := Nat.shiftLeft_eq m k
theorem log2_mul (m k : Nat) (h : 0 < m) : (m * 2 ^ k).log2 = m.log2 + k := by
  rw [Nat.log2_eq_iff (Nat.ne_of_gt (Nat.mul_pos h (Nat.two_pow_pos k)))]
  have h1 := Nat.log2_self_le (Nat.ne_of_gt h)
  have h2 := Nat.lt_log2_self (n := m)
  constructor
  · rw [Nat.pow_add]; exact Nat.mul_le_mul_right _ h1
  · rw [show m.log2 + k + 1 = (m.log2 + 1) + k by omega, Nat.pow_add]
    exact Nat.mul_lt_mul_of_pos_right h2 (Nat.two_pow_pos k)
theorem log2_lt {m : Nat} (h : m < 16777216) : m.log2 ≤ 23 := by
  by_cases h0 : m = 0
  · subst h0; decide
  · have := (Nat.log2_lt h0 (k := 24)).2 (by omega)
    omega
/-- The digits kept where nothing is lost. -/
theorem cut_exact (neg : Bool) (k d : Nat) (hk : 0 < k) : Toward.even.cut neg (k * 2 ^ d) d = k := by
  unfold Toward.cut
  have hl : d ≤ (k * 2 ^ d).log2 + 2 := by rw [log2_mul _ _ hk]; omega
  rw [Nat.min_eq_left hl]
  have hg : 1 <<< d = 2 ^ d := by rw [shl_mul, Nat.one_mul]
  have hp := Nat.two_pow_pos d
  simp only [hg, Nat.mul_mod_left, Nat.mul_div_cancel _ hp, Nat.mul_zero]
  have h1 : decide (2 ^ d < 0) = false := by simp
  have h2 : ((2 : Nat) ^ d == 0) = false := by simp
  simp [h1, h2]
/-- A whole number's rung. -/
def rungOf (m : Nat) : Nat := (m.log2 + 126) * 8388608 + m * 2 ^ (23 - m.log2)
theorem mant {m : Nat} (h0 : 0 < m) (h : m < 16777216) : 8388608 ≤ m * 2 ^ (23 - m.log2) ∧ m * 2 ^ (23 - m.log2) < 16777216 := by
  have hl := log2_lt h
  have h1 := Nat.log2_self_le (Nat.ne_of_gt h0)
  have h2 := Nat.lt_log2_self (n := m)
  constructor
  · calc 8388608 = 2 ^ m.log2 * 2 ^ (23 - m.log2) := by rw [← Nat.pow_add, show m.log2 + (23 - m.log2) = 23 by omega]
      _ ≤ _ := Nat.mul_le_mul_right _ h1
  · calc m * 2 ^ (23 - m.log2) < 2 ^ (m.log2 + 1) * 2 ^ (23 - m.log2) := Nat.mul_lt_mul_of_pos_right h2 (Nat.two_pow_pos _)
      _ = 16777216 := by rw [← Nat.pow_add, show m.log2 + 1 + (23 - m.log2) = 24 by omega]
theorem near_scaled {m : Nat} (h0 : 0 < m) (h : m < 16777216) (neg : Bool) (D : Nat) (hD : D ≤ 400) : single.nearest neg (m * 2 ^ D) (-(D : Int)) = single.word neg (rungOf m) := by
  have hl := log2_lt h
  obtain ⟨g1, g2⟩ := mant h0 h
  have hpos : 0 < m * 2 ^ D := Nat.mul_pos h0 (Nat.two_pow_pos D)
  have hlast : max (-(D : Int) + ((m * 2 ^ D).log2 : Int) - (single.fractionBits : Int)) single.leastPlace = (m.log2 : Int) - 23 := by
    rw [log2_mul _ _ h0]
    have e1 : single.leastPlace = -149 := by decide
    have e2 : single.fractionBits = 23 := rfl
    rw [e1, e2]
    omega
  unfold Format.nearest
  rw [if_neg (Nat.ne_of_gt hpos)]
  simp only [hlast]
  have e1 : single.leastPlace = -149 := by decide
  have e3 : single.binade = 8388608 := by decide
  have e4 : single.infRung = 2139095040 := by decide
  rw [e1, e3, e4]
  have hk : Toward.even.cut neg ((m * 2 ^ D) <<< (-(D : Int) - ((m.log2 : Int) - 23)).toNat) ((m.log2 : Int) - 23 - -(D : Int)).toNat = m * 2 ^ (23 - m.log2) := by
    by_cases hc : D + m.log2 ≤ 23
    · have h1 : (-(D : Int) - ((m.log2 : Int) - 23)).toNat = 23 - m.log2 - D := by omega
      have h2 : ((m.log2 : Int) - 23 - -(D : Int)).toNat = 0 := by omega
      rw [h1, h2, shl_mul, Nat.mul_assoc, ← Nat.pow_add, show D + (23 - m.log2 - D) = 23 - m.log2 by omega]
      have := cut_exact neg (m * 2 ^ (23 - m.log2)) 0 (by omega)
      simpa using this
    · have h1 : (-(D : Int) - ((m.log2 : Int) - 23)).toNat = 0 := by omega
      have h2 : ((m.log2 : Int) - 23 - -(D : Int)).toNat = m.log2 + D - 23 := by omega
      rw [h1, h2, Nat.shiftLeft_zero]
      have h3 : m * 2 ^ D = (m * 2 ^ (23 - m.log2)) * 2 ^ (m.log2 + D - 23) := by rw [Nat.mul_assoc, ← Nat.pow_add, show 23 - m.log2 + (m.log2 + D - 23) = D by omega]
      rw [h3]
      exact cut_exact neg _ _ (by omega)
  rw [hk]
  have h5 : ((m.log2 : Int) - 23 - -149).toNat = m.log2 + 126 := by omega
  rw [h5]
  have h6 : (m.log2 + 126) * 8388608 + m * 2 ^ (23 - m.log2) ≤ 2139095040 := by
    have h7 : (m.log2 + 126) * 8388608 ≤ 149 * 8388608 := Nat.mul_le_mul_right _ (by omega)
    exact Nat.le_trans (Nat.add_le_add h7 (Nat.le_of_lt g2)) (by decide)
  rw [Nat.min_eq_left h6]
  rfl
/-- What a whole number's word stands for. -/
def wI (n : Int) : Nat := FloatKind.f32.nearest n
theorem wI_zero : wI 0 = 0 := by decide
theorem wI_pos {n : Int} (h0 : n ≠ 0) (h : n.natAbs < 16777216) : wI n = single.word (decide (n < 0)) (rungOf n.natAbs) := by
  have := near_scaled (m := n.natAbs) (by omega) h (decide (n < 0)) 0 (by omega)
  rw [Nat.pow_zero, Nat.mul_one] at this
  exact this
theorem word_read {m : Nat} (h0 : 0 < m) (h : m < 16777216) (neg : Bool) : single.read (single.word neg (rungOf m)) = .number neg (m * 2 ^ (23 - m.log2)) (-((23 - m.log2 : Nat) : Int)) := by
  have hl := log2_lt h
  obtain ⟨g1, g2⟩ := mant h0 h
  have hr : rungOf m < 2139095040 := by
    have : (m.log2 + 126) * 8388608 ≤ 149 * 8388608 := Nat.mul_le_mul_right _ (by omega)
    unfold rungOf; omega
  have hr2 : 8388608 ≤ rungOf m := by unfold rungOf; omega
  have e1 : single.leastPlace = -149 := by decide
  have e3 : single.binade = 8388608 := by decide
  have e4 : single.infRung = 2139095040 := by decide
  have e5 : single.signWeight = 2147483648 := by decide
  have hm : single.word neg (rungOf m) % 2147483648 = rungOf m := by
    unfold Format.word; rw [e5]; split <;> omega
  have hn : (single.word neg (rungOf m) / 2147483648 % 2 == 1) = neg := by
    unfold Format.word; rw [e5]
    cases neg
    · simp; omega
    · simp; omega
  unfold Format.read
  simp only [e5, hm, hn, e3, e4, e1]
  rw [if_neg (by omega), if_pos hr]
  have hmod : rungOf m % 8388608 = m * 2 ^ (23 - m.log2) - 8388608 := by
    unfold rungOf
    rw [Nat.add_comm, Nat.add_mul_mod_self_right]
    omega
  have hdiv : rungOf m / 8388608 = m.log2 + 127 := by
    unfold rungOf
    omega
  rw [hmod, hdiv]
  have a1 : 8388608 + (m * 2 ^ (23 - m.log2) - 8388608) = m * 2 ^ (23 - m.log2) := Nat.add_sub_cancel' g1
  have a2 : (-149 : Int) + ((m.log2 + 127 - 1 : Nat) : Int) = -((23 - m.log2 : Nat) : Int) := by omega
  rw [a1, a2]
/-- A word that stands for a whole number. -/
def Rep (x : Nat) (a : Int) : Prop := ∃ (s : Bool) (m p : Nat), single.read x = .number s m (-(p : Int)) ∧ signed s m 0 = a * 2 ^ p ∧ (a = 0 → s = false) ∧ p ≤ 149
theorem rep_wI {n : Int} (h : n.natAbs < 16777216) : Rep (wI n) n := by
  by_cases h0 : n = 0
  · subst h0
    exact ⟨false, 0, 149, by rw [wI_zero]; decide, by decide, fun _ => rfl, by omega⟩
  · rw [wI_pos h0 h]
    refine ⟨_, _, _, word_read (by omega) h _, ?_, fun e => absurd e h0, by omega⟩
    by_cases hn : n < 0
    · simp only [hn, decide_true, signed, if_true, Nat.shiftLeft_zero]
      have : n = -(n.natAbs : Int) := by omega
      rw [this]
      push_cast
      rw [Int.neg_mul]
      simp
    · simp only [hn, decide_false, signed, Nat.shiftLeft_zero]
      have : n = (n.natAbs : Int) := by omega
      rw [this]
      push_cast
      simp
end Go.SX
