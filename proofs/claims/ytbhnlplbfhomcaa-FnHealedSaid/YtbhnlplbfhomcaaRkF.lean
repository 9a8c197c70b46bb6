/-
  A number of single precision is one of double precision.
  No condition.
-/
import Derived.Test.YtbhnlplbfhomcaaSyC
set_option linter.unusedVariables false
set_option linter.unusedSimpArgs false
namespace Go.SX
open Go

theorem read_word {f : Ieee.Format} {neg : Bool} {R : Nat} (h : R < f.infRung) (hw : f.infRung ≤ f.signWeight) : (f.read (f.word neg R)).isInfinity = false := by
  have e : f.word neg R % f.signWeight = R := by
    unfold Ieee.Format.word
    have : R < f.signWeight := by omega
    cases neg
    · simp; exact Nat.mod_eq_of_lt this
    · simp; exact Nat.mod_eq_of_lt this
  unfold Ieee.Format.read
  simp only [e]
  by_cases h1 : R < f.binade
  · simp [h1, Ieee.Datum.isInfinity]
  · simp [h1, h, Ieee.Datum.isInfinity]

theorem double_small (sg : Bool) (m : Nat) (e : Int) (hm : m < 16777216) (h1 : -149 ≤ e) (h2 : e ≤ 104) : (Ieee.double.read (Ieee.double.write (.number sg m e))).isInfinity = false := by
  show (Ieee.double.read (Ieee.double.nearest sg m e)).isInfinity = false
  unfold Ieee.Format.nearest
  have hw : Ieee.double.infRung ≤ Ieee.double.signWeight := by decide
  by_cases h0 : m = 0
  · rw [if_pos h0]; exact read_word (by decide) hw
  · rw [if_neg h0]
    have hL : m.log2 < 24 := (Nat.log2_lt h0).2 hm
    have hlast : max (e + m.log2 - (Ieee.double.fractionBits : Int)) Ieee.double.leastPlace = e + m.log2 - 52 := by
      have e1 : (Ieee.double.fractionBits : Int) = 52 := rfl
      have e2 : Ieee.double.leastPlace = -1074 := by decide
      rw [e1, e2]; omega
    simp only [hlast]
    have d0 : (e + m.log2 - 52 - e).toNat = 0 := by omega
    have d1 : (e - (e + m.log2 - 52)).toNat = 52 - m.log2 := by omega
    rw [d0, d1]
    have hk : Ieee.Toward.even.cut sg (m <<< (52 - m.log2)) 0 = m <<< (52 - m.log2) := by simp [Ieee.Toward.cut, Nat.mod_one]
    rw [hk]
    have hlt : m <<< (52 - m.log2) < 2 ^ 53 := by
      rw [Nat.shiftLeft_eq]
      have h3 : m < 2 ^ (m.log2 + 1) := Nat.lt_log2_self
      have h4 : 2 ^ (m.log2 + 1) * 2 ^ (52 - m.log2) = 2 ^ 53 := by rw [← Nat.pow_add]; congr 1; omega
      have h5 : 0 < 2 ^ (52 - m.log2) := Nat.pow_pos (by decide)
      calc m * 2 ^ (52 - m.log2) < 2 ^ (m.log2 + 1) * 2 ^ (52 - m.log2) := Nat.mul_lt_mul_of_pos_right h3 h5
        _ = 2 ^ 53 := h4
    have e2 : Ieee.double.leastPlace = -1074 := by decide
    have e3 : Ieee.double.binade = 2 ^ 52 := rfl
    have e4 : Ieee.double.infRung = 2047 * 2 ^ 52 := by decide
    refine read_word ?_ hw
    rw [e2, e3, e4]
    have : (e + m.log2 - 52 - -1074).toNat ≤ 1149 := by omega
    have h6 : (e + m.log2 - 52 - -1074).toNat * 2 ^ 52 ≤ 1149 * 2 ^ 52 := Nat.mul_le_mul_right _ this
    exact Nat.lt_of_le_of_lt (Nat.min_le_left _ _) (Nat.lt_trans (Nat.add_lt_add_of_le_of_lt h6 hlt) (by decide))

/-- The same number in double precision. -/
def w64 (x : Nat) : Nat := (fconv .f32 x .f64).getD 0
theorem fconv_w (x : Nat) : fconv .f32 x .f64 = some (w64 x) := by
  have : ∃ r, fconv .f32 x .f64 = some r := by
    unfold fconv
    rw [if_neg (by decide)]
    cases hd : FloatKind.f32.decode x with
    | nan a b => exact ⟨_, rfl⟩
    | infinity a => exact ⟨_, rfl⟩
    | number sg m e =>
      have hb : m < 16777216 ∧ -149 ≤ e ∧ e ≤ 104 := by
        have hd' : Ieee.single.read x = .number sg m e := hd
        unfold Ieee.Format.read at hd'
        simp only at hd'
        have e1 : Ieee.single.binade = 8388608 := by decide
        have e2 : Ieee.single.infRung = 2139095040 := by decide
        have e3 : Ieee.single.leastPlace = -149 := by decide
        rw [e1, e2, e3] at hd'
        split at hd'
        · rename_i h; injection hd' with _ q1 q2; subst q1; subst q2; omega
        · split at hd'
          · rename_i h1 h2
            injection hd' with _ q1 q2
            have : x % Ieee.single.signWeight / 8388608 < 255 := by omega
            have : x % Ieee.single.signWeight % 8388608 < 8388608 := Nat.mod_lt _ (by decide)
            subst q1; subst q2; omega
          · split at hd' <;> cases hd'
      have := double_small sg m e hb.1 hb.2.1 hb.2.2
      simp only
      rw [if_neg (by
        show ¬ (Ieee.double.read (Ieee.double.write (.number sg m e))).isInfinity = true
        rw [this]; simp)]
      exact ⟨_, rfl⟩
  obtain ⟨r, hr⟩ := this
  simp [w64, hr]
end Go.SX
