/-
  0 + x is x, for every number x but a zero, which stays a zero.
  No condition.
-/
import Derived.Test.YtbhnlplbfhomcaaRpC
set_option linter.unusedVariables false
set_option linter.unusedSimpArgs false
namespace Go.SX
open Go Ieee

/-- The rung of a word is the word's own. -/
theorem read_cases (x : Nat) : (∃ s m, single.read x = .number s m (-149) ∧ m < 8388608) ∨ (∃ (s : Bool) (m e : Nat), single.read x = .number s m (-149 + (e : Int)) ∧ 8388608 ≤ m ∧ m < 16777216 ∧ e ≤ 253) ∨ (∃ s, single.read x = .infinity s) ∨ (∃ s t, single.read x = .nan s t) := by
  have e1 : single.leastPlace = -149 := by decide
  have e3 : single.binade = 8388608 := by decide
  have e4 : single.infRung = 2139095040 := by decide
  have e5 : single.signWeight = 2147483648 := by decide
  unfold Format.read
  simp only [e1, e3, e4, e5]
  split
  · rename_i h; exact .inl ⟨_, _, rfl, h⟩
  · rename_i h
    split
    · rename_i h2
      refine .inr (.inl ⟨_, 8388608 + x % 2147483648 % 8388608, x % 2147483648 / 8388608 - 1, rfl, by omega, by omega, by omega⟩)
    · split
      · exact .inr (.inr (.inl ⟨_, rfl⟩))
      · exact .inr (.inr (.inr ⟨_, _, rfl⟩))
/-- The nearest word of a number of the format, its digits shifted to the last place. -/
theorem near_low {m : Nat} (h0 : 0 < m) (h : m < 8388608) (neg : Bool) : single.nearest neg m (-149) = single.word neg m := by
  have hl : m.log2 ≤ 22 := by
    have := (Nat.log2_lt (Nat.ne_of_gt h0) (k := 23)).2 (by omega)
    omega
  have e1 : single.leastPlace = -149 := by decide
  have e2 : single.fractionBits = 23 := rfl
  have e3 : single.binade = 8388608 := by decide
  have e4 : single.infRung = 2139095040 := by decide
  unfold Format.nearest
  rw [if_neg (Nat.ne_of_gt h0)]
  have hlast : max ((-149 : Int) + (m.log2 : Int) - (single.fractionBits : Int)) single.leastPlace = -149 := by rw [e1, e2]; omega
  simp only [hlast]
  have h1 : ((-149 : Int) - -149).toNat = 0 := by decide
  rw [e1, e3, e4, h1, Nat.shiftLeft_zero, Nat.zero_mul, Nat.zero_add]
  have hk := cut_exact neg m 0 h0
  rw [Nat.pow_zero, Nat.mul_one] at hk
  rw [hk, Nat.min_eq_left (by omega)]
theorem near_high {m e : Nat} (h0 : 8388608 ≤ m) (h : m < 16777216) (he : e ≤ 253) (neg : Bool) : single.nearest neg (m * 2 ^ e) (-149) = single.word neg (e * 8388608 + m) := by
  have hpos : 0 < m * 2 ^ e := Nat.mul_pos (by omega) (Nat.two_pow_pos e)
  have hl : m.log2 = 23 := by
    rw [Nat.log2_eq_iff (by omega)]
    omega
  have e1 : single.leastPlace = -149 := by decide
  have e2 : single.fractionBits = 23 := rfl
  have e3 : single.binade = 8388608 := by decide
  have e4 : single.infRung = 2139095040 := by decide
  unfold Format.nearest
  rw [if_neg (Nat.ne_of_gt hpos)]
  have hlast : max ((-149 : Int) + ((m * 2 ^ e).log2 : Int) - (single.fractionBits : Int)) single.leastPlace = -149 + (e : Int) := by
    rw [e1, e2, log2_mul _ _ (by omega), hl]; omega
  simp only [hlast]
  have h1 : ((-149 : Int) - (-149 + (e : Int))).toNat = 0 := by omega
  have h2 : ((-149 : Int) + (e : Int) - -149).toNat = e := by omega
  rw [e1, e3, e4, h1, h2, Nat.shiftLeft_zero, cut_exact neg m e (by omega)]
  have h3 : e * 8388608 + m ≤ 2139095040 := Nat.le_trans (Nat.add_le_add (Nat.mul_le_mul_right _ he) (Nat.le_of_lt h)) (by decide)
  rw [Nat.min_eq_left h3]
theorem read_low {m : Nat} (h : m < 8388608) (neg : Bool) : single.read (single.word neg m) = .number neg m (-149) := by
  have e1 : single.leastPlace = -149 := by decide
  have e3 : single.binade = 8388608 := by decide
  have e4 : single.infRung = 2139095040 := by decide
  have e5 : single.signWeight = 2147483648 := by decide
  have hm : single.word neg m % 2147483648 = m := by unfold Format.word; rw [e5]; split <;> omega
  have hn : (single.word neg m / 2147483648 % 2 == 1) = neg := by
    unfold Format.word; rw [e5]
    cases neg
    · simp; omega
    · simp; omega
  unfold Format.read
  simp only [e5, hm, hn, e3, e4, e1]
  rw [if_pos h]
theorem read_high {m e : Nat} (h0 : 8388608 ≤ m) (h : m < 16777216) (he : e ≤ 253) (neg : Bool) : single.read (single.word neg (e * 8388608 + m)) = .number neg m (-149 + (e : Int)) := by
  have e1 : single.leastPlace = -149 := by decide
  have e3 : single.binade = 8388608 := by decide
  have e4 : single.infRung = 2139095040 := by decide
  have e5 : single.signWeight = 2147483648 := by decide
  have hr : e * 8388608 + m < 2139095040 := Nat.lt_of_lt_of_le (Nat.add_lt_add_of_le_of_lt (Nat.mul_le_mul_right _ he) h) (by decide)
  have hm : single.word neg (e * 8388608 + m) % 2147483648 = e * 8388608 + m := by unfold Format.word; rw [e5]; split <;> omega
  have hn : (single.word neg (e * 8388608 + m) / 2147483648 % 2 == 1) = neg := by
    unfold Format.word; rw [e5]
    cases neg
    · simp; omega
    · simp; omega
  unfold Format.read
  simp only [e5, hm, hn, e3, e4, e1]
  rw [if_neg (by omega), if_pos hr]
  have hmod : (e * 8388608 + m) % 8388608 = m - 8388608 := by omega
  have hdiv : (e * 8388608 + m) / 8388608 = e + 1 := by omega
  rw [hmod, hdiv]
  have a1 : 8388608 + (m - 8388608) = m := by omega
  rw [a1]
  rfl
theorem cmp_self (x : Int) : compare x x = .eq := by simp [compare, compareOfLessAndEq]
theorem zero_sum (x : Nat) (h : fcmp .eql .f32 x x = true) : fcmp .eql .f32 (fop .add .f32 0 x) x = true := by
  have r0 : single.read 0 = .number false 0 (-149) := by decide
  have hx : (single.order x x == some .eq) = true := h
  have goal : (single.order ((single.add 0 x).getD (qn .f32)) x == some .eq) = true := by
    rcases read_cases x with ⟨s, m, hr, hm⟩ | ⟨s, m, e, hr, h0, h1, he⟩ | ⟨s, hr⟩ | ⟨s, t, hr⟩
    · have ha : single.add 0 x = some (single.nearest (if signed s m 0 = 0 then false else decide (signed s m 0 < 0)) (signed s m 0).natAbs (-149)) := by
        unfold Format.add
        rw [r0, hr]
        simp only [Datum.sum, Option.map_some, Format.write, Int.min_self, Int.sub_self, Int.toNat_zero, Bool.false_and]
        simp [signed]
      rw [ha]
      simp only [Option.getD_some]
      by_cases hz : m = 0
      · subst hz
        have h5 : signed s 0 0 = 0 := by cases s <;> rfl
        rw [h5]
        unfold Format.order
        rw [show single.nearest (if (0 : Int) = 0 then false else decide ((0 : Int) < 0)) (0 : Int).natAbs (-149) = 0 from by decide, r0, hr]
        simp only [Datum.order, Int.min_self]
        have : signed s 0 ((-149 : Int) - -149).toNat = 0 := by cases s <;> rfl
        rw [this]; rfl
      · have h5 : (if signed s m 0 = 0 then false else decide (signed s m 0 < 0)) = s := by
          cases s
          · simp [signed]
          · simp [signed]; omega
        have h6 : (signed s m 0).natAbs = m := by cases s <;> simp [signed]
        rw [h5, h6, near_low (by omega) hm]
        unfold Format.order
        rw [read_low hm, hr]
        simp only [Datum.order, cmp_self]
        rfl
    · have hp : 0 < m * 2 ^ e := Nat.mul_pos (by omega) (Nat.two_pow_pos e)
      have ha : single.add 0 x = some (single.nearest s (m * 2 ^ e) (-149)) := by
        unfold Format.add
        rw [r0, hr]
        have hb : min (-149 : Int) (-149 + (e : Int)) = -149 := by omega
        have hd : ((-149 : Int) + (e : Int) - -149).toNat = e := by omega
        simp only [Datum.sum, Option.map_some, Format.write, hb, hd, Int.sub_self, Int.toNat_zero, Bool.false_and]
        have h4 : signed false 0 0 + signed s m e = if s = true then -((m * 2 ^ e : Nat) : Int) else ((m * 2 ^ e : Nat) : Int) := by
          cases s <;> simp [signed, shl_mul]
        rw [h4]
        congr 1
        cases s
        · simp only [Bool.false_eq_true, if_false]
          have : ¬ ((m * 2 ^ e : Nat) : Int) = 0 := by omega
          have h7 : ¬ ((m * 2 ^ e : Nat) : Int) < 0 := by omega
          rw [if_neg this]
          simp only [h7, decide_false, Int.natAbs_natCast]
        · simp only [if_true]
          have : ¬ -((m * 2 ^ e : Nat) : Int) = 0 := by omega
          have h7 : -((m * 2 ^ e : Nat) : Int) < 0 := by omega
          rw [if_neg this]
          simp only [h7, decide_true, Int.natAbs_neg, Int.natAbs_natCast]
      rw [ha]
      simp only [Option.getD_some]
      rw [near_high h0 h1 he]
      unfold Format.order
      rw [read_high h0 h1 he, hr]
      simp only [Datum.order, cmp_self]
      rfl
    · have ha : single.add 0 x = some (single.write (.infinity s)) := by
        unfold Format.add
        rw [r0, hr]
        simp only [Datum.sum, Option.map_some]
      rw [ha]
      simp only [Option.getD_some]
      unfold Format.order
      rw [hr]
      have : single.read (single.write (.infinity s)) = .infinity s := by cases s <;> decide
      rw [this]
      cases s <;> decide
    · unfold Format.order at hx
      rw [hr] at hx
      simp [Datum.order] at hx
  exact goal
theorem add_read {x y : Nat} (h : single.read y = single.read x) : fop .add .f32 0 y = fop .add .f32 0 x := by
  show (single.add 0 y).getD _ = (single.add 0 x).getD _
  unfold Format.add
  rw [h]
theorem zero_read (x : Nat) (h : fcmp .eql .f32 x x = true) : single.read (fop .add .f32 0 x) = single.read x ∨ fop .add .f32 0 x = 0 := by
  have r0 : single.read 0 = .number false 0 (-149) := by decide
  have hx : (single.order x x == some .eq) = true := h
  show single.read ((single.add 0 x).getD (qn .f32)) = single.read x ∨ (single.add 0 x).getD (qn .f32) = 0
  rcases read_cases x with ⟨s, m, hr, hm⟩ | ⟨s, m, e, hr, h0, h1, he⟩ | ⟨s, hr⟩ | ⟨s, t, hr⟩
  · have ha : single.add 0 x = some (single.nearest (if signed s m 0 = 0 then false else decide (signed s m 0 < 0)) (signed s m 0).natAbs (-149)) := by
      unfold Format.add
      rw [r0, hr]
      simp only [Datum.sum, Option.map_some, Format.write, Int.min_self, Int.sub_self, Int.toNat_zero, Bool.false_and]
      simp [signed]
    rw [ha]
    simp only [Option.getD_some]
    by_cases hz : m = 0
    · subst hz
      have h5 : signed s 0 0 = 0 := by cases s <;> rfl
      rw [h5]
      exact .inr (by decide)
    · have h5 : (if signed s m 0 = 0 then false else decide (signed s m 0 < 0)) = s := by
        cases s
        · simp [signed]
        · simp [signed]; omega
      have h6 : (signed s m 0).natAbs = m := by cases s <;> simp [signed]
      rw [h5, h6, near_low (by omega) hm, read_low hm, hr]
      exact .inl rfl
  · have hp : 0 < m * 2 ^ e := Nat.mul_pos (by omega) (Nat.two_pow_pos e)
    have ha : single.add 0 x = some (single.nearest s (m * 2 ^ e) (-149)) := by
      unfold Format.add
      rw [r0, hr]
      have hb : min (-149 : Int) (-149 + (e : Int)) = -149 := by omega
      have hd : ((-149 : Int) + (e : Int) - -149).toNat = e := by omega
      simp only [Datum.sum, Option.map_some, Format.write, hb, hd, Int.sub_self, Int.toNat_zero, Bool.false_and]
      have h4 : signed false 0 0 + signed s m e = if s = true then -((m * 2 ^ e : Nat) : Int) else ((m * 2 ^ e : Nat) : Int) := by
        cases s <;> simp [signed, shl_mul]
      rw [h4]
      congr 1
      cases s
      · simp only [Bool.false_eq_true, if_false]
        have : ¬ ((m * 2 ^ e : Nat) : Int) = 0 := by omega
        have h7 : ¬ ((m * 2 ^ e : Nat) : Int) < 0 := by omega
        rw [if_neg this]
        simp only [h7, decide_false, Int.natAbs_natCast]
      · simp only [if_true]
        have : ¬ -((m * 2 ^ e : Nat) : Int) = 0 := by omega
        have h7 : -((m * 2 ^ e : Nat) : Int) < 0 := by omega
        rw [if_neg this]
        simp only [h7, decide_true, Int.natAbs_neg, Int.natAbs_natCast]
    rw [ha]
    simp only [Option.getD_some]
    rw [near_high h0 h1 he, read_high h0 h1 he, hr]
    exact .inl rfl
  · have ha : single.add 0 x = some (single.write (.infinity s)) := by
      unfold Format.add
      rw [r0, hr]
      simp only [Datum.sum, Option.map_some]
    rw [ha]
    simp only [Option.getD_some]
    rw [hr]
    exact .inl (by cases s <;> decide)
  · unfold Format.order at hx
    rw [hr] at hx
    simp [Datum.order] at hx
theorem zero_idem (x : Nat) (h : fcmp .eql .f32 x x = true) : fop .add .f32 0 (fop .add .f32 0 x) = fop .add .f32 0 x := by
  rcases zero_read x h with h1 | h1
  · exact add_read h1
  · rw [h1]; decide
theorem eql_right {a b : Nat} (h : fcmp .eql .f32 a b = true) : fcmp .eql .f32 b b = true := by
  have h1 : (single.order a b == some .eq) = true := h
  show (single.order b b == some .eq) = true
  unfold Format.order at h1 ⊢
  rcases read_cases b with ⟨s, m, hr, _⟩ | ⟨s, m, e, hr, _⟩ | ⟨s, hr⟩ | ⟨s, t, hr⟩
  · rw [hr]; simp only [Datum.order, cmp_self]; rfl
  · rw [hr]; simp only [Datum.order, cmp_self]; rfl
  · rw [hr]; cases s <;> decide
  · rw [hr] at h1
    cases hq : single.read a <;> rw [hq] at h1 <;> simp [Datum.order] at h1
end Go.SX
