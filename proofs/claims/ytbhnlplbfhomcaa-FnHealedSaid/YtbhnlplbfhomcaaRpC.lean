/-
  Sums and products of whole numbers; the order of a rack whose cables lead onwards.
  No condition.
-/
import Derived.Test.YtbhnlplbfhomcaaRpB
import Derived.Test.YtbhnlplbfhomcaaRkU
set_option linter.unusedVariables false
set_option linter.unusedSimpArgs false
namespace Go.SX
open Go Ieee

theorem signed_shift (s : Bool) (m k : Nat) : signed s m k = signed s m 0 * 2 ^ k := by
  cases s
  · simp [signed, shl_mul]
  · simp [signed, shl_mul, Int.neg_mul]
theorem two_pow_pos (k : Nat) : (0 : Int) < 2 ^ k := by
  have := Nat.two_pow_pos k
  exact_mod_cast this
theorem sgn_of {s : Bool} {m p : Nat} {a : Int} (h : signed s m 0 = a * 2 ^ p) (h0 : a = 0 → s = false) : s = decide (a < 0) := by
  have hp := two_pow_pos p
  cases s with
  | false =>
    simp only [signed, Nat.shiftLeft_zero] at h
    have : ¬ a < 0 := fun hn => by
      have := Int.mul_neg_of_neg_of_pos hn hp
      simp at h
      omega
    simp [this]
  | true =>
    have hne : a ≠ 0 := fun e => by cases h0 e
    simp only [signed, Nat.shiftLeft_zero, if_true] at h
    have : a < 0 := by
      by_cases hn : a < 0
      · exact hn
      · have h1 : 0 < a := by omega
        have := Int.mul_pos h1 hp
        omega
    simp [this]
theorem write_whole {n : Int} (h : n.natAbs < 16777216) {T : Int} {M : Nat} (hM : M ≤ 400) (hT : T = n * 2 ^ M) {neg : Bool} (hneg : neg = decide (n < 0)) : single.nearest neg T.natAbs (-(M : Int)) = wI n := by
  subst hneg
  by_cases h0 : n = 0
  · subst h0
    have : T = 0 := by rw [hT]; simp
    subst this
    rw [wI_zero]; rfl
  · rw [wI_pos h0 h, ← near_scaled (by omega) h (decide (n < 0)) M hM, hT, Int.natAbs_mul, Int.natAbs_pow]
    rfl
theorem add_wI {a b : Int} (ha : a.natAbs < 16777216) (hb : b.natAbs < 16777216) (hab : (a + b).natAbs < 16777216) : fop .add .f32 (wI a) (wI b) = wI (a + b) := by
  obtain ⟨s, m, p, h1, h2, h3, h4⟩ := rep_wI ha
  obtain ⟨t, n, q, k1, k2, k3, k4⟩ := rep_wI hb
  have e : single.add (wI a) (wI b) = some (wI (a + b)) := by
    unfold Format.add
    rw [h1, k1]
    simp only [Datum.sum, Option.map_some, Format.write]
    have hbase : min (-(p : Int)) (-(q : Int)) = -((max p q : Nat) : Int) := by omega
    have d1 : (-(p : Int) - -((max p q : Nat) : Int)).toNat = max p q - p := by omega
    have d2 : (-(q : Int) - -((max p q : Nat) : Int)).toNat = max p q - q := by omega
    rw [hbase, d1, d2]
    have hT : signed s m (max p q - p) + signed t n (max p q - q) = (a + b) * 2 ^ (max p q) := by
      rw [signed_shift s, signed_shift t, h2, k2, Int.mul_assoc, Int.mul_assoc, ← Int.pow_add, ← Int.pow_add, show p + (max p q - p) = max p q by omega, show q + (max p q - q) = max p q by omega, Int.add_mul]
    rw [hT]
    congr 1
    refine write_whole hab (by omega) rfl ?_
    have hp := two_pow_pos (max p q)
    by_cases h0 : a + b = 0
    · rw [h0, Int.zero_mul]
      simp only [if_true]
      rw [sgn_of h2 h3, sgn_of k2 k3]
      by_cases ha0 : a < 0
      · have : ¬ b < 0 := by omega
        simp [this]
      · simp [ha0]
    · have hne : (a + b) * 2 ^ max p q ≠ 0 := Int.mul_ne_zero h0 (by omega)
      rw [if_neg hne]
      by_cases hn : a + b < 0
      · have := Int.mul_neg_of_neg_of_pos hn hp
        simp [this, hn]
      · have := Int.mul_nonneg (show 0 ≤ a + b by omega) (Int.le_of_lt hp)
        simp [hn]; omega
  show (single.add (wI a) (wI b)).getD _ = _
  rw [e]; rfl
theorem mul_wI {a b : Int} (ha : a.natAbs < 16777216) (hb : b.natAbs < 16777216) (h0 : 0 < a) (hab : (a * b).natAbs < 16777216) : fop .mul .f32 (wI a) (wI b) = wI (a * b) := by
  obtain ⟨s, m, p, h1, h2, h3, h4⟩ := rep_wI ha
  obtain ⟨t, n, q, k1, k2, k3, k4⟩ := rep_wI hb
  have hs : s = false := by rw [sgn_of h2 h3]; simp; omega
  subst hs
  have e : single.mul (wI a) (wI b) = some (wI (a * b)) := by
    unfold Format.mul
    rw [h1, k1]
    simp only [Datum.product, Option.map_some, Format.write, Bool.false_xor]
    have hT : signed t (m * n) 0 = (a * b) * 2 ^ (p + q) := by
      have h5 : signed t (m * n) 0 = signed false m 0 * signed t n 0 := by
        cases t
        · simp [signed]
        · simp [signed, Int.mul_neg]
      rw [h5, h2, k2, Int.pow_add]
      rw [Int.mul_assoc, Int.mul_left_comm (2 ^ p), ← Int.mul_assoc a]
    have hm : (m * n : Nat) = (signed t (m * n) 0).natAbs := by cases t <;> simp [signed, Int.natAbs_mul]
    have hpl : -(p : Int) + -(q : Int) = -((p + q : Nat) : Int) := by omega
    rw [hpl, hm]
    congr 1
    refine write_whole hab (by omega) hT ?_
    rw [sgn_of k2 k3]
    by_cases hn : b < 0
    · have := Int.mul_neg_of_pos_of_neg h0 hn
      simp [hn, this]
    · have := Int.mul_nonneg (show 0 ≤ a by omega) (show 0 ≤ b by omega)
      simp [hn]; omega
  show (single.mul (wI a) (wI b)).getD _ = _
  rw [e]; rfl
theorem eql_wI {a : Int} (ha : a.natAbs < 16777216) : fcmp .eql .f32 (wI a) (wI a) = true := by
  obtain ⟨s, m, p, h1, _⟩ := rep_wI ha
  show (single.order (wI a) (wI a) == some .eq) = true
  unfold Format.order
  rw [h1]
  simp only [Datum.order, Int.min_self]
  have : ∀ x : Int, compare x x = .eq := fun x => by simp [compare, compareOfLessAndEq]
  rw [this]; rfl
theorem wI_two : wI 2 = 1073741824 := by decide

/-! ### The order -/
theorem idxF_ge {α : Type} {f : α → Bool} : ∀ (l : List α) (k : Nat), (0 ≤ idxF f l k) ↔ ∃ x ∈ l, f x = true
  | [], k => by simp [idxF]
  | x :: l, k => by
    simp only [idxF]
    split
    · rename_i h; simp [h]
    · rename_i h; rw [idxF_ge l (k + 1)]; simp [h]
theorem hasF_iff {l : List Int} {v : Int} : hasF l v = true ↔ v ∈ l := by
  simp only [hasF, decide_eq_true_eq, idxF_ge]
  constructor
  · rintro ⟨x, hx, rfl⟩; exact hx
  · intro h; exact ⟨v, h, rfl⟩
def iL (k : Nat) : List Int := (List.range k).map fun (i : Nat) => (i : Int)
theorem mem_iL {k : Nat} {v : Int} : v ∈ iL k ↔ 0 ≤ v ∧ v < k := by
  simp only [iL, List.mem_map, List.mem_range]
  constructor
  · rintro ⟨i, hi, rfl⟩; omega
  · rintro ⟨h1, h2⟩; exact ⟨v.toNat, by omega, by omega⟩
theorem iL_succ (k : Nat) : iL k ++ [(k : Int)] = iL (k + 1) := by simp [iL, List.range_succ]
theorem ready_fwd {ms : List Mod} {cs : List Cbl} (h : ∀ c ∈ cs, 0 ≤ c.1 ∧ c.1 < c.2) (k i : Nat) (hi : i ≤ k) : readyF ms cs (iL k) (i : Int) = decide (i = k) := by
  unfold readyF
  by_cases hik : i = k
  · subst hik
    have h1 : hasF (iL i) (i : Int) = false := by
      rw [Bool.eq_false_iff]; intro e; rw [hasF_iff, mem_iL] at e; omega
    have h2 : anyF ms (iL i) (i : Int) cs = false := by
      rw [Bool.eq_false_iff]; intro e
      simp only [anyF, decide_eq_true_eq, idxF_ge] at e
      obtain ⟨c, hc, hb⟩ := e
      simp only [blocks, Bool.and_eq_true, decide_eq_true_eq, Bool.not_eq_true'] at hb
      obtain ⟨hb1, hb2, hb3⟩ := hb
      have := h c hc
      have hm : hasF (iL i) c.1 = true := by rw [hasF_iff, mem_iL]; omega
      rw [hm] at hb3; cases hb3
    simp [h1, h2]
  · have h1 : hasF (iL k) (i : Int) = true := by rw [hasF_iff, mem_iL]; omega
    simp [h1, hik]
theorem readyIdx_fwd {ms : List Mod} {cs : List Cbl} (h : ∀ c ∈ cs, 0 ≤ c.1 ∧ c.1 < c.2) (k : Nat) : ∀ f i, i ≤ k → k < i + f → readyIdx ms cs (iL k) f i = k
  | 0, i, h1, h2 => by omega
  | f + 1, i, h1, h2 => by
    simp only [readyIdx, ready_fwd h k i h1, decide_eq_true_eq]
    split
    · rename_i e; exact e
    · exact readyIdx_fwd h k f (i + 1) (by omega) (by omega)
theorem orderGo_fwd {ms : List Mod} {cs : List Cbl} (h : ∀ c ∈ cs, 0 ≤ c.1 ∧ c.1 < c.2) : ∀ f k, k + f = ms.length → orderGo ms cs f (iL k) = some (iL ms.length)
  | 0, k, e => by simp [orderGo]; rw [← e]; rfl
  | f + 1, k, e => by
    have hr := readyIdx_fwd (ms := ms) h k ms.length 0 (by omega) (by omega)
    simp only [orderGo, hr]
    rw [if_neg (by omega), iL_succ]
    exact orderGo_fwd h f (k + 1) (by omega)
theorem order_fwd {ms : List Mod} {cs : List Cbl} (h : ∀ c ∈ cs, 0 ≤ c.1 ∧ c.1 < c.2) : orderF ms cs = some (iL ms.length) := orderGo_fwd (ms := ms) h ms.length 0 (by omega)
theorem ordL_fwd {ms : List Mod} {cs : List Cbl} (h : ∀ c ∈ cs, 0 ≤ c.1 ∧ c.1 < c.2) : ordL ms cs = iL ms.length := by simp [ordL, order_fwd h]
end Go.SX
