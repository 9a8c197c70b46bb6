/-
  Plain words: a line of delay, and what FnDelayed asks of the rack's rows.
  No condition.
-/
import Derived.Test.YtbhnlplbfhomcaaRlB
import Derived.Test.YtbhnlplbfhomcaaRlA
import Derived.Test.YtbhnlplbfhomcaaRkW
set_option linter.unusedVariables false
set_option linter.unusedSimpArgs false
namespace Go.SX
open Go Go.Proofs

/-! ### A line of delay: n numbers, the k-th round writes x k at k mod n -/
def dst (n : Nat) (x : Nat → Pt) : Nat → List Pt
  | 0 => List.replicate n (0, 0)
  | k + 1 => (dst n x k).set (k % n) (x k)
theorem dst_len {n : Nat} {x : Nat → Pt} : ∀ k, (dst n x k).length = n
  | 0 => by simp [dst]
  | k + 1 => by simp [dst, dst_len k]
theorem mod_ne {n k i : Nat} (h0 : 0 < i) (h1 : i < n) : (k + i) % n ≠ k % n := by
  intro h
  have h2 : (k + i) % n = (k % n + i % n) % n := Nat.add_mod ..
  rw [Nat.mod_eq_of_lt h1] at h2
  have hk : k % n < n := Nat.mod_lt _ (by omega)
  by_cases hs : k % n + i < n
  · rw [Nat.mod_eq_of_lt hs] at h2; omega
  · have h3 : (k % n + i) % n = k % n + i - n := by
      rw [Nat.mod_eq_sub_mod (by omega), Nat.mod_eq_of_lt (by omega)]
    omega
theorem dst_at {n : Nat} {x : Nat → Pt} (hn : 0 < n) : ∀ k i, i < n → (dst n x k)[(k + i) % n]? = some (if k + i < n then (0, 0) else x (k + i - n))
  | 0, i, hi => by
    have h1 : i % n = i := Nat.mod_eq_of_lt hi
    simp [dst, h1, hi]
  | k + 1, i, hi => by
    simp only [dst]
    by_cases he : i + 1 = n
    · have h1 : (k + 1 + i) % n = k % n := by
        have : k + 1 + i = k + n := by omega
        rw [this, Nat.add_mod_right]
      have h2 : ¬ k + 1 + i < n := by omega
      have h3 : k + 1 + i - n = k := by omega
      rw [h1, List.getElem?_set_self (by rw [dst_len]; exact Nat.mod_lt _ hn), if_neg h2, h3]
    · have h1 : k + 1 + i = k + (i + 1) := by omega
      rw [h1, List.getElem?_set_ne (Ne.symm (mod_ne (by omega) (by omega)))]
      exact dst_at hn k (i + 1) (by omega)
def dlF (n : Nat) (x : Nat → Pt) (k : Nat) : Pt := if k < n then (0, 0) else x (k - n)
theorem dst_out {n : Nat} {x : Nat → Pt} (hn : 0 < n) (k : Nat) : (dst n x k).getD (k % n) (0, 0) = dlF n x k := by
  have := dst_at (x := x) hn k 0 hn
  rw [Nat.add_zero] at this
  rw [List.getD_eq_getElem?_getD, this]; rfl
theorem mod_next (k n : Nat) : (((k % n : Nat) : Int) + 1) % (n : Int) = (((k + 1) % n : Nat) : Int) := by
  rw [← Nat.mod_add_mod]; push_cast; rfl

/-! ### Lists of equal points -/
theorem eqZFrom_of : ∀ {l m : List Pt}, l.length = m.length → (∀ (i : Nat) (p q : Pt), l[i]? = some p → m[i]? = some q → eqPt p q = true) → eqZFrom l m = true
  | [], _, _, _ => rfl
  | p :: l, [], h, _ => by simp at h
  | p :: l, q :: m, h, he => by
    simp only [eqZFrom, he 0 p q rfl rfl, Bool.true_and]
    exact eqZFrom_of (by simpa using h) (fun i p q h1 h2 => he (i + 1) p q h1 h2)
theorem eqZ_of {l m : List Pt} (h : l.length = m.length) (he : ∀ (i : Nat) (p q : Pt), l[i]? = some p → m[i]? = some q → eqPt p q = true) : eqZ l m = true := by
  simp [eqZ, h, eqZFrom_of h he]

/-! ### FnDelayed -/
def csD : List Cbl := [(0, 1), (1, 2), (2, 3)]
def msD (t s : Pt) (st : List Pt) (a : Int) : List Mod := [mSrc t s, mDel st a, mGain 1073741824, mGain 1056964608]
theorem ordD (t s : Pt) (st : List Pt) (a : Int) : ordL (msD t s st a) csD = [0, 1, 2, 3] := rfl
def g2 (d : Pt) : Pt := scaleF (addPt (0, 0) d) 1073741824
def g3 (d : Pt) : Pt := scaleF (addPt (0, 0) (g2 d)) 1056964608
theorem stepD (o : Nat → Or) (t s : Pt) (st : List Pt) (a : Int) : stepRackF o csD (-1) (0, 0) (msD t s st a) =
    (msD t (mulPt (o 0).1 s t) (st.set a.toNat (addPt (0, 0) s)) ((a + 1) % (st.length : Int)), [s, st.getD a.toNat (0, 0), g2 (st.getD a.toNat (0, 0)), g3 (st.getD a.toNat (0, 0))]) := by
  rw [stepRackF, ordD]
  simp [sweep, sweep1, msD, outs0, inSum, feedsF, csD, stepF, mSrc, mDel, mGain, g2, g3]
def inS (p : Pt) : Prop := p = (1077936128, 3221225472) ∨ p = (3225419776, 1073741824) ∨ p = (1073741824, 1077936128) ∨ p = (3221225472, 3225419776)
def inT (t : Pt) : Prop := t = (1065353216, 0) ∨ t = (3212836864, 0) ∨ t = (0, 1065353216) ∨ t = (0, 3212836864)
def inSb (p : Pt) : Bool := decide (p = (1077936128, 3221225472)) || (decide (p = (3225419776, 1073741824)) || (decide (p = (1073741824, 1077936128)) || decide (p = (3221225472, 3225419776))))
theorem inS_of {p : Pt} (h : inSb p = true) : inS p := by simpa only [inSb, inS, Bool.or_eq_true, decide_eq_true_eq] using h
theorem mulS {t p : Pt} (ht : inT t) (hp : inS p) (o : Nat × Nat) : mulPt o p t = mulPt (0, 0) p t ∧ inS (mulPt (0, 0) p t) := by
  rcases ht with rfl | rfl | rfl | rfl <;> rcases hp with rfl | rfl | rfl | rfl <;> exact ⟨by kernel_rfl, inS_of (by kernel_rfl)⟩
theorem addS {p : Pt} (hp : inS p) : addPt (0, 0) p = p := by rcases hp with rfl | rfl | rfl | rfl <;> kernel_rfl
theorem eqS {p : Pt} (hp : inS p ∨ p = (0, 0)) : eqPt p p = true := by rcases hp with (rfl | rfl | rfl | rfl) | rfl <;> kernel_rfl
theorem g3S {p : Pt} (hp : inS p ∨ p = (0, 0)) : eqPt (g3 p) p = true := by rcases hp with (rfl | rfl | rfl | rfl) | rfl <;> kernel_rfl
def srcF (t : Pt) : Nat → Pt
  | 0 => (1077936128, 3221225472)
  | k + 1 => mulPt (0, 0) (srcF t k) t
theorem srcF_in {t : Pt} (ht : inT t) : ∀ k, inS (srcF t k)
  | 0 => .inl rfl
  | k + 1 => (mulS ht (srcF_in ht k) (0, 0)).2
theorem dlF_in {t : Pt} (ht : inT t) (n k : Nat) : inS (dlF n (srcF t) k) ∨ dlF n (srcF t) k = (0, 0) := by
  unfold dlF
  split
  · exact .inr rfl
  · exact .inl (srcF_in ht _)
theorem trD {n : Nat} {t : Pt} (hn : 0 < n) (ht : inT t) (O : Nat → Nat → Or) : ∀ k, trS O csD (msD t (1077936128, 3221225472) (zs n) 0) k =
    (msD t (srcF t k) (dst n (srcF t) k) ((k % n : Nat) : Int), [(List.range k).map (srcF t), (List.range k).map (dlF n (srcF t)), (List.range k).map fun i => g2 (dlF n (srcF t) i), (List.range k).map fun i => g3 (dlF n (srcF t) i)])
  | 0 => by simp [trS, srcF, dst, zs, msD]
  | k + 1 => by
    simp only [trS, trD hn ht O k, stepD, Int.toNat_natCast, dst_len, dst_out hn, mod_next]
    simp only [addS (srcF_in ht k), (mulS ht (srcF_in ht k) _).1, List.zipWith, List.range_succ, List.map_append, List.map_cons, List.map_nil]
    rfl
theorem plainD {n : Nat} {t : Pt} (h1 : 1 ≤ n) (h2 : n ≤ 16) (ht : inT t) (O : Nat → Nat → Or) : ∃ r0 r1 r2 r3, (trS O csD (msD t (1077936128, 3221225472) (zs n) 0) 40).2 = [r0, r1, r2, r3] ∧
    r0.length = 40 ∧ r1.length = 40 ∧ r2.length = 40 ∧ r3.length = 40 ∧ eqZ (r1.take n) (zs n) = true ∧ eqZ (r1.drop n) (r0.take (40 - n)) = true ∧ eqZ r3 r1 = true := by
  refine ⟨_, _, _, _, congrArg (·.2) (trD (by omega) ht O 40), by simp, by simp, by simp, by simp, eqZ_of (by simp [zs]; omega) ?_, eqZ_of (by simp <;> omega) ?_, eqZ_of (by simp) ?_⟩
  · intro i p q h3 h4
    have hi : i < n := by have := (List.getElem?_eq_some_iff.1 h4).1; simpa [zs] using this
    rw [List.getElem?_take_of_lt hi, List.getElem?_map, List.getElem?_range (by omega)] at h3
    simp only [zs, List.getElem?_replicate, hi, if_true, Option.some.injEq] at h4
    simp only [Option.map_some, Option.some.injEq, dlF, hi, if_true] at h3
    subst h3; subst h4
    exact eqS (.inr rfl)
  · intro i p q h3 h4
    have hi : i < 40 - n := by have := (List.getElem?_eq_some_iff.1 h4).1; simp at this; omega
    rw [List.getElem?_take_of_lt hi, List.getElem?_map, List.getElem?_range (by omega)] at h4
    rw [List.getElem?_drop, List.getElem?_map, List.getElem?_range (by omega)] at h3
    have hx : ¬ n + i < n := by omega
    have hy : n + i - n = i := by omega
    simp only [Option.map_some, Option.some.injEq, dlF, hx, if_false, hy] at h3
    simp only [Option.map_some, Option.some.injEq] at h4
    subst h3; subst h4
    exact eqS (.inl (srcF_in ht i))
  · intro i p q h3 h4
    have hi : i < 40 := by have := (List.getElem?_eq_some_iff.1 h4).1; simpa using this
    rw [List.getElem?_map, List.getElem?_range hi] at h3 h4
    simp only [Option.map_some, Option.some.injEq] at h3 h4
    subst h3; subst h4
    exact g3S (dlF_in ht n i)
theorem src_ok (t s : Pt) : isModuleF (mSrc t s) = true := by
  have hb : bareF ⟨1, (0, 0), (0, 0), 0, [], 0, 0, [], [], 0, 0⟩ = true := by kernel_rfl
  simp [isModuleF, mSrc, hb]
theorem rackD {n : Nat} {t s : Pt} (h1 : 1 ≤ n) (h2 : n ≤ 16) : canTrF (msD t s (zs n) 0) csD 40 = true := by
  have ho : (orderF (msD t s (zs n) 0) csD).isSome = true := rfl
  have hd : isModuleF (mDel (zs n) 0) = true := by
    have := del_ok h1 h2
    simpa [mDel, zs] using this
  have hg : isModuleF (mGain 1073741824) = true ∧ isModuleF (mGain 1056964608) = true := ⟨by kernel_rfl, by kernel_rfl⟩
  have hc : csD.all (cabF (msD t s (zs n) 0).length) = true := rfl
  have hm : (msD t s (zs n) 0).all isModuleF = true := by simp [msD, src_ok, hd, hg.1, hg.2]
  simp [canTrF, isRackF, ho, hc, hm]
  simp [msD, csD]
end Go.SX
