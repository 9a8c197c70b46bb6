/-
  Plain words of FnHealed: a rack of a source, gains and sums goes its way whatever becomes of its outputs.
  No condition.
-/
import Derived.Test.YtbhnlplbfhomcaaRpE
import Derived.Test.YtbhnlplbfhomcaaRqE
set_option linter.unusedVariables false
set_option linter.unusedSimpArgs false
namespace Go.SX
open Go Go.Proofs

def inH (p : Pt) : Prop := p = (1065353216, 1073741824) ∨ p = (3221225472, 1065353216) ∨ p = (3212836864, 3221225472) ∨ p = (1073741824, 3212836864)
def inHb (p : Pt) : Bool := decide (p = (1065353216, 1073741824)) || (decide (p = (3221225472, 1065353216)) || (decide (p = (3212836864, 3221225472)) || decide (p = (1073741824, 3212836864))))
theorem inH_of {p : Pt} (h : inHb p = true) : inH p := by simpa only [inHb, inH, Bool.or_eq_true, decide_eq_true_eq] using h
theorem mulH {p : Pt} (hp : inH p) (o : Nat × Nat) : mulPt o p (0, 1065353216) = mulPt (0, 0) p (0, 1065353216) ∧ inH (mulPt (0, 0) p (0, 1065353216)) := by
  rcases hp with rfl | rfl | rfl | rfl <;> exact ⟨by kernel_rfl, inH_of (by kernel_rfl)⟩
/-- A module that goes its way, whatever it is given. -/
def calm (m : Mod) : Prop := (m.kind = 1 ∧ m.turn = (0, 1065353216) ∧ inH m.state) ∨ m.kind = 0 ∨ m.kind = 3 ∨ m.kind = 5
theorem calm_n4 {m : Mod} (h : calm m) : ¬ m.kind = 4 := by
  rcases h with ⟨h, _⟩ | h | h | h <;> omega
theorem calm_step {m : Mod} (h : calm m) (o o' : Or) (z z' : Pt) : (stepF o m z).1 = (stepF o' m z').1 ∧ (stepF o m z).2 = (stepF o' m z).2 ∧ calm (stepF o m z).1 := by
  rcases h with ⟨h1, h2, h3⟩ | h | h | h
  · obtain ⟨a1, a2⟩ := mulH h3 o.1
    obtain ⟨b1, _⟩ := mulH h3 o'.1
    simp only [stepF, h1, if_true, h2, a1, b1, true_and]
    exact .inl ⟨rfl, rfl, a2⟩
  · simp only [stepF, h, show ¬ (0 : Int) = 1 by decide, show ¬ (0 : Int) = 2 by decide, show ¬ (0 : Int) = 3 by decide, show ¬ (0 : Int) = 4 by decide, show ¬ (0 : Int) = 6 by decide, show ¬ (0 : Int) = 7 by decide, show ¬ (0 : Int) = 8 by decide, if_false, true_and]
    exact .inr (.inl h)
  · simp only [stepF, h, show ¬ (3 : Int) = 1 by decide, show ¬ (3 : Int) = 2 by decide, if_false, if_true, true_and]
    exact .inr (.inr (.inl h))
  · simp only [stepF, h, show ¬ (5 : Int) = 1 by decide, show ¬ (5 : Int) = 2 by decide, show ¬ (5 : Int) = 3 by decide, show ¬ (5 : Int) = 4 by decide, show ¬ (5 : Int) = 6 by decide, show ¬ (5 : Int) = 7 by decide, show ¬ (5 : Int) = 8 by decide, if_false, true_and]
    exact .inr (.inr (.inr h))
theorem calm_d : calm dMod := .inr (.inl rfl)
theorem calm_getD {ms : List Mod} (h : ∀ m ∈ ms, calm m) (i : Nat) : calm (ms.getD i dMod) := by
  rw [List.getD_eq_getElem?_getD]
  cases e : ms[i]? with
  | none => exact calm_d
  | some m => exact h m (List.mem_of_getElem? e)
theorem sweep_same {bec : Int → Pt → Pt} {o o' : Nat → Or} {cs : List Cbl} {inn : Int} {z : Pt} : ∀ (l : List Int) (j : Nat) (s s' : List Mod × List Pt), s.1 = s'.1 → (∀ m ∈ s.1, calm m) →
    (sweepG bec o cs inn z l j s).1 = (sweep o' cs inn z l j s').1 ∧ (∀ m ∈ (sweepG bec o cs inn z l j s).1, calm m) ∧ ((∀ i p, bec i p = p) → s.2 = s'.2 → (sweepG bec o cs inn z l j s).2 = (sweep o' cs inn z l j s').2)
  | [], j, s, s', h1, h2 => ⟨h1, h2, fun _ h => h⟩
  | i :: l, j, s, s', h1, h2 => by
    simp only [sweepG, sweep]
    have hc := calm_getD h2 i.toNat
    obtain ⟨c1, _, c3⟩ := calm_step hc (o j) (o' j) (inSum cs i inn z s.2) (inSum cs i inn z s'.2)
    have e1 : (sweepG1 bec (o j) cs inn z i s).1 = (sweep1 (o' j) cs inn z i s').1 := by
      simp only [sweepG1, sweep1, ← h1, c1]
    have e2 : ∀ m ∈ (sweepG1 bec (o j) cs inn z i s).1, calm m := fun m hm => by
      simp only [sweepG1] at hm
      rcases List.mem_or_eq_of_mem_set hm with hm | rfl
      · exact h2 m hm
      · exact c3
    obtain ⟨r1, r2, r3⟩ := sweep_same (bec := bec) (o := o) (o' := o') (cs := cs) (inn := inn) (z := z) l (j + 1) _ _ e1 e2
    refine ⟨r1, r2, fun hb hs => r3 hb ?_⟩
    obtain ⟨_, d2, _⟩ := calm_step hc (o j) (o' j) (inSum cs i inn z s'.2) (inSum cs i inn z s'.2)
    simp only [sweepG1, sweep1, ← h1, hs, hb, d2]
theorem outs_calm {bec : Int → Pt → Pt} {ms : List Mod} (h : ∀ m ∈ ms, calm m) : outs0G bec ms = outs0 ms := by
  have e1 : outs0 ms = ms.map fun _ => ((0, 0) : Pt) := List.map_congr_left fun m hm => by simp [calm_n4 (h m hm)]
  have e2 : (List.range ms.length).map (fun i => outG bec i (ms.getD i dMod)) = (List.range ms.length).map fun _ => ((0, 0) : Pt) := List.map_congr_left fun i _ => if_neg (calm_n4 (calm_getD h i))
  rw [outs0G, outsG, e1, e2, Nat.sub_self, List.replicate_zero, List.append_nil]
  exact List.ext_getElem (by simp) (fun i h1 h2 => by simp)
theorem rack_same {bec : Int → Pt → Pt} {o o' : Nat → Or} {cs : List Cbl} {inn : Int} {z : Pt} {ms : List Mod} (h : ∀ m ∈ ms, calm m) :
    (stepRackG bec o cs inn z ms).1 = (stepRackF o' cs inn z ms).1 ∧ (∀ m ∈ (stepRackG bec o cs inn z ms).1, calm m) ∧ ((∀ i p, bec i p = p) → (stepRackG bec o cs inn z ms).2 = (stepRackF o' cs inn z ms).2) := by
  obtain ⟨h1, h2, h3⟩ := sweep_same (bec := bec) (o := o) (o' := o') (cs := cs) (inn := inn) (z := z) (ordL ms cs) 0 (ms, outs0G bec ms) (ms, outs0 ms) rfl h
  exact ⟨h1, h2, fun hb => h3 hb (outs_calm h)⟩
theorem run_same {O O' : Nat → Nat → Or} {cs : List Cbl} {a b : Int} {xs : List Pt} {fs : List Fa} {ms : List Mod} (h : ∀ m ∈ ms, calm m) : ∀ k,
    (runG O cs a b xs fs ms k).1.1 = (runS O' cs a b xs ms k).1 ∧ (∀ m ∈ (runG O cs a b xs fs ms k).1.1, calm m) ∧ (runG O cs a b xs fs ms k).2.length = k ∧ (runS O' cs a b xs ms k).2.length = k ∧
      ∀ i : Nat, (∀ last n p, becF fs (i : Int) last n p = p) → (runG O cs a b xs fs ms k).2[i]? = (runS O' cs a b xs ms k).2[i]?
  | 0 => ⟨rfl, h, rfl, rfl, fun _ _ => rfl⟩
  | k + 1 => by
    obtain ⟨h1, h2, h3, h4, h5⟩ := run_same (O := O) (O' := O') (cs := cs) (a := a) (b := b) (xs := xs) (fs := fs) h k
    simp only [runG, runS]
    obtain ⟨r1, r2, r3⟩ := rack_same (bec := becF fs (k : Int) (runG O cs a b xs fs ms k).1.2) (o := O k) (o' := O' k) (cs := cs) (inn := a) (z := xs.getD k (0, 0)) h2
    rw [← h1]
    refine ⟨r1, r2, by simp [h3], by simp [h4], fun i hi => ?_⟩
    rcases Nat.lt_trichotomy i k with hik | rfl | hik
    · rw [List.getElem?_append_left (by omega), List.getElem?_append_left (by omega)]
      exact h5 i hi
    · rw [List.getElem?_append_right (by omega), List.getElem?_append_right (by omega), h3, h4, r3 (fun n p => hi _ n p)]
    · rw [List.getElem?_eq_none (by simp; omega), List.getElem?_eq_none (by simp; omega)]
theorem bec_out {f : Fa} {i : Int} (h : i < f.fr ∨ f.to_ ≤ i) (last : List Pt) (n : Int) (p : Pt) : becF [f] i last n p = p := by
  simp only [becF, List.foldl_cons, List.foldl_nil, bec1]
  split
  · omega
  · rfl
theorem take_same {l m : List Pt} {n : Nat} (h : ∀ i, i < n → l[i]? = m[i]?) : l.take n = m.take n := List.ext_getElem? fun i => by
  by_cases hi : i < n
  · rw [List.getElem?_take_of_lt hi, List.getElem?_take_of_lt hi, h i hi]
  · rw [List.getElem?_eq_none (by simp; omega), List.getElem?_eq_none (by simp; omega)]
theorem drop_same {l m : List Pt} {n : Nat} (h : ∀ i, n ≤ i → l[i]? = m[i]?) : l.drop n = m.drop n := List.ext_getElem? fun i => by
  rw [List.getElem?_drop, List.getElem?_drop, h _ (by omega)]

/-! ### The rack -/
def fH (l : List Int) (i : Nat) : Option Nat := if (atF l i).tmod 2 = 0 then some (fop .quo .f32 (FloatKind.f32.nearest ((atF l (i + 5)).tmod 5)) 1073741824) else none
def cH (l : List Int) (i : Nat) : Nat := ((atF l (i + 9)).tmod (i : Int)).toNat
def mH : Option Nat → Mod
  | none => mSum
  | some v => mGain v
def msH (l : List Int) (k : Nat) : List Mod := mSrc (0, 1065353216) (1065353216, 1073741824) :: (List.range k).map fun i => mH (fH l (i + 1))
theorem msH_len (l : List Int) (k : Nat) : (msH l k).length = k + 1 := by simp [msH]
theorem msH_next (l : List Int) (k : Nat) : msH l k ++ [mH (fH l (k + 1))] = msH l (k + 1) := by simp [msH, List.range_succ]
theorem mH_k (o : Option Nat) : ((mH o).kind = 3 ∨ (mH o).kind = 5) ∧ OkM (mH o) ∧ isModuleF (mH o) = true := by
  cases o with
  | none => exact ⟨.inr rfl, ⟨by simp [mH, mSum], by simp [mH, mSum], by simp [mH, mSum]⟩, by kernel_rfl⟩
  | some v =>
    have hb : bareF ⟨3, (0, 0), (0, 0), 0, [], 0, 0, [], [], 0, 0⟩ = true := by kernel_rfl
    refine ⟨.inl rfl, ⟨by simp [mH, mGain], by simp [mH, mGain], by simp [mH, mGain]⟩, ?_⟩
    simp [isModuleF, mH, mGain, hb]
theorem msH_ok (l : List Int) (k : Nat) : ∀ m ∈ msH l k, calm m ∧ OkM m ∧ isModuleF m = true := by
  intro m hm
  rcases List.mem_cons.1 hm with rfl | hm
  · exact ⟨.inl ⟨rfl, rfl, .inl rfl⟩, ⟨by simp [mSrc], by simp [mSrc], by simp [mSrc]⟩, src_ok _ _⟩
  · simp only [List.mem_map] at hm
    obtain ⟨i, _, rfl⟩ := hm
    obtain ⟨h1, h2, h3⟩ := mH_k (fH l (i + 1))
    exact ⟨.inr (.inr h1), h2, h3⟩
theorem cH_lt {l : List Int} (hb : ∀ b ∈ l, 0 ≤ b ∧ b < 256) : ∀ i, 1 ≤ i → i < 6 → cH l i < i := by
  intro i h1 _
  obtain ⟨q, hq, hq3⟩ := at_mod hb (i + 9) i (by omega)
  unfold cH
  rw [hq]; omega
theorem csK_5 (c : Nat → Nat) : csK c 5 = [((c 1 : Int), 1), (0, 1), ((c 2 : Int), 2), (1, 2), ((c 3 : Int), 3), (2, 3), ((c 4 : Int), 4), (3, 4)] := rfl
theorem rackH {l : List Int} (hb : ∀ b ∈ l, 0 ≤ b ∧ b < 256) : isRackF (msH l 4) (csK (cH l) 5) = true := by
  have q1 := cH_lt hb 1 (by omega) (by omega)
  have q2 := cH_lt hb 2 (by omega) (by omega)
  have q3 := cH_lt hb 3 (by omega) (by omega)
  have q4 := cH_lt hb 4 (by omega) (by omega)
  have hf : ∀ c ∈ csK (cH l) 5, 0 ≤ c.1 ∧ c.1 < c.2 := by
    rw [csK_5]
    intro c hc
    simp only [List.mem_cons, List.not_mem_nil, or_false] at hc
    rcases hc with rfl | rfl | rfl | rfl | rfl | rfl | rfl | rfl <;> simp <;> omega
  have h1 : (msH l 4).all isModuleF = true := List.all_eq_true.2 fun m hm => (msH_ok l 4 m hm).2.2
  have h2 : (csK (cH l) 5).all (cabF 5) = true := by
    rw [csK_5]
    simp [cabF]
    omega
  have h3 : (orderF (msH l 4) (csK (cH l) 5)).isSome = true := by rw [order_fwd hf]; rfl
  have h4 : (csK (cH l) 5).length = 8 := rfl
  simp [isRackF, msH_len, h1, h2, h3, h4]
theorem canH {l : List Int} (hb : ∀ b ∈ l, 0 ≤ b ∧ b < 256) : canRunF (msH l 4) (csK (cH l) 5) (-1) 4 16 = true := by
  simp [canRunF, plugF, rackH hb, msH_len]
theorem canHf {l : List Int} (hb : ∀ b ∈ l, 0 ≤ b ∧ b < 256) {f : Fa} (h1 : 1 ≤ f.kind) (h2 : f.kind ≤ 3) (h3 : 0 ≤ f.md) (h4 : f.md < 5) (h5 : 0 ≤ f.fr) (h6 : f.fr ≤ f.to_) (h7 : f.to_ ≤ 500) : canRfF (msH l 4) (csK (cH l) 5) [f] (-1) 4 16 = true := by
  have hbad : badF 5 f = false := by
    simp [badF]; omega
  simp [canRfF, areF, canH hb, rackH hb, msH_len, idxF, hbad]
end Go.SX
