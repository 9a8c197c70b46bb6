/-
  asItIs, sample, isPlug; the pure step of a rack.
  No condition.
-/
import Derived.Test.YtbhnlplbfhomcaaRkP
set_option linter.unusedVariables false
set_option linter.unusedSimpArgs false
namespace Go.SX
open Go Go.Proofs

/-! ### The plain words -/
def dMod : Mod := ⟨0, (0, 0), (0, 0), 0, [], 0, 0, [], [], 0, 0⟩
def inSum (cs : List Cbl) (i inn : Int) (z : Pt) (outs : List Pt) : Pt := (feedsF cs i).foldl (fun s f => addPt s (outs.getD f.toNat (0, 0))) (if i = inn then addPt (0, 0) z else (0, 0))
def outs0 (ms : List Mod) : List Pt := ms.map fun m => if m.kind = 4 then m.store.getD m.rat.toNat (0, 0) else (0, 0)
def sweep1 (o : Or) (cs : List Cbl) (inn : Int) (z : Pt) (i : Int) (s : List Mod × List Pt) : List Mod × List Pt :=
  (s.1.set i.toNat (stepF o (s.1.getD i.toNat dMod) (inSum cs i inn z s.2)).1, if (s.1.getD i.toNat dMod).kind = 4 then s.2 else s.2.set i.toNat (stepF o (s.1.getD i.toNat dMod) (inSum cs i inn z s.2)).2)
def sweep (o : Nat → Or) (cs : List Cbl) (inn : Int) (z : Pt) : List Int → Nat → List Mod × List Pt → List Mod × List Pt
  | [], _, s => s
  | i :: l, j, s => sweep o cs inn z l (j + 1) (sweep1 (o j) cs inn z i s)
def ordL (ms : List Mod) (cs : List Cbl) : List Int := (orderF ms cs).getD []
def stepRackF (o : Nat → Or) (cs : List Cbl) (inn : Int) (z : Pt) (ms : List Mod) : List Mod × List Pt := sweep o cs inn z (ordL ms cs) 0 (ms, outs0 ms)
theorem sweep_congr {o o' : Nat → Or} {cs : List Cbl} {inn : Int} {z : Pt} : ∀ (l : List Int) (j : Nat) (s : List Mod × List Pt), (∀ n, j ≤ n → n < j + l.length → o n = o' n) → sweep o cs inn z l j s = sweep o' cs inn z l j s
  | [], _, _, _ => rfl
  | i :: l, j, s, h => by
    simp only [sweep]
    rw [h j (Nat.le_refl _) (by simp)]
    exact sweep_congr l (j + 1) _ (fun n h1 h2 => h n (by omega) (by simp; omega))
theorem sweep_app {o : Nat → Or} {cs : List Cbl} {inn : Int} {z : Pt} : ∀ (l : List Int) (j : Nat) (s : List Mod × List Pt) (i : Int), sweep o cs inn z (l ++ [i]) j s = sweep1 (o (j + l.length)) cs inn z i (sweep o cs inn z l j s)
  | [], j, s, i => by simp [sweep]
  | k :: l, j, s, i => by
    simp only [List.cons_append, sweep]
    rw [sweep_app l (j + 1)]
    simp [Nat.add_assoc, Nat.add_comm 1]
theorem readyIdx_lt {ms : List Mod} {cs : List Cbl} {out : List Int} {n : Nat} (h : readyIdx ms cs out ms.length 0 = n) (hn : n ≠ ms.length) : n < ms.length := by
  have := readyIdx_le ms cs out ms.length 0; omega
theorem orderGo_lt {ms : List Mod} {cs : List Cbl} : ∀ (f : Nat) (out l : List Int), (∀ i ∈ out, 0 ≤ i ∧ i < ms.length) → orderGo ms cs f out = some l → ∀ i ∈ l, 0 ≤ i ∧ i < ms.length
  | 0, out, l, ho, h => by simp only [orderGo, Option.some.injEq] at h; subst h; exact ho
  | f + 1, out, l, ho, h => by
    simp only [orderGo] at h
    split at h
    · cases h
    · rename_i hn
      refine orderGo_lt f _ l (fun i hi => ?_) h
      rcases List.mem_append.1 hi with hi | hi
      · exact ho i hi
      · simp at hi; subst hi
        have := readyIdx_lt rfl hn
        omega
theorem ordL_lt {ms : List Mod} {cs : List Cbl} : ∀ i ∈ ordL ms cs, 0 ≤ i ∧ i < ms.length := by
  intro i hi
  unfold ordL at hi
  cases h : orderF ms cs with
  | none => rw [h] at hi; simp at hi
  | some l => rw [h] at hi; exact orderGo_lt _ [] l (by simp) h i hi
theorem orderGo_len {ms : List Mod} {cs : List Cbl} : ∀ (f : Nat) (out l : List Int), orderGo ms cs f out = some l → l.length = out.length + f
  | 0, out, l, h => by simp only [orderGo, Option.some.injEq] at h; subst h; rfl
  | f + 1, out, l, h => by
    simp only [orderGo] at h
    split at h
    · cases h
    · have := orderGo_len f _ l h
      simp at this; omega
theorem ordL_len (ms : List Mod) (cs : List Cbl) : (ordL ms cs).length ≤ ms.length := by
  unfold ordL
  cases h : orderF ms cs with
  | none => simp
  | some l => have := orderGo_len _ [] l h; simp at this ⊢; omega

/-- What a step leaves valid. -/
theorem stepF_kind (o : Or) (m : Mod) (z : Pt) : (stepF o m z).1.kind = m.kind := by
  unfold stepF
  repeat' split
  all_goals rfl
theorem stepF_ok {o : Or} {m : Mod} {z : Pt} (h : OkS m) : OkS (stepF o m z).1 := by
  obtain ⟨⟨h1, h2, h3⟩, h4, h5⟩ := h
  have hk := stepF_kind o m z
  refine ⟨?_, fun hq => ?_, fun hq => ?_⟩
  · unfold stepF
    repeat' split
    all_goals exact ⟨by simp [h1], h2, h3⟩
  · rw [hk] at hq
    have := h4 hq
    simp only [stepF, hq, Int.reduceEq, if_false, if_true, List.length_set]
    have hp : (0 : Int) < m.store.length := by omega
    exact ⟨Int.emod_nonneg _ (by omega), Int.emod_lt_of_pos _ hp⟩
  · rw [hk] at hq
    have := h5 hq
    simp only [stepF, hq, Int.reduceEq, if_false, if_true]
    split
    · simp only []; omega
    · simp only []; omega

/-! ### asItIs, sample, isPlug -/
noncomputable def ct_asItIs : Ct := fam true (fun x : Int × Pt => ([.c (.im (.int .i64 x.1)), .c (.im (.cpx .f32 x.2.1 x.2.2))], [])) (fun x => .one { val := .c (.im (.cpx .f32 x.2.1 x.2.2)) })
theorem run_asItIs (i : Int) (u v : Nat) : ct_asItIs.run [.c (.im (.int .i64 i)), .c (.im (.cpx .f32 u v))] [] = some (.one { val := .c (.im (.cpx .f32 u v)) }) := fam_run' (by
    intro a b h
    simp only [Prod.mk.injEq, List.cons.injEq, D.c.injEq, D.agg.injEq, C.im.injEq, I.cpx.injEq, I.flt.injEq, I.int.injEq, I.sl.injEq, I.bool.injEq, I.str.injEq, Int.natCast_inj, true_and, and_true] at h
    (try simp only [Prod.ext_iff, Subtype.ext_iff])
    (try simp only [rowsZ_eq, rowsN_eq] at h)
    simp_all) (i, (u, v))
set_option maxRecDepth 100000 in
theorem law_asItIs : Law Try.prog 45 ct_asItIs := by
  refine fam_law Env_nil hmixA Try.func45 rfl rfl (fun x => ⟨okO_im rfl, by simp [Try.f45], ?_⟩)
  try simp -dsimp (maxSteps := 1000000) only [go_sem, List.forall_mem_nil, ↓reduceIte, Nat.reduceEqDiff, Nat.reduceLT, Nat.reduceLeDiff, Nat.reduceAdd, Nat.reduceMul, reduceCtorEq, Try.f45]
  repeat' (first
    | ((with_reducible refine sl_i ?_ ?_); focus kernel_rfl)
    | ((with_reducible refine ro_i ?_ ?_); focus kernel_rfl)
    | ((with_reducible refine sl_e ?_); kernel_rfl)
    | ((with_reducible refine ro_e ?_); kernel_rfl)
    | ((first | (with_reducible refine gS_d ?_ ?_) | (with_reducible refine gS_dn ?_ ?_) | (with_reducible refine gS_i ?_ ?_)) <;> intro hg <;> (try simp -dsimp (maxSteps := 1000000) only [go_sem, List.forall_mem_nil, ↓reduceIte, Nat.reduceEqDiff, Nat.reduceLT, Nat.reduceLeDiff, Nat.reduceAdd, Nat.reduceMul, reduceCtorEq, Try.f45, *])))
noncomputable def ct_sample : Ct := fam true (fun x : { l : List Pt // l.length ≤ sm } × Nat => ([.c (.im (.sl 1 (rowsZ x.1.1))), .c (.im (.int .i64 (x.2 : Int)))], [])) (fun x => .one { val := .c (.im (.cpx .f32 (x.1.1.getD x.2 (0, 0)).1 (x.1.1.getD x.2 (0, 0)).2)) })
theorem run_sample {l : List Pt} (hl : l.length ≤ sm) (k : Nat) : ct_sample.run [.c (.im (.sl 1 (rowsZ l))), .c (.im (.int .i64 (k : Int)))] [] = some (.one { val := .c (.im (.cpx .f32 (l.getD k (0, 0)).1 (l.getD k (0, 0)).2)) }) := by
  refine fam_run' (args := fun x : { l : List Pt // l.length ≤ sm } × Nat => ([D.c (.im (.sl 1 (rowsZ x.1.1))), .c (.im (.int .i64 (x.2 : Int)))], [])) ?_ (⟨l, hl⟩, k)
  rintro ⟨⟨a, _⟩, b⟩ ⟨⟨a', _⟩, b'⟩ h
  simp only [Prod.mk.injEq, List.cons.injEq, D.c.injEq, C.im.injEq, I.sl.injEq, I.int.injEq, true_and, and_true, rowsZ_eq] at h
  obtain ⟨rfl, h⟩ := h
  have : b = b' := by omega
  subst this; rfl
set_option maxRecDepth 100000 in
theorem law_sample : Law Try.prog 47 ct_sample := by
  refine fam_law Env_nil hmixA Try.func47 rfl rfl (fun ⟨⟨l, hl⟩, k⟩ => ⟨okO_im rfl, by simp [Try.f47], ?_⟩)
  by_cases hlt : k < l.length
  · obtain ⟨p, hp⟩ : ∃ p, l[k]? = some p := ⟨_, List.getElem?_eq_getElem hlt⟩
    have hrow := rowsZ_at hp
    have hI : ((k : Int) < (l.length : Int)) = True := by simp; omega
    have h0 : (0 ≤ (k : Int)) = True := by simp
    have hg : l.getD k (0, 0) = p := by simp [List.getD, hp]
    try simp -dsimp (maxSteps := 1000000) only [go_sem, List.forall_mem_nil, ↓reduceIte, Nat.reduceEqDiff, Nat.reduceLT, Nat.reduceLeDiff, Nat.reduceAdd, Nat.reduceMul, reduceCtorEq, Try.f47, hI, h0, hg, Int.toNat_natCast, hrow, rowsZ_len]
    repeat' (first
      | ((with_reducible refine sl_i ?_ ?_); focus kernel_rfl)
      | ((with_reducible refine ro_i ?_ ?_); focus kernel_rfl)
      | ((with_reducible refine sl_e ?_); kernel_rfl)
      | ((with_reducible refine ro_e ?_); kernel_rfl)
      | ((first | (with_reducible refine gS_d ?_ ?_) | (with_reducible refine gS_dn ?_ ?_) | (with_reducible refine gS_i ?_ ?_)) <;> intro hg <;> (try simp -dsimp (maxSteps := 1000000) only [go_sem, List.forall_mem_nil, ↓reduceIte, Nat.reduceEqDiff, Nat.reduceLT, Nat.reduceLeDiff, Nat.reduceAdd, Nat.reduceMul, reduceCtorEq, Try.f47, hI, h0, hg, Int.toNat_natCast, hrow, rowsZ_len, *])))
  · have hI : ((k : Int) < (l.length : Int)) = False := by simp; omega
    have hg : l.getD k (0, 0) = (0, 0) := by simp [List.getD, List.getElem?_eq_none (show l.length ≤ k by omega)]
    try simp -dsimp (maxSteps := 1000000) only [go_sem, List.forall_mem_nil, ↓reduceIte, Nat.reduceEqDiff, Nat.reduceLT, Nat.reduceLeDiff, Nat.reduceAdd, Nat.reduceMul, reduceCtorEq, Try.f47, hI, hg, rowsZ_len]
    repeat' (first
      | ((with_reducible refine sl_i ?_ ?_); focus kernel_rfl)
      | ((with_reducible refine ro_i ?_ ?_); focus kernel_rfl)
      | ((with_reducible refine sl_e ?_); kernel_rfl)
      | ((with_reducible refine ro_e ?_); kernel_rfl)
      | ((first | (with_reducible refine gS_d ?_ ?_) | (with_reducible refine gS_dn ?_ ?_) | (with_reducible refine gS_i ?_ ?_)) <;> intro hg <;> (try simp -dsimp (maxSteps := 1000000) only [go_sem, List.forall_mem_nil, ↓reduceIte, Nat.reduceEqDiff, Nat.reduceLT, Nat.reduceLeDiff, Nat.reduceAdd, Nat.reduceMul, reduceCtorEq, Try.f47, hI, hg, rowsZ_len, *])))
end Go.SX
