/-
  spec: l5Unused, IsRing, IsModule: of modules that are drawn.
  spec: IsRing, IsModule: of modules that are drawn.
  Sums and products of whole numbers; the order of a rack whose cables lead onwards.
  spec: l6Has, l6Ready, l6Order: the order is the program's.
  spec: IsRack, l6Copy, AddCable: of racks whose modules are drawn.
  spec: l6Rack, MakeRack: a rack whose modules are drawn, and which is one.
  RunFaults$1: what an output becomes while faults last.
  A rack's step where outputs become others (by 'bec'): the plain words.
  AreFaults.
  RunFaults.
  FnMuted: what the outputs of a rack are under one fault.
  FnBuilt: when an order of the modules exists: plain words.
  MakeModule; PowersOf; ResetModule; ResetRack.
  No condition.
-/
import Derived.Test.YtojcifdnmihebaaGreatPkG
set_option linter.unusedVariables false
set_option linter.unusedSimpArgs false
namespace Go.SX
open Go Go.Proofs
noncomputable def ct_l5Unused : Ct := fam true (fun x : QMod => ([.agg (modC x.1)], [])) (fun _ => .one { val := .c (.im (.bool true)) })
theorem run_l5Unused {m : Mod} (h : Drawn m) : ct_l5Unused.run [.agg (modC m)] [] = some (.one { val := .c (.im (.bool true)) }) := fam_run (args := fun x : QMod => ([D.agg (modC x.1)], [])) (fun _ _ _ => rfl) ⟨m, h⟩
set_option maxRecDepth 100000 in
set_option maxHeartbeats 16000000 in
theorem law_l5Unused : Law Tryz.prog 82 ct_l5Unused := by
  refine fam_law (Env_cons law_l5Uses (Env_cons law_l4Zero (Env_cons law_Format Env_nil))) hmixA Tryz.func82 rfl rfl (fun ⟨m, hD⟩ => ⟨okO_im rfl, by simp [Tryz.f82], ?_⟩)
  simp only
  have bn : (!((⟨#[48]⟩ : ByteArray).toList == (⟨#[48]⟩ : ByteArray).toList)) = false := by rw [beq48]; rfl
  have z1 := run_l5Uses (k := 1) (by simp)
  have z2 := run_l5Uses (k := 2) (by simp)
  have z3 := run_l5Uses (k := 3) (by simp)
  have z4 := run_l5Uses (k := 4) (by simp)
  have z5 := run_l5Uses (k := 5) (by simp)
  have z6 := run_l5Uses (k := 6) (by simp)
  have z7 := run_l5Uses (k := 7) (by simp)
  have z8 := run_l5Uses (k := 8) (by simp)
  rcases hD.forms with ⟨⟨t1, t2⟩, ⟨s1, s2⟩, rfl⟩ | ⟨⟨t1, t2⟩, ⟨s1, s2⟩, rfl⟩ | ⟨lv, rfl⟩ | ⟨st, a, rfl, q1, q2, q3, q4⟩ | rfl | ⟨pts, lab, c, rfl, hT⟩ | ⟨lv, rfl, hl⟩ | ⟨⟨s1, s2⟩, c, l, rfl, q1, q2, q3, q4⟩
  all_goals (
    simp only [modC, mSrc', mGain', mDelay', mSum', mSlicer', mMeterL, mHold', rowsZ_nil, rowsN_nil]
    clear hD
    try simp -dsimp (maxSteps := 1000000) only [go_sem, List.forall_mem_nil, ↓reduceIte, Nat.reduceEqDiff, Nat.reduceLT, Nat.reduceLeDiff, Nat.reduceAdd, Nat.reduceMul, reduceCtorEq, Tryz.f82, z1, z2, z3, z4, z5, z6, z7, z8, usesF, Int.reduceEq, Int.reduceLT, Int.reduceLE, Int.reduceToNat, run_l4Zero, run_Format0, bn, beq48, Int.ofNat_zero, Int.natCast_zero])
end Go.SX
set_option linter.unusedVariables false
set_option linter.unusedSimpArgs false
namespace Go.SX
open Go Go.Proofs
noncomputable def ct_sIsRing : Ct := fam true (fun x : ARg => ([.agg [.im (.sl 1 (rowsZ x.st)), .im (.int .i64 (x.a : Int)), .im (.int .i64 (x.st.length : Int))]], [])) (fun _ => .one { val := .c (.im (.bool true)) })
theorem run_sIsRing {st : List Pt} {a : Nat} (h1 : 1 ≤ st.length) (h2 : st.length ≤ 16) (h3 : a < st.length) : ct_sIsRing.run [.agg [.im (.sl 1 (rowsZ st)), .im (.int .i64 (a : Int)), .im (.int .i64 (st.length : Int))]] [] = some (.one { val := .c (.im (.bool true)) }) :=
  fam_run (args := fun x : ARg => ([D.agg [.im (.sl 1 (rowsZ x.st)), .im (.int .i64 (x.a : Int)), .im (.int .i64 (x.st.length : Int))]], [])) (fun _ _ _ => rfl) ⟨st, a, h1, h2, h3⟩
set_option maxRecDepth 100000 in
set_option maxHeartbeats 4000000 in
theorem law_sIsRing : Law Tryz.prog 83 ct_sIsRing := by
  refine fam_law (Env_cons law_l1In Env_nil) hmixA Tryz.func83 rfl rfl (fun ⟨st, a, h1, h2, h3⟩ => ⟨okO_im rfl, by simp [Tryz.f83], ?_⟩)
  simp only
  have c1 : (decide ((1 : Int) ≤ (st.length : Int)) && decide ((st.length : Int) ≤ 16)) = true := by simp; omega
  have w1 : IntKind.i64.wrap ((st.length : Int) - 1) = (st.length : Int) - 1 := wrap_id (by omega) (by omega)
  have c2 : (decide ((0 : Int) ≤ (a : Int)) && decide ((a : Int) ≤ (st.length : Int) - 1)) = true := by simp; omega
  have c3 : (0 ≤ (st.length : Int)) = True := by simp
  try simp -dsimp (maxSteps := 1000000) only [go_sem, List.forall_mem_nil, ↓reduceIte, Nat.reduceEqDiff, Nat.reduceLT, Nat.reduceLeDiff, Nat.reduceAdd, Nat.reduceMul, reduceCtorEq, Tryz.f83, run_l1In, c1, c2, c3, w1, rowsZ_len, Bool.and_self, Bool.and_true, Bool.true_and]
  refine loop_i (ι := Unit) (fun _ => ⟨[(1, some (.c (.ptr 0 0 0 0))), (3, some (.c (.im (.int .i64 (st.length : Int))))), (4, some (.c (.im (.int .i64 (st.length : Int)))))],
    [(0, some (.box [.t (.im (.sl 1 (rowsZ st))), .t (.im (.int .i64 (a : Int))), .t (.im (.int .i64 (st.length : Int)))]))], 1⟩) (fun _ => 0) () ⟨[], [], by (simp only [go_sem, eq_self, MvRb, MvRn, MvRt, List.nodup_cons, List.nodup_nil, ↓reduceIte, Nat.reduceEqDiff, Nat.reduceLT, Nat.reduceLeDiff, reduceCtorEq, List.forall_mem_nil, Nat.zero_le, false_implies, List.mem_singleton]) <;> simp [lk, MvB_im]⟩ (fun _ => ?_)
  have hI : ((st.length : Int) < (st.length : Int)) = False := by simp
  try simp -dsimp (maxSteps := 1000000) only [go_sem, List.forall_mem_nil, ↓reduceIte, Nat.reduceEqDiff, Nat.reduceLT, Nat.reduceLeDiff, Nat.reduceAdd, Nat.reduceMul, reduceCtorEq, Tryz.f83, hI]
noncomputable def ct_sIsModule : Ct := fam true (fun x : QMod => ([.agg (modC x.1)], [])) (fun _ => .one { val := .c (.im (.bool true)) })
theorem run_sIsModule {m : Mod} (h : Drawn m) : ct_sIsModule.run [.agg (modC m)] [] = some (.one { val := .c (.im (.bool true)) }) := fam_run (args := fun x : QMod => ([D.agg (modC x.1)], [])) (fun _ _ _ => rfl) ⟨m, h⟩
theorem lvl_geq {l : Nat} (h : lvlB l = true) : fcmp .geq .f32 l 0 = true := by rcases lvl_cases h with rfl | rfl | rfl | rfl <;> decide +kernel
set_option maxRecDepth 100000 in
set_option maxHeartbeats 16000000 in
theorem law_sIsModule : Law Tryz.prog 39 ct_sIsModule := by
  refine fam_law (Env_cons law_l1In (Env_cons law_l5Unused (Env_cons law_sIsRing (Env_cons law_sIsTable (Env_cons law_Format Env_nil))))) hmixA Tryz.func39 rfl rfl (fun ⟨m, hD⟩ => ⟨okO_im rfl, by simp [Tryz.f39], ?_⟩)
  simp only
  have hu := run_l5Unused hD
  have bn : ((⟨#[48]⟩ : ByteArray).toList == (⟨#[45, 48]⟩ : ByteArray).toList) = false := by rw [ByteArray.toList_eq, ByteArray.toList_eq]; rfl
  rcases hD.forms with ⟨⟨t1, t2⟩, ⟨s1, s2⟩, rfl⟩ | ⟨⟨t1, t2⟩, ⟨s1, s2⟩, rfl⟩ | ⟨lv, rfl⟩ | ⟨st, a, rfl, q1, q2, q3, q4⟩ | rfl | ⟨pts, lab, c, rfl, hT⟩ | ⟨lv, rfl, hl⟩ | ⟨⟨s1, s2⟩, c, l, rfl, q1, q2, q3, q4⟩
  · simp only [modC, mSrc', rowsZ_nil, rowsN_nil] at hu ⊢
    try simp -dsimp (maxSteps := 1000000) only [go_sem, List.forall_mem_nil, ↓reduceIte, Nat.reduceEqDiff, Nat.reduceLT, Nat.reduceLeDiff, Nat.reduceAdd, Nat.reduceMul, reduceCtorEq, Tryz.f39, run_l1In, hu, Int.reduceEq, Int.reduceLE, Bool.and_self, Bool.and_true, Bool.true_and]
  · simp only [modC, rowsZ_nil, rowsN_nil] at hu ⊢
    try simp -dsimp (maxSteps := 1000000) only [go_sem, List.forall_mem_nil, ↓reduceIte, Nat.reduceEqDiff, Nat.reduceLT, Nat.reduceLeDiff, Nat.reduceAdd, Nat.reduceMul, reduceCtorEq, Tryz.f39, run_l1In, hu, Int.reduceEq, Int.reduceLE, Bool.and_self, Bool.and_true, Bool.true_and]
  · simp only [modC, mGain', rowsZ_nil, rowsN_nil] at hu ⊢
    try simp -dsimp (maxSteps := 1000000) only [go_sem, List.forall_mem_nil, ↓reduceIte, Nat.reduceEqDiff, Nat.reduceLT, Nat.reduceLeDiff, Nat.reduceAdd, Nat.reduceMul, reduceCtorEq, Tryz.f39, run_l1In, hu, Int.reduceEq, Int.reduceLE, Bool.and_self, Bool.and_true, Bool.true_and]
  · obtain ⟨A, rfl⟩ := Int.eq_ofNat_of_zero_le q3
    simp only [modC, mDelay', rowsZ_nil, rowsN_nil] at hu ⊢
    try simp -dsimp (maxSteps := 1000000) only [go_sem, List.forall_mem_nil, ↓reduceIte, Nat.reduceEqDiff, Nat.reduceLT, Nat.reduceLeDiff, Nat.reduceAdd, Nat.reduceMul, reduceCtorEq, Tryz.f39, run_l1In, hu, run_sIsRing q1 q2 (show A < st.length by omega), Int.reduceEq, Int.reduceLE, rowsZ_len, Bool.and_self, Bool.and_true, Bool.true_and]
  · simp only [modC, mSum', rowsZ_nil, rowsN_nil] at hu ⊢
    try simp -dsimp (maxSteps := 1000000) only [go_sem, List.forall_mem_nil, ↓reduceIte, Nat.reduceEqDiff, Nat.reduceLT, Nat.reduceLeDiff, Nat.reduceAdd, Nat.reduceMul, reduceCtorEq, Tryz.f39, run_l1In, hu, Int.reduceEq, Int.reduceLE, Bool.and_self, Bool.and_true, Bool.true_and]
  · obtain ⟨e1, e2⟩ := table_len hT
    have h1 : pts.length ≤ sm := by have : sm = 16777216 := rfl; omega
    have h2 : lab.length ≤ sm := by have : sm = 16777216 := rfl; omega
    simp only [modC, mSlicer', rowsZ_nil] at hu ⊢
    try simp -dsimp (maxSteps := 1000000) only [go_sem, List.forall_mem_nil, ↓reduceIte, Nat.reduceEqDiff, Nat.reduceLT, Nat.reduceLeDiff, Nat.reduceAdd, Nat.reduceMul, reduceCtorEq, Tryz.f39, run_l1In, hu, run_IsTable h1 h2, hT, Int.reduceEq, Int.reduceLE, Bool.and_self, Bool.and_true, Bool.true_and]
  · simp only [modC, mMeterL, rowsZ_nil, rowsN_nil] at hu ⊢
    have hg := lvl_geq hl
    by_cases h0 : lv = 0
    · subst h0
      try simp -dsimp (maxSteps := 1000000) only [go_sem, List.forall_mem_nil, ↓reduceIte, Nat.reduceEqDiff, Nat.reduceLT, Nat.reduceLeDiff, Nat.reduceAdd, Nat.reduceMul, reduceCtorEq, Tryz.f39, run_l1In, hu, hg, run_Format0, bn, Int.reduceEq, Int.reduceLE, Bool.and_self, Bool.and_true, Bool.true_and]
    · have h0' := eq_false h0
      clear h0
      try simp -dsimp (maxSteps := 1000000) only [go_sem, List.forall_mem_nil, ↓reduceIte, Nat.reduceEqDiff, Nat.reduceLT, Nat.reduceLeDiff, Nat.reduceAdd, Nat.reduceMul, reduceCtorEq, Tryz.f39, run_l1In, hu, hg, run_Format hl, oFmt, h0', ne_qneg, Int.reduceEq, Int.reduceLE, Bool.and_self, Bool.and_true, Bool.true_and]
      rintro ⟨s, hs⟩
      try simp -dsimp (maxSteps := 1000000) only [go_sem, List.forall_mem_nil, ↓reduceIte, Nat.reduceEqDiff, Nat.reduceLT, Nat.reduceLeDiff, Nat.reduceAdd, Nat.reduceMul, reduceCtorEq, Tryz.f39, hs]
  · have w1 : IntKind.i64.wrap (c - 1) = c - 1 := wrap_id (by omega) (by omega)
    have c1 : (decide ((1 : Int) ≤ c) && decide (c ≤ 100)) = true := by simp; omega
    have c2 : (decide ((0 : Int) ≤ l) && decide (l ≤ c - 1)) = true := by simp; omega
    simp only [modC, mHold', rowsZ_nil, rowsN_nil] at hu ⊢
    try simp -dsimp (maxSteps := 1000000) only [go_sem, List.forall_mem_nil, ↓reduceIte, Nat.reduceEqDiff, Nat.reduceLT, Nat.reduceLeDiff, Nat.reduceAdd, Nat.reduceMul, reduceCtorEq, Tryz.f39, run_l1In, hu, w1, c1, c2, Int.reduceEq, Int.reduceLE, Bool.and_self, Bool.and_true, Bool.true_and]
end Go.SX
set_option linter.unusedVariables false
set_option linter.unusedSimpArgs false
namespace Go.SX
open Go Ieee
theorem idxF_ge {α : Type} {f : α → Bool} : ∀ (l : List α) (k : Nat), (0 ≤ idxF f l k) ↔ ∃ x ∈ l, f x = true
  | [], k => by simp [idxF]
  | x :: l, k => by
    simp only [idxF]
    split
    · rename_i h; simp [h]
    · rename_i h; rw [idxF_ge l (k + 1)]; simp [h]
theorem hasF_iff {l : List Int} {v : Int} : hasF l v = true ↔ v ∈ l := by
  simp only [hasF, decide_eq_true_eq, idxF_ge]
  constructor
  · rintro ⟨x, hx, rfl⟩; exact hx
  · intro h; exact ⟨v, h, rfl⟩
def iL (k : Nat) : List Int := (List.range k).map fun (i : Nat) => (i : Int)
theorem mem_iL {k : Nat} {v : Int} : v ∈ iL k ↔ 0 ≤ v ∧ v < k := by
  simp only [iL, List.mem_map, List.mem_range]
  constructor
  · rintro ⟨i, hi, rfl⟩; omega
  · rintro ⟨h1, h2⟩; exact ⟨v.toNat, by omega, by omega⟩
theorem iL_succ (k : Nat) : iL k ++ [(k : Int)] = iL (k + 1) := by simp [iL, List.range_succ]
theorem ready_fwd {ms : List Mod} {cs : List Cbl} (h : ∀ c ∈ cs, 0 ≤ c.1 ∧ c.1 < c.2) (k i : Nat) (hi : i ≤ k) : readyF ms cs (iL k) (i : Int) = decide (i = k) := by
  unfold readyF
  by_cases hik : i = k
  · subst hik
    have h1 : hasF (iL i) (i : Int) = false := by
      rw [Bool.eq_false_iff]; intro e; rw [hasF_iff, mem_iL] at e; omega
    have h2 : anyF ms (iL i) (i : Int) cs = false := by
      rw [Bool.eq_false_iff]; intro e
      simp only [anyF, decide_eq_true_eq, idxF_ge] at e
      obtain ⟨c, hc, hb⟩ := e
      simp only [blocks, Bool.and_eq_true, decide_eq_true_eq, Bool.not_eq_true'] at hb
      obtain ⟨hb1, hb2, hb3⟩ := hb
      have := h c hc
      have hm : hasF (iL i) c.1 = true := by rw [hasF_iff, mem_iL]; omega
      rw [hm] at hb3; cases hb3
    simp [h1, h2]
  · have h1 : hasF (iL k) (i : Int) = true := by rw [hasF_iff, mem_iL]; omega
    simp [h1, hik]
theorem readyIdx_fwd {ms : List Mod} {cs : List Cbl} (h : ∀ c ∈ cs, 0 ≤ c.1 ∧ c.1 < c.2) (k : Nat) : ∀ f i, i ≤ k → k < i + f → readyIdx ms cs (iL k) f i = k
  | 0, i, h1, h2 => by omega
  | f + 1, i, h1, h2 => by
    simp only [readyIdx, ready_fwd h k i h1, decide_eq_true_eq]
    split
    · rename_i e; exact e
    · exact readyIdx_fwd h k f (i + 1) (by omega) (by omega)
theorem orderGo_fwd {ms : List Mod} {cs : List Cbl} (h : ∀ c ∈ cs, 0 ≤ c.1 ∧ c.1 < c.2) : ∀ f k, k + f = ms.length → orderGo ms cs f (iL k) = some (iL ms.length)
  | 0, k, e => by simp [orderGo]; rw [← e]; rfl
  | f + 1, k, e => by
    have hr := readyIdx_fwd (ms := ms) h k ms.length 0 (by omega) (by omega)
    simp only [orderGo, hr]
    rw [if_neg (by omega), iL_succ]
    exact orderGo_fwd h f (k + 1) (by omega)
theorem order_fwd {ms : List Mod} {cs : List Cbl} (h : ∀ c ∈ cs, 0 ≤ c.1 ∧ c.1 < c.2) : orderF ms cs = some (iL ms.length) := orderGo_fwd (ms := ms) h ms.length 0 (by omega)
end Go.SX
set_option linter.unusedVariables false
set_option linter.unusedSimpArgs false
namespace Go.SX
open Go Go.Proofs
def hasR (n : Nat) (i : Int) : Bool := decide (0 ≤ i) && decide (i < (n : Int))
noncomputable def ct_l6Has : Ct := fam true (fun x : (List Mod × List Cbl) × Int => ([.agg [.im (.sl 11 (rowsM x.1.1)), .im (.sl 2 (rowsC x.1.2))], .c (.im (.int .i64 x.2))], [])) (fun x => .one { val := .c (.im (.bool (hasR x.1.1.length x.2))) })
theorem run_l6Has (ms : List Mod) (cs : List Cbl) (i : Int) : ct_l6Has.run [.agg [.im (.sl 11 (rowsM ms)), .im (.sl 2 (rowsC cs))], .c (.im (.int .i64 i))] [] = some (.one { val := .c (.im (.bool (hasR ms.length i))) }) := by
  refine fam_run' (args := fun x : (List Mod × List Cbl) × Int => ([D.agg [.im (.sl 11 (rowsM x.1.1)), .im (.sl 2 (rowsC x.1.2))], .c (.im (.int .i64 x.2))], [])) ?_ ((ms, cs), i)
  rintro ⟨⟨a, b⟩, c⟩ ⟨⟨a', b'⟩, c'⟩ h
  simp [rowsM_eq, rowsC_eq] at h ⊢
  simp [h]
set_option maxRecDepth 100000 in
theorem law_l6Has : Law Tryz.prog 40 ct_l6Has := by
  refine fam_law Env_nil hmixA Tryz.func40 rfl rfl (fun ⟨⟨ms, cs⟩, i⟩ => ⟨okO_im rfl, by simp [Tryz.f40], ?_⟩)
  simp only [hasR]
  by_cases h1 : 0 ≤ i
  · have h1' := eq_true h1
    clear h1
    try simp -dsimp (maxSteps := 1000000) only [go_sem, List.forall_mem_nil, ↓reduceIte, Nat.reduceEqDiff, Nat.reduceLT, Nat.reduceLeDiff, Nat.reduceAdd, Nat.reduceMul, reduceCtorEq, Tryz.f40, rowsM_len, h1', Bool.true_and]
  · have h1' := eq_false h1
    clear h1
    try simp -dsimp (maxSteps := 1000000) only [go_sem, List.forall_mem_nil, ↓reduceIte, Nat.reduceEqDiff, Nat.reduceLT, Nat.reduceLeDiff, Nat.reduceAdd, Nat.reduceMul, reduceCtorEq, Tryz.f40, rowsM_len, h1', Bool.false_and]
def rowsBo (l : List Bool) : List (List I) := l.map fun b => [.bool b]
theorem rowsBo_len (l : List Bool) : (rowsBo l).length = l.length := by simp [rowsBo]
theorem rowsBo_at {l : List Bool} {k : Nat} {p : Bool} (h : l[k]? = some p) : (rowsBo l)[k]? = some [.bool p] := by simp [rowsBo, h]
theorem rowsBo_inj {l m : List Bool} (h : rowsBo l = rowsBo m) : l = m := by
  induction l generalizing m with
  | nil => cases m with | nil => rfl | cons => simp [rowsBo] at h
  | cons p l ih =>
    cases m with
    | nil => simp [rowsBo] at h
    | cons q m =>
      simp only [rowsBo, List.map_cons, List.cons.injEq, I.bool.injEq, true_and, and_true] at h
      rw [ih h.2, h.1]
theorem rowsBo_eq {l m : List Bool} : (rowsBo l = rowsBo m) = (l = m) := propext ⟨rowsBo_inj, fun h => by rw [h]⟩
def blkS (ms : List Mod) (L : List Bool) (i : Int) (c : Cbl) : Bool := decide (c.2 = i) && (!(L.getD c.1.toNat false) && !(decide (kindOf ms c.1 = 4)))
def rdyS (ms : List Mod) (cs : List Cbl) (L : List Bool) (i : Nat) : Bool := !(L.getD i false) && !(cs.any (blkS ms L (i : Int)))
structure ARy where
  ms : List Mod
  cs : List Cbl
  L : List Bool
  i : Nat
  cl : cs.length ≤ sm
  ll : L.length = ms.length
  il : i < ms.length
  ok : ∀ c ∈ cs, 0 ≤ c.1 ∧ c.1 < ms.length
noncomputable def ct_l6Ready : Ct := fam true (fun x : ARy => ([.agg [.im (.sl 11 (rowsM x.ms)), .im (.sl 2 (rowsC x.cs))], .c (.im (.sl 1 (rowsBo x.L))), .c (.im (.int .i64 (x.i : Int)))], [])) (fun x => .one { val := .c (.im (.bool (rdyS x.ms x.cs x.L x.i))) })
theorem run_l6Ready {ms : List Mod} {cs : List Cbl} {L : List Bool} {i : Nat} (h1 : cs.length ≤ sm) (h2 : L.length = ms.length) (h3 : i < ms.length) (h4 : ∀ c ∈ cs, 0 ≤ c.1 ∧ c.1 < ms.length) :
    ct_l6Ready.run [.agg [.im (.sl 11 (rowsM ms)), .im (.sl 2 (rowsC cs))], .c (.im (.sl 1 (rowsBo L))), .c (.im (.int .i64 (i : Int)))] [] = some (.one { val := .c (.im (.bool (rdyS ms cs L i))) }) := by
  refine fam_run' (args := fun x : ARy => ([D.agg [.im (.sl 11 (rowsM x.ms)), .im (.sl 2 (rowsC x.cs))], .c (.im (.sl 1 (rowsBo x.L))), .c (.im (.int .i64 (x.i : Int)))], [])) ?_ ⟨ms, cs, L, i, h1, h2, h3, h4⟩
  rintro ⟨a, b, c, d, _, _, _, _⟩ ⟨a', b', c', d', _, _, _, _⟩ h
  simp [rowsM_eq, rowsC_eq, rowsBo_eq] at h ⊢
  exact ⟨h.1.1, h.1.2, h.2.1, by omega⟩
theorem sc_l6Ready : (ct_l6Ready.sc = true) = True := by simp [ct_l6Ready, fam]
theorem any_drop {α : Type} {f : α → Bool} {l : List α} {k : Nat} {p : α} (h : l[k]? = some p) : (l.drop k).any f = (f p || (l.drop (k + 1)).any f) := by
  have hlt : k < l.length := (List.getElem?_eq_some_iff.1 h).1
  have hp : l[k] = p := by rw [List.getElem?_eq_getElem hlt] at h; injection h
  rw [List.drop_eq_getElem_cons hlt, hp, List.any_cons]
set_option maxRecDepth 100000 in
set_option maxHeartbeats 8000000 in
theorem law_l6Ready : Law Tryz.prog 86 ct_l6Ready := by
  refine fam_law Env_nil hmixA Tryz.func86 rfl rfl (fun ⟨ms, cs, L, i, h1, h2, h3, h4⟩ => ⟨okO_im rfl, by simp [Tryz.f86], ?_⟩)
  simp only [rdyS]
  obtain ⟨b, hb⟩ : ∃ b, L[i]? = some b := ⟨_, List.getElem?_eq_getElem (by omega)⟩
  have hbd : L.getD i false = b := by rw [List.getD_eq_getElem?_getD, hb]; rfl
  have hrb := rowsBo_at hb
  have i0 : (0 ≤ (i : Int)) = True := by simp
  have i1 : ((i : Int) < (L.length : Int)) = True := eq_true (by omega)
  rw [hbd]
  cases b with
  | true =>
    try simp -dsimp (maxSteps := 1000000) only [go_sem, List.forall_mem_nil, ↓reduceIte, Nat.reduceEqDiff, Nat.reduceLT, Nat.reduceLeDiff, Nat.reduceAdd, Nat.reduceMul, reduceCtorEq, Tryz.f86, rowsBo_len, hrb, i0, i1, Int.toNat_natCast, Bool.not_true, Bool.false_and]
  | false =>
    try simp -dsimp (maxSteps := 1000000) only [go_sem, List.forall_mem_nil, ↓reduceIte, Nat.reduceEqDiff, Nat.reduceLT, Nat.reduceLeDiff, Nat.reduceAdd, Nat.reduceMul, reduceCtorEq, Tryz.f86, rowsBo_len, rowsC_len, hrb, i0, i1, Int.toNat_natCast]
    refine loop_i (ι := { k : Nat // k ≤ cs.length ∧ cs.any (blkS ms L (i : Int)) = (cs.drop k).any (blkS ms L (i : Int)) }) (fun k => ⟨[(1, some (.c (.im (.sl 1 (rowsBo L))))), (2, some (.c (.im (.int .i64 (i : Int))))), (3, some (.c (.ptr 0 0 0 0))), (14, some (.c (.im (.sl 2 (rowsC cs))))), (15, some (.c (.im (.int .i64 (cs.length : Int))))), (16, some (.c (.im (.int .i64 (k.1 : Int)))))],
      [(0, some (.box [.t (.im (.sl 11 (rowsM ms))), .t (.im (.sl 2 (rowsC cs)))]))], 1⟩) (fun k => cs.length - k.1) ⟨0, by simp⟩ ⟨[], [], by ((simp only [go_sem, eq_self, MvRb, MvRn, MvRt, List.nodup_cons, List.nodup_nil, ↓reduceIte, Nat.reduceEqDiff, Nat.reduceLT, Nat.reduceLeDiff, reduceCtorEq, List.forall_mem_nil, Nat.zero_le, false_implies, List.mem_singleton]) <;> (try (simp -dsimp only [go_sem, eq_self, MvRb, MvRn, MvRt, List.nodup_cons, List.nodup_nil, ↓reduceIte, Nat.reduceEqDiff, Nat.reduceLT, Nat.reduceLeDiff, reduceCtorEq, List.forall_mem_nil, Nat.zero_le, false_implies, List.mem_singleton]))) <;> simp [lk, MvB_im]⟩ (fun ⟨k, hk, hinv⟩ => ?_)
    simp only
    by_cases hlt : k < cs.length
    rotate_left
    · have hI : ((k : Int) < (cs.length : Int)) = False := eq_false (by omega)
      obtain rfl : k = cs.length := by omega
      rw [List.drop_length, List.any_nil] at hinv
      try simp -dsimp (maxSteps := 1000000) only [go_sem, List.forall_mem_nil, ↓reduceIte, Nat.reduceEqDiff, Nat.reduceLT, Nat.reduceLeDiff, Nat.reduceAdd, Nat.reduceMul, reduceCtorEq, Tryz.f86, hI, hinv, Bool.not_false, Bool.true_and]
    obtain ⟨⟨f, t⟩, hp⟩ : ∃ p, cs[k]? = some p := ⟨_, List.getElem?_eq_getElem hlt⟩
    have hrow := rowsC_at hp
    have hI : ((k : Int) < (cs.length : Int)) = True := eq_true (by omega)
    have k0 : (0 ≤ (k : Int)) = True := by simp
    have hwr := lt_sm h1 hlt
    have hidx := any_drop (f := blkS ms L (i : Int)) hp
    rw [hidx] at hinv
    clear hidx
    obtain ⟨f1, f2⟩ := h4 _ (List.mem_of_getElem? hp)
    simp only at f1 f2
    obtain ⟨F, rfl⟩ := Int.eq_ofNat_of_zero_le f1
    obtain ⟨lb, hlb⟩ : ∃ b, L[F]? = some b := ⟨_, List.getElem?_eq_getElem (by omega)⟩
    obtain ⟨m, hm⟩ : ∃ m, ms[F]? = some m := ⟨_, List.getElem?_eq_getElem (by omega)⟩
    have hrl := rowsBo_at hlb
    have hrm := rowsM_at hm
    have hld : L.getD F false = lb := by rw [List.getD_eq_getElem?_getD, hlb]; rfl
    have hkd : kindOf ms (F : Int) = m.kind := by simp [kindOf, hm]
    have F0 : (0 ≤ (F : Int)) = True := by simp
    have F1 : ((F : Int) < (L.length : Int)) = True := eq_true (by omega)
    have F2 : ((F : Int) < (ms.length : Int)) = True := eq_true (by omega)
    simp only [blkS, Int.toNat_natCast, hld, hkd] at hinv
    by_cases ht : t = (i : Int)
    rotate_left
    · have ht' := eq_false ht
      simp only [ht', decide_false, Bool.false_and, Bool.false_or] at hinv
      clear ht
      try simp -dsimp (maxSteps := 1000000) only [go_sem, List.forall_mem_nil, ↓reduceIte, Nat.reduceEqDiff, Nat.reduceLT, Nat.reduceLeDiff, Nat.reduceAdd, Nat.reduceMul, reduceCtorEq, Tryz.f86, hI, k0, hrow, hwr, ht', Int.toNat_natCast]
      exact ⟨⟨k + 1, by omega, hinv⟩, by simp only []; omega, [], [0], by (simp only [go_sem, eq_self, MvRb, MvRn, MvRt, List.nodup_cons, List.nodup_nil, ↓reduceIte, Nat.reduceEqDiff, Nat.reduceLT, Nat.reduceLeDiff, reduceCtorEq, List.forall_mem_nil, Nat.zero_le, false_implies, List.mem_singleton]) <;> simp [lk, MvB_im]⟩
    have ht' := eq_true ht
    cases lb with
    | true =>
      simp only [ht', decide_true, Bool.not_true, Bool.false_and, Bool.true_and, Bool.false_or] at hinv
      clear ht
      try simp -dsimp (maxSteps := 1000000) only [go_sem, List.forall_mem_nil, ↓reduceIte, Nat.reduceEqDiff, Nat.reduceLT, Nat.reduceLeDiff, Nat.reduceAdd, Nat.reduceMul, reduceCtorEq, Tryz.f86, hI, k0, hrow, hwr, ht', hrl, F0, F1, rowsBo_len, Int.toNat_natCast, Bool.not_true]
      exact ⟨⟨k + 1, by omega, hinv⟩, by simp only []; omega, [], [0], by (simp only [go_sem, eq_self, MvRb, MvRn, MvRt, List.nodup_cons, List.nodup_nil, ↓reduceIte, Nat.reduceEqDiff, Nat.reduceLT, Nat.reduceLeDiff, reduceCtorEq, List.forall_mem_nil, Nat.zero_le, false_implies, List.mem_singleton]) <;> simp [lk, MvB_im]⟩
    | false =>
      by_cases hd : m.kind = 4
      · have hd' := eq_true hd
        simp only [ht', hd', decide_true, Bool.not_true, Bool.not_false, Bool.and_false, Bool.true_and, Bool.false_or] at hinv
        clear ht hd
        try simp -dsimp (maxSteps := 1000000) only [go_sem, List.forall_mem_nil, ↓reduceIte, Nat.reduceEqDiff, Nat.reduceLT, Nat.reduceLeDiff, Nat.reduceAdd, Nat.reduceMul, reduceCtorEq, Tryz.f86, hI, k0, hrow, hwr, ht', hd', hrl, hrm, F0, F1, F2, rowsBo_len, rowsM_len, Int.toNat_natCast, Bool.not_true, Bool.not_false]
        exact ⟨⟨k + 1, by omega, hinv⟩, by simp only []; omega, [], [0], by (simp only [go_sem, eq_self, MvRb, MvRn, MvRt, List.nodup_cons, List.nodup_nil, ↓reduceIte, Nat.reduceEqDiff, Nat.reduceLT, Nat.reduceLeDiff, reduceCtorEq, List.forall_mem_nil, Nat.zero_le, false_implies, List.mem_singleton]) <;> simp [lk, MvB_im]⟩
      · have hd' := eq_false hd
        simp only [ht', hd', decide_true, decide_false, Bool.not_false, Bool.and_self, Bool.true_or] at hinv
        clear ht hd
        try simp -dsimp (maxSteps := 1000000) only [go_sem, List.forall_mem_nil, ↓reduceIte, Nat.reduceEqDiff, Nat.reduceLT, Nat.reduceLeDiff, Nat.reduceAdd, Nat.reduceMul, reduceCtorEq, Tryz.f86, hI, k0, hrow, hwr, ht', hd', hrl, hrm, F0, F1, F2, hinv, rowsBo_len, rowsM_len, Int.toNat_natCast, Bool.not_true, Bool.not_false, Bool.true_and]
def lsF (n : Nat) (out : List Int) : List Bool := (List.range n).map fun (i : Nat) => hasF out (i : Int)
theorem lsF_len (n : Nat) (out : List Int) : (lsF n out).length = n := by simp [lsF]
theorem lsF_at {n : Nat} {out : List Int} {i : Nat} (h : i < n) : (lsF n out).getD i false = hasF out (i : Int) := by
  rw [List.getD_eq_getElem?_getD]; simp [lsF, h]
theorem rdy_eq {ms : List Mod} {cs : List Cbl} {out : List Int} {i : Nat} (h : i < ms.length) (h4 : ∀ c ∈ cs, 0 ≤ c.1 ∧ c.1 < ms.length) : rdyS ms cs (lsF ms.length out) i = readyF ms cs out (i : Int) := by
  unfold rdyS readyF
  rw [lsF_at h]
  congr 2
  unfold anyF
  rw [Bool.eq_iff_iff, List.any_eq_true, decide_eq_true_eq, idxF_ge]
  constructor
  · rintro ⟨c, hc, hb⟩
    refine ⟨c, hc, ?_⟩
    obtain ⟨q1, q2⟩ := h4 c hc
    simp only [blkS, blocks] at hb ⊢
    rw [lsF_at (show c.1.toNat < ms.length by omega), show ((c.1.toNat : Nat) : Int) = c.1 by omega] at hb
    revert hb
    cases decide (c.2 = (i : Int)) <;> cases hasF out c.1 <;> cases decide (kindOf ms c.1 = 4) <;> simp
  · rintro ⟨c, hc, hb⟩
    refine ⟨c, hc, ?_⟩
    obtain ⟨q1, q2⟩ := h4 c hc
    simp only [blkS, blocks] at hb ⊢
    rw [lsF_at (show c.1.toNat < ms.length by omega), show ((c.1.toNat : Nat) : Int) = c.1 by omega]
    revert hb
    cases decide (c.2 = (i : Int)) <;> cases hasF out c.1 <;> cases decide (kindOf ms c.1 = 4) <;> simp
theorem lsF_set {n : Nat} {out : List Int} {i : Nat} (h : i < n) : (lsF n out).set i true = lsF n (out ++ [(i : Int)]) := by
  apply List.ext_getElem?
  intro j
  rw [List.getElem?_set]
  simp only [lsF_len]
  by_cases hj : j < n
  · have e1 : ∀ o : List Int, (lsF n o)[j]? = some (hasF o (j : Int)) := fun o => by simp [lsF, hj]
    rw [e1, e1]
    by_cases e : i = j
    · subst e
      rw [if_pos rfl, if_pos h]
      have : hasF (out ++ [(i : Int)]) (i : Int) = true := by rw [hasF_iff]; simp
      rw [this]
    · rw [if_neg e]
      congr 1
      rw [Bool.eq_iff_iff, hasF_iff, hasF_iff]
      simp
      omega
  · have e1 : ∀ o : List Int, (lsF n o)[j]? = none := fun o => by simp [lsF]; omega
    rw [e1, e1]
    by_cases e : i = j
    · omega
    · rw [if_neg e]
theorem MvR_Bo (l : List Bool) : MvR false (.arr 1 (tI (rowsBo l))) = True := eq_true (sc_false _ _)
theorem MvR_Nn (l : List Int) : MvR false (.arr 1 (tI (rowsN l))) = True := eq_true (sc_false _ _)
theorem setBo (l : List Bool) (i : Nat) (b : Bool) : (tI (rowsBo l)).set i [T.im (.bool b)] = tI (rowsBo (l.set i b)) := by simp [tI, rowsBo, List.map_set]
theorem lsF_nil (n : Nat) : List.replicate n [T.im (.bool false)] = tI (rowsBo (lsF n [])) := by
  have : lsF n [] = List.replicate n false := by
    apply List.ext_getElem?
    intro j
    by_cases hj : j < n
    · simp [lsF, hj, hasF, idxF]
    · simp [lsF, hj]
  rw [this]; simp [tI, rowsBo]
def nxF (ms : List Mod) (cs : List Cbl) (out : List Int) (j : Nat) : Int := if readyIdx ms cs out (ms.length - j) j = ms.length then -1 else (readyIdx ms cs out (ms.length - j) j : Int)
theorem nxF_end (ms : List Mod) (cs : List Cbl) (out : List Int) : nxF ms cs out ms.length = -1 := by simp [nxF, readyIdx]
theorem nxF_step {ms : List Mod} {cs : List Cbl} {out : List Int} {j : Nat} (h : j < ms.length) : nxF ms cs out j = if readyF ms cs out (j : Int) = true then (j : Int) else nxF ms cs out (j + 1) := by
  unfold nxF
  rw [show ms.length - j = (ms.length - (j + 1)) + 1 by omega]
  simp only [readyIdx]
  split
  · rw [if_neg (by omega)]
  · rfl
set_option maxRecDepth 100000 in
set_option maxHeartbeats 8000000 in
theorem law_l6Order : Law Tryz.prog 41 ct_order := by
  refine fam_lawF (Env_cons law_l6Ready Env_nil) hmixA Tryz.func41 rfl rfl (fun ⟨ms, cs, h1, h2, h5⟩ => ⟨okO_order _, by simp [Tryz.f41], ?_⟩)
  have hsm : sm = 16777216 := rfl
  simp only [orderF]
  have k1 : (0 ≤ (ms.length : Int)) = True := by simp
  have k2 : ((ms.length : Int) ≤ 9223372036854775807) = True := eq_true (by omega)
  have k3 : (((1 : Nat) : Int) * (ms.length : Int) ≤ 281474976710656) = True := eq_true (by omega)
  try simp -dsimp (maxSteps := 1000000) only [go_sem, List.forall_mem_nil, ↓reduceIte, Nat.reduceEqDiff, Nat.reduceLT, Nat.reduceLeDiff, Nat.reduceAdd, Nat.reduceMul, reduceCtorEq, Tryz.f41, rowsM_len, rowsC_len, k1, k2, k3, lsF_nil, Int.toNat_natCast, List.length_replicate]
  refine loop_i (ι := { x : List Int // x.length ≤ ms.length ∧ orderGo ms cs ms.length [] = orderGo ms cs (ms.length - x.length) x }) (fun x => ⟨[(1, some (.c (.ptr 0 0 0 0))), (4, some (.c (.view 1 1 0 ms.length))), (5, some (.c (.view 2 1 0 x.1.length)))],
    [(0, some (.box [.t (.im (.sl 11 (rowsM ms))), .t (.im (.sl 2 (rowsC cs)))])), (1, some (.arr 1 (tI (rowsBo (lsF ms.length x.1))))), (2, some (.arr 1 (tI (rowsN x.1))))], 3⟩) (fun x => ms.length - x.1.length) ⟨[], by simp⟩ ⟨[], [0, 1, 2], by ((simp only [go_sem, eq_self, MvRb, MvRn, MvRt, List.nodup_cons, List.nodup_nil, ↓reduceIte, Nat.reduceEqDiff, Nat.reduceLT, Nat.reduceLeDiff, reduceCtorEq, List.forall_mem_nil, Nat.zero_le, false_implies, List.mem_singleton, MvR_Bo]) <;> (try (simp -dsimp only [go_sem, eq_self, MvRb, MvRn, MvRt, List.nodup_cons, List.nodup_nil, ↓reduceIte, Nat.reduceEqDiff, Nat.reduceLT, Nat.reduceLeDiff, reduceCtorEq, List.forall_mem_nil, Nat.zero_le, false_implies, List.mem_singleton, MvR_Bo]))) <;> simp [lk, MvB_im, tI, rowsN, MvRt]⟩ (fun ⟨out, hk, hinv⟩ => ?_)
  simp only
  have hol : (rowsN out).length = out.length := rowsN_len _
  by_cases hlt : out.length < ms.length
  rotate_left
  · have hI : ((out.length : Int) < (ms.length : Int)) = False := eq_false (by omega)
    rw [show ms.length - out.length = 0 by omega] at hinv
    simp only [orderGo] at hinv
    try simp -dsimp (maxSteps := 1000000) only [go_sem, List.forall_mem_nil, ↓reduceIte, Nat.reduceEqDiff, Nat.reduceLT, Nat.reduceLeDiff, Nat.reduceAdd, Nat.reduceMul, reduceCtorEq, Tryz.f41, hI, rowsM_len, hinv, oOrder]
    refine finF_i [] ?_
    simp -dsimp (maxSteps := 1000000) only [go_sem, List.forall_mem_nil, ↓reduceIte, Nat.reduceEqDiff, Nat.reduceLT, Nat.reduceLeDiff, Nat.reduceAdd, Nat.reduceMul, reduceCtorEq, hinv, oOrder]
    refine ⟨[2], ?_, ?_, ?_, rfl⟩ <;> simp [rtOk]
  have hI : ((out.length : Int) < (ms.length : Int)) = True := eq_true (by omega)
  have hwn : IntKind.i64.wrap ((ms.length : Int) - 1) = (ms.length : Int) - 1 := wrap_id (by omega) (by omega)
  try simp -dsimp (maxSteps := 1000000) only [go_sem, List.forall_mem_nil, ↓reduceIte, Nat.reduceEqDiff, Nat.reduceLT, Nat.reduceLeDiff, Nat.reduceAdd, Nat.reduceMul, reduceCtorEq, Tryz.f41, hI, hwn, rowsM_len]
  refine loop_i (ι := { j : Nat // j ≤ ms.length }) (fun j => ⟨[(1, some (.c (.ptr 0 0 0 0))), (4, some (.c (.view 1 1 0 ms.length))), (5, some (.c (.view 2 1 0 out.length))), (6, some (.c (.im (.int .i64 (nxF ms cs out j.1))))), (7, some (.c (.im (.int .i64 ((j.1 : Int) - 1)))))],
    [(0, some (.box [.t (.im (.sl 11 (rowsM ms))), .t (.im (.sl 2 (rowsC cs)))])), (1, some (.arr 1 (tI (rowsBo (lsF ms.length out))))), (2, some (.arr 1 (tI (rowsN out))))], 3⟩) (fun j => j.1) ⟨ms.length, by omega⟩ ⟨[], [0, 1, 2], by (simp only [go_sem, eq_self, MvRb, MvRn, MvRt, List.nodup_cons, List.nodup_nil, ↓reduceIte, Nat.reduceEqDiff, Nat.reduceLT, Nat.reduceLeDiff, reduceCtorEq, List.forall_mem_nil, Nat.zero_le, false_implies, List.mem_singleton, MvR_Bo, MvR_Nn, nxF_end]) <;> simp [lk, MvB_im]⟩ (fun ⟨j, hj⟩ => ?_)
  simp only
  have lL : (lsF ms.length out).length = ms.length := lsF_len _ _
  match j, hj with
  | j + 1, hj =>
    have hJ : (0 ≤ ((j + 1 : Nat) : Int) - 1) = True := eq_true (by omega)
    have hj1 : ((j + 1 : Nat) : Int) - 1 = (j : Int) := by omega
    have j0 : (0 ≤ (j : Int)) = True := by simp
    have hwj : IntKind.i64.wrap ((j : Int) - 1) = (j : Int) - 1 := wrap_id (by omega) (by omega)
    have tkB : List.take ms.length (tI (rowsBo (lsF ms.length out))) = tI (rowsBo (lsF ms.length out)) := List.take_of_length_le (by rw [tI_len, rowsBo_len, lL]; omega)
    have hst := nxF_step (ms := ms) (cs := cs) (out := out) (j := j) (by omega)
    have hrd := rdy_eq (out := out) (i := j) (by omega) h5
    cases hr : readyF ms cs out (j : Int) with
    | true =>
      rw [hr, if_pos rfl] at hst
      rw [hr] at hrd
      try simp -dsimp (maxSteps := 1000000) only [go_sem, List.forall_mem_nil, ↓reduceIte, Nat.reduceEqDiff, Nat.reduceLT, Nat.reduceLeDiff, Nat.reduceAdd, Nat.reduceMul, reduceCtorEq, Tryz.f41, hj1, j0, hwj, tkB, run_l6Ready h2 lL (show j < ms.length by omega) h5, hrd, sc_l6Ready, tI_toI, tI_len, rowsBo_len, lL]
      exact ⟨⟨j, by omega⟩, by simp only []; omega, [], [0, 1, 2], by (simp only [go_sem, eq_self, MvRb, MvRn, MvRt, List.nodup_cons, List.nodup_nil, ↓reduceIte, Nat.reduceEqDiff, Nat.reduceLT, Nat.reduceLeDiff, reduceCtorEq, List.forall_mem_nil, Nat.zero_le, false_implies, List.mem_singleton, MvR_Bo, MvR_Nn, hst]) <;> simp [lk, MvB_im]⟩
    | false =>
      rw [hr, if_neg (by simp)] at hst
      rw [hr] at hrd
      try simp -dsimp (maxSteps := 1000000) only [go_sem, List.forall_mem_nil, ↓reduceIte, Nat.reduceEqDiff, Nat.reduceLT, Nat.reduceLeDiff, Nat.reduceAdd, Nat.reduceMul, reduceCtorEq, Tryz.f41, hj1, j0, hwj, tkB, run_l6Ready h2 lL (show j < ms.length by omega) h5, hrd, sc_l6Ready, tI_toI, tI_len, rowsBo_len, lL]
      exact ⟨⟨j, by omega⟩, by simp only []; omega, [], [0, 1, 2], by (simp only [go_sem, eq_self, MvRb, MvRn, MvRt, List.nodup_cons, List.nodup_nil, ↓reduceIte, Nat.reduceEqDiff, Nat.reduceLT, Nat.reduceLeDiff, reduceCtorEq, List.forall_mem_nil, Nat.zero_le, false_implies, List.mem_singleton, MvR_Bo, MvR_Nn, hst]) <;> simp [lk, MvB_im]⟩
  | 0, hj =>
    have hJ : (0 ≤ ((0 : Nat) : Int) - 1) = False := by simp
    rw [show ms.length - out.length = (ms.length - (out.length + 1)) + 1 by omega] at hinv
    simp only [orderGo] at hinv
    have hnx : nxF ms cs out 0 = if readyIdx ms cs out ms.length 0 = ms.length then -1 else (readyIdx ms cs out ms.length 0 : Int) := rfl
    have hle := readyIdx_le ms cs out ms.length 0
    by_cases hnone : readyIdx ms cs out ms.length 0 = ms.length
    · rw [if_pos hnone] at hnx hinv
      try simp -dsimp (maxSteps := 1000000) only [go_sem, List.forall_mem_nil, ↓reduceIte, Nat.reduceEqDiff, Nat.reduceLT, Nat.reduceLeDiff, Nat.reduceAdd, Nat.reduceMul, reduceCtorEq, Tryz.f41, hJ, hnx, hinv, oOrder, Int.reduceLT]
      refine finF_i [] ?_
      simp -dsimp (maxSteps := 1000000) only [go_sem, List.forall_mem_nil, ↓reduceIte, Nat.reduceEqDiff, Nat.reduceLT, Nat.reduceLeDiff, Nat.reduceAdd, Nat.reduceMul, reduceCtorEq, hinv, oOrder]
    · rw [if_neg hnone] at hnx hinv
      generalize readyIdx ms cs out ms.length 0 = R at *
      have hR : ((R : Int) < 0) = False := eq_false (by omega)
      have R0 : (0 ≤ (R : Int)) = True := by simp
      have R1 : ((R : Int) < (ms.length : Int)) = True := eq_true (by omega)
      obtain ⟨b, hb⟩ : ∃ b, (lsF ms.length out)[R]? = some b := ⟨_, List.getElem?_eq_getElem (by rw [lL]; omega)⟩
      have hrow : (tI (rowsBo (lsF ms.length out)))[R]? = some [T.im (.bool b)] := tI_at (rowsBo_at hb)
      have hby : ((out.length + 1) * 8 ≤ 140737488355328) = True := eq_true (by omega)
      have hset : (tI (rowsBo (lsF ms.length out))).set R [T.im (.bool true)] = tI (rowsBo (lsF ms.length (out ++ [(R : Int)]))) := by rw [setBo, lsF_set (by omega)]
      try simp -dsimp (maxSteps := 1000000) only [go_sem, List.forall_mem_nil, ↓reduceIte, Nat.reduceEqDiff, Nat.reduceLT, Nat.reduceLeDiff, Nat.reduceAdd, Nat.reduceMul, reduceCtorEq, Tryz.f41, hJ, hnx, hR, R0, R1, hrow, hset, hby, lL, tIN_app, appendH, srcRows, List.take_succ_cons, List.take_zero, List.all_cons, List.all_nil, okT, Bool.and_true, List.length_append, tI_len, rowsN_len, rowsBo_len, Int.toNat_natCast]
      exact ⟨⟨out ++ [(R : Int)], by simp; omega, by rw [List.length_append]; exact hinv⟩, by simp only [List.length_append, List.length_cons, List.length_nil]; omega, [], [0, 1, 4], by (simp only [go_sem, eq_self, MvRb, MvRn, MvRt, List.nodup_cons, List.nodup_nil, ↓reduceIte, Nat.reduceEqDiff, Nat.reduceLT, Nat.reduceLeDiff, reduceCtorEq, List.forall_mem_nil, Nat.zero_le, false_implies, List.mem_singleton, MvR_Bo, MvR_Nn, List.length_append]) <;> simp [lk, MvB_im]⟩
end Go.SX
set_option linter.unusedVariables false
set_option linter.unusedSimpArgs false
namespace Go.SX
open Go Go.Proofs
structure ADr where
  ms : List Mod
  cs : List Cbl
  ml : ms.length ≤ sm
  cl : cs.length ≤ sm
  dr : ∀ m ∈ ms, Drawn m
theorem ADr_ext {x y : ADr} (h : x.ms = y.ms ∧ x.cs = y.cs) : x = y := by
  obtain ⟨a, b, _, _, _⟩ := x
  obtain ⟨c, d, _, _, _⟩ := y
  obtain ⟨rfl, rfl⟩ := h
  rfl
noncomputable def ct_sIsRack : Ct := fam true (fun x : ADr => ([.agg [.im (.sl 11 (rowsM x.ms)), .im (.sl 2 (rowsC x.cs))]], [])) (fun x => .one { val := .c (.im (.bool (isRackF x.ms x.cs))) })
theorem run_sIsRack {ms : List Mod} {cs : List Cbl} (h1 : ms.length ≤ sm) (h2 : cs.length ≤ sm) (h5 : ∀ m ∈ ms, Drawn m) : ct_sIsRack.run [.agg [.im (.sl 11 (rowsM ms)), .im (.sl 2 (rowsC cs))]] [] = some (.one { val := .c (.im (.bool (isRackF ms cs))) }) := by
  refine fam_run' (args := fun x : ADr => ([D.agg [.im (.sl 11 (rowsM x.ms)), .im (.sl 2 (rowsC x.cs))]], [])) (fun x y h => ?_) ⟨ms, cs, h1, h2, h5⟩
  simp [rowsM_eq, rowsC_eq] at h
  exact ADr_ext h
theorem sc_sIsRack : (ct_sIsRack.sc = true) = True := by simp [ct_sIsRack, fam]
theorem cab_has (n : Nat) (c : Cbl) : cabF n c = (hasR n c.1 && hasR n c.2) := by
  simp only [cabF, hasR]
  rw [Bool.eq_iff_iff]
  simp
  omega
set_option maxRecDepth 100000 in
set_option maxHeartbeats 8000000 in
theorem law_sIsRack : Law Tryz.prog 17 ct_sIsRack := by
  refine fam_law (Env_cons law_sIsModule (Env_cons law_l6Has (Env_cons law_l6Order Env_nil))) hmixA Tryz.func17 rfl rfl (fun ⟨ms, cs, h1, h2, h5⟩ => ⟨okO_im rfl, by simp [Tryz.f17], ?_⟩)
  by_cases hm : ms.length ≤ 16
  rotate_left
  · have e1 : ((16 : Int) < (ms.length : Int)) = True := eq_true (by omega)
    have hF : isRackF ms cs = false := by simp only [isRackF, decide_eq_false hm, Bool.false_and]
    clear hm
    try simp -dsimp (maxSteps := 1000000) only [go_sem, List.forall_mem_nil, ↓reduceIte, Nat.reduceEqDiff, Nat.reduceLT, Nat.reduceLeDiff, Nat.reduceAdd, Nat.reduceMul, reduceCtorEq, Tryz.f17, rowsM_len, rowsC_len, e1, hF]
  have e1 : ((16 : Int) < (ms.length : Int)) = False := eq_false (by omega)
  by_cases hc : cs.length ≤ 40
  rotate_left
  · have e2 : ((40 : Int) < (cs.length : Int)) = True := eq_true (by omega)
    have hF : isRackF ms cs = false := by simp only [isRackF, decide_eq_false hc, Bool.false_and, Bool.and_false]
    clear hc
    try simp -dsimp (maxSteps := 1000000) only [go_sem, List.forall_mem_nil, ↓reduceIte, Nat.reduceEqDiff, Nat.reduceLT, Nat.reduceLeDiff, Nat.reduceAdd, Nat.reduceMul, reduceCtorEq, Tryz.f17, rowsM_len, rowsC_len, e1, e2, hF]
  have e2 : ((40 : Int) < (cs.length : Int)) = False := eq_false (by omega)
  have hall : ms.all isModuleF = true := List.all_eq_true.2 fun m hm => (h5 m hm).mod
  have hF : isRackF ms cs = (cs.all (cabF ms.length) && (orderF ms cs).isSome) := by simp only [isRackF, decide_eq_true hm, decide_eq_true hc, hall, Bool.true_and]
  rw [hF]
  clear hF
  try simp -dsimp (maxSteps := 1000000) only [go_sem, List.forall_mem_nil, ↓reduceIte, Nat.reduceEqDiff, Nat.reduceLT, Nat.reduceLeDiff, Nat.reduceAdd, Nat.reduceMul, reduceCtorEq, Tryz.f17, rowsM_len, rowsC_len, e1, e2]
  refine loop_i (ι := { k : Nat // k ≤ ms.length }) (fun k => ⟨[(1, some (.c (.ptr 0 0 0 0))), (20, some (.c (.im (.sl 11 (rowsM ms))))), (21, some (.c (.im (.int .i64 (ms.length : Int))))), (22, some (.c (.im (.int .i64 (k.1 : Int)))))],
    [(0, some (.box [.t (.im (.sl 11 (rowsM ms))), .t (.im (.sl 2 (rowsC cs)))]))], 1⟩) (fun k => ms.length - k.1) ⟨0, by simp⟩ ⟨[], [], by ((simp only [go_sem, eq_self, MvRb, MvRn, MvRt, List.nodup_cons, List.nodup_nil, ↓reduceIte, Nat.reduceEqDiff, Nat.reduceLT, Nat.reduceLeDiff, reduceCtorEq, List.forall_mem_nil, Nat.zero_le, false_implies, List.mem_singleton]) <;> (try (simp -dsimp only [go_sem, eq_self, MvRb, MvRn, MvRt, List.nodup_cons, List.nodup_nil, ↓reduceIte, Nat.reduceEqDiff, Nat.reduceLT, Nat.reduceLeDiff, reduceCtorEq, List.forall_mem_nil, Nat.zero_le, false_implies, List.mem_singleton]))) <;> simp [lk, MvB_im]⟩ (fun ⟨k, hk⟩ => ?_)
  simp only
  by_cases hlt : k < ms.length
  · obtain ⟨m, hp⟩ : ∃ p, ms[k]? = some p := ⟨_, List.getElem?_eq_getElem hlt⟩
    have hrow := rowsM_at hp
    have hI : ((k : Int) < (ms.length : Int)) = True := eq_true (by omega)
    have h0 : (0 ≤ (k : Int)) = True := by simp
    have hwr := lt_sm h1 hlt
    have rm := run_sIsModule (h5 m (List.mem_of_getElem? hp))
    simp only [modC] at rm
    try simp -dsimp (maxSteps := 1000000) only [go_sem, List.forall_mem_nil, ↓reduceIte, Nat.reduceEqDiff, Nat.reduceLT, Nat.reduceLeDiff, Nat.reduceAdd, Nat.reduceMul, reduceCtorEq, Tryz.f17, hI, h0, Int.toNat_natCast, hrow, rm, hwr]
    exact ⟨⟨k + 1, by omega⟩, by simp only []; omega, [], [0], by (simp only [go_sem, eq_self, MvRb, MvRn, MvRt, List.nodup_cons, List.nodup_nil, ↓reduceIte, Nat.reduceEqDiff, Nat.reduceLT, Nat.reduceLeDiff, reduceCtorEq, List.forall_mem_nil, Nat.zero_le, false_implies, List.mem_singleton]) <;> simp [lk, MvB_im]⟩
  have hI : ((k : Int) < (ms.length : Int)) = False := eq_false (by omega)
  clear hlt
  try simp -dsimp (maxSteps := 1000000) only [go_sem, List.forall_mem_nil, ↓reduceIte, Nat.reduceEqDiff, Nat.reduceLT, Nat.reduceLeDiff, Nat.reduceAdd, Nat.reduceMul, reduceCtorEq, Tryz.f17, hI, rowsM_len, rowsC_len]
  refine loop_i (ι := { k : Nat // k ≤ cs.length ∧ cs.all (cabF ms.length) = (cs.drop k).all (cabF ms.length) ∧ (cs.take k).all (cabF ms.length) = true }) (fun k => ⟨[(1, some (.c (.ptr 0 0 0 0))), (31, some (.c (.im (.sl 2 (rowsC cs))))), (32, some (.c (.im (.int .i64 (cs.length : Int))))), (33, some (.c (.im (.int .i64 (k.1 : Int)))))],
    [(0, some (.box [.t (.im (.sl 11 (rowsM ms))), .t (.im (.sl 2 (rowsC cs)))]))], 1⟩) (fun k => cs.length - k.1) ⟨0, by simp⟩ ⟨[], [], by ((simp only [go_sem, eq_self, MvRb, MvRn, MvRt, List.nodup_cons, List.nodup_nil, ↓reduceIte, Nat.reduceEqDiff, Nat.reduceLT, Nat.reduceLeDiff, reduceCtorEq, List.forall_mem_nil, Nat.zero_le, false_implies, List.mem_singleton]) <;> (try (simp -dsimp only [go_sem, eq_self, MvRb, MvRn, MvRt, List.nodup_cons, List.nodup_nil, ↓reduceIte, Nat.reduceEqDiff, Nat.reduceLT, Nat.reduceLeDiff, reduceCtorEq, List.forall_mem_nil, Nat.zero_le, false_implies, List.mem_singleton]))) <;> simp [lk, MvB_im]⟩ (fun ⟨k, hk, hinv2, hinv3⟩ => ?_)
  simp only
  by_cases hlt : k < cs.length
  · obtain ⟨⟨f, t⟩, hp⟩ : ∃ p, cs[k]? = some p := ⟨_, List.getElem?_eq_getElem hlt⟩
    have hrow := rowsC_at hp
    have hI : ((k : Int) < (cs.length : Int)) = True := eq_true (by omega)
    have h0 : (0 ≤ (k : Int)) = True := by simp
    have hwr := lt_sm h2 hlt
    have hidx := all_drop (f := cabF ms.length) hp
    rw [hidx, cab_has] at hinv2
    clear hidx
    simp only at hinv2
    cases q1 : hasR ms.length f with
    | false =>
      simp only [q1, Bool.false_and] at hinv2
      try simp -dsimp (maxSteps := 1000000) only [go_sem, List.forall_mem_nil, ↓reduceIte, Nat.reduceEqDiff, Nat.reduceLT, Nat.reduceLeDiff, Nat.reduceAdd, Nat.reduceMul, reduceCtorEq, Tryz.f17, hI, h0, Int.toNat_natCast, hrow, run_l6Has, q1, hinv2, Bool.false_and]
    | true =>
      cases q2 : hasR ms.length t with
      | false =>
        simp only [q1, q2, Bool.false_and, Bool.and_false] at hinv2
        try simp -dsimp (maxSteps := 1000000) only [go_sem, List.forall_mem_nil, ↓reduceIte, Nat.reduceEqDiff, Nat.reduceLT, Nat.reduceLeDiff, Nat.reduceAdd, Nat.reduceMul, reduceCtorEq, Tryz.f17, hI, h0, Int.toNat_natCast, hrow, run_l6Has, q1, q2, hinv2, Bool.false_and]
      | true =>
        simp only [q1, q2, Bool.true_and] at hinv2
        have h3' : (cs.take (k + 1)).all (cabF ms.length) = true := by
          rw [take_snoc hp, List.all_append, hinv3]
          simp [cab_has, q1, q2]
        try simp -dsimp (maxSteps := 1000000) only [go_sem, List.forall_mem_nil, ↓reduceIte, Nat.reduceEqDiff, Nat.reduceLT, Nat.reduceLeDiff, Nat.reduceAdd, Nat.reduceMul, reduceCtorEq, Tryz.f17, hI, h0, Int.toNat_natCast, hrow, run_l6Has, q1, q2, hwr]
        exact ⟨⟨k + 1, by omega, hinv2, h3'⟩, by simp only []; omega, [], [0], by (simp only [go_sem, eq_self, MvRb, MvRn, MvRt, List.nodup_cons, List.nodup_nil, ↓reduceIte, Nat.reduceEqDiff, Nat.reduceLT, Nat.reduceLeDiff, reduceCtorEq, List.forall_mem_nil, Nat.zero_le, false_implies, List.mem_singleton]) <;> simp [lk, MvB_im]⟩
  have hI : ((k : Int) < (cs.length : Int)) = False := eq_false (by omega)
  obtain rfl : k = cs.length := by omega
  rw [List.drop_length, List.all_nil] at hinv2
  rw [List.take_length] at hinv3
  have hcab : ∀ c ∈ cs, 0 ≤ c.1 ∧ c.1 < ms.length := fun c hc => by
    have := List.all_eq_true.1 hinv3 c hc
    rw [cab_has, Bool.and_eq_true] at this
    simpa [hasR] using this.1
  cases ho : orderF ms cs with
  | none =>
    try simp -dsimp (maxSteps := 1000000) only [go_sem, List.forall_mem_nil, ↓reduceIte, Nat.reduceEqDiff, Nat.reduceLT, Nat.reduceLeDiff, Nat.reduceAdd, Nat.reduceMul, reduceCtorEq, Tryz.f17, hI, run_order hm h2 hcab, ho, oOrder, hinv2, Option.isSome_none, Bool.true_and]
  | some ord =>
    try simp -dsimp (maxSteps := 1000000) only [go_sem, List.forall_mem_nil, ↓reduceIte, Nat.reduceEqDiff, Nat.reduceLT, Nat.reduceLeDiff, Nat.reduceAdd, Nat.reduceMul, reduceCtorEq, Tryz.f17, hI, run_order hm h2 hcab, ho, oOrder, hinv2, Option.isSome_some, Bool.true_and]
def rRk (ms : List Mod) (cs : List Cbl) : Res := { val := .agg [.view 0 11 0 ms.length, .view 1 2 0 cs.length], roots := [.arr 11 (tI (rowsM ms)), .arr 2 (tI (rowsC cs))] }
theorem okR_Rk {ms : List Mod} {cs : List Cbl} : OkR false (rRk ms cs) := by
  refine ⟨.agg _ (fun x hx => ?_), fun r hr => ?_, by simp [rRk]⟩
  · simp [rRk] at hx ⊢
    rcases hx with rfl | rfl <;> exact .view _ _ _ _ (by simp)
  · simp [rRk] at hr
    rcases hr with rfl | rfl <;> exact sc_false _ _
noncomputable def ct_l6Copy : Ct := fam false (fun x : ADr => ([.agg [.im (.sl 11 (rowsM x.ms)), .im (.sl 2 (rowsC x.cs))]], [])) (fun x => .one (rRk x.ms x.cs))
theorem run_l6Copy {ms : List Mod} {cs : List Cbl} (h1 : ms.length ≤ sm) (h2 : cs.length ≤ sm) (h5 : ∀ m ∈ ms, Drawn m) : ct_l6Copy.run [.agg [.im (.sl 11 (rowsM ms)), .im (.sl 2 (rowsC cs))]] [] = some (.one (rRk ms cs)) := by
  refine fam_run' (args := fun x : ADr => ([D.agg [.im (.sl 11 (rowsM x.ms)), .im (.sl 2 (rowsC x.cs))]], [])) (fun x y h => ?_) ⟨ms, cs, h1, h2, h5⟩
  simp [rowsM_eq, rowsC_eq] at h
  exact ADr_ext h
theorem MvR_Mi (ms : List Mod) : MvR false (.arr 11 (tI (rowsM ms))) = True := eq_true (sc_false _ _)
theorem MvR_Ci (l : List Cbl) : MvR false (.arr 2 (tI (rowsC l))) = True := eq_true (sc_false _ _)
theorem tIM_app (ms : List Mod) (m : Mod) : tI (rowsM ms) ++ [[T.im (.int .i64 m.kind), .im (.cpx .f32 m.turn.1 m.turn.2), .im (.cpx .f32 m.state.1 m.state.2), .im (.flt .f32 m.level), .im (.sl 1 (rowsZ m.store)), .im (.int .i64 m.rat), .im (.int .i64 m.rcnt), .im (.sl 1 (rowsZ m.pts)), .im (.sl 1 (rowsN m.lab)), .im (.int .i64 m.count), .im (.int .i64 m.left)]] = tI (rowsM (ms ++ [m])) := by
  simp [tI, rowsM, modI]
set_option maxRecDepth 100000 in
set_option maxHeartbeats 8000000 in
theorem law_l6Copy : Law Tryz.prog 104 ct_l6Copy := by
  refine fam_lawF (Env_cons law_l5Copy Env_nil) hmixA Tryz.func104 rfl rfl (fun ⟨ms, cs, h1, h2, h5⟩ => ⟨okO okR_Rk, by simp [Tryz.f104], ?_⟩)
  simp only [rRk]
  have hbc : (cs.length * 16 ≤ 140737488355328) = True := bytes_sm h2 (by decide)
  try simp -dsimp (maxSteps := 1000000) only [go_sem, List.forall_mem_nil, ↓reduceIte, Nat.reduceEqDiff, Nat.reduceLT, Nat.reduceLeDiff, Nat.reduceAdd, Nat.reduceMul, reduceCtorEq, Tryz.f104, rowsM_len, rowsC_len, hbc, map_im_tI, tI_len, appendH, srcRows]
  refine loop_i (ι := { k : Nat // k ≤ ms.length }) (fun k => ⟨[(2, some (.c (.ptr 1 0 0 0))), (3, some (.c (.ptr 3 0 0 0))), (12, some (.c (.im (.sl 11 (rowsM ms))))), (13, some (.c (.im (.int .i64 (ms.length : Int))))), (14, some (.c (.im (.int .i64 (k.1 : Int)))))],
    [(1, some (.box [.t .nil, .t .nil])), (2, some (.arr 2 (tI (rowsC cs)))), (3, some (.box [.t (.lent 4 11 k.1), .t (.lent 2 2 cs.length)])), (4, some (.arr 11 (tI (rowsM (ms.take k.1)))))], 5⟩) (fun k => ms.length - k.1) ⟨0, by simp⟩ ⟨[.nilT 4 0 0 11, .unf 4 0 0], [1, 3, 4, 5], by ((simp only [go_sem, eq_self, MvRb, MvRn, MvRt, List.nodup_cons, List.nodup_nil, ↓reduceIte, Nat.reduceEqDiff, Nat.reduceLT, Nat.reduceLeDiff, reduceCtorEq, List.forall_mem_nil, Nat.zero_le, false_implies, List.mem_singleton, Option.map_some, List.take_zero, MvR_Ci, MvR_Mi]) <;> (try (simp -dsimp only [go_sem, eq_self, MvRb, MvRn, MvRt, List.nodup_cons, List.nodup_nil, ↓reduceIte, Nat.reduceEqDiff, Nat.reduceLT, Nat.reduceLeDiff, reduceCtorEq, List.forall_mem_nil, Nat.zero_le, false_implies, List.mem_singleton, Option.map_some, List.take_zero, MvR_Ci, MvR_Mi]))) <;> simp [lk, MvB_im, tI, rowsM, MvRt]⟩ (fun ⟨k, hk⟩ => ?_)
  simp only
  have lk1 : (ms.take k).length = k := by rw [List.length_take]; omega
  by_cases hlt : k < ms.length
  rotate_left
  · have hI : ((k : Int) < (ms.length : Int)) = False := eq_false (by omega)
    obtain rfl : k = ms.length := by omega
    rw [List.take_length]
    try simp -dsimp (maxSteps := 1000000) only [go_sem, List.forall_mem_nil, ↓reduceIte, Nat.reduceEqDiff, Nat.reduceLT, Nat.reduceLeDiff, Nat.reduceAdd, Nat.reduceMul, reduceCtorEq, Tryz.f104, hI, tI_len, rowsM_len, rowsC_len]
    refine finF_i [] ?_
    simp -dsimp (maxSteps := 1000000) only [go_sem, List.forall_mem_nil, ↓reduceIte, Nat.reduceEqDiff, Nat.reduceLT, Nat.reduceLeDiff, Nat.reduceAdd, Nat.reduceMul, reduceCtorEq]
    refine ⟨[4, 2], ?_, ?_, ?_, rfl, rfl⟩ <;> simp [rtOk]
  obtain ⟨m, hp⟩ : ∃ p, ms[k]? = some p := ⟨_, List.getElem?_eq_getElem hlt⟩
  have hrow := rowsM_at hp
  have hI : ((k : Int) < (ms.length : Int)) = True := eq_true (by omega)
  have h0 : (0 ≤ (k : Int)) = True := by simp
  have hwr := lt_sm h1 hlt
  obtain ⟨q1, q2, q3⟩ := (h5 m (List.mem_of_getElem? hp)).ok
  have hby : ((k + 1) * 136 ≤ 140737488355328) = True := bytes_big (by omega) (by decide)
  have happ := tIM_app (ms.take k) m
  rw [← take_snoc hp] at happ
  have ll : (tI (rowsM (ms.take k))).length = k := by rw [tI_len, rowsM_len, lk1]
  have ll2 : (tI (rowsM (ms.take (k + 1)))).length = k + 1 := by rw [tI_len, rowsM_len, List.length_take]; omega
  try simp -dsimp (maxSteps := 1000000) only [go_sem, List.forall_mem_nil, ↓reduceIte, Nat.reduceEqDiff, Nat.reduceLT, Nat.reduceLeDiff, Nat.reduceAdd, Nat.reduceMul, reduceCtorEq, Tryz.f104, hI, h0, hwr, hrow, Int.toNat_natCast, run_l5Copy q1 q2 q3, Mod_eta, rM, modC, hby, happ, ll, ll2, appendH, srcRows, List.take_succ_cons, List.take_zero, List.all_cons, List.all_nil, okT, Bool.and_true]
  repeat' (first
    | ((with_reducible refine sl_i ?_ ?_); focus kernel_rfl)
    | ((with_reducible refine ro_i ?_ ?_); focus kernel_rfl))
  exact ⟨⟨k + 1, by omega⟩, by simp only []; omega, [], [1, 2, 3, 46], by (simp only [go_sem, eq_self, MvRb, MvRn, MvRt, List.nodup_cons, List.nodup_nil, ↓reduceIte, Nat.reduceEqDiff, Nat.reduceLT, Nat.reduceLeDiff, reduceCtorEq, List.forall_mem_nil, Nat.zero_le, false_implies, List.mem_singleton, MvR_Ci, MvR_Mi]) <;> simp [lk, MvB_im]⟩
theorem rowsM_nil : rowsM [] = [] := rfl
theorem rowsC_nil : rowsC [] = [] := rfl
def rRO (ms : List Mod) (cs : List Cbl) (b : Bool) : Res := { val := .tup [.agg [.im (.sl 11 (rowsM ms)), .im (.sl 2 (rowsC cs))], .c (.im (.bool b))] }
theorem okR_RO {ms : List Mod} {cs : List Cbl} {b : Bool} : OkR false (rRO ms cs b) := by
  refine ⟨.tup _ (fun d hd => ?_), by simp [rRO], by simp [rRO]⟩
  simp only [List.mem_cons, List.not_mem_nil, or_false] at hd
  rcases hd with rfl | rfl
  · refine .inr ⟨_, rfl, fun x hx => ?_⟩
    simp only [List.mem_cons, List.not_mem_nil, or_false] at hx
    rcases hx with rfl | rfl <;> exact .im _ (.inl rfl)
  · exact .inl ⟨_, rfl, .im _ (.inl rfl)⟩
def addR' (ms : List Mod) (cs : List Cbl) (f t : Int) : Res := if isRackF ms (cs ++ [(f, t)]) = true then rRO ms (cs ++ [(f, t)]) true else rRO [] [] false
structure GoodRk (ms : List Mod) (cs : List Cbl) : Prop where
  dr : ∀ m ∈ ms, Drawn m
  rk : isRackF ms cs = true
theorem GoodRk.len {ms : List Mod} {cs : List Cbl} (h : GoodRk ms cs) : ms.length ≤ 16 ∧ cs.length ≤ 40 := by
  have := h.rk
  simp only [isRackF, Bool.and_eq_true, decide_eq_true_eq] at this
  exact ⟨this.1, this.2.1⟩
structure AAc where
  ms : List Mod
  cs : List Cbl
  f : Int
  t : Int
  g : GoodRk ms cs
noncomputable def ct_sAddCable : Ct := fam false (fun x : AAc => ([.agg [.im (.sl 11 (rowsM x.ms)), .im (.sl 2 (rowsC x.cs))], .c (.im (.int .i64 x.f)), .c (.im (.int .i64 x.t))], [])) (fun x => .one (addR' x.ms x.cs x.f x.t))
theorem run_sAddCable {ms : List Mod} {cs : List Cbl} (h : GoodRk ms cs) (f t : Int) : ct_sAddCable.run [.agg [.im (.sl 11 (rowsM ms)), .im (.sl 2 (rowsC cs))], .c (.im (.int .i64 f)), .c (.im (.int .i64 t))] [] = some (.one (addR' ms cs f t)) := by
  refine fam_run' (args := fun x : AAc => ([D.agg [.im (.sl 11 (rowsM x.ms)), .im (.sl 2 (rowsC x.cs))], .c (.im (.int .i64 x.f)), .c (.im (.int .i64 x.t))], [])) ?_ ⟨ms, cs, f, t, h⟩
  rintro ⟨a, b, c, d, _⟩ ⟨a', b', c', d', _⟩ h
  simp [rowsM_eq, rowsC_eq] at h ⊢
  simp [h]
theorem sc_sAddCable : (ct_sAddCable.sc = true) = False := by simp [ct_sAddCable, fam]
theorem tIC_app1 (cs : List Cbl) (f t : Int) : tI (rowsC cs) ++ [[T.im (.int .i64 f), T.im (.int .i64 t)]] = tI (rowsC (cs ++ [(f, t)])) := by simp [tI, rowsC]
set_option maxRecDepth 100000 in
set_option maxHeartbeats 8000000 in
theorem law_sAddCable : Law Tryz.prog 59 ct_sAddCable := by
  refine fam_lawF (Env_cons law_sIsRack (Env_cons law_l6Copy Env_nil)) hmixA Tryz.func59 rfl rfl (fun ⟨ms, cs, f, t, hG⟩ => ⟨?_, by simp [Tryz.f59], ?_⟩)
  · simp only [addR']; split <;> exact okO okR_RO
  obtain ⟨l1, l2⟩ := hG.len
  have hsm : sm = 16777216 := rfl
  have h1 : ms.length ≤ sm := by omega
  have h2 : cs.length ≤ sm := by omega
  have h2' : (cs ++ [(f, t)]).length ≤ sm := by simp; omega
  have hrk := hG.rk
  have hD := hG.dr
  have hby : ((cs.length + 1) * 16 ≤ 140737488355328) = True := eq_true (by omega)
  have lm : (tI (rowsM ms)).length = ms.length := by rw [tI_len, rowsM_len]
  have lc : (tI (rowsC (cs ++ [(f, t)]))).length = cs.length + 1 := by rw [tI_len, rowsC_len]; simp
  have tkm : List.take ms.length (tI (rowsM ms)) = tI (rowsM ms) := List.take_of_length_le (by omega)
  have tkc : List.take (cs.length + 1) (tI (rowsC (cs ++ [(f, t)]))) = tI (rowsC (cs ++ [(f, t)])) := List.take_of_length_le (by omega)
  have hmm : mapO (mapO imT) (tI (rowsM ms)) = some (rowsM ms) := tI_imT _
  have hmc : mapO (mapO imT) (tI (rowsC (cs ++ [(f, t)]))) = some (rowsC (cs ++ [(f, t)])) := tI_imT _
  simp only [addR']
  cases hr : isRackF ms (cs ++ [(f, t)]) with
  | true =>
    try simp -dsimp (maxSteps := 1000000) only [go_sem, List.forall_mem_nil, ↓reduceIte, Nat.reduceEqDiff, Nat.reduceLT, Nat.reduceLeDiff, Nat.reduceAdd, Nat.reduceMul, reduceCtorEq, Tryz.f59, run_sIsRack h1 h2 hD, hrk, run_l6Copy h1 h2 hD, rRk, tIC_app1, hby, lm, lc, tkm, tkc, run_sIsRack h1 h2' hD, hr, sc_sIsRack, tI_toI, appendH, srcRows, List.take_succ_cons, List.take_zero, List.all_cons, List.all_nil, okT, Bool.and_true, List.length_append, tI_len, rowsM_len, rowsC_len]
    refine finF_i [.frz 2 [.b 1 0 0], .frz 6 [.b 1 0 1]] ?_
    simp -dsimp (maxSteps := 1000000) only [go_sem, List.forall_mem_nil, ↓reduceIte, Nat.reduceEqDiff, Nat.reduceLT, Nat.reduceLeDiff, Nat.reduceAdd, Nat.reduceMul, reduceCtorEq, hr, rRO, hmm, hmc, lm, lc]
  | false =>
    try simp -dsimp (maxSteps := 1000000) only [go_sem, List.forall_mem_nil, ↓reduceIte, Nat.reduceEqDiff, Nat.reduceLT, Nat.reduceLeDiff, Nat.reduceAdd, Nat.reduceMul, reduceCtorEq, Tryz.f59, run_sIsRack h1 h2 hD, hrk, run_l6Copy h1 h2 hD, rRk, tIC_app1, hby, lm, lc, tkm, tkc, run_sIsRack h1 h2' hD, hr, sc_sIsRack, tI_toI, appendH, srcRows, List.take_succ_cons, List.take_zero, List.all_cons, List.all_nil, okT, Bool.and_true, List.length_append, tI_len, rowsM_len, rowsC_len]
    refine finF_i [.nilI 11 [.b 1 0 0], .nilI 2 [.b 1 0 1]] ?_
    simp -dsimp (maxSteps := 1000000) only [go_sem, List.forall_mem_nil, ↓reduceIte, Nat.reduceEqDiff, Nat.reduceLT, Nat.reduceLeDiff, Nat.reduceAdd, Nat.reduceMul, reduceCtorEq, hr, rRO, rowsM_nil, rowsC_nil]
end Go.SX
set_option linter.unusedVariables false
set_option linter.unusedSimpArgs false
namespace Go.SX
open Go Go.Proofs
theorem good_nil {ms : List Mod} (h : ∀ m ∈ ms, Drawn m) (hl : ms.length ≤ 16) : GoodRk ms [] := by
  refine ⟨h, ?_⟩
  have ho : orderF ms [] = some (iL ms.length) := order_fwd (by simp)
  simp only [isRackF, ho, Option.isSome_some, List.all_nil, Bool.true_and, Bool.and_true, Bool.and_eq_true, decide_eq_true_eq, List.all_eq_true, List.length_nil]
  exact ⟨hl, by omega, fun m hm => (h m hm).mod⟩
abbrev QRk (n : Nat) := { r : List Mod × List Cbl // GoodRk r.1 r.2 ∧ r.1.length ≤ n }
def oDRk (l : List Int) (n : Nat) : Outs := .any (QRk n × SK l) (fun q => { val := .agg [.im (.sl 11 (rowsM q.1.1.1)), .im (.sl 2 (rowsC q.1.1.2))], places := hsK l q.2.1.1 q.2.1.2 })
theorem ne_ork (l : List Int) (n : Nat) : Nonempty (QRk n × SK l) = True := by simp only [eq_iff_iff, iff_true]; exact ⟨(⟨([], []), good_nil (by simp) (by simp), by simp⟩, ⟨(0, 0), by simp⟩)⟩
abbrev N10 := { n : Nat // n ≤ 10 }
noncomputable def ct_l6Rack : Ct := fam false (fun x : AKn × N10 => ([.c (.ptr 0 0 0 0), .c (.im (.int .i64 (x.2.1 : Int)))], hsK x.1.l x.1.a x.1.h)) (fun x => oDRk x.1.l x.2.1)
theorem run_l6Rack {l : List Int} {a h : Int} {n : Nat} (h1 : l.length ≤ 1048576) (h2 : ∀ b ∈ l, 0 ≤ b ∧ b < 256) (h3 : 0 ≤ a) (h4 : a ≤ l.length) (h5 : n ≤ 10) : ct_l6Rack.run [.c (.ptr 0 0 0 0), .c (.im (.int .i64 (n : Int)))] [[.t (.im (.sl 1 (rowsB l))), .t (.im (.int .i64 a)), .t (.im (.int .i64 h))]] = some (oDRk l n) := by
  refine fam_run' (args := fun x : AKn × N10 => ([D.c (.ptr 0 0 0 0), .c (.im (.int .i64 (x.2.1 : Int)))], hsK x.1.l x.1.a x.1.h)) (fun x y h => ?_) (⟨l, h1, h2, a, h, h3, h4⟩, ⟨n, h5⟩)
  simp only [Prod.mk.injEq, List.cons.injEq, D.c.injEq, C.im.injEq, I.int.injEq, true_and, and_true] at h
  exact Prod.ext (AKn_ext (hsK_inj h.2)) (Subtype.ext (by omega))
set_option maxRecDepth 100000 in
set_option maxHeartbeats 8000000 in
theorem law_l6Rack : Law Tryz.prog 28 ct_l6Rack := by
  refine fam_lawF (Env_cons law_l01Below (Env_cons law_l5Module (Env_cons law_sAddCable Env_nil))) hmixA Tryz.func28 rfl rfl (fun ⟨⟨l, h1, h2, a, h, h3, h4⟩, ⟨n, h5⟩⟩ => ⟨okA (fun o => okK (n := 0) okAgg2), by simp [Tryz.f28], ?_⟩)
  simp only [oDRk, hsK]
  have hn : IntKind.i64.wrap ((n : Int) + 1) = (n : Int) + 1 := wrap_id (by omega) (by omega)
  try simp -dsimp (maxSteps := 1000000) only [go_sem, List.forall_mem_nil, ↓reduceIte, Nat.reduceEqDiff, Nat.reduceLT, Nat.reduceLeDiff, Nat.reduceAdd, Nat.reduceMul, reduceCtorEq, Tryz.f28, hn, run_l01Below h1 h2 h3 h4 (n := (n : Int) + 1) (by omega) (by omega), oBelow, hsK, ne_below l (n := (n : Int) + 1) (by omega)]
  rintro ⟨⟨k0, ⟨⟨a0, g0⟩, b0⟩⟩, r1, r2⟩
  simp only at r1 r2 b0
  obtain ⟨K, rfl⟩ := Int.eq_ofNat_of_zero_le r1
  try simp -dsimp (maxSteps := 1000000) only [go_sem, List.forall_mem_nil, ↓reduceIte, Nat.reduceEqDiff, Nat.reduceLT, Nat.reduceLeDiff, Nat.reduceAdd, Nat.reduceMul, reduceCtorEq, Tryz.f28, hsK]
  refine loop_i (ι := { x : (List Mod × SK l) × Nat // (∀ m ∈ x.1.1, Drawn m) ∧ x.1.1.length + x.2 ≤ n }) (fun x => ⟨[(0, some (.c (.ptr 0 0 0 0))), (4, some (.c (.ptr 1 0 0 0))), (5, some (.c (.ptr 2 0 0 0))), (6, some (.c (.im (.int .i64 (x.1.2 : Int)))))],
    [(0, some (.box [.t (.im (.sl 1 (rowsB l))), .t (.im (.int .i64 x.1.1.2.1.1)), .t (.im (.int .i64 x.1.1.2.1.2))])), (1, some (.box [.t .nil, .t .nil])), (2, some (.box [.t (.lent 3 11 x.1.1.1.length), .t .nil])), (3, some (.arr 11 (tI (rowsM x.1.1.1))))], 4⟩) (fun x => x.1.2) ⟨(([], ⟨(a0, g0), b0⟩), K), by simp, by simp; omega⟩ ⟨[.nilT 2 0 0 11, .unf 2 0 0], [0, 1, 2, 3], by ((simp only [go_sem, eq_self, MvRb, MvRn, MvRt, List.nodup_cons, List.nodup_nil, ↓reduceIte, Nat.reduceEqDiff, Nat.reduceLT, Nat.reduceLeDiff, reduceCtorEq, List.forall_mem_nil, Nat.zero_le, false_implies, List.mem_singleton, Option.map_some, MvR_Mi]) <;> (try (simp -dsimp only [go_sem, eq_self, MvRb, MvRn, MvRt, List.nodup_cons, List.nodup_nil, ↓reduceIte, Nat.reduceEqDiff, Nat.reduceLT, Nat.reduceLeDiff, reduceCtorEq, List.forall_mem_nil, Nat.zero_le, false_implies, List.mem_singleton, Option.map_some, MvR_Mi]))) <;> simp [lk, MvB_im, tI, rowsM, MvRt]⟩ (fun ⟨⟨⟨ms, ⟨⟨a, g⟩, b⟩⟩, k⟩, hD, hl⟩ => ?_)
  simp only at hD hl b ⊢
  match k with
  | k + 1 =>
    have d0 : ((0 : Int) < ((k + 1 : Nat) : Int)) = True := eq_true (by omega)
    have hk : IntKind.i64.wrap (((k + 1 : Nat) : Int) - 1) = (k : Int) := by rw [wrap_id (by omega) (by omega)]; omega
    have hby : ((ms.length + 1) * 136 ≤ 140737488355328) = True := eq_true (by omega)
    have ll : (tI (rowsM ms)).length = ms.length := by rw [tI_len, rowsM_len]
    try simp -dsimp (maxSteps := 1000000) only [go_sem, List.forall_mem_nil, ↓reduceIte, Nat.reduceEqDiff, Nat.reduceLT, Nat.reduceLeDiff, Nat.reduceAdd, Nat.reduceMul, reduceCtorEq, Tryz.f28, d0, hk, run_l5Module h1 h2 b.1 b.2, oMod, ne_mod, hsK]
    repeat' ((with_reducible refine sl_i ?_ ?_); focus kernel_rfl)
    rintro ⟨⟨m, hm⟩, ⟨⟨a2, g2⟩, b2⟩⟩
    have happ := tIM_app ms m
    have ll2 : (tI (rowsM (ms ++ [m]))).length = ms.length + 1 := by rw [tI_len, rowsM_len]; simp
    try simp -dsimp (maxSteps := 1000000) only [go_sem, List.forall_mem_nil, ↓reduceIte, Nat.reduceEqDiff, Nat.reduceLT, Nat.reduceLeDiff, Nat.reduceAdd, Nat.reduceMul, reduceCtorEq, Tryz.f28, d0, hk, hsK, modC, hby, happ, ll, ll2, appendH, srcRows, List.take_succ_cons, List.take_zero, List.all_cons, List.all_nil, okT, Bool.and_true]
    repeat' ((with_reducible refine ro_i ?_ ?_); focus kernel_rfl)
    exact ⟨⟨((ms ++ [m], ⟨(a2, g2), b2⟩), k), by
      intro x hx
      rcases List.mem_append.1 hx with hx | hx
      · exact hD x hx
      · simp at hx; subst hx; exact hm, by simp; omega⟩, by simp, [], [0, 1, 2, 44], by (simp only [go_sem, eq_self, MvRb, MvRn, MvRt, List.nodup_cons, List.nodup_nil, ↓reduceIte, Nat.reduceEqDiff, Nat.reduceLT, Nat.reduceLeDiff, reduceCtorEq, List.forall_mem_nil, Nat.zero_le, false_implies, List.mem_singleton, MvR_Mi, List.length_append]) <;> simp [lk, MvB_im]⟩
  | 0 =>
    have c0 : ((0 : Nat) : Int) = 0 := rfl
    have d0 : ((0 : Int) < 0) = False := by simp
    have w1 : IntKind.i64.wrap (3 * (ms.length : Int)) = 3 * (ms.length : Int) := wrap_id (by omega) (by omega)
    have w2 : IntKind.i64.wrap (3 * (ms.length : Int) + 1) = 3 * (ms.length : Int) + 1 := wrap_id (by omega) (by omega)
    try simp -dsimp (maxSteps := 1000000) only [go_sem, List.forall_mem_nil, ↓reduceIte, Nat.reduceEqDiff, Nat.reduceLT, Nat.reduceLeDiff, Nat.reduceAdd, Nat.reduceMul, reduceCtorEq, Tryz.f28, c0, d0, w1, w2, run_l01Below h1 h2 b.1 b.2 (n := 3 * (ms.length : Int) + 1) (by omega) (by omega), oBelow, hsK, ne_below l (n := 3 * (ms.length : Int) + 1) (by omega)]
    rintro ⟨⟨k2, ⟨⟨a0, g0⟩, b0⟩⟩, r1, r2⟩
    simp only at r1 r2 b0
    obtain ⟨K2, rfl⟩ := Int.eq_ofNat_of_zero_le r1
    try simp -dsimp (maxSteps := 1000000) only [go_sem, List.forall_mem_nil, ↓reduceIte, Nat.reduceEqDiff, Nat.reduceLT, Nat.reduceLeDiff, Nat.reduceAdd, Nat.reduceMul, reduceCtorEq, Tryz.f28, hsK]
    have hG0 : GoodRk ms [] := good_nil hD (by omega)
    have hl0 : ms.length ≤ n := by omega
    have hk20 : K2 = 0 ∨ 1 ≤ ms.length := by omega
    have hk30 : K2 ≤ 30 := by omega
    have hmm : mapO (mapO imT) (tI (rowsM ms)) = some (rowsM ms) := tI_imT _
    have ll : (tI (rowsM ms)).length = ms.length := by rw [tI_len, rowsM_len]
    refine loop_i (ι := { x : (QRk n × SK l) × Nat // (x.2 = 0 ∨ 1 ≤ x.1.1.1.1.length) ∧ x.2 ≤ 30 }) (fun x => ⟨[(0, some (.c (.ptr 0 0 0 0))), (4, some (.c (.ptr 1 0 0 0))), (5, some (.c (.ptr 2 0 0 0))), (7, some (.c (.im (.int .i64 (x.1.2 : Int)))))],
      [(0, some (.box [.t (.im (.sl 1 (rowsB l))), .t (.im (.int .i64 x.1.1.2.1.1)), .t (.im (.int .i64 x.1.1.2.1.2))])), (1, some (.box [.t .nil, .t .nil])), (2, some (.box [.t (.im (.sl 11 (rowsM x.1.1.1.1.1))), .t (.im (.sl 2 (rowsC x.1.1.1.1.2)))]))], 3⟩) (fun x => x.1.2) ⟨((⟨(ms, []), hG0, hl0⟩, ⟨(a0, g0), b0⟩), K2), hk20, hk30⟩ ⟨[.frz 3 [.b 2 0 0], .nilI 2 [.b 2 0 1]], [0, 1, 2], by (simp only [go_sem, eq_self, MvRb, MvRn, MvRt, List.nodup_cons, List.nodup_nil, ↓reduceIte, Nat.reduceEqDiff, Nat.reduceLT, Nat.reduceLeDiff, reduceCtorEq, List.forall_mem_nil, Nat.zero_le, false_implies, List.mem_singleton, frzLs, frT, hmm, ll, rowsC_nil]) <;> simp [lk, MvB_im]⟩ (fun ⟨⟨⟨⟨⟨ms, cs⟩, hG, hl⟩, ⟨⟨a, g⟩, b⟩⟩, k⟩, hk0, hk3⟩ => ?_)
    simp only at hG hl b hk0 hk3 ⊢
    match k with
    | 0 =>
      have c0 : ((0 : Nat) : Int) = 0 := rfl
      have d0 : ((0 : Int) < 0) = False := by simp
      try simp -dsimp (maxSteps := 1000000) only [go_sem, List.forall_mem_nil, ↓reduceIte, Nat.reduceEqDiff, Nat.reduceLT, Nat.reduceLeDiff, Nat.reduceAdd, Nat.reduceMul, reduceCtorEq, Tryz.f28, c0, d0]
      refine finF_i [] ?_
      simp -dsimp (maxSteps := 1000000) only [go_sem, List.forall_mem_nil, ↓reduceIte, Nat.reduceEqDiff, Nat.reduceLT, Nat.reduceLeDiff, Nat.reduceAdd, Nat.reduceMul, reduceCtorEq]
      exact ⟨(⟨(ms, cs), hG, hl⟩, ⟨(a, g), b⟩), rfl, rfl, rfl⟩
    | k + 1 =>
      have d0 : ((0 : Int) < ((k + 1 : Nat) : Int)) = True := eq_true (by omega)
      have hk : IntKind.i64.wrap (((k + 1 : Nat) : Int) - 1) = (k : Int) := by rw [wrap_id (by omega) (by omega)]; omega
      have hl1 : 1 ≤ ms.length := by omega
      have rb : ∀ (a h : Int), 0 ≤ a → a ≤ l.length → ct_l01Below.run [.c (.ptr 0 0 0 0), .c (.im (.int .i64 (ms.length : Int)))] [[.t (.im (.sl 1 (rowsB l))), .t (.im (.int .i64 a)), .t (.im (.int .i64 h))]] = some (oBelow l (ms.length : Int)) := fun a h q1 q2 => run_l01Below h1 h2 q1 q2 (n := (ms.length : Int)) (by omega) (by omega)
      have nb := ne_below l (n := (ms.length : Int)) (by omega)
      try simp -dsimp (maxSteps := 1000000) only [go_sem, List.forall_mem_nil, ↓reduceIte, Nat.reduceEqDiff, Nat.reduceLT, Nat.reduceLeDiff, Nat.reduceAdd, Nat.reduceMul, reduceCtorEq, Tryz.f28, d0, rowsM_len, rb a g b.1 b.2, oBelow, nb, hsK]
      repeat' ((with_reducible refine sl_i ?_ ?_); focus kernel_rfl)
      rintro ⟨⟨f, ⟨⟨a2, g2⟩, b2⟩⟩, f1, f2⟩
      try simp -dsimp (maxSteps := 1000000) only [go_sem, List.forall_mem_nil, ↓reduceIte, Nat.reduceEqDiff, Nat.reduceLT, Nat.reduceLeDiff, Nat.reduceAdd, Nat.reduceMul, reduceCtorEq, Tryz.f28, rowsM_len, rb a2 g2 b2.1 b2.2, oBelow, nb, hsK]
      rintro ⟨⟨t, ⟨⟨a3, g3⟩, b3⟩⟩, t1, t2⟩
      cases hr : isRackF ms (cs ++ [(f, t)]) with
      | true =>
        try simp -dsimp (maxSteps := 1000000) only [go_sem, List.forall_mem_nil, ↓reduceIte, Nat.reduceEqDiff, Nat.reduceLT, Nat.reduceLeDiff, Nat.reduceAdd, Nat.reduceMul, reduceCtorEq, Tryz.f28, run_sAddCable hG, sc_sAddCable, addR', hr, rRO, hk, hsK]
        repeat' ((with_reducible refine ro_i ?_ ?_); focus kernel_rfl)
        exact ⟨⟨((⟨(ms, cs ++ [(f, t)]), ⟨hG.dr, hr⟩, hl⟩, ⟨(a3, g3), b3⟩), k), .inr hl1, by simp only []; omega⟩, by simp, [], [0, 1, 2], by (simp only [go_sem, eq_self, MvRb, MvRn, MvRt, List.nodup_cons, List.nodup_nil, ↓reduceIte, Nat.reduceEqDiff, Nat.reduceLT, Nat.reduceLeDiff, reduceCtorEq, List.forall_mem_nil, Nat.zero_le, false_implies, List.mem_singleton]) <;> simp [lk, MvB_im]⟩
      | false =>
        try simp -dsimp (maxSteps := 1000000) only [go_sem, List.forall_mem_nil, ↓reduceIte, Nat.reduceEqDiff, Nat.reduceLT, Nat.reduceLeDiff, Nat.reduceAdd, Nat.reduceMul, reduceCtorEq, Tryz.f28, run_sAddCable hG, sc_sAddCable, addR', hr, rRO, hk, hsK, rowsM_nil, rowsC_nil]
        repeat' ((with_reducible refine ro_i ?_ ?_); focus kernel_rfl)
        exact ⟨⟨((⟨(ms, cs), hG, hl⟩, ⟨(a3, g3), b3⟩), k), .inr hl1, by simp only []; omega⟩, by simp, [], [0, 1, 2], by (simp only [go_sem, eq_self, MvRb, MvRn, MvRt, List.nodup_cons, List.nodup_nil, ↓reduceIte, Nat.reduceEqDiff, Nat.reduceLT, Nat.reduceLeDiff, reduceCtorEq, List.forall_mem_nil, Nat.zero_le, false_implies, List.mem_singleton]) <;> simp [lk, MvB_im]⟩
abbrev QRk1 (n : Nat) := { r : List Mod × List Cbl // GoodRk r.1 r.2 ∧ 1 ≤ r.1.length ∧ r.1.length ≤ max n 1 }
def oMk (n : Nat) : Outs := .any (QRk1 n) (fun q => { val := .agg [.im (.sl 11 (rowsM q.1.1)), .im (.sl 2 (rowsC q.1.2))] })
theorem ne_omk (n : Nat) : Nonempty (QRk1 n) = True := by simp only [eq_iff_iff, iff_true]; exact ⟨⟨([mSum'], []), good_nil (by simp [drawn_sum]) (by simp), by simp; omega⟩⟩
noncomputable def ct_MakeRack : Ct := fam false (fun x : ABw × N10 => ([.c (.im (.sl 1 (rowsB x.1.l))), .c (.im (.int .i64 (x.2.1 : Int)))], [])) (fun x => oMk x.2.1)
theorem run_MakeRack {l : List Int} (h1 : l.length ≤ 1048576) (h2 : ∀ b ∈ l, 0 ≤ b ∧ b < 256) {n : Nat} (h3 : n ≤ 10) : ct_MakeRack.run [.c (.im (.sl 1 (rowsB l))), .c (.im (.int .i64 (n : Int)))] [] = some (oMk n) := by
  refine fam_run' (args := fun x : ABw × N10 => ([D.c (.im (.sl 1 (rowsB x.1.l))), .c (.im (.int .i64 (x.2.1 : Int)))], [])) (fun x y h => ?_) (⟨l, h1, h2⟩, ⟨n, h3⟩)
  simp only [Prod.mk.injEq, List.cons.injEq, D.c.injEq, C.im.injEq, I.sl.injEq, I.int.injEq, true_and, and_true] at h
  exact Prod.ext (ABw_ext (rowsB_inj h.1)) (Subtype.ext (by omega))
set_option maxRecDepth 100000 in
set_option maxHeartbeats 8000000 in
theorem law_MakeRack : Law Tryz.prog 6 ct_MakeRack := by
  refine fam_lawF (Env_cons law_l01New (Env_cons law_l6Rack (Env_cons law_sSource Env_nil))) hmixA Tryz.func6 rfl rfl (fun ⟨⟨l, h1, h2⟩, ⟨n, h3⟩⟩ => ⟨okA (fun o => ⟨okAgg2, by simp, by simp⟩), by simp [Tryz.f6], ?_⟩)
  simp only [oMk]
  have m1 : ((10 : Int) < (n : Int)) = False := eq_false (by omega)
  have m2 : (if (n : Int) > 0 then (n : Int) else 0) = (n : Int) := by split <;> omega
  try simp -dsimp (maxSteps := 1000000) only [go_sem, List.forall_mem_nil, ↓reduceIte, Nat.reduceEqDiff, Nat.reduceLT, Nat.reduceLeDiff, Nat.reduceAdd, Nat.reduceMul, reduceCtorEq, Tryz.f6, run_l01New h1 h2, oKNew, ne_int]
  intro h
  try simp -dsimp (maxSteps := 1000000) only [go_sem, List.forall_mem_nil, ↓reduceIte, Nat.reduceEqDiff, Nat.reduceLT, Nat.reduceLeDiff, Nat.reduceAdd, Nat.reduceMul, reduceCtorEq, Tryz.f6, m1, m2, run_l6Rack h1 h2 (a := 0) (h := h) (n := n) (by omega) (by omega) h3, oDRk, ne_ork, hsK]
  rintro ⟨⟨⟨ms, cs⟩, hG, hl⟩, ⟨⟨a1, g1⟩, b1⟩⟩
  simp only at hG hl
  by_cases h0 : ms.length = 0
  rotate_left
  · have h0' : ((ms.length : Int) = 0) = False := eq_false (by omega)
    try simp -dsimp (maxSteps := 1000000) only [go_sem, List.forall_mem_nil, ↓reduceIte, Nat.reduceEqDiff, Nat.reduceLT, Nat.reduceLeDiff, Nat.reduceAdd, Nat.reduceMul, reduceCtorEq, Tryz.f6, hsK, rowsM_len, h0']
    refine finF_i [] ?_
    simp -dsimp (maxSteps := 1000000) only [go_sem, List.forall_mem_nil, ↓reduceIte, Nat.reduceEqDiff, Nat.reduceLT, Nat.reduceLeDiff, Nat.reduceAdd, Nat.reduceMul, reduceCtorEq]
    exact ⟨⟨(ms, cs), hG, by simp only []; omega, by simp only []; omega⟩, rfl, rfl⟩
  have h0' : ((ms.length : Int) = 0) = True := eq_true (by omega)
  have hms : ms = [] := List.eq_nil_of_length_eq_zero h0
  have hcs : cs = [] := by
    have := hG.rk
    subst hms
    simp only [isRackF, Bool.and_eq_true, List.all_eq_true] at this
    obtain ⟨_, _, _, hc, _⟩ := this
    cases cs with
    | nil => rfl
    | cons c cs =>
      have := hc c (by simp)
      rw [cab_has] at this
      simp [hasR] at this
      omega
  subst hcs
  try simp -dsimp (maxSteps := 1000000) only [go_sem, List.forall_mem_nil, ↓reduceIte, Nat.reduceEqDiff, Nat.reduceLT, Nat.reduceLeDiff, Nat.reduceAdd, Nat.reduceMul, reduceCtorEq, Tryz.f6, hsK, rowsM_len, h0', run_sSource, rM, modC, mSrc']
  refine finF_i [.frz 3 [.b 0 0 0]] ?_
  simp -dsimp (maxSteps := 1000000) only [go_sem, List.forall_mem_nil, ↓reduceIte, Nat.reduceEqDiff, Nat.reduceLT, Nat.reduceLeDiff, Nat.reduceAdd, Nat.reduceMul, reduceCtorEq]
  exact ⟨⟨([mSrc' (0, 1065353216) (1065353216, 0)], []), good_nil (by intro m hm; simp at hm; subst hm; exact drawn_src _ _) (by simp), by simp, by simp; omega⟩, rfl, rfl⟩
end Go.SX
set_option linter.unusedVariables false
set_option linter.unusedSimpArgs false
namespace Go.SX
open Go Go.Proofs
structure Fa where
  kind : Int
  md : Int
  fr : Int
  to_ : Int
structure ABec where
  fs : List Fa
  i : Int
  last : List Pt
  n : Int
  p : Pt
  fl : fs.length ≤ sm
  n0 : 0 ≤ n
  n1 : n < last.length
end Go.SX
set_option linter.unusedVariables false
set_option linter.unusedSimpArgs false
namespace Go.SX
open Go Go.Proofs
structure AStG where
  ms : List Mod
  cs : List Cbl
  inn : Int
  z : Pt
  fs : List Fa
  i : Int
  last : List Pt
  ml : ms.length ≤ 16
  cl : cs.length ≤ sm
  ok : ∀ m ∈ ms, OkS m
  cr : ∀ c ∈ cs, 0 ≤ c.1 ∧ c.1 < ms.length
  fl : fs.length ≤ sm
  ll : last.length = ms.length
end Go.SX
set_option linter.unusedVariables false
set_option linter.unusedSimpArgs false
namespace Go.SX
open Go Go.Proofs
structure ABad where
  ms : List Mod
  cs : List Cbl
  f : Fa
structure AIf where
  ms : List Mod
  cs : List Cbl
  l : List Fa
  ll : l.length ≤ sm
structure AAf where
  ms : List Mod
  cs : List Cbl
  l : List Fa
  ml : ms.length ≤ sm
  cl : cs.length ≤ sm
  ok : ∀ m ∈ ms, OkM m
  ll : l.length ≤ sm
end Go.SX
set_option linter.unusedVariables false
set_option linter.unusedSimpArgs false
namespace Go.SX
open Go Go.Proofs
structure ARf where
  ms : List Mod
  cs : List Cbl
  a : Int
  b : Int
  xs : List Pt
  fs : List Fa
  n : Int
  ml : ms.length ≤ sm
  cl : cs.length ≤ sm
  xl : xs.length ≤ sm
  fl : fs.length ≤ sm
  ok : ∀ m ∈ ms, OkM m
end Go.SX
set_option linter.unusedVariables false
set_option linter.unusedSimpArgs false
namespace Go.SX
open Go Go.Proofs
theorem pigeon : ∀ (N : Nat) (L : List Int), L.Nodup → (∀ i ∈ L, 0 ≤ i ∧ i < (N : Int)) → L.length ≤ N
  | 0, L, _, h => by
    cases L with
    | nil => simp
    | cons a L => have := h a (by simp); omega
  | N + 1, L, hn, h => by
    by_cases hm : (N : Int) ∈ L
    · have h1 := pigeon N (L.erase (N : Int)) (hn.erase _) (fun i hi => by
        have h2 := h i (List.mem_of_mem_erase hi)
        have h3 : i ≠ (N : Int) := fun e => by subst e; exact hn.not_mem_erase hi
        omega)
      rw [List.length_erase_of_mem hm] at h1
      omega
    · have := pigeon N L hn (fun i hi => by
        have h2 := h i hi
        have h3 : i ≠ (N : Int) := fun e => by subst e; exact hm hi
        omega)
      omega
theorem covers {N : Nat} {L : List Int} (h1 : L.Nodup) (h2 : ∀ i ∈ L, 0 ≤ i ∧ i < (N : Int)) (h3 : L.length = N) {n : Nat} (hn : n < N) : (n : Int) ∈ L := by
  by_cases hm : (n : Int) ∈ L
  · exact hm
  · have := pigeon N ((n : Int) :: L) (List.nodup_cons.2 ⟨hm, h1⟩) (fun i hi => by
      rcases List.mem_cons.1 hi with rfl | hi
      · omega
      · exact h2 i hi)
    simp at this; omega
theorem readyIdx_ready {ms : List Mod} {cs : List Cbl} {out : List Int} : ∀ f i, readyIdx ms cs out f i = i + f ∨ readyF ms cs out (readyIdx ms cs out f i : Int) = true
  | 0, i => .inl rfl
  | f + 1, i => by
    simp only [readyIdx]
    by_cases h : readyF ms cs out (i : Int) = true
    · rw [if_pos h]; exact .inr h
    · rw [if_neg h]
      rcases readyIdx_ready (ms := ms) (cs := cs) (out := out) f (i + 1) with h | h
      · exact .inl (by omega)
      · exact .inr h
theorem orderGo_nodup {ms : List Mod} {cs : List Cbl} : ∀ (f : Nat) (out l : List Int), out.Nodup → orderGo ms cs f out = some l → l.Nodup
  | 0, out, l, ho, h => by simp only [orderGo, Option.some.injEq] at h; subst h; exact ho
  | f + 1, out, l, ho, h => by
    simp only [orderGo] at h
    split at h
    · cases h
    · rename_i hn
      refine orderGo_nodup f _ l ?_ h
      rcases readyIdx_ready (ms := ms) (cs := cs) (out := out) ms.length 0 with h1 | h1
      · omega
      · simp only [readyF, Bool.and_eq_true, Bool.not_eq_true', ] at h1
        have h2 : ((readyIdx ms cs out ms.length 0 : Nat) : Int) ∉ out := fun e => by
          rw [hasF_iff.2 e] at h1; simp at h1
        rw [List.nodup_append]
        refine ⟨ho, by simp, fun a ha b hb => ?_⟩
        simp at hb; subst hb
        intro e; subst e; exact h2 ha
theorem ord_all {ms : List Mod} {cs : List Cbl} (h : (orderF ms cs).isSome = true) {n : Nat} (hn : n < ms.length) : (n : Int) ∈ ordL ms cs := by
  obtain ⟨L, hL⟩ := Option.isSome_iff_exists.1 h
  have e : ordL ms cs = L := by simp [ordL, hL]
  have h1 := orderGo_nodup _ [] L (by simp) hL
  have h2 := orderGo_len _ [] L hL
  have h3 := orderGo_lt _ [] L (by simp) hL
  rw [e]
  exact covers h1 h3 (by simpa using h2) hn
def KEq (a b : List Mod) : Prop := a.length = b.length ∧ ∀ i : Int, kindOf a i = kindOf b i
theorem ready_kinds {a b : List Mod} (h : KEq a b) {cs : List Cbl} {out : List Int} {i : Int} : readyF a cs out i = readyF b cs out i := by
  have : blocks a out i = blocks b out i := by
    funext c
    simp only [blocks, h.2]
  simp only [readyF, anyF, this]
theorem readyIdx_kinds {a b : List Mod} (h : KEq a b) {cs : List Cbl} {out : List Int} : ∀ f i, readyIdx a cs out f i = readyIdx b cs out f i
  | 0, i => rfl
  | f + 1, i => by simp only [readyIdx, ready_kinds h, readyIdx_kinds h f]
theorem orderGo_kinds {a b : List Mod} (h : KEq a b) {cs : List Cbl} : ∀ f out, orderGo a cs f out = orderGo b cs f out
  | 0, out => rfl
  | f + 1, out => by simp only [orderGo, readyIdx_kinds h, h.1, orderGo_kinds h f]
theorem order_kinds {a b : List Mod} (h : KEq a b) {cs : List Cbl} : orderF a cs = orderF b cs := by
  simp only [orderF, h.1, orderGo_kinds h]
theorem GoodRk.ord {ms : List Mod} {cs : List Cbl} (h : GoodRk ms cs) : (orderF ms cs).isSome = true := by
  have := h.rk
  simp only [isRackF, Bool.and_eq_true] at this
  exact this.2.2.2.2
end Go.SX
set_option linter.unusedVariables false
set_option linter.unusedSimpArgs false
namespace Go.SX
open Go Go.Proofs
theorem has_all : ∀ (N : Nat) (L : List Int), (∀ n : Nat, n < N → (n : Int) ∈ L) → N ≤ L.length
  | 0, _, _ => Nat.zero_le _
  | N + 1, L, h => by
    have hm := h N (by omega)
    have := has_all N (L.erase (N : Int)) (fun n hn => (List.mem_erase_of_ne (by omega)).2 (h n (by omega)))
    rw [List.length_erase_of_mem hm] at this
    have : 0 < L.length := List.length_pos_of_mem hm
    omega
theorem readyIdx_stuck {ms : List Mod} {cs : List Cbl} {out : List Int} : ∀ f i, readyIdx ms cs out f i = i + f → ∀ j, i ≤ j → j < i + f → readyF ms cs out (j : Int) = false
  | 0, i, _, j, h1, h2 => by omega
  | f + 1, i, h, j, h1, h2 => by
    simp only [readyIdx] at h
    by_cases hr : readyF ms cs out (i : Int) = true
    · rw [if_pos hr] at h; omega
    · rw [if_neg hr] at h
      by_cases e : j = i
      · subst e; simpa using hr
      · exact readyIdx_stuck f (i + 1) (by omega) j (by omega) (by omega)
theorem find_ready {ms : List Mod} {cs : List Cbl} {out : List Int} (rank : Int → Nat) (h : ∀ c ∈ cs, ¬ kindOf ms c.1 = 4 → rank c.1 < rank c.2) (hr : ∀ c ∈ cs, 0 ≤ c.1 ∧ c.1 < ms.length) :
    ∀ (r n : Nat), rank (n : Int) = r → n < ms.length → (n : Int) ∉ out → ∃ i, i < ms.length ∧ readyF ms cs out (i : Int) = true := by
  intro r
  induction r using Nat.strongRecOn with
  | _ r ih =>
    intro n hn hl ho
    by_cases hrd : readyF ms cs out (n : Int) = true
    · exact ⟨n, hl, hrd⟩
    · have h1 : hasF out (n : Int) = false := by
        cases hh : hasF out (n : Int) with
        | false => rfl
        | true => exact absurd (hasF_iff.1 hh) ho
      have h2 : anyF ms out (n : Int) cs = true := by
        simp only [readyF, h1, Bool.not_false, Bool.true_and, Bool.not_eq_true', Bool.not_eq_false] at hrd
        exact hrd
      simp only [anyF, decide_eq_true_eq] at h2
      obtain ⟨c, hc, hb⟩ := (idxF_ge cs 0).1 h2
      simp only [blocks, Bool.and_eq_true, decide_eq_true_eq, Bool.not_eq_true', decide_eq_false_iff_not] at hb
      obtain ⟨b1, b2, b3⟩ := hb
      obtain ⟨r1, r2⟩ := hr c hc
      have hlt := h c hc b2
      rw [b1, hn] at hlt
      have e : ((c.1.toNat : Nat) : Int) = c.1 := Int.toNat_of_nonneg r1
      exact ih (rank c.1) hlt c.1.toNat (by rw [e]) (by omega) (by
        rw [e]
        intro hm
        rw [hasF_iff.2 hm] at b3
        cases b3)
theorem orderGo_some {ms : List Mod} {cs : List Cbl} (rank : Int → Nat) (h : ∀ c ∈ cs, ¬ kindOf ms c.1 = 4 → rank c.1 < rank c.2) (hr : ∀ c ∈ cs, 0 ≤ c.1 ∧ c.1 < ms.length) :
    ∀ (f : Nat) (out : List Int), out.length + f = ms.length → (orderGo ms cs f out).isSome = true
  | 0, out, _ => rfl
  | f + 1, out, hl => by
    simp only [orderGo]
    by_cases hs : readyIdx ms cs out ms.length 0 = ms.length
    · exfalso
      have hst := readyIdx_stuck (ms := ms) (cs := cs) (out := out) ms.length 0 (by omega)
      have hex : ∃ n, n < ms.length ∧ (n : Int) ∉ out := by
        apply Classical.byContradiction
        intro hno
        have := has_all ms.length out (fun n hn => by
          apply Classical.byContradiction
          intro hc
          exact hno ⟨n, hn, hc⟩)
        omega
      obtain ⟨n, hn, hno⟩ := hex
      obtain ⟨i, hi, hri⟩ := find_ready rank h hr _ n rfl hn hno
      have := hst i (by omega) (by omega)
      rw [hri] at this
      cases this
    · rw [if_neg hs]
      exact orderGo_some rank h hr f _ (by simp; omega)
theorem order_of_rank {ms : List Mod} {cs : List Cbl} (rank : Int → Nat) (h : ∀ c ∈ cs, ¬ kindOf ms c.1 = 4 → rank c.1 < rank c.2) (hr : ∀ c ∈ cs, 0 ≤ c.1 ∧ c.1 < ms.length) : (orderF ms cs).isSome = true :=
  orderGo_some rank h hr ms.length [] (by simp)
def Topo (ms : List Mod) (cs : List Cbl) (out : List Int) : Prop := ∀ i ∈ out, ∀ c ∈ cs, c.2 = i → ¬ kindOf ms c.1 = 4 → c.1 ∈ out ∧ out.idxOf c.1 < out.idxOf i
theorem ready_spec {ms : List Mod} {cs : List Cbl} {out : List Int} {i : Int} (h : readyF ms cs out i = true) : i ∉ out ∧ ∀ c ∈ cs, c.2 = i → ¬ kindOf ms c.1 = 4 → c.1 ∈ out := by
  simp only [readyF, Bool.and_eq_true, Bool.not_eq_true'] at h
  refine ⟨fun hm => ?_, fun c hc h2 h4 => ?_⟩
  · have := h.1; rw [hasF_iff.2 hm] at this; cases this
  · apply Classical.byContradiction
    intro hno
    have hb : blocks ms out i c = true := by
      simp only [blocks, Bool.and_eq_true, decide_eq_true_eq, Bool.not_eq_true', decide_eq_false_iff_not]
      refine ⟨h2, h4, ?_⟩
      cases hh : hasF out c.1 with
      | false => rfl
      | true => exact absurd (hasF_iff.1 hh) hno
    have : anyF ms out i cs = true := by
      simp only [anyF, decide_eq_true_eq]
      exact (idxF_ge cs 0).2 ⟨c, hc, hb⟩
    rw [this] at h
    exact absurd h.2 (by simp)
theorem orderGo_topo {ms : List Mod} {cs : List Cbl} : ∀ (f : Nat) (out l : List Int), Topo ms cs out → orderGo ms cs f out = some l → Topo ms cs l
  | 0, out, l, ht, h => by simp only [orderGo, Option.some.injEq] at h; subst h; exact ht
  | f + 1, out, l, ht, h => by
    simp only [orderGo] at h
    split at h
    · cases h
    · rename_i hn
      refine orderGo_topo f _ l ?_ h
      rcases readyIdx_ready (ms := ms) (cs := cs) (out := out) ms.length 0 with h1 | h1
      · omega
      · obtain ⟨s1, s2⟩ := ready_spec h1
        generalize ((readyIdx ms cs out ms.length 0 : Nat) : Int) = q at s1 s2
        intro i hi c hc h2 h4
        rcases List.mem_append.1 hi with hi | hi
        · obtain ⟨t1, t2⟩ := ht i hi c hc h2 h4
          refine ⟨List.mem_append_left _ t1, ?_⟩
          rw [List.idxOf_append, List.idxOf_append, if_pos t1, if_pos hi]
          exact t2
        · simp only [List.mem_singleton] at hi
          subst hi
          have t1 := s2 c hc h2 h4
          refine ⟨List.mem_append_left _ t1, ?_⟩
          rw [List.idxOf_append, List.idxOf_append, if_pos t1, if_neg s1]
          have := List.idxOf_lt_length_of_mem t1
          omega
theorem rank_of_order {ms : List Mod} {cs : List Cbl} (ho : (orderF ms cs).isSome = true) (hr : ∀ c ∈ cs, 0 ≤ c.2 ∧ c.2 < ms.length) : ∃ rank : Int → Nat, (∀ c ∈ cs, ¬ kindOf ms c.1 = 4 → rank c.1 < rank c.2) ∧ ∀ i, rank i ≤ ms.length := by
  obtain ⟨L, hL⟩ := Option.isSome_iff_exists.1 ho
  have ht := orderGo_topo _ [] L (fun i hi => by cases hi) hL
  have hlen := orderGo_len _ [] L hL
  have e : ordL ms cs = L := by simp [ordL, hL]
  refine ⟨fun x => L.idxOf x, fun c hc h4 => ?_, fun i => ?_⟩
  · obtain ⟨r1, r2⟩ := hr c hc
    have hm := ord_all ho (n := c.2.toNat) (by omega)
    rw [Int.toNat_of_nonneg r1, e] at hm
    exact (ht c.2 hm c hc rfl h4).2
  · have : L.idxOf i ≤ L.length := List.idxOf_le_length
    simp only [List.length_nil, Nat.zero_add] at hlen
    show L.idxOf i ≤ ms.length
    omega
theorem isRack_parts {ms : List Mod} {cs : List Cbl} : isRackF ms cs = true ↔ ms.length ≤ 16 ∧ cs.length ≤ 40 ∧ (∀ m ∈ ms, isModuleF m = true) ∧ (∀ c ∈ cs, 0 ≤ c.1 ∧ c.1 < ms.length ∧ 0 ≤ c.2 ∧ c.2 < ms.length) ∧ (orderF ms cs).isSome = true := by
  simp only [isRackF, Bool.and_eq_true, decide_eq_true_eq, List.all_eq_true, cabF]
theorem kindOf_app {ms : List Mod} {m : Mod} {i : Int} (h0 : 0 ≤ i) (h : i < ms.length) : kindOf (ms ++ [m]) i = kindOf ms i := by
  unfold kindOf
  rw [List.getElem?_append_left (by omega)]
theorem rack_add {ms : List Mod} {cs : List Cbl} {m : Mod} (h : isRackF ms cs = true) (hl : ms.length ≤ 15) (hm : isModuleF m = true) : isRackF (ms ++ [m]) cs = true := by
  obtain ⟨h1, h2, h3, h4, h5⟩ := isRack_parts.1 h
  obtain ⟨rank, r1, _⟩ := rank_of_order h5 (fun c hc => ⟨(h4 c hc).2.2.1, (h4 c hc).2.2.2⟩)
  refine isRack_parts.2 ⟨by simp; omega, h2, fun x hx => ?_, fun c hc => ?_, order_of_rank rank (fun c hc hk => ?_) (fun c hc => ?_)⟩
  · rcases List.mem_append.1 hx with hx | hx
    · exact h3 x hx
    · simp at hx; subst hx; exact hm
  · have := h4 c hc; simp; omega
  · have := h4 c hc
    rw [kindOf_app this.1 this.2.1] at hk
    exact r1 c hc hk
  · have := h4 c hc; simp; omega
theorem rack_wire {ms : List Mod} {cs : List Cbl} {m : Mod} {k : Nat} (h : isRackF ms cs = true) (hl : ms.length ≤ 15) (hm : isModuleF m = true) (hk : k < ms.length) : isRackF (ms ++ [m]) (cs ++ [((k : Int), (ms.length : Int))]) = decide (cs.length < 40) := by
  obtain ⟨h1, h2, h3, h4, h5⟩ := isRack_parts.1 h
  by_cases hc40 : cs.length < 40
  · rw [decide_eq_true hc40]
    obtain ⟨rank, r1, r2⟩ := rank_of_order h5 (fun c hc => ⟨(h4 c hc).2.2.1, (h4 c hc).2.2.2⟩)
    refine isRack_parts.2 ⟨by simp; omega, by simp; omega, fun x hx => ?_, fun c hc => ?_, order_of_rank (fun i => if i = (ms.length : Int) then ms.length + 1 else rank i) (fun c hc hk4 => ?_) (fun c hc => ?_)⟩
    · rcases List.mem_append.1 hx with hx | hx
      · exact h3 x hx
      · simp at hx; subst hx; exact hm
    · rcases List.mem_append.1 hc with hc | hc
      · have := h4 c hc; simp; omega
      · simp at hc; subst hc; simp; omega
    · rcases List.mem_append.1 hc with hc | hc
      · obtain ⟨a1, a2, a3, a4⟩ := h4 c hc
        rw [kindOf_app a1 a2] at hk4
        rw [if_neg (by omega), if_neg (by omega)]
        exact r1 c hc hk4
      · simp at hc; subst hc
        show (if (k : Int) = (ms.length : Int) then ms.length + 1 else rank (k : Int)) < (if (ms.length : Int) = (ms.length : Int) then ms.length + 1 else rank (ms.length : Int))
        rw [if_neg (by omega), if_pos rfl]
        have := r2 (k : Int)
        omega
    · rcases List.mem_append.1 hc with hc | hc
      · have := h4 c hc; simp; omega
      · simp at hc; subst hc; simp; omega
  · rw [decide_eq_false hc40]
    cases hr : isRackF (ms ++ [m]) (cs ++ [((k : Int), (ms.length : Int))]) with
    | false => rfl
    | true =>
      have := (isRack_parts.1 hr).2.1
      simp at this; omega
def resetM (m : Mod) : Mod :=
  if m.kind = 2 then { m with state := (1065353216, 0) }
  else if m.kind = 4 then { m with store := List.replicate m.store.length (0, 0) }
  else if m.kind = 6 then { m with count := 0 }
  else if m.kind = 7 then { m with level := 0 }
  else if m.kind = 8 then { m with state := (0, 0), left := 0 }
  else m
theorem resetM_kind (m : Mod) : (resetM m).kind = m.kind := by
  unfold resetM
  repeat' split
  all_goals rfl
theorem resetM_two (m : Mod) : resetM (resetM m) = resetM m := by
  obtain ⟨k, t, s, lv, st, ra, rc, pts, lab, c, l⟩ := m
  by_cases h2 : k = 2
  · subst h2; rfl
  by_cases h4 : k = 4
  · subst h4; simp [resetM]
  by_cases h6 : k = 6
  · subst h6; rfl
  by_cases h7 : k = 7
  · subst h7; rfl
  by_cases h8 : k = 8
  · subst h8; rfl
  simp [resetM, h2, h4, h6, h7, h8]
theorem drawn_reset {m : Mod} (h : Drawn m) : Drawn (resetM m) := by
  rcases h.forms with ⟨t, s, rfl⟩ | ⟨t, s, rfl⟩ | ⟨l, rfl⟩ | ⟨st, a, rfl, h1, h2, h3, h4⟩ | rfl | ⟨pts, lab, c, rfl, ht⟩ | ⟨l, rfl, hl⟩ | ⟨s, c, l, rfl, h1, h2, h3, h4⟩
  · exact h
  · exact drawn_mix t
  · exact h
  · have := drawn_delay (st := List.replicate st.length (0, 0)) (a := a) (by simpa using h1) (by simpa using h2) h3 (by simpa using h4)
    simpa [mDelay', resetM] using this
  · exact h
  · exact drawn_slicer (c := 0) ht
  · exact drawn_meter
  · exact drawn_hold (s := (0, 0)) (c := c) (l := 0) h1 h2 (by omega) (by omega)
theorem KEq_map {ms : List Mod} (f : Mod → Mod) (h : ∀ m, (f m).kind = m.kind) : KEq (ms.map f) ms := by
  refine ⟨by simp, fun i => ?_⟩
  unfold kindOf
  rw [List.getElem?_map]
  cases ms[i.toNat]? with
  | none => rfl
  | some m => exact h m
theorem good_reset {ms : List Mod} {cs : List Cbl} (h : GoodRk ms cs) : GoodRk (ms.map resetM) cs := by
  obtain ⟨h1, h2, h3, h4, h5⟩ := isRack_parts.1 h.rk
  have hd : ∀ m ∈ ms.map resetM, Drawn m := fun m hm => by
    obtain ⟨x, hx, rfl⟩ := List.mem_map.1 hm
    exact drawn_reset (h.dr x hx)
  refine ⟨hd, isRack_parts.2 ⟨by simpa using h1, h2, fun m hm => (hd m hm).mod, by simpa using h4, ?_⟩⟩
  rw [order_kinds (KEq_map resetM resetM_kind)]
  exact h5
end Go.SX
set_option linter.unusedVariables false
set_option linter.unusedSimpArgs false
namespace Go.SX
open Go Go.Proofs
theorem MvR_Cb (l : List Cbl) : MvR false (.arr 2 (tI (rowsC l))) = True := eq_true (sc_false _ _)
def oMm : Outs := .any QMod (fun q => rM q.1)
theorem ne_qmod : Nonempty QMod = True := by simp only [eq_iff_iff, iff_true]; exact ⟨⟨mSum', drawn_sum⟩⟩
noncomputable def ct_MakeModule : Ct := fam false (fun x : ABw => ([.c (.im (.sl 1 (rowsB x.l)))], [])) (fun _ => oMm)
theorem run_MakeModule {l : List Int} (h1 : l.length ≤ 1048576) (h2 : ∀ b ∈ l, 0 ≤ b ∧ b < 256) : ct_MakeModule.run [.c (.im (.sl 1 (rowsB l)))] [] = some oMm :=
  fam_run (args := fun x : ABw => ([D.c (.im (.sl 1 (rowsB x.l)))], [])) (fun _ _ _ => rfl) ⟨l, h1, h2⟩
theorem sc_MakeModule : (ct_MakeModule.sc = true) = False := by simp [ct_MakeModule, fam]
set_option maxRecDepth 100000 in
set_option maxHeartbeats 8000000 in
theorem law_MakeModule : Law Tryz.prog 7 ct_MakeModule := by
  refine fam_lawF (Env_cons law_l01New (Env_cons law_l5Module Env_nil)) hmixA Tryz.func7 rfl rfl (fun ⟨l, h1, h2⟩ => ⟨okA (fun o => okR_M), by simp [Tryz.f7], ?_⟩)
  simp only [oMm]
  try simp -dsimp (maxSteps := 1000000) only [go_sem, List.forall_mem_nil, ↓reduceIte, Nat.reduceEqDiff, Nat.reduceLT, Nat.reduceLeDiff, Nat.reduceAdd, Nat.reduceMul, reduceCtorEq, Tryz.f7, run_l01New h1 h2, oKNew, ne_int]
  intro h
  try simp -dsimp (maxSteps := 1000000) only [go_sem, List.forall_mem_nil, ↓reduceIte, Nat.reduceEqDiff, Nat.reduceLT, Nat.reduceLeDiff, Nat.reduceAdd, Nat.reduceMul, reduceCtorEq, Tryz.f7, run_l5Module h1 h2 (a := 0) (h := h) (by omega) (by omega), oMod, ne_mod, hsK]
  rintro ⟨⟨m, hm⟩, ⟨⟨a1, g1⟩, b1⟩⟩
  try simp -dsimp (maxSteps := 1000000) only [go_sem, List.forall_mem_nil, ↓reduceIte, Nat.reduceEqDiff, Nat.reduceLT, Nat.reduceLeDiff, Nat.reduceAdd, Nat.reduceMul, reduceCtorEq, Tryz.f7, hsK, rM, modC]
  refine finF_i [] ?_
  simp -dsimp (maxSteps := 1000000) only [go_sem, List.forall_mem_nil, ↓reduceIte, Nat.reduceEqDiff, Nat.reduceLT, Nat.reduceLeDiff, Nat.reduceAdd, Nat.reduceMul, reduceCtorEq, rM, modC]
  exact ⟨⟨m, hm⟩, by simp⟩
noncomputable def ct_PowersOf : Ct := fam true (fun k : Int => ([.c (.im (.int .i64 k))], [])) (fun k => .one { val := .tup [.c (.im (.bool (hasF [2, 4, 6, 7, 8] k))), .c (.im (.bool (hasF [1, 2, 3] k))), .c (.im (.bool (hasF [1, 2, 6, 7, 8] k)))] })
theorem run_PowersOf (k : Int) : ct_PowersOf.run [.c (.im (.int .i64 k))] [] = some (.one { val := .tup [.c (.im (.bool (hasF [2, 4, 6, 7, 8] k))), .c (.im (.bool (hasF [1, 2, 3] k))), .c (.im (.bool (hasF [1, 2, 6, 7, 8] k)))] }) := fam_run' (args := fun k : Int => ([D.c (.im (.int .i64 k))], [])) (fun a b h => by simpa using h) k
set_option maxRecDepth 100000 in
set_option maxHeartbeats 8000000 in
theorem law_PowersOf : Law Tryz.prog 80 ct_PowersOf := by
  refine fam_law (Env_cons law_Contains_int Env_nil) hmixA Tryz.func80 rfl rfl (fun k => ⟨okO ⟨.tup _ (fun d hd => ?_), by simp, by simp⟩, by simp [Tryz.f80], ?_⟩)
  · simp only [List.mem_cons, List.not_mem_nil, or_false] at hd
    rcases hd with rfl | rfl | rfl <;> exact .inl ⟨_, rfl, okC_sc rfl⟩
  simp only
  have hsm : sm = 16777216 := rfl
  have r1 : ct_Contains_int.run [.c (.im (.sl 1 [[.int .i64 2], [.int .i64 4], [.int .i64 6], [.int .i64 7], [.int .i64 8]])), .c (.im (.int .i64 k))] [] = some (.one { val := .c (.im (.bool (hasF [2, 4, 6, 7, 8] k))) }) := run_Contains_int (l := [2, 4, 6, 7, 8]) (by simp only [List.length_cons, List.length_nil]; omega) k
  have r2 : ct_Contains_int.run [.c (.im (.sl 1 [[.int .i64 1], [.int .i64 2], [.int .i64 3]])), .c (.im (.int .i64 k))] [] = some (.one { val := .c (.im (.bool (hasF [1, 2, 3] k))) }) := run_Contains_int (l := [1, 2, 3]) (by simp only [List.length_cons, List.length_nil]; omega) k
  have r3 : ct_Contains_int.run [.c (.im (.sl 1 [[.int .i64 1], [.int .i64 2], [.int .i64 6], [.int .i64 7], [.int .i64 8]])), .c (.im (.int .i64 k))] [] = some (.one { val := .c (.im (.bool (hasF [1, 2, 6, 7, 8] k))) }) := run_Contains_int (l := [1, 2, 6, 7, 8]) (by simp only [List.length_cons, List.length_nil]; omega) k
  obtain ⟨x, hx⟩ : ∃ x, hasF [2, 4, 6, 7, 8] k = x := ⟨_, rfl⟩
  obtain ⟨y, hy⟩ : ∃ y, hasF [1, 2, 3] k = y := ⟨_, rfl⟩
  obtain ⟨z, hz⟩ : ∃ z, hasF [1, 2, 6, 7, 8] k = z := ⟨_, rfl⟩
  rw [hx] at r1 ⊢
  rw [hy] at r2 ⊢
  rw [hz] at r3 ⊢
  try simp -dsimp (maxSteps := 1000000) only [go_sem, List.forall_mem_nil, ↓reduceIte, Nat.reduceEqDiff, Nat.reduceLT, Nat.reduceLeDiff, Nat.reduceAdd, Nat.reduceMul, reduceCtorEq, Tryz.f80, r1, r2, r3, sc_Contains_int, List.take_succ_cons, List.take_zero]
def canR (m : Mod) : Bool := hasF [2, 4, 6, 7, 8] m.kind
def rRs (m : Mod) : Res := if canR m = true then { val := .tup [(rMod (resetM m)).val, .c (.im (.bool true))], roots := (rMod (resetM m)).roots }
  else { val := .tup [.agg [.im (.int .i64 0), .im (.cpx .f32 0 0), .im (.cpx .f32 0 0), .im (.flt .f32 0), .nil, .im (.int .i64 0), .im (.int .i64 0), .nil, .nil, .im (.int .i64 0), .im (.int .i64 0)], .c (.im (.bool false))] }
theorem okR_rs {sc : Bool} {m : Mod} : OkR sc (rRs m) := by
  unfold rRs
  split
  · obtain ⟨h1, h2, h3⟩ := okR_mod (sc := sc) (m := resetM m)
    refine ⟨.tup _ (fun d hd => ?_), h2, by simp⟩
    simp only [List.mem_cons, List.not_mem_nil, or_false] at hd
    rcases hd with rfl | rfl
    · cases h1 with
      | agg xs hx => exact .inr ⟨_, rfl, hx⟩
    · exact .inl ⟨_, rfl, okC_sc rfl⟩
  · refine ⟨.tup _ (fun d hd => ?_), by simp, by simp⟩
    simp only [List.mem_cons, List.not_mem_nil, or_false] at hd
    rcases hd with rfl | rfl
    · refine .inr ⟨_, rfl, fun x hx => ?_⟩
      simp only [List.mem_cons, List.not_mem_nil, or_false] at hx
      rcases hx with rfl | rfl | rfl | rfl | rfl | rfl | rfl | rfl | rfl | rfl | rfl <;> first | exact okC_sc rfl | exact .nil
    · exact .inl ⟨_, rfl, okC_sc rfl⟩
structure AMv where
  m : Mod
  ok : OkM m
  md : isModuleF m = true
noncomputable def ct_ResetModule : Ct := fam true (fun x : AMv => ([.agg (modC x.m)], [])) (fun x => .one (rRs x.m))
theorem run_ResetModule {m : Mod} (h1 : OkM m) (h2 : isModuleF m = true) : ct_ResetModule.run [.agg (modC m)] [] = some (.one (rRs m)) := by
  refine fam_run' (args := fun x : AMv => ([D.agg (modC x.m)], [])) ?_ ⟨m, h1, h2⟩
  rintro ⟨a, _, _⟩ ⟨b, _, _⟩ h
  simp only [Prod.mk.injEq, List.cons.injEq, D.agg.injEq, and_true] at h
  have := modC_inj h
  subst this; rfl
theorem sc_ResetModule : (ct_ResetModule.sc = true) = True := by simp [ct_ResetModule, fam]
theorem rep_tI (n : Nat) : List.replicate n [T.im (.cpx .f32 0 0)] = tI (rowsZ (List.replicate n (0, 0))) := by simp [tI, rowsZ]
theorem mod_kind {m : Mod} (h : isModuleF m = true) : m.kind = 1 ∨ m.kind = 2 ∨ m.kind = 3 ∨ m.kind = 4 ∨ m.kind = 5 ∨ m.kind = 6 ∨ m.kind = 7 ∨ m.kind = 8 := by
  unfold isModuleF at h
  by_cases h1 : m.kind = 1
  · simp [h1]
  by_cases h2 : m.kind = 2
  · simp [h2]
  by_cases h3 : m.kind = 3
  · simp [h3]
  by_cases h4 : m.kind = 4
  · simp [h4]
  by_cases h5 : m.kind = 5
  · simp [h5]
  by_cases h6 : m.kind = 6
  · simp [h6]
  by_cases h7 : m.kind = 7
  · simp [h7]
  by_cases h8 : m.kind = 8
  · simp [h8]
  simp [h1, h2, h3, h4, h5, h6, h7, h8] at h
set_option maxRecDepth 100000 in
set_option maxHeartbeats 16000000 in
theorem law_ResetModule : Law Tryz.prog 38 ct_ResetModule := by
  refine fam_lawF (Env_cons law_PowersOf (Env_cons law_IsModule (Env_cons law_copyModule Env_nil))) hmixA Tryz.func38 rfl rfl (fun ⟨⟨k, ⟨t1, t2⟩, ⟨s1, s2⟩, lv, st, ra, rc, pts, lab, c, l⟩, ⟨q1, q2, q3⟩, hm⟩ => ⟨okO okR_rs, by simp [Tryz.f38, modC], ?_⟩)
  simp only at q1 q2 q3
  simp only [modC]
  have hsm : sm = 16777216 := rfl
  have hk := mod_kind hm
  simp only at hk
  have ri := fun k => run_IsModule (k := k) (t1 := t1) (t2 := t2) (s1 := s1) (s2 := s2) (lv := lv) (ra := ra) (rc := rc) (c := c) (l := l) q1 q2 q3
  have rc' := fun k => run_copyModule (k := k) (t1 := t1) (t2 := t2) (s1 := s1) (s2 := s2) (lv := lv) (ra := ra) (rc := rc) (c := c) (l := l) q1 q2 q3
  rcases hk with rfl | rfl | rfl | rfl | rfl | rfl | rfl | rfl
  · have hp : hasF [2, 4, 6, 7, 8] 1 = false := by decide
    have hr : rRs ⟨1, (t1, t2), (s1, s2), lv, st, ra, rc, pts, lab, c, l⟩ = { val := .tup [.agg [.im (.int .i64 0), .im (.cpx .f32 0 0), .im (.cpx .f32 0 0), .im (.flt .f32 0), .nil, .im (.int .i64 0), .im (.int .i64 0), .nil, .nil, .im (.int .i64 0), .im (.int .i64 0)], .c (.im (.bool false))] } := by simp [rRs, canR, hp]
    try simp -dsimp (maxSteps := 1000000) only [go_sem, List.forall_mem_nil, ↓reduceIte, Nat.reduceEqDiff, Nat.reduceLT, Nat.reduceLeDiff, Nat.reduceAdd, Nat.reduceMul, reduceCtorEq, Tryz.f38, run_PowersOf, hp, ri, hm, Bool.not_false, Bool.true_or]
    refine finF_i [] ?_
    simp -dsimp (maxSteps := 1000000) only [go_sem, List.forall_mem_nil, ↓reduceIte, Nat.reduceEqDiff, Nat.reduceLT, Nat.reduceLeDiff, Nat.reduceAdd, Nat.reduceMul, reduceCtorEq, hr]
  · have hp : hasF [2, 4, 6, 7, 8] 2 = true := by decide
    have hr : rRs ⟨2, (t1, t2), (s1, s2), lv, st, ra, rc, pts, lab, c, l⟩ = { val := .tup [.agg [.im (.int .i64 2), .im (.cpx .f32 t1 t2), .im (.cpx .f32 1065353216 0), .im (.flt .f32 lv), .view 0 1 0 st.length, .im (.int .i64 ra), .im (.int .i64 rc), .view 1 1 0 pts.length, .view 2 1 0 lab.length, .im (.int .i64 c), .im (.int .i64 l)], .c (.im (.bool true))], roots := [.arr 1 (tI (rowsZ st)), .arr 1 (tI (rowsZ pts)), .arr 1 (tI (rowsN lab))] } := by simp [rRs, canR, hp, resetM, rMod]
    try simp -dsimp (maxSteps := 1000000) only [go_sem, List.forall_mem_nil, ↓reduceIte, Nat.reduceEqDiff, Nat.reduceLT, Nat.reduceLeDiff, Nat.reduceAdd, Nat.reduceMul, reduceCtorEq, Tryz.f38, run_PowersOf, hp, ri, hm, rc', rMod, rep_tI, tI_len, rowsZ_len, Int.reduceEq, Bool.not_true, Bool.or_self]
    refine finF_i [] ?_
    simp -dsimp (maxSteps := 1000000) only [go_sem, List.forall_mem_nil, ↓reduceIte, Nat.reduceEqDiff, Nat.reduceLT, Nat.reduceLeDiff, Nat.reduceAdd, Nat.reduceMul, reduceCtorEq, hr]
    refine ⟨[2, 3, 4], ?_, ?_, ?_, rfl, ?_⟩ <;> simp [rtOk]
  · have hp : hasF [2, 4, 6, 7, 8] 3 = false := by decide
    have hr : rRs ⟨3, (t1, t2), (s1, s2), lv, st, ra, rc, pts, lab, c, l⟩ = { val := .tup [.agg [.im (.int .i64 0), .im (.cpx .f32 0 0), .im (.cpx .f32 0 0), .im (.flt .f32 0), .nil, .im (.int .i64 0), .im (.int .i64 0), .nil, .nil, .im (.int .i64 0), .im (.int .i64 0)], .c (.im (.bool false))] } := by simp [rRs, canR, hp]
    try simp -dsimp (maxSteps := 1000000) only [go_sem, List.forall_mem_nil, ↓reduceIte, Nat.reduceEqDiff, Nat.reduceLT, Nat.reduceLeDiff, Nat.reduceAdd, Nat.reduceMul, reduceCtorEq, Tryz.f38, run_PowersOf, hp, ri, hm, Bool.not_false, Bool.true_or]
    refine finF_i [] ?_
    simp -dsimp (maxSteps := 1000000) only [go_sem, List.forall_mem_nil, ↓reduceIte, Nat.reduceEqDiff, Nat.reduceLT, Nat.reduceLeDiff, Nat.reduceAdd, Nat.reduceMul, reduceCtorEq, hr]
  · have hp : hasF [2, 4, 6, 7, 8] 4 = true := by decide
    have hr : rRs ⟨4, (t1, t2), (s1, s2), lv, st, ra, rc, pts, lab, c, l⟩ = { val := .tup [.agg [.im (.int .i64 4), .im (.cpx .f32 t1 t2), .im (.cpx .f32 s1 s2), .im (.flt .f32 lv), .view 0 1 0 st.length, .im (.int .i64 ra), .im (.int .i64 rc), .view 1 1 0 pts.length, .view 2 1 0 lab.length, .im (.int .i64 c), .im (.int .i64 l)], .c (.im (.bool true))], roots := [.arr 1 (tI (rowsZ (List.replicate st.length (0, 0)))), .arr 1 (tI (rowsZ pts)), .arr 1 (tI (rowsN lab))] } := by simp [rRs, canR, hp, resetM, rMod]
    try simp -dsimp (maxSteps := 1000000) only [go_sem, List.forall_mem_nil, ↓reduceIte, Nat.reduceEqDiff, Nat.reduceLT, Nat.reduceLeDiff, Nat.reduceAdd, Nat.reduceMul, reduceCtorEq, Tryz.f38, run_PowersOf, hp, ri, hm, rc', rMod, rep_tI, tI_len, rowsZ_len, Int.reduceEq, Bool.not_true, Bool.or_self]
    refine finF_i [] ?_
    simp -dsimp (maxSteps := 1000000) only [go_sem, List.forall_mem_nil, ↓reduceIte, Nat.reduceEqDiff, Nat.reduceLT, Nat.reduceLeDiff, Nat.reduceAdd, Nat.reduceMul, reduceCtorEq, hr]
    refine ⟨[2, 3, 4], ?_, ?_, ?_, rfl, ?_⟩ <;> simp [rtOk]
  · have hp : hasF [2, 4, 6, 7, 8] 5 = false := by decide
    have hr : rRs ⟨5, (t1, t2), (s1, s2), lv, st, ra, rc, pts, lab, c, l⟩ = { val := .tup [.agg [.im (.int .i64 0), .im (.cpx .f32 0 0), .im (.cpx .f32 0 0), .im (.flt .f32 0), .nil, .im (.int .i64 0), .im (.int .i64 0), .nil, .nil, .im (.int .i64 0), .im (.int .i64 0)], .c (.im (.bool false))] } := by simp [rRs, canR, hp]
    try simp -dsimp (maxSteps := 1000000) only [go_sem, List.forall_mem_nil, ↓reduceIte, Nat.reduceEqDiff, Nat.reduceLT, Nat.reduceLeDiff, Nat.reduceAdd, Nat.reduceMul, reduceCtorEq, Tryz.f38, run_PowersOf, hp, ri, hm, Bool.not_false, Bool.true_or]
    refine finF_i [] ?_
    simp -dsimp (maxSteps := 1000000) only [go_sem, List.forall_mem_nil, ↓reduceIte, Nat.reduceEqDiff, Nat.reduceLT, Nat.reduceLeDiff, Nat.reduceAdd, Nat.reduceMul, reduceCtorEq, hr]
  · have hp : hasF [2, 4, 6, 7, 8] 6 = true := by decide
    have hr : rRs ⟨6, (t1, t2), (s1, s2), lv, st, ra, rc, pts, lab, c, l⟩ = { val := .tup [.agg [.im (.int .i64 6), .im (.cpx .f32 t1 t2), .im (.cpx .f32 s1 s2), .im (.flt .f32 lv), .view 0 1 0 st.length, .im (.int .i64 ra), .im (.int .i64 rc), .view 1 1 0 pts.length, .view 2 1 0 lab.length, .im (.int .i64 0), .im (.int .i64 l)], .c (.im (.bool true))], roots := [.arr 1 (tI (rowsZ st)), .arr 1 (tI (rowsZ pts)), .arr 1 (tI (rowsN lab))] } := by simp [rRs, canR, hp, resetM, rMod]
    try simp -dsimp (maxSteps := 1000000) only [go_sem, List.forall_mem_nil, ↓reduceIte, Nat.reduceEqDiff, Nat.reduceLT, Nat.reduceLeDiff, Nat.reduceAdd, Nat.reduceMul, reduceCtorEq, Tryz.f38, run_PowersOf, hp, ri, hm, rc', rMod, rep_tI, tI_len, rowsZ_len, Int.reduceEq, Bool.not_true, Bool.or_self]
    refine finF_i [] ?_
    simp -dsimp (maxSteps := 1000000) only [go_sem, List.forall_mem_nil, ↓reduceIte, Nat.reduceEqDiff, Nat.reduceLT, Nat.reduceLeDiff, Nat.reduceAdd, Nat.reduceMul, reduceCtorEq, hr]
    refine ⟨[2, 3, 4], ?_, ?_, ?_, rfl, ?_⟩ <;> simp [rtOk]
  · have hp : hasF [2, 4, 6, 7, 8] 7 = true := by decide
    have hr : rRs ⟨7, (t1, t2), (s1, s2), lv, st, ra, rc, pts, lab, c, l⟩ = { val := .tup [.agg [.im (.int .i64 7), .im (.cpx .f32 t1 t2), .im (.cpx .f32 s1 s2), .im (.flt .f32 0), .view 0 1 0 st.length, .im (.int .i64 ra), .im (.int .i64 rc), .view 1 1 0 pts.length, .view 2 1 0 lab.length, .im (.int .i64 c), .im (.int .i64 l)], .c (.im (.bool true))], roots := [.arr 1 (tI (rowsZ st)), .arr 1 (tI (rowsZ pts)), .arr 1 (tI (rowsN lab))] } := by simp [rRs, canR, hp, resetM, rMod]
    try simp -dsimp (maxSteps := 1000000) only [go_sem, List.forall_mem_nil, ↓reduceIte, Nat.reduceEqDiff, Nat.reduceLT, Nat.reduceLeDiff, Nat.reduceAdd, Nat.reduceMul, reduceCtorEq, Tryz.f38, run_PowersOf, hp, ri, hm, rc', rMod, rep_tI, tI_len, rowsZ_len, Int.reduceEq, Bool.not_true, Bool.or_self]
    refine finF_i [] ?_
    simp -dsimp (maxSteps := 1000000) only [go_sem, List.forall_mem_nil, ↓reduceIte, Nat.reduceEqDiff, Nat.reduceLT, Nat.reduceLeDiff, Nat.reduceAdd, Nat.reduceMul, reduceCtorEq, hr]
    refine ⟨[2, 3, 4], ?_, ?_, ?_, rfl, ?_⟩ <;> simp [rtOk]
  · have hp : hasF [2, 4, 6, 7, 8] 8 = true := by decide
    have hr : rRs ⟨8, (t1, t2), (s1, s2), lv, st, ra, rc, pts, lab, c, l⟩ = { val := .tup [.agg [.im (.int .i64 8), .im (.cpx .f32 t1 t2), .im (.cpx .f32 0 0), .im (.flt .f32 lv), .view 0 1 0 st.length, .im (.int .i64 ra), .im (.int .i64 rc), .view 1 1 0 pts.length, .view 2 1 0 lab.length, .im (.int .i64 c), .im (.int .i64 0)], .c (.im (.bool true))], roots := [.arr 1 (tI (rowsZ st)), .arr 1 (tI (rowsZ pts)), .arr 1 (tI (rowsN lab))] } := by simp [rRs, canR, hp, resetM, rMod]
    try simp -dsimp (maxSteps := 1000000) only [go_sem, List.forall_mem_nil, ↓reduceIte, Nat.reduceEqDiff, Nat.reduceLT, Nat.reduceLeDiff, Nat.reduceAdd, Nat.reduceMul, reduceCtorEq, Tryz.f38, run_PowersOf, hp, ri, hm, rc', rMod, rep_tI, tI_len, rowsZ_len, Int.reduceEq, Bool.not_true, Bool.or_self]
    refine finF_i [] ?_
    simp -dsimp (maxSteps := 1000000) only [go_sem, List.forall_mem_nil, ↓reduceIte, Nat.reduceEqDiff, Nat.reduceLT, Nat.reduceLeDiff, Nat.reduceAdd, Nat.reduceMul, reduceCtorEq, hr]
    refine ⟨[2, 3, 4], ?_, ?_, ?_, rfl, ?_⟩ <;> simp [rtOk]
def rRackTr (ms : List Mod) (cs : List Cbl) : Res := { val := .tup [.agg [.view 0 11 0 ms.length, .view 1 2 0 cs.length], .c (.im (.bool true))], roots := [.arr 11 (tM ms), .arr 2 (tI (rowsC cs))] }
theorem okR_rackTr {sc : Bool} {ms : List Mod} {cs : List Cbl} : OkR sc (rRackTr ms cs) := by
  refine ⟨.tup _ (fun d hd => ?_), fun r hr => ?_, by simp [rRackTr]⟩
  · simp only [rRackTr, List.mem_cons, List.not_mem_nil, or_false] at hd
    rcases hd with rfl | rfl
    · refine .inr ⟨_, rfl, fun x hx => ?_⟩
      simp only [List.mem_cons, List.not_mem_nil, or_false] at hx
      rcases hx with rfl | rfl <;> exact .view _ _ _ _ (by simp [rRackTr])
    · exact .inl ⟨_, rfl, okC_sc rfl⟩
  · simp only [rRackTr, List.mem_cons, List.not_mem_nil, or_false] at hr
    rcases hr with rfl | rfl
    · exact mvR_tM _
    · exact mvR_tI (sc_rowsC _)
def mixR (ms : List Mod) (i : Nat) : List Mod := (ms.take i).map resetM ++ ms.drop i
theorem mixR_len (ms : List Mod) (i : Nat) : (mixR ms i).length = ms.length := by simp [mixR]; omega
theorem mixR_at {ms : List Mod} {i : Nat} {m : Mod} (h : ms[i]? = some m) : (mixR ms i)[i]? = some m := by
  have hi : i < ms.length := (List.getElem?_eq_some_iff.1 h).1
  have hl : ((ms.take i).map resetM).length = i := by simp; omega
  rw [mixR, List.getElem?_append_right (by omega), hl, Nat.sub_self, List.getElem?_drop]
  simpa using h
theorem mixR_next {ms : List Mod} {i : Nat} {m : Mod} (h : ms[i]? = some m) : (mixR ms i).set i (resetM m) = mixR ms (i + 1) := by
  have hi : i < ms.length := (List.getElem?_eq_some_iff.1 h).1
  have hl : ((ms.take i).map resetM).length = i := by simp; omega
  have hm : ms[i] = m := by rw [List.getElem?_eq_getElem hi] at h; injection h
  rw [mixR, List.set_append_right _ _ (by omega), hl, Nat.sub_self, mixR, take_snoc h, List.map_append, List.drop_eq_getElem_cons hi, List.set_cons_zero]
  simp
theorem mixR_end (ms : List Mod) : mixR ms ms.length = ms.map resetM := by simp [mixR]
theorem resetM_no {m : Mod} (h : canR m = false) : resetM m = m := by
  have : ∀ x : Int, x ∈ ([2, 4, 6, 7, 8] : List Int) → ¬ m.kind = x := fun x hx e => by
    have h2 : hasF [2, 4, 6, 7, 8] m.kind = true := hasF_iff.2 (e ▸ hx)
    rw [canR, h2] at h; cases h
  simp [resetM, this 2 (by simp), this 4 (by simp), this 6 (by simp), this 7 (by simp), this 8 (by simp)]
structure ARr where
  ms : List Mod
  cs : List Cbl
  ok : ∀ m ∈ ms, OkM m
  r : isRackF ms cs = true
noncomputable def ct_ResetRack : Ct := fam true (fun x : ARr => ([.agg [.im (.sl 11 (rowsM x.ms)), .im (.sl 2 (rowsC x.cs))]], [])) (fun x => .one (rRackTr (x.ms.map resetM) x.cs))
theorem run_ResetRack {ms : List Mod} {cs : List Cbl} (h5 : ∀ m ∈ ms, OkM m) (r : isRackF ms cs = true) : ct_ResetRack.run [.agg [.im (.sl 11 (rowsM ms)), .im (.sl 2 (rowsC cs))]] [] = some (.one (rRackTr (ms.map resetM) cs)) := by
  refine fam_run' (args := fun x : ARr => ([D.agg [.im (.sl 11 (rowsM x.ms)), .im (.sl 2 (rowsC x.cs))]], [])) ?_ ⟨ms, cs, h5, r⟩
  rintro ⟨a, b, _, _⟩ ⟨a', b', _, _⟩ h
  simp [rowsM_eq, rowsC_eq] at h ⊢
  exact h
theorem sc_ResetRack : (ct_ResetRack.sc = true) = True := by simp [ct_ResetRack, fam]
set_option maxRecDepth 100000 in
set_option maxHeartbeats 16000000 in
theorem law_ResetRack : Law Tryz.prog 16 ct_ResetRack := by
  refine fam_lawF (Env_cons law_IsRack (Env_cons law_copyRack (Env_cons law_ResetModule Env_nil))) hmixA Tryz.func16 rfl rfl (fun ⟨ms, cs, h5, r⟩ => ⟨okO okR_rackTr, by simp [Tryz.f16], ?_⟩)
  simp only [rRackTr]
  have hsm : sm = 16777216 := rfl
  obtain ⟨p1, p2, pm, _⟩ := isRack_parts.1 r
  have h1 : ms.length ≤ sm := by omega
  have h2 : cs.length ≤ sm := by omega
  try simp -dsimp (maxSteps := 1000000) only [go_sem, List.forall_mem_nil, ↓reduceIte, Nat.reduceEqDiff, Nat.reduceLT, Nat.reduceLeDiff, Nat.reduceAdd, Nat.reduceMul, reduceCtorEq, Tryz.f16, run_IsRack h1 h2 h5, r, run_copyRack h1 h2 h5, rRack, rowsM_len, Bool.not_true]
  have h0 : mixR ms 0 = ms := by simp [mixR]
  refine loop_i (ι := { i : Nat // i ≤ ms.length }) (fun i => ⟨[(2, some (.c (.ptr 0 0 0 0))), (4, some (.c (.ptr 1 0 0 0))), (16, some (.c (.im (.sl 11 (rowsM ms))))), (17, some (.c (.im (.int .i64 (ms.length : Int))))), (18, some (.c (.im (.int .i64 (i.1 : Int)))))],
    [(0, some (.box [.t .nil, .t .nil])), (1, some (.box [.t (.lent 2 11 ms.length), .t (.lent 3 2 cs.length)])), (2, some (.arr 11 (tM (mixR ms i.1)))), (3, some (.arr 2 (tI (rowsC cs))))], 4⟩) (fun i => ms.length - i.1) ⟨0, by omega⟩ ⟨[], [1, 4, 2, 3], by ((simp only [go_sem, eq_self, MvRb, MvRn, MvRt, List.nodup_cons, List.nodup_nil, ↓reduceIte, Nat.reduceEqDiff, Nat.reduceLT, Nat.reduceLeDiff, reduceCtorEq, List.forall_mem_nil, Nat.zero_le, false_implies, List.mem_singleton, h0, MvR_M, MvR_Cb]) <;> (try (simp -dsimp only [go_sem, eq_self, MvRb, MvRn, MvRt, List.nodup_cons, List.nodup_nil, ↓reduceIte, Nat.reduceEqDiff, Nat.reduceLT, Nat.reduceLeDiff, reduceCtorEq, List.forall_mem_nil, Nat.zero_le, false_implies, List.mem_singleton, h0, MvR_M, MvR_Cb]))) <;> simp [lk, MvB_im]⟩ (fun ⟨i, hi⟩ => ?_)
  simp only at hi ⊢
  by_cases hlt : i < ms.length
  case neg =>
    have hI : ((i : Int) < (ms.length : Int)) = False := eq_false (by omega)
    obtain rfl : i = ms.length := by omega
    have he := mixR_end ms
    rw [he]
    generalize hm2 : ms.map resetM = ms2
    have hl : ms2.length = ms.length := by rw [← hm2]; simp
    try simp -dsimp (maxSteps := 1000000) only [go_sem, List.forall_mem_nil, ↓reduceIte, Nat.reduceEqDiff, Nat.reduceLT, Nat.reduceLeDiff, Nat.reduceAdd, Nat.reduceMul, reduceCtorEq, Tryz.f16, hI]
    refine finF_i [] ?_
    simp -dsimp (maxSteps := 1000000) only [go_sem, List.forall_mem_nil, ↓reduceIte, Nat.reduceEqDiff, Nat.reduceLT, Nat.reduceLeDiff, Nat.reduceAdd, Nat.reduceMul, reduceCtorEq, hm2, hl]
    refine ⟨[2, 3], ?_, ?_, ?_, rfl, ?_⟩ <;> simp [rtOk]
  have hI : ((i : Int) < (ms.length : Int)) = True := eq_true (by omega)
  have b0 : (0 ≤ (i : Int)) = True := eq_true (by omega)
  have hwr : IntKind.i64.wrap ((i : Int) + 1) = ((i + 1 : Nat) : Int) := by rw [wrap_id (by omega) (by omega)]; omega
  obtain ⟨m, hm⟩ : ∃ m, ms[i]? = some m := ⟨ms[i], List.getElem?_eq_getElem hlt⟩
  have hmem := List.mem_of_getElem? hm
  have hrow := rowsM_at hm
  have rr := run_ResetModule (h5 m hmem) (pm m hmem)
  have hgx := mixR_at hm
  have hnx := mixR_next hm
  have hlx := mixR_len ms i
  cases hcan : canR m with
  | false =>
    have hsame : mixR ms (i + 1) = mixR ms i := by
      rw [← hnx, resetM_no hcan]
      exact List.ext_getElem? fun j => by
        by_cases e : i = j
        · subst e; rw [List.getElem?_set_self (by omega), hgx]
        · rw [List.getElem?_set_ne e]
    have hrs : rRs m = { val := .tup [.agg [.im (.int .i64 0), .im (.cpx .f32 0 0), .im (.cpx .f32 0 0), .im (.flt .f32 0), .nil, .im (.int .i64 0), .im (.int .i64 0), .nil, .nil, .im (.int .i64 0), .im (.int .i64 0)], .c (.im (.bool false))] } := by simp [rRs, hcan]
    obtain ⟨k, ⟨t1, t2⟩, ⟨s1, s2⟩, lv, st, ra, rn, pts, lab, c, l⟩ := m
    simp only [modC] at rr hrow
    rw [hrs] at rr
    clear hrs hm hmem hgx hnx
    try simp -dsimp (maxSteps := 1000000) only [go_sem, List.forall_mem_nil, ↓reduceIte, Nat.reduceEqDiff, Nat.reduceLT, Nat.reduceLeDiff, Nat.reduceAdd, Nat.reduceMul, reduceCtorEq, Tryz.f16, hI, b0, hwr, hrow, rr, sc_ResetModule, Int.toNat_natCast]
    refine ⟨⟨i + 1, by omega⟩, by simp only []; omega, [], [0, 1, 2, 3], ?_⟩
    (simp only [go_sem, eq_self, MvRb, MvRn, MvRt, List.nodup_cons, List.nodup_nil, ↓reduceIte, Nat.reduceEqDiff, Nat.reduceLT, Nat.reduceLeDiff, reduceCtorEq, List.forall_mem_nil, Nat.zero_le, false_implies, List.mem_singleton, hsame, MvR_M, MvR_Cb])
    all_goals simp [lk, MvB_im]
  | true =>
    have hrs : rRs m = { val := .tup [(rMod (resetM m)).val, .c (.im (.bool true))], roots := (rMod (resetM m)).roots } := by simp [rRs, hcan]
    rw [hrs] at rr
    obtain ⟨k, ⟨t1, t2⟩, ⟨s1, s2⟩, lv, st, ra, rn, pts, lab, c, l⟩ := m
    simp only [modC] at rr hrow
    generalize resetM ⟨k, (t1, t2), (s1, s2), lv, st, ra, rn, pts, lab, c, l⟩ = R at rr hnx
    obtain ⟨k', ⟨t1', t2'⟩, ⟨s1', s2'⟩, lv', st', ra', rn', pts', lab', c', l'⟩ := R
    simp only [rMod] at rr
    have hg : (tM (mixR ms i))[i]? = some (modT ⟨k, (t1, t2), (s1, s2), lv, st, ra, rn, pts, lab, c, l⟩) := by simp [tM, hgx]
    have hgs : ∀ x, ((tM (mixR ms i)).set i x)[i]? = some x := fun x => List.getElem?_set_self (by rw [tM_len, hlx]; exact hlt)
    have hss : ∀ x y, ((tM (mixR ms i)).set i x).set i y = (tM (mixR ms i)).set i y := fun x y => by rw [List.set_set]
    have hfin : (tM (mixR ms i)).set i (modT ⟨k', (t1', t2'), (s1', s2'), lv', st', ra', rn', pts', lab', c', l'⟩) = tM (mixR ms (i + 1)) := by
      rw [← hnx]; simp [tM, List.map_set]
    simp only [modT] at hg hfin
    clear hrs hm hmem hgx hnx hcan
    try simp -dsimp (maxSteps := 1000000) only [go_sem, List.forall_mem_nil, ↓reduceIte, Nat.reduceEqDiff, Nat.reduceLT, Nat.reduceLeDiff, Nat.reduceAdd, Nat.reduceMul, reduceCtorEq, Tryz.f16, hI, b0, hwr, hrow, rr, hg, hgs, hss, hlx, tM_len, List.length_set, sc_ResetModule, Int.toNat_natCast]
    refine ⟨⟨i + 1, by omega⟩, by simp only []; omega, [.fold 2 i 4, .fold 2 i 7, .fold 2 i 8], [0, 1, 2, 3], ?_⟩
    (simp only [go_sem, eq_self, MvRb, MvRn, MvRt, List.nodup_cons, List.nodup_nil, ↓reduceIte, Nat.reduceEqDiff, Nat.reduceLT, Nat.reduceLeDiff, reduceCtorEq, List.forall_mem_nil, Nat.zero_le, false_implies, List.mem_singleton, Option.map_some, hgs, hss, hfin, MvR_M, MvR_Cb, tI_len, rowsZ_len, rowsN_len, forall_eq_or_imp, forall_eq])
    all_goals simp [lk, MvB_im]
end Go.SX
