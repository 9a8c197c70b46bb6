/-
  isPlug, canRun.
  No condition.
-/
import Derived.Test.YtbhnlplbfhomcaaRkS
set_option linter.unusedVariables false
set_option linter.unusedSimpArgs false
namespace Go.SX
open Go Go.Proofs

theorem OkS_of {m : Mod} (h : OkM m) (h1 : isModuleF m = true) : OkS m := by
  refine ⟨h, fun hk => ?_, fun hk => ?_⟩
  · simp only [isModuleF, hk, Int.reduceEq, if_true, if_false, Bool.and_eq_true, isRingF, decide_eq_true_eq] at h1
    obtain ⟨⟨⟨⟨_, _, h2, h3, _⟩, _⟩, _⟩, _⟩ := h1
    exact ⟨h2, h3⟩
  · simp only [isModuleF, hk, Int.reduceEq, if_true, if_false, Bool.and_eq_true, decide_eq_true_eq] at h1
    exact ⟨h1.1.1, h1.1.2.1, h1.1.2.2.1, h1.1.2.2.2⟩
structure RackOk (ms : List Mod) (cs : List Cbl) : Prop where
  ml : ms.length ≤ 16
  cl : cs.length ≤ 40
  ok : ∀ m ∈ ms, OkS m
  cr : ∀ c ∈ cs, 0 ≤ c.1 ∧ c.1 < ms.length ∧ 0 ≤ c.2 ∧ c.2 < ms.length
theorem RackOk_of {ms : List Mod} {cs : List Cbl} (h : ∀ m ∈ ms, OkM m) (hr : isRackF ms cs = true) : RackOk ms cs := by
  simp only [isRackF, Bool.and_eq_true, decide_eq_true_eq, List.all_eq_true, cabF] at hr
  obtain ⟨h1, h2, h3, h4, _⟩ := hr
  exact ⟨h1, h2, fun m hm => OkS_of (h m hm) (h3 m hm), h4⟩
def plugF (n : Nat) (a b : Int) : Bool := decide (-1 ≤ a) && (decide (a < n) && (decide (0 ≤ b) && decide (b < n)))
structure APl where
  ms : List Mod
  cs : List Cbl
  a : Int
  b : Int
noncomputable def ct_isPlug : Ct := fam true (fun x : APl => ([.agg [.im (.sl 11 (rowsM x.ms)), .im (.sl 2 (rowsC x.cs))], .agg [.im (.int .i64 x.a), .im (.int .i64 x.b)]], [])) (fun x => .one { val := .c (.im (.bool (plugF x.ms.length x.a x.b))) })
theorem run_isPlug (ms : List Mod) (cs : List Cbl) (a b : Int) : ct_isPlug.run [.agg [.im (.sl 11 (rowsM ms)), .im (.sl 2 (rowsC cs))], .agg [.im (.int .i64 a), .im (.int .i64 b)]] [] = some (.one { val := .c (.im (.bool (plugF ms.length a b))) }) := by
  refine fam_run' (args := fun x : APl => ([D.agg [.im (.sl 11 (rowsM x.ms)), .im (.sl 2 (rowsC x.cs))], .agg [.im (.int .i64 x.a), .im (.int .i64 x.b)]], [])) ?_ ⟨ms, cs, a, b⟩
  rintro ⟨a, b, c, d⟩ ⟨a', b', c', d'⟩ h
  simp [rowsM_eq, rowsC_eq] at h ⊢
  simp [h]
set_option maxRecDepth 100000 in
set_option maxHeartbeats 4000000 in
theorem law_isPlug : Law Try.prog 67 ct_isPlug := by
  refine fam_law Env_nil hmixA Try.func67 rfl rfl (fun ⟨ms, cs, a, b⟩ => ⟨okO_im rfl, by simp [Try.f67], ?_⟩)
  simp only
  by_cases p1 : -1 ≤ a
  rotate_left
  · have e1 := eq_false p1
    clear p1
    try simp -dsimp (maxSteps := 1000000) only [go_sem, List.forall_mem_nil, ↓reduceIte, Nat.reduceEqDiff, Nat.reduceLT, Nat.reduceLeDiff, Nat.reduceAdd, Nat.reduceMul, reduceCtorEq, Try.f67, rowsM_len, e1]
    repeat' (first
      | ((with_reducible refine sl_i ?_ ?_); focus kernel_rfl)
      | ((with_reducible refine ro_i ?_ ?_); focus kernel_rfl)
      | ((with_reducible refine sl_e ?_); kernel_rfl)
      | ((with_reducible refine ro_e ?_); kernel_rfl)
      | ((first | (with_reducible refine gS_d ?_ ?_) | (with_reducible refine gS_dn ?_ ?_) | (with_reducible refine gS_i ?_ ?_)) <;> intro hg <;> (try simp -dsimp (maxSteps := 1000000) only [go_sem, List.forall_mem_nil, ↓reduceIte, Nat.reduceEqDiff, Nat.reduceLT, Nat.reduceLeDiff, Nat.reduceAdd, Nat.reduceMul, reduceCtorEq, Try.f67, rowsM_len, e1, *])))
    all_goals (simp only [plugF, *, decide_false, decide_true, Bool.false_and, Bool.true_and, Bool.and_false, Bool.and_true])
  have e1 := eq_true p1
  by_cases p2 : a < (ms.length : Int)
  rotate_left
  · have e2 := eq_false p2
    clear p2
    try simp -dsimp (maxSteps := 1000000) only [go_sem, List.forall_mem_nil, ↓reduceIte, Nat.reduceEqDiff, Nat.reduceLT, Nat.reduceLeDiff, Nat.reduceAdd, Nat.reduceMul, reduceCtorEq, Try.f67, rowsM_len, e1, e2]
    repeat' (first
      | ((with_reducible refine sl_i ?_ ?_); focus kernel_rfl)
      | ((with_reducible refine ro_i ?_ ?_); focus kernel_rfl)
      | ((with_reducible refine sl_e ?_); kernel_rfl)
      | ((with_reducible refine ro_e ?_); kernel_rfl)
      | ((first | (with_reducible refine gS_d ?_ ?_) | (with_reducible refine gS_dn ?_ ?_) | (with_reducible refine gS_i ?_ ?_)) <;> intro hg <;> (try simp -dsimp (maxSteps := 1000000) only [go_sem, List.forall_mem_nil, ↓reduceIte, Nat.reduceEqDiff, Nat.reduceLT, Nat.reduceLeDiff, Nat.reduceAdd, Nat.reduceMul, reduceCtorEq, Try.f67, rowsM_len, e1, e2, *])))
    all_goals (simp only [plugF, *, decide_false, decide_true, Bool.false_and, Bool.true_and, Bool.and_false, Bool.and_true])
  have e2 := eq_true p2
  by_cases p3 : 0 ≤ b
  rotate_left
  · have e3 := eq_false p3
    clear p3
    try simp -dsimp (maxSteps := 1000000) only [go_sem, List.forall_mem_nil, ↓reduceIte, Nat.reduceEqDiff, Nat.reduceLT, Nat.reduceLeDiff, Nat.reduceAdd, Nat.reduceMul, reduceCtorEq, Try.f67, rowsM_len, e1, e2, e3]
    repeat' (first
      | ((with_reducible refine sl_i ?_ ?_); focus kernel_rfl)
      | ((with_reducible refine ro_i ?_ ?_); focus kernel_rfl)
      | ((with_reducible refine sl_e ?_); kernel_rfl)
      | ((with_reducible refine ro_e ?_); kernel_rfl)
      | ((first | (with_reducible refine gS_d ?_ ?_) | (with_reducible refine gS_dn ?_ ?_) | (with_reducible refine gS_i ?_ ?_)) <;> intro hg <;> (try simp -dsimp (maxSteps := 1000000) only [go_sem, List.forall_mem_nil, ↓reduceIte, Nat.reduceEqDiff, Nat.reduceLT, Nat.reduceLeDiff, Nat.reduceAdd, Nat.reduceMul, reduceCtorEq, Try.f67, rowsM_len, e1, e2, e3, *])))
    all_goals (simp only [plugF, *, decide_false, decide_true, Bool.false_and, Bool.true_and, Bool.and_false, Bool.and_true])
  have e3 := eq_true p3
  by_cases p4 : b < (ms.length : Int)
  rotate_left
  · have e4 := eq_false p4
    clear p4
    try simp -dsimp (maxSteps := 1000000) only [go_sem, List.forall_mem_nil, ↓reduceIte, Nat.reduceEqDiff, Nat.reduceLT, Nat.reduceLeDiff, Nat.reduceAdd, Nat.reduceMul, reduceCtorEq, Try.f67, rowsM_len, e1, e2, e3, e4]
    repeat' (first
      | ((with_reducible refine sl_i ?_ ?_); focus kernel_rfl)
      | ((with_reducible refine ro_i ?_ ?_); focus kernel_rfl)
      | ((with_reducible refine sl_e ?_); kernel_rfl)
      | ((with_reducible refine ro_e ?_); kernel_rfl)
      | ((first | (with_reducible refine gS_d ?_ ?_) | (with_reducible refine gS_dn ?_ ?_) | (with_reducible refine gS_i ?_ ?_)) <;> intro hg <;> (try simp -dsimp (maxSteps := 1000000) only [go_sem, List.forall_mem_nil, ↓reduceIte, Nat.reduceEqDiff, Nat.reduceLT, Nat.reduceLeDiff, Nat.reduceAdd, Nat.reduceMul, reduceCtorEq, Try.f67, rowsM_len, e1, e2, e3, e4, *])))
    all_goals (simp only [plugF, *, decide_false, decide_true, Bool.false_and, Bool.true_and, Bool.and_false, Bool.and_true])
  have e4 := eq_true p4
  try simp -dsimp (maxSteps := 1000000) only [go_sem, List.forall_mem_nil, ↓reduceIte, Nat.reduceEqDiff, Nat.reduceLT, Nat.reduceLeDiff, Nat.reduceAdd, Nat.reduceMul, reduceCtorEq, Try.f67, rowsM_len, e1, e2, e3, e4]
  repeat' (first
    | ((with_reducible refine sl_i ?_ ?_); focus kernel_rfl)
    | ((with_reducible refine ro_i ?_ ?_); focus kernel_rfl)
    | ((with_reducible refine sl_e ?_); kernel_rfl)
    | ((with_reducible refine ro_e ?_); kernel_rfl)
    | ((first | (with_reducible refine gS_d ?_ ?_) | (with_reducible refine gS_dn ?_ ?_) | (with_reducible refine gS_i ?_ ?_)) <;> intro hg <;> (try simp -dsimp (maxSteps := 1000000) only [go_sem, List.forall_mem_nil, ↓reduceIte, Nat.reduceEqDiff, Nat.reduceLT, Nat.reduceLeDiff, Nat.reduceAdd, Nat.reduceMul, reduceCtorEq, Try.f67, rowsM_len, e1, e2, e3, e4, *])))
  all_goals simp only [plugF, *, decide_false, decide_true, Bool.false_and, Bool.true_and, Bool.and_false, Bool.and_true]

def canRunF (ms : List Mod) (cs : List Cbl) (a b n : Int) : Bool := isRackF ms cs && (plugF ms.length a b && (decide (0 ≤ n) && decide (n ≤ 500)))
structure ACr where
  ms : List Mod
  cs : List Cbl
  a : Int
  b : Int
  n : Int
  ml : ms.length ≤ sm
  cl : cs.length ≤ sm
  ok : ∀ m ∈ ms, OkM m
noncomputable def ct_canRun : Ct := fam true (fun x : ACr => ([.agg [.im (.sl 11 (rowsM x.ms)), .im (.sl 2 (rowsC x.cs))], .agg [.im (.int .i64 x.a), .im (.int .i64 x.b)], .c (.im (.int .i64 x.n))], [])) (fun x => .one { val := .c (.im (.bool (canRunF x.ms x.cs x.a x.b x.n))) })
theorem run_canRun {ms : List Mod} {cs : List Cbl} (h1 : ms.length ≤ sm) (h2 : cs.length ≤ sm) (h5 : ∀ m ∈ ms, OkM m) (a b n : Int) : ct_canRun.run [.agg [.im (.sl 11 (rowsM ms)), .im (.sl 2 (rowsC cs))], .agg [.im (.int .i64 a), .im (.int .i64 b)], .c (.im (.int .i64 n))] [] = some (.one { val := .c (.im (.bool (canRunF ms cs a b n))) }) := by
  refine fam_run' (args := fun x : ACr => ([D.agg [.im (.sl 11 (rowsM x.ms)), .im (.sl 2 (rowsC x.cs))], .agg [.im (.int .i64 x.a), .im (.int .i64 x.b)], .c (.im (.int .i64 x.n))], [])) ?_ ⟨ms, cs, a, b, n, h1, h2, h5⟩
  rintro ⟨a, b, c, d, e, _, _, _⟩ ⟨a', b', c', d', e', _, _, _⟩ h
  simp [rowsM_eq, rowsC_eq] at h ⊢
  simp [h]
set_option maxRecDepth 100000 in
set_option maxHeartbeats 4000000 in
theorem law_canRun : Law Try.prog 46 ct_canRun := by
  refine fam_law (Env_cons law_IsRack (Env_cons law_isPlug Env_nil)) hmixA Try.func46 rfl rfl (fun ⟨ms, cs, a, b, n, h1, h2, h5⟩ => ⟨okO_im rfl, by simp [Try.f46], ?_⟩)
  cases hr : isRackF ms cs with
  | false =>
    try simp -dsimp (maxSteps := 1000000) only [go_sem, List.forall_mem_nil, ↓reduceIte, Nat.reduceEqDiff, Nat.reduceLT, Nat.reduceLeDiff, Nat.reduceAdd, Nat.reduceMul, reduceCtorEq, Try.f46, run_IsRack h1 h2 h5, canRunF, hr, Bool.false_and]
    repeat' (first
      | ((with_reducible refine sl_i ?_ ?_); focus kernel_rfl)
      | ((with_reducible refine ro_i ?_ ?_); focus kernel_rfl)
      | ((with_reducible refine sl_e ?_); kernel_rfl)
      | ((with_reducible refine ro_e ?_); kernel_rfl)
      | ((first | (with_reducible refine gS_d ?_ ?_) | (with_reducible refine gS_dn ?_ ?_) | (with_reducible refine gS_i ?_ ?_)) <;> intro hg <;> (try simp -dsimp (maxSteps := 1000000) only [go_sem, List.forall_mem_nil, ↓reduceIte, Nat.reduceEqDiff, Nat.reduceLT, Nat.reduceLeDiff, Nat.reduceAdd, Nat.reduceMul, reduceCtorEq, Try.f46, run_IsRack h1 h2 h5, canRunF, hr, Bool.false_and, *])))
  | true =>
    cases hpl : plugF ms.length a b with
    | false =>
      try simp -dsimp (maxSteps := 1000000) only [go_sem, List.forall_mem_nil, ↓reduceIte, Nat.reduceEqDiff, Nat.reduceLT, Nat.reduceLeDiff, Nat.reduceAdd, Nat.reduceMul, reduceCtorEq, Try.f46, run_IsRack h1 h2 h5, run_isPlug, canRunF, hr, hpl, Bool.false_and, Bool.true_and]
      repeat' (first
        | ((with_reducible refine sl_i ?_ ?_); focus kernel_rfl)
        | ((with_reducible refine ro_i ?_ ?_); focus kernel_rfl)
        | ((with_reducible refine sl_e ?_); kernel_rfl)
        | ((with_reducible refine ro_e ?_); kernel_rfl)
        | ((first | (with_reducible refine gS_d ?_ ?_) | (with_reducible refine gS_dn ?_ ?_) | (with_reducible refine gS_i ?_ ?_)) <;> intro hg <;> (try simp -dsimp (maxSteps := 1000000) only [go_sem, List.forall_mem_nil, ↓reduceIte, Nat.reduceEqDiff, Nat.reduceLT, Nat.reduceLeDiff, Nat.reduceAdd, Nat.reduceMul, reduceCtorEq, Try.f46, run_IsRack h1 h2 h5, run_isPlug, canRunF, hr, hpl, Bool.false_and, Bool.true_and, *])))
    | true =>
      by_cases p1 : 0 ≤ n
      rotate_left
      · have e1 := eq_false p1
        clear p1
        try simp -dsimp (maxSteps := 1000000) only [go_sem, List.forall_mem_nil, ↓reduceIte, Nat.reduceEqDiff, Nat.reduceLT, Nat.reduceLeDiff, Nat.reduceAdd, Nat.reduceMul, reduceCtorEq, Try.f46, run_IsRack h1 h2 h5, run_isPlug, hr, hpl, e1]
        repeat' (first
          | ((with_reducible refine sl_i ?_ ?_); focus kernel_rfl)
          | ((with_reducible refine ro_i ?_ ?_); focus kernel_rfl)
          | ((with_reducible refine sl_e ?_); kernel_rfl)
          | ((with_reducible refine ro_e ?_); kernel_rfl)
          | ((first | (with_reducible refine gS_d ?_ ?_) | (with_reducible refine gS_dn ?_ ?_) | (with_reducible refine gS_i ?_ ?_)) <;> intro hg <;> (try simp -dsimp (maxSteps := 1000000) only [go_sem, List.forall_mem_nil, ↓reduceIte, Nat.reduceEqDiff, Nat.reduceLT, Nat.reduceLeDiff, Nat.reduceAdd, Nat.reduceMul, reduceCtorEq, Try.f46, run_IsRack h1 h2 h5, run_isPlug, hr, hpl, e1, *])))
        all_goals (simp only [canRunF, *, decide_false, decide_true, Bool.false_and, Bool.true_and, Bool.and_false, Bool.and_true])
      have e1 := eq_true p1
      try simp -dsimp (maxSteps := 1000000) only [go_sem, List.forall_mem_nil, ↓reduceIte, Nat.reduceEqDiff, Nat.reduceLT, Nat.reduceLeDiff, Nat.reduceAdd, Nat.reduceMul, reduceCtorEq, Try.f46, run_IsRack h1 h2 h5, run_isPlug, hr, hpl, e1]
      repeat' (first
        | ((with_reducible refine sl_i ?_ ?_); focus kernel_rfl)
        | ((with_reducible refine ro_i ?_ ?_); focus kernel_rfl)
        | ((with_reducible refine sl_e ?_); kernel_rfl)
        | ((with_reducible refine ro_e ?_); kernel_rfl)
        | ((first | (with_reducible refine gS_d ?_ ?_) | (with_reducible refine gS_dn ?_ ?_) | (with_reducible refine gS_i ?_ ?_)) <;> intro hg <;> (try simp -dsimp (maxSteps := 1000000) only [go_sem, List.forall_mem_nil, ↓reduceIte, Nat.reduceEqDiff, Nat.reduceLT, Nat.reduceLeDiff, Nat.reduceAdd, Nat.reduceMul, reduceCtorEq, Try.f46, run_IsRack h1 h2 h5, run_isPlug, hr, hpl, e1, *])))
      all_goals simp only [canRunF, *, decide_false, decide_true, Bool.false_and, Bool.true_and, Bool.and_false, Bool.and_true]
end Go.SX
