/-
  laws.FnAdded: the walk.
  No condition.
-/
import Derived.Test.YtbhnlplbfhomcaaRpF
set_option linter.unusedVariables false
set_option linter.unusedSimpArgs false
namespace Go.SX
open Go Go.Proofs

set_option maxRecDepth 100000 in
set_option maxHeartbeats 40000000 in
theorem law_FnAdded : Law Try.prog 8 ctLaw := by
  refine fam_law (Env_cons law_MakeWhole (Env_cons law_NewDelay (Env_cons law_NewSum (Env_cons law_RunRack (Env_cons law_AddCable Env_nil))))) hmixA Try.func8 rfl rfl (fun ⟨l, hb⟩ => ⟨okO_im rfl, by simp [Try.f8], ?_⟩)
  simp only
  by_cases hbig : 1048576 < l.length
  · have hI : ((1048576 : Int) < (l.length : Int)) = True := eq_true (by omega)
    clear hbig
    try simp -dsimp (maxSteps := 1000000) only [go_sem, List.forall_mem_nil, ↓reduceIte, Nat.reduceEqDiff, Nat.reduceLT, Nat.reduceLeDiff, Nat.reduceAdd, Nat.reduceMul, reduceCtorEq, Try.f8, rowsB_len, hI]
    repeat' (first
      | ((with_reducible refine sl_i ?_ ?_); focus kernel_rfl)
      | ((with_reducible refine ro_i ?_ ?_); focus kernel_rfl)
      | ((with_reducible refine sl_e ?_); kernel_rfl)
      | ((with_reducible refine ro_e ?_); kernel_rfl)
      | ((first | (with_reducible refine gS_d ?_ ?_) | (with_reducible refine gS_dn ?_ ?_) | (with_reducible refine gS_i ?_ ?_)) <;> intro hg <;> (try simp -dsimp (maxSteps := 1000000) only [go_sem, List.forall_mem_nil, ↓reduceIte, Nat.reduceEqDiff, Nat.reduceLT, Nat.reduceLeDiff, Nat.reduceAdd, Nat.reduceMul, reduceCtorEq, Try.f8, rowsB_len, hI, *])))
  have hlen : l.length ≤ 1048576 := by omega
  have hI : ((1048576 : Int) < (l.length : Int)) = False := eq_false (by omega)
  have hsm : sm = 16777216 := rfl
  have rw1 : ct_MakeWhole.run [.c (.im (.sl 1 (rowsB l))), .c (.im (.int .i64 30))] [] = some (oWhole 30) := run_MakeWhole hlen hb (n := 30) (by omega)
  have rd1 : ct_NewDelay.run [.c (.im (.int .i64 1))] [] = some (.one (rCk (mDel (zs 1) 0))) := run_NewDelay (n := 1) (by omega) (by omega)
  try simp -dsimp (maxSteps := 1000000) only [go_sem, List.forall_mem_nil, ↓reduceIte, Nat.reduceEqDiff, Nat.reduceLT, Nat.reduceLeDiff, Nat.reduceAdd, Nat.reduceMul, reduceCtorEq, Try.f8, rowsB_len, hI, rw1, oWhole, ne_whole]
  repeat' (first
    | ((with_reducible refine sl_i ?_ ?_); focus kernel_rfl)
    | ((with_reducible refine ro_i ?_ ?_); focus kernel_rfl)
    | ((with_reducible refine sl_e ?_); kernel_rfl)
    | ((with_reducible refine ro_e ?_); kernel_rfl)
    | ((first | (with_reducible refine gS_d ?_ ?_) | (with_reducible refine gS_dn ?_ ?_) | (with_reducible refine gS_i ?_ ?_)) <;> intro hg <;> (try simp -dsimp (maxSteps := 1000000) only [go_sem, List.forall_mem_nil, ↓reduceIte, Nat.reduceEqDiff, Nat.reduceLT, Nat.reduceLeDiff, Nat.reduceAdd, Nat.reduceMul, reduceCtorEq, Try.f8, rowsB_len, hI, rw1, oWhole, ne_whole, *])))
  rintro ⟨X, lX, hX⟩
  have hz1 : zs 1 = [(0, 0)] := rfl
  have rg : ∀ xs : List Pt, xs.length ≤ 100 → ∀ n : Int, ct_RunRack.run [.agg [.im (.sl 11 [[.int .i64 5, .cpx .f32 0 0, .cpx .f32 0 0, .flt .f32 0, .sl 1 [], .int .i64 0, .int .i64 0, .sl 1 [], .sl 1 [], .int .i64 0, .int .i64 0], [.int .i64 4, .cpx .f32 0 0, .cpx .f32 0 0, .flt .f32 0, .sl 1 [[.cpx .f32 0 0]], .int .i64 0, .int .i64 1, .sl 1 [], .sl 1 [], .int .i64 0, .int .i64 0]]), .im (.sl 2 [[.int .i64 0, .int .i64 1], [.int .i64 1, .int .i64 0]])], .agg [.im (.int .i64 0), .im (.int .i64 0)], .c (.im (.sl 1 (rowsZ xs))), .c (.im (.int .i64 n))] [] = some (oRun (msA (0, 0)) csA 0 0 xs n) := fun xs hx n => run_RunRack (ms := msA (0, 0)) (cs := csA) (by simp [msA]; omega) (by simp [csA]; omega) (by omega) okM_A 0 0 n
  have ra : ∀ a b : Int, ct_AddCable.run [.agg [.im (.sl 11 [[.int .i64 5, .cpx .f32 0 0, .cpx .f32 0 0, .flt .f32 0, .sl 1 [], .int .i64 0, .int .i64 0, .sl 1 [], .sl 1 [], .int .i64 0, .int .i64 0], [.int .i64 4, .cpx .f32 0 0, .cpx .f32 0 0, .flt .f32 0, .sl 1 [[.cpx .f32 0 0]], .int .i64 0, .int .i64 1, .sl 1 [], .sl 1 [], .int .i64 0, .int .i64 0]]), .im (.sl 2 [[.int .i64 0, .int .i64 1], [.int .i64 1, .int .i64 0]])], .c (.im (.int .i64 a)), .c (.im (.int .i64 b))] [] = some (.one (rRackB (addF (msA (0, 0)) csA a b) (msA (0, 0)) (csA ++ [(a, b)]))) := fun a b => run_AddCable (ms := msA (0, 0)) (cs := csA) (by simp [msA]; omega) (by simp [csA]) okM_A a b
  have hpl := wL_len X
  have kx : (wL X).take X.length = wL X := List.take_of_length_le (by omega)
  have tz : tI (rowsZ [(0, 0)]) = [[T.im (.cpx .f32 0 0)]] := rfl
  have hcase := fun i hi => caseA hX (by omega) (i := i) hi
  have hrun := fun O => congrArg (·.2) (runA hX O X.length (by omega))
  have hcan := canA (n := X.length) (by omega)
  simp only at hrun
  generalize hY : ((List.range X.length).map fun i => sA X (i + 1)) = Y at *
  have hYl : Y.length = X.length := by rw [← hY]; simp
  have hs0 := sA_zero X
  clear hY
  generalize hXw : wL X = X' at *
  have rgx := rg X' (by omega) (X.length : Int)
  have c1 : ((1 : Nat) : Int) = 1 := rfl
  try simp -dsimp (maxSteps := 1000000) only [go_sem, List.forall_mem_nil, ↓reduceIte, Nat.reduceEqDiff, Nat.reduceLT, Nat.reduceLeDiff, Nat.reduceAdd, Nat.reduceMul, reduceCtorEq, Try.f8, c1, rd1, rCk, mDel, hz1, run_NewSum, rMod, mSum, rNew, hpl, kx, tz, takeZ, rgx, sc_RunRack, tI_toI, tI_len, rowsZ_len, rowsZ_nil, rowsN_nil, tIn, List.take_nil, List.take_zero, List.take_succ_cons, oRun, ne_run]
  repeat' (first
    | ((with_reducible refine sl_i ?_ ?_); focus kernel_rfl)
    | ((with_reducible refine ro_i ?_ ?_); focus kernel_rfl)
    | ((with_reducible refine sl_e ?_); kernel_rfl)
    | ((with_reducible refine ro_e ?_); kernel_rfl)
    | ((first | (with_reducible refine gS_d ?_ ?_) | (with_reducible refine gS_dn ?_ ?_) | (with_reducible refine gS_i ?_ ?_)) <;> intro hg <;> (try simp -dsimp (maxSteps := 1000000) only [go_sem, List.forall_mem_nil, ↓reduceIte, Nat.reduceEqDiff, Nat.reduceLT, Nat.reduceLeDiff, Nat.reduceAdd, Nat.reduceMul, reduceCtorEq, Try.f8, c1, rd1, rCk, mDel, hz1, run_NewSum, rMod, mSum, rNew, hpl, kx, tz, takeZ, rgx, sc_RunRack, tI_toI, tI_len, rowsZ_len, rowsZ_nil, rowsN_nil, tIn, List.take_nil, List.take_zero, List.take_succ_cons, oRun, ne_run, *])))
  intro O
  have hr := hrun O
  have iX : Int.toNat (X.length : Int) = X.length := by simp
  try simp -dsimp (maxSteps := 1000000) only [go_sem, List.forall_mem_nil, ↓reduceIte, Nat.reduceEqDiff, Nat.reduceLT, Nat.reduceLeDiff, Nat.reduceAdd, Nat.reduceMul, reduceCtorEq, Try.f8, hcan, iX, hr, rRun, hYl, hpl, rowsZ_len]
  repeat' (first
    | ((with_reducible refine sl_i ?_ ?_); focus kernel_rfl)
    | ((with_reducible refine ro_i ?_ ?_); focus kernel_rfl)
    | ((with_reducible refine sl_e ?_); kernel_rfl)
    | ((with_reducible refine ro_e ?_); kernel_rfl)
    | ((first | (with_reducible refine gS_d ?_ ?_) | (with_reducible refine gS_dn ?_ ?_) | (with_reducible refine gS_i ?_ ?_)) <;> intro hg <;> (try simp -dsimp (maxSteps := 1000000) only [go_sem, List.forall_mem_nil, ↓reduceIte, Nat.reduceEqDiff, Nat.reduceLT, Nat.reduceLeDiff, Nat.reduceAdd, Nat.reduceMul, reduceCtorEq, Try.f8, hcan, iX, hr, rRun, hYl, hpl, rowsZ_len, *])))
  clear hrun hr rgx rg hcan
  refine loop_i (ι := { i : Nat // i ≤ X.length }) (fun i => ⟨[(6, some (.c (.ptr 61 0 0 0))), (8, some (.c (.view 79 1 0 X.length))), (10, some (.c (.im (.cpx .f32 (sA X i.1).1 (sA X i.1).2)))), (52, some (.c (.view 0 1 0 X.length))), (53, some (.c (.im (.int .i64 (X.length : Int))))), (54, some (.c (.im (.int .i64 (i.1 : Int)))))],
    [(0, some (.arr 1 (tI (rowsZ X')))), (1, some (.arr 1 [[.im (.cpx .f32 0 0)]])), (2, some (.arr 1 [])), (3, some (.arr 1 [])), (5, some (.arr 1 [])), (6, some (.arr 1 [])), (7, some (.arr 1 [])), (21, some (.arr 11 [[.im (.int .i64 5), .im (.cpx .f32 0 0), .im (.cpx .f32 0 0), .im (.flt .f32 0), .lent 5 1 0, .im (.int .i64 0), .im (.int .i64 0), .lent 6 1 0, .lent 7 1 0, .im (.int .i64 0), .im (.int .i64 0)], [.im (.int .i64 4), .im (.cpx .f32 0 0), .im (.cpx .f32 0 0), .im (.flt .f32 0), .lent 1 1 1, .im (.int .i64 0), .im (.int .i64 1), .lent 2 1 0, .lent 3 1 0, .im (.int .i64 0), .im (.int .i64 0)]])), (45, some (.arr 2 [[.im (.int .i64 0), .im (.int .i64 1)], [.im (.int .i64 1), .im (.int .i64 0)]])), (61, some (.box [.t (.lent 21 11 2), .t (.lent 45 2 2)])), (79, some (.arr 1 (tI (rowsZ Y))))], 81⟩)
    (fun i => X.length - i.1) ⟨0, by simp⟩ ⟨[], [0, 1, 2, 3, 5, 6, 7, 21, 45, 61, 79], by ((simp only [ne_eq, eq_self, subF, folds, wk1, subOk, sOk, hOk, nms, reF, rho, mapD, mapC, mapC1, NmD, NmC, NmC1, mapR, mapB, mapTt, NmR, NmB, NmT, MvRb, MvRn, MvRt, lk, ins, Root.get, Root.setT, List.map_cons, List.map_nil, List.nodup_cons, List.nodup_nil, List.not_mem_nil, List.mem_cons, not_false_eq_true, and_self, and_true, true_and, true_or, or_true, false_or, or_false, ↓reduceIte, Nat.reduceEqDiff, Nat.reduceLT, Nat.reduceLeDiff, reduceCtorEq, Option.isSome_some, List.forall_mem_cons, List.forall_mem_nil, implies_true, forall_const, Nat.le_refl, Nat.zero_le, false_implies, List.mem_singleton, MvB_im, MvB_nil, Mv_im, Option.some.injEq, D.c.injEq, C.im.injEq, I.int.injEq, List.getElem?_cons_zero, List.getElem?_cons_succ, List.set_cons_zero, List.set_cons_succ, List.length_cons, List.length_nil, Nat.zero_add, hs0, MvR_Z]) <;> (try (simp -dsimp only [ne_eq, eq_self, subF, folds, wk1, subOk, sOk, hOk, nms, reF, rho, mapD, mapC, mapC1, NmD, NmC, NmC1, mapR, mapB, mapTt, NmR, NmB, NmT, MvRb, MvRn, MvRt, lk, ins, Root.get, Root.setT, List.map_cons, List.map_nil, List.nodup_cons, List.nodup_nil, List.not_mem_nil, List.mem_cons, not_false_eq_true, and_self, and_true, true_and, true_or, or_true, false_or, or_false, ↓reduceIte, Nat.reduceEqDiff, Nat.reduceLT, Nat.reduceLeDiff, reduceCtorEq, Option.isSome_some, List.forall_mem_cons, List.forall_mem_nil, implies_true, forall_const, Nat.le_refl, Nat.zero_le, false_implies, List.mem_singleton, MvB_im, MvB_nil, Mv_im, Option.some.injEq, D.c.injEq, C.im.injEq, I.int.injEq, List.getElem?_cons_zero, List.getElem?_cons_succ, List.set_cons_zero, List.set_cons_succ, List.length_cons, List.length_nil, Nat.zero_add, hs0, MvR_Z]))) <;> simp [lk, MvB_im, hs0]⟩ (fun ⟨i, hi⟩ => ?_)
  simp only
  by_cases hil : i < X.length
  · have hJ : ((i : Int) < (X.length : Int)) = True := eq_true (by omega)
    have hwr : IntKind.i64.wrap ((i : Int) + 1) = (i : Int) + 1 := wrap_id (by omega) (by omega)
    have h0 : (0 ≤ (i : Int)) = True := by simp
    obtain ⟨z1, z2, y1, y2, q1, q2, q3, q4, q5, q6⟩ := hcase i hil
    clear hcase
    generalize hA : sA X i = A at *
    generalize hB : sA X (i + 1) = B at *
    obtain ⟨A1, A2⟩ := A
    obtain ⟨B1, B2⟩ := B
    simp only at q3 q4 q5 q6 ⊢
    try simp -dsimp (maxSteps := 1000000) only [go_sem, List.forall_mem_nil, ↓reduceIte, Nat.reduceEqDiff, Nat.reduceLT, Nat.reduceLeDiff, Nat.reduceAdd, Nat.reduceMul, reduceCtorEq, Try.f8, hJ, hwr, h0, q1, q2, q3, q4, q5, q6, Int.toNat_natCast, Bool.and_true, Bool.not_true]
    repeat' (first
      | ((with_reducible refine sl_i ?_ ?_); focus kernel_rfl)
      | ((with_reducible refine ro_i ?_ ?_); focus kernel_rfl)
      | ((with_reducible refine sl_e ?_); kernel_rfl)
      | ((with_reducible refine ro_e ?_); kernel_rfl)
      | ((first | (with_reducible refine gS_d ?_ ?_) | (with_reducible refine gS_dn ?_ ?_) | (with_reducible refine gS_i ?_ ?_)) <;> intro hg <;> (try simp -dsimp (maxSteps := 1000000) only [go_sem, List.forall_mem_nil, ↓reduceIte, Nat.reduceEqDiff, Nat.reduceLT, Nat.reduceLeDiff, Nat.reduceAdd, Nat.reduceMul, reduceCtorEq, Try.f8, hJ, hwr, h0, q1, q2, q3, q4, q5, q6, Int.toNat_natCast, Bool.and_true, Bool.not_true, *])))
    refine ⟨⟨i + 1, by omega⟩, by simp only []; omega, [], [0, 1, 2, 3, 5, 6, 7, 21, 45, 61, 79], ?_⟩
    simp only [hB]
    ((simp only [ne_eq, eq_self, subF, folds, wk1, subOk, sOk, hOk, nms, reF, rho, mapD, mapC, mapC1, NmD, NmC, NmC1, mapR, mapB, mapTt, NmR, NmB, NmT, MvRb, MvRn, MvRt, lk, ins, Root.get, Root.setT, List.map_cons, List.map_nil, List.nodup_cons, List.nodup_nil, List.not_mem_nil, List.mem_cons, not_false_eq_true, and_self, and_true, true_and, true_or, or_true, false_or, or_false, ↓reduceIte, Nat.reduceEqDiff, Nat.reduceLT, Nat.reduceLeDiff, reduceCtorEq, Option.isSome_some, List.forall_mem_cons, List.forall_mem_nil, implies_true, forall_const, Nat.le_refl, Nat.zero_le, false_implies, List.mem_singleton, MvB_im, MvB_nil, Mv_im, Option.some.injEq, D.c.injEq, C.im.injEq, I.int.injEq, List.getElem?_cons_zero, List.getElem?_cons_succ, List.set_cons_zero, List.set_cons_succ, List.length_cons, List.length_nil, Nat.zero_add, MvR_Z]) <;> (try (simp -dsimp only [ne_eq, eq_self, subF, folds, wk1, subOk, sOk, hOk, nms, reF, rho, mapD, mapC, mapC1, NmD, NmC, NmC1, mapR, mapB, mapTt, NmR, NmB, NmT, MvRb, MvRn, MvRt, lk, ins, Root.get, Root.setT, List.map_cons, List.map_nil, List.nodup_cons, List.nodup_nil, List.not_mem_nil, List.mem_cons, not_false_eq_true, and_self, and_true, true_and, true_or, or_true, false_or, or_false, ↓reduceIte, Nat.reduceEqDiff, Nat.reduceLT, Nat.reduceLeDiff, reduceCtorEq, Option.isSome_some, List.forall_mem_cons, List.forall_mem_nil, implies_true, forall_const, Nat.le_refl, Nat.zero_le, false_implies, List.mem_singleton, MvB_im, MvB_nil, Mv_im, Option.some.injEq, D.c.injEq, C.im.injEq, I.int.injEq, List.getElem?_cons_zero, List.getElem?_cons_succ, List.set_cons_zero, List.set_cons_succ, List.length_cons, List.length_nil, Nat.zero_add, MvR_Z])))
    all_goals simp [lk, MvB_im]
  have hJ : ((i : Int) < (X.length : Int)) = False := eq_false (by omega)
  have ra0 := ra 0 0
  have ra1 := ra 1 1
  have hb0 : rRackB (addF (msA (0, 0)) csA 0 0) (msA (0, 0)) (csA ++ [(0, 0)]) = rRackF := by rw [addA0]; rfl
  have hb1 : rRackB (addF (msA (0, 0)) csA 1 1) (msA (0, 0)) (csA ++ [(1, 1)]) = rRackT (msA (0, 0)) (csA ++ [(1, 1)]) := by rw [addA1]; rfl
  rw [hb0] at ra0
  rw [hb1] at ra1
  obtain ⟨S1, hS1⟩ : ∃ x, (sA X i).1 = x := ⟨_, rfl⟩
  obtain ⟨S2, hS2⟩ : ∃ x, (sA X i).2 = x := ⟨_, rfl⟩
  simp only [hS1, hS2]
  try simp -dsimp (maxSteps := 1000000) only [go_sem, List.forall_mem_nil, ↓reduceIte, Nat.reduceEqDiff, Nat.reduceLT, Nat.reduceLeDiff, Nat.reduceAdd, Nat.reduceMul, reduceCtorEq, Try.f8, hJ, c1, ra0, ra1, rRackF, rRackT, sc_AddCable, tI_toI, tI_len, rowsZ_len, rowsZ_nil, rowsN_nil, tIn, List.take_nil, List.take_zero, List.take_succ_cons]
  repeat' (first
    | ((with_reducible refine sl_i ?_ ?_); focus kernel_rfl)
    | ((with_reducible refine ro_i ?_ ?_); focus kernel_rfl)
    | ((with_reducible refine sl_e ?_); kernel_rfl)
    | ((with_reducible refine ro_e ?_); kernel_rfl)
    | ((first | (with_reducible refine gS_d ?_ ?_) | (with_reducible refine gS_dn ?_ ?_) | (with_reducible refine gS_i ?_ ?_)) <;> intro hg <;> (try simp -dsimp (maxSteps := 1000000) only [go_sem, List.forall_mem_nil, ↓reduceIte, Nat.reduceEqDiff, Nat.reduceLT, Nat.reduceLeDiff, Nat.reduceAdd, Nat.reduceMul, reduceCtorEq, Try.f8, hJ, c1, ra0, ra1, rRackF, rRackT, sc_AddCable, tI_toI, tI_len, rowsZ_len, rowsZ_nil, rowsN_nil, tIn, List.take_nil, List.take_zero, List.take_succ_cons, *])))
end Go.SX
