/-
  laws.FnTwoOrders: the walk.
  No condition.
-/
import Derived.Test.YtbhnlplbfhomcaaRlE
set_option linter.unusedVariables false
set_option linter.unusedSimpArgs false
namespace Go.SX
open Go Go.Proofs

theorem tIF_app (l : List Nat) (x : Nat) : tI (rowsF l) ++ [[T.im (.flt .f32 x)]] = tI (rowsF (l ++ [x])) := by simp [tI, rowsF]
theorem lsA_next (n : Nat) : lsA n ++ [1065353216] = lsA (n + 1) := by simp [lsA, List.replicate_succ']
theorem lsA_len (n : Nat) : (lsA n).length = n + 1 := by simp [lsA]
theorem takeF (k : Nat) (r : List Nat) : List.take k (tI (rowsF r)) = tI (rowsF (r.take k)) := by simp [tI, rowsF, List.map_take]
theorem dropF (k : Nat) (r : List Nat) : List.drop k (tI (rowsF r)) = tI (rowsF (r.drop k)) := by simp [tI, rowsF, List.map_drop]
theorem okT_tI (rows : List (List I)) : ((tI rows).all fun r => r.all okT) = true := by simp [tI, okT]
theorem lsB_eq (n : Nat) : List.replicate n 1065353216 ++ [1266679808] = lsB n := rfl
theorem lsB_len (n : Nat) : (lsB n).length = n + 1 := by simp [lsB]
theorem okT_ms : ∀ m ∈ msT, OkM m := by
  intro m hm
  simp only [msT, List.mem_cons, List.not_mem_nil, or_false] at hm
  rcases hm with rfl | rfl | rfl <;> refine ⟨?_, ?_, ?_⟩ <;> simp [mSrc, mSum]
theorem runT0 : ct_RunRack0.run [.agg [.im (.sl 11 [[.int .i64 1, .cpx .f32 1065353216 0, .cpx .f32 1266679808 0, .flt .f32 0, .sl 1 [], .int .i64 0, .int .i64 0, .sl 1 [], .sl 1 [], .int .i64 0, .int .i64 0], [.int .i64 1, .cpx .f32 1065353216 0, .cpx .f32 1065353216 0, .flt .f32 0, .sl 1 [], .int .i64 0, .int .i64 0, .sl 1 [], .sl 1 [], .int .i64 0, .int .i64 0], [.int .i64 5, .cpx .f32 0 0, .cpx .f32 0 0, .flt .f32 0, .sl 1 [], .int .i64 0, .int .i64 0, .sl 1 [], .sl 1 [], .int .i64 0, .int .i64 0]]), .im (.sl 2 [[.int .i64 0, .int .i64 2], [.int .i64 1, .int .i64 2], [.int .i64 1, .int .i64 2]])], .agg [.im (.int .i64 (-1)), .im (.int .i64 2)], .c .nil, .c (.im (.int .i64 1))] [] = some (oRun msT csT (-1) 2 [] 1) := run_RunRack0 (ms := msT) (cs := csT) (by decide) (by decide) okT_ms (-1) 2 1
theorem runU0 : ct_RunRack0.run [.agg [.im (.sl 11 [[.int .i64 1, .cpx .f32 1065353216 0, .cpx .f32 1266679808 0, .flt .f32 0, .sl 1 [], .int .i64 0, .int .i64 0, .sl 1 [], .sl 1 [], .int .i64 0, .int .i64 0], [.int .i64 1, .cpx .f32 1065353216 0, .cpx .f32 1065353216 0, .flt .f32 0, .sl 1 [], .int .i64 0, .int .i64 0, .sl 1 [], .sl 1 [], .int .i64 0, .int .i64 0], [.int .i64 5, .cpx .f32 0 0, .cpx .f32 0 0, .flt .f32 0, .sl 1 [], .int .i64 0, .int .i64 0, .sl 1 [], .sl 1 [], .int .i64 0, .int .i64 0]]), .im (.sl 2 [[.int .i64 1, .int .i64 2], [.int .i64 1, .int .i64 2], [.int .i64 0, .int .i64 2]])], .agg [.im (.int .i64 (-1)), .im (.int .i64 2)], .c .nil, .c (.im (.int .i64 1))] [] = some (oRun msT csU (-1) 2 [] 1) := run_RunRack0 (ms := msT) (cs := csU) (by decide) (by decide) okT_ms (-1) 2 1
theorem two_eq1 : fcmp .eql .f32 1266679808 1266679808 = true := by kernel_rfl
theorem two_eq2 : fcmp .eql .f32 1266679809 1266679809 = true := by kernel_rfl
theorem two_eq0 : fcmp .eql .f32 0 0 = true := by kernel_rfl
theorem tIz1 (x y : Nat) : tI (rowsZ [(x, y)]) = [[T.im (.cpx .f32 x y)]] := rfl
theorem MvR_F (l : List Nat) : MvR false (.arr 1 (tI (rowsF l))) = True := eq_true (sc_false _ _)
set_option maxRecDepth 100000 in
set_option maxHeartbeats 40000000 in
theorem law_FnTwoOrders : Law Try.prog 5 ctLaw := by
  refine fam_law (Env_cons law_at (Env_cons law_SumForward (Env_cons law_SumSteady (Env_cons law_SumDouble (Env_cons law_NewSource (Env_cons law_NewSum (Env_cons law_RunRack0 Env_nil))))))) hmixA Try.func5 rfl rfl (fun ⟨l, hb⟩ => ⟨okO_im rfl, by simp [Try.f5], ?_⟩)
  simp only
  by_cases hbig : 1048576 < l.length
  · have hI : ((1048576 : Int) < (l.length : Int)) = True := eq_true (by omega)
    clear hbig
    try simp -dsimp (maxSteps := 1000000) only [go_sem, List.forall_mem_nil, ↓reduceIte, Nat.reduceEqDiff, Nat.reduceLT, Nat.reduceLeDiff, Nat.reduceAdd, Nat.reduceMul, reduceCtorEq, Try.f5, rowsB_len, hI]
    repeat' (first
      | ((with_reducible refine sl_i ?_ ?_); focus kernel_rfl)
      | ((with_reducible refine ro_i ?_ ?_); focus kernel_rfl)
      | ((with_reducible refine sl_e ?_); kernel_rfl)
      | ((with_reducible refine ro_e ?_); kernel_rfl)
      | ((first | (with_reducible refine gS_d ?_ ?_) | (with_reducible refine gS_dn ?_ ?_) | (with_reducible refine gS_i ?_ ?_)) <;> intro hg <;> (try simp -dsimp (maxSteps := 1000000) only [go_sem, List.forall_mem_nil, ↓reduceIte, Nat.reduceEqDiff, Nat.reduceLT, Nat.reduceLeDiff, Nat.reduceAdd, Nat.reduceMul, reduceCtorEq, Try.f5, rowsB_len, hI, *])))
  have hlen : l.length ≤ 1048576 := by omega
  have hI : ((1048576 : Int) < (l.length : Int)) = False := eq_false (by omega)
  obtain ⟨m', hm', hlt⟩ := at_mod hb 1 100 (by omega)
  obtain ⟨m, hm1, hm2, hm⟩ : ∃ m : Nat, 1 ≤ m ∧ m ≤ 100 ∧ IntKind.i64.wrap (1 + (m' : Int)) = (m : Int) := ⟨m' + 1, by omega, by omega, by rw [wrap_id (by omega) (by omega)]; omega⟩
  have hm' : (atF l 1).tmod 100 = (m' : Int) := hm'
  have h100 : ((100 : Int) = 0) = False := by simp
  have ha1 : ct_at.run [.c (.im (.sl 1 (rowsB l))), .c (.im (.int .i64 1))] [] = some (.one { val := .c (.im (.int .i64 (atF l 1))) }) := run_at hlen hb (i := 1) (by omega)
  try simp -dsimp (maxSteps := 1000000) only [go_sem, List.forall_mem_nil, ↓reduceIte, Nat.reduceEqDiff, Nat.reduceLT, Nat.reduceLeDiff, Nat.reduceAdd, Nat.reduceMul, reduceCtorEq, Try.f5, rowsB_len, hI, ha1, h100, hm', hm]
  repeat' (first
    | ((with_reducible refine sl_i ?_ ?_); focus kernel_rfl)
    | ((with_reducible refine ro_i ?_ ?_); focus kernel_rfl)
    | ((with_reducible refine sl_e ?_); kernel_rfl)
    | ((with_reducible refine ro_e ?_); kernel_rfl)
    | ((first | (with_reducible refine gS_d ?_ ?_) | (with_reducible refine gS_dn ?_ ?_) | (with_reducible refine gS_i ?_ ?_)) <;> intro hg <;> (try simp -dsimp (maxSteps := 1000000) only [go_sem, List.forall_mem_nil, ↓reduceIte, Nat.reduceEqDiff, Nat.reduceLT, Nat.reduceLeDiff, Nat.reduceAdd, Nat.reduceMul, reduceCtorEq, Try.f5, rowsB_len, hI, ha1, h100, hm', hm, *])))
  have hsm : sm = 16777216 := rfl
  have hw2 : IntKind.i64.wrap (2 * (m : Int)) = 2 * (m : Int) := wrap_id (by omega) (by omega)
  refine loop_i (ι := { k : Nat // k ≤ 2 * m }) (fun k => ⟨[(3, some (.c (.im (.int .i64 (m : Int))))), (4, some (.c (.view 0 1 0 (k.1 + 1)))), (5, some (.c (.im (.int .i64 (k.1 : Int)))))],
    [(0, some (.arr 1 (tI (rowsF (lsA k.1)))))], 1⟩) (fun k => 2 * m - k.1) ⟨0, by simp⟩ ⟨[], [0], by ((simp only [ne_eq, eq_self, subF, folds, wk1, subOk, sOk, hOk, nms, reF, rho, mapD, mapC, mapC1, NmD, NmC, NmC1, mapR, mapB, mapTt, NmR, NmB, NmT, MvRb, MvRn, MvRt, lk, ins, Root.get, Root.setT, List.map_cons, List.map_nil, List.nodup_cons, List.nodup_nil, List.not_mem_nil, List.mem_cons, not_false_eq_true, and_self, and_true, true_and, true_or, or_true, false_or, or_false, ↓reduceIte, Nat.reduceEqDiff, Nat.reduceLT, Nat.reduceLeDiff, reduceCtorEq, Option.isSome_some, List.forall_mem_cons, List.forall_mem_nil, implies_true, forall_const, Nat.le_refl, Nat.zero_le, false_implies, List.mem_singleton, MvB_im, MvB_nil, Mv_im, Option.some.injEq, D.c.injEq, C.im.injEq, I.int.injEq, List.getElem?_cons_zero, List.getElem?_cons_succ, List.set_cons_zero, List.set_cons_succ, List.length_cons, List.length_nil, Nat.zero_add, MvR_F]) <;> (try (simp -dsimp only [ne_eq, eq_self, subF, folds, wk1, subOk, sOk, hOk, nms, reF, rho, mapD, mapC, mapC1, NmD, NmC, NmC1, mapR, mapB, mapTt, NmR, NmB, NmT, MvRb, MvRn, MvRt, lk, ins, Root.get, Root.setT, List.map_cons, List.map_nil, List.nodup_cons, List.nodup_nil, List.not_mem_nil, List.mem_cons, not_false_eq_true, and_self, and_true, true_and, true_or, or_true, false_or, or_false, ↓reduceIte, Nat.reduceEqDiff, Nat.reduceLT, Nat.reduceLeDiff, reduceCtorEq, Option.isSome_some, List.forall_mem_cons, List.forall_mem_nil, implies_true, forall_const, Nat.le_refl, Nat.zero_le, false_implies, List.mem_singleton, MvB_im, MvB_nil, Mv_im, Option.some.injEq, D.c.injEq, C.im.injEq, I.int.injEq, List.getElem?_cons_zero, List.getElem?_cons_succ, List.set_cons_zero, List.set_cons_succ, List.length_cons, List.length_nil, Nat.zero_add, MvR_F]))) <;> simp [lk, lsA, rowsF, tI]⟩ (fun ⟨k, hk⟩ => ?_)
  by_cases hkm : k < 2 * m
  · have hK : ((k : Int) < 2 * (m : Int)) = True := eq_true (by omega)
    have hby : ((k + 1 + 1) * 4 ≤ 140737488355328) = True := bytes_sm (by omega) (by decide)
    have hwr : IntKind.i64.wrap ((k : Int) + 1) = (k : Int) + 1 := wrap_id (by omega) (by omega)
    have hln := lsA_len k
    have hln1 := lsA_len (k + 1)
    simp only
    try simp -dsimp (maxSteps := 1000000) only [go_sem, List.forall_mem_nil, ↓reduceIte, Nat.reduceEqDiff, Nat.reduceLT, Nat.reduceLeDiff, Nat.reduceAdd, Nat.reduceMul, reduceCtorEq, Try.f5, hK, hw2, hwr, hby, hln, hln1, tI_len, rowsF_len, tIF_app, lsA_next, appendH, srcRows, List.take_succ_cons, List.take_zero, List.all_cons, List.all_nil, okT, Bool.and_true]
    repeat' (first
      | ((with_reducible refine sl_i ?_ ?_); focus kernel_rfl)
      | ((with_reducible refine ro_i ?_ ?_); focus kernel_rfl)
      | ((with_reducible refine sl_e ?_); kernel_rfl)
      | ((with_reducible refine ro_e ?_); kernel_rfl)
      | ((first | (with_reducible refine gS_d ?_ ?_) | (with_reducible refine gS_dn ?_ ?_) | (with_reducible refine gS_i ?_ ?_)) <;> intro hg <;> (try simp -dsimp (maxSteps := 1000000) only [go_sem, List.forall_mem_nil, ↓reduceIte, Nat.reduceEqDiff, Nat.reduceLT, Nat.reduceLeDiff, Nat.reduceAdd, Nat.reduceMul, reduceCtorEq, Try.f5, hK, hw2, hwr, hby, hln, hln1, tI_len, rowsF_len, tIF_app, lsA_next, appendH, srcRows, List.take_succ_cons, List.take_zero, List.all_cons, List.all_nil, okT, Bool.and_true, *])))
    exact ⟨⟨k + 1, by omega⟩, by simp only []; omega, [], [2], by ((simp only [ne_eq, eq_self, subF, folds, wk1, subOk, sOk, hOk, nms, reF, rho, mapD, mapC, mapC1, NmD, NmC, NmC1, mapR, mapB, mapTt, NmR, NmB, NmT, MvRb, MvRn, MvRt, lk, ins, Root.get, Root.setT, List.map_cons, List.map_nil, List.nodup_cons, List.nodup_nil, List.not_mem_nil, List.mem_cons, not_false_eq_true, and_self, and_true, true_and, true_or, or_true, false_or, or_false, ↓reduceIte, Nat.reduceEqDiff, Nat.reduceLT, Nat.reduceLeDiff, reduceCtorEq, Option.isSome_some, List.forall_mem_cons, List.forall_mem_nil, implies_true, forall_const, Nat.le_refl, Nat.zero_le, false_implies, List.mem_singleton, MvB_im, MvB_nil, Mv_im, Option.some.injEq, D.c.injEq, C.im.injEq, I.int.injEq, List.getElem?_cons_zero, List.getElem?_cons_succ, List.set_cons_zero, List.set_cons_succ, List.length_cons, List.length_nil, Nat.zero_add, MvR_F]) <;> (try (simp -dsimp only [ne_eq, eq_self, subF, folds, wk1, subOk, sOk, hOk, nms, reF, rho, mapD, mapC, mapC1, NmD, NmC, NmC1, mapR, mapB, mapTt, NmR, NmB, NmT, MvRb, MvRn, MvRt, lk, ins, Root.get, Root.setT, List.map_cons, List.map_nil, List.nodup_cons, List.nodup_nil, List.not_mem_nil, List.mem_cons, not_false_eq_true, and_self, and_true, true_and, true_or, or_true, false_or, or_false, ↓reduceIte, Nat.reduceEqDiff, Nat.reduceLT, Nat.reduceLeDiff, reduceCtorEq, Option.isSome_some, List.forall_mem_cons, List.forall_mem_nil, implies_true, forall_const, Nat.le_refl, Nat.zero_le, false_implies, List.mem_singleton, MvB_im, MvB_nil, Mv_im, Option.some.injEq, D.c.injEq, C.im.injEq, I.int.injEq, List.getElem?_cons_zero, List.getElem?_cons_succ, List.set_cons_zero, List.set_cons_succ, List.length_cons, List.length_nil, Nat.zero_add, MvR_F]))) <;> simp [lk]⟩
  have hK : ((k : Int) < 2 * (m : Int)) = False := eq_false (by omega)
  obtain rfl : k = 2 * m := by omega
  obtain ⟨t1, t2, t3, t4⟩ := two_at hm2
  have hln := lsA_len (2 * m)
  have htk : List.take (2 * m + 1) (lsA (2 * m)) = lsA (2 * m) := List.take_of_length_le (by omega)
  have r1 := run_SumForward (l := lsA (2 * m)) (by omega)
  have r2 := run_SumSteady (l := lsA (2 * m)) (by omega)
  have r3 := run_SumDouble (l := lsA (2 * m)) (by omega)
  have r4 := run_SumForward (l := lsB (2 * m)) (by rw [lsB_len]; omega)
  have g1 : (1 ≤ ((2 * m + 1 : Nat) : Int)) = True := eq_true (by omega)
  have g2 : List.drop 1 (lsA (2 * m)) = List.replicate (2 * m) 1065353216 := rfl
  have g3 : List.take (2 * m) (List.replicate (2 * m) 1065353216) = List.replicate (2 * m) 1065353216 := List.take_of_length_le (by simp)
  have g4 : (1 + 2 * m ≤ 2 * m + 1) = True := eq_true (by omega)
  have g5 : (2 * m * 4 ≤ 140737488355328) = True := bytes_sm (by omega) (by decide)
  have g6 : ((2 * m + 1) * 4 ≤ 140737488355328) = True := bytes_sm (by omega) (by decide)
  have g7 : List.take (2 * m + 1) (lsB (2 * m)) = lsB (2 * m) := List.take_of_length_le (by rw [lsB_len]; omega)
  have hlb := lsB_len (2 * m)
  simp only
  try simp -dsimp (maxSteps := 1000000) only [go_sem, List.forall_mem_nil, ↓reduceIte, Nat.reduceEqDiff, Nat.reduceLT, Nat.reduceLeDiff, Nat.reduceAdd, Nat.reduceMul, reduceCtorEq, Try.f5, r4, g1, g2, g3, g4, g5, g6, g7, hlb, t4, okT_tI, lsB_eq, tIF_app, appendH, srcRows, List.take_succ_cons, List.take_zero, List.all_cons, List.all_nil, okT, Bool.and_true, List.length_replicate, Int.reduceLE, Int.reduceToNat, Int.toNat_natCast, Nat.add_sub_cancel, hK, hw2, t1, t2, t3, r1, r2, r3, sc_SumForward, sc_SumSteady, sc_SumDouble, hln, htk, takeF, dropF, tI_toI, tI_len, rowsF_len, Nat.sub_zero]
  repeat' (first
    | ((with_reducible refine sl_i ?_ ?_); focus kernel_rfl)
    | ((with_reducible refine ro_i ?_ ?_); focus kernel_rfl)
    | ((with_reducible refine sl_e ?_); kernel_rfl)
    | ((with_reducible refine ro_e ?_); kernel_rfl)
    | ((first | (with_reducible refine gS_d ?_ ?_) | (with_reducible refine gS_dn ?_ ?_) | (with_reducible refine gS_i ?_ ?_)) <;> intro hg <;> (try simp -dsimp (maxSteps := 1000000) only [go_sem, List.forall_mem_nil, ↓reduceIte, Nat.reduceEqDiff, Nat.reduceLT, Nat.reduceLeDiff, Nat.reduceAdd, Nat.reduceMul, reduceCtorEq, Try.f5, r4, g1, g2, g3, g4, g5, g6, g7, hlb, t4, okT_tI, lsB_eq, tIF_app, appendH, srcRows, List.take_succ_cons, List.take_zero, List.all_cons, List.all_nil, okT, Bool.and_true, List.length_replicate, Int.reduceLE, Int.reduceToNat, Int.toNat_natCast, Nat.add_sub_cancel, hK, hw2, t1, t2, t3, r1, r2, r3, sc_SumForward, sc_SumSteady, sc_SumDouble, hln, htk, takeF, dropF, tI_toI, tI_len, rowsF_len, Nat.sub_zero, *])))
  clear r1 r2 r3 r4 t1 t2 t3 t4 g1 g2 g3 g4 g5 g6 g7 hlb htk hln hK hw2
  have i1 : Int.toNat 1 = 1 := rfl
  have c11 : ((1 : Nat) : Int) = 1 := rfl
  try simp -dsimp (maxSteps := 1000000) only [go_sem, List.forall_mem_nil, ↓reduceIte, Nat.reduceEqDiff, Nat.reduceLT, Nat.reduceLeDiff, Nat.reduceAdd, Nat.reduceMul, reduceCtorEq, Try.f5, run_NewSource, run_NewSum, rMod, mSrc, mSum, runT0, sc_RunRack0, tI_toI, tI_len, rowsZ_len, rowsZ_nil, rowsN_nil, tIn, List.take_nil, List.take_zero, List.take_succ_cons, oRun, ne_run, i1]
  repeat' (first
    | ((with_reducible refine sl_i ?_ ?_); focus kernel_rfl)
    | ((with_reducible refine ro_i ?_ ?_); focus kernel_rfl)
    | ((with_reducible refine sl_e ?_); kernel_rfl)
    | ((with_reducible refine ro_e ?_); kernel_rfl)
    | ((first | (with_reducible refine gS_d ?_ ?_) | (with_reducible refine gS_dn ?_ ?_) | (with_reducible refine gS_i ?_ ?_)) <;> intro hg <;> (try simp -dsimp (maxSteps := 1000000) only [go_sem, List.forall_mem_nil, ↓reduceIte, Nat.reduceEqDiff, Nat.reduceLT, Nat.reduceLeDiff, Nat.reduceAdd, Nat.reduceMul, reduceCtorEq, Try.f5, run_NewSource, run_NewSum, rMod, mSrc, mSum, runT0, sc_RunRack0, tI_toI, tI_len, rowsZ_len, rowsZ_nil, rowsN_nil, tIn, List.take_nil, List.take_zero, List.take_succ_cons, oRun, ne_run, i1, *])))
  intro O
  try simp -dsimp (maxSteps := 1000000) only [go_sem, List.forall_mem_nil, ↓reduceIte, Nat.reduceEqDiff, Nat.reduceLT, Nat.reduceLeDiff, Nat.reduceAdd, Nat.reduceMul, reduceCtorEq, Try.f5, canT, runT O, runU0, rRun, oRun, ne_run, i1, sc_RunRack0, tI_toI, tI_len, rowsZ_len, rowsZ_nil, rowsN_nil, tIn, List.take_nil, List.take_zero, List.take_succ_cons]
  repeat' (first
    | ((with_reducible refine sl_i ?_ ?_); focus kernel_rfl)
    | ((with_reducible refine ro_i ?_ ?_); focus kernel_rfl)
    | ((with_reducible refine sl_e ?_); kernel_rfl)
    | ((with_reducible refine ro_e ?_); kernel_rfl)
    | ((first | (with_reducible refine gS_d ?_ ?_) | (with_reducible refine gS_dn ?_ ?_) | (with_reducible refine gS_i ?_ ?_)) <;> intro hg <;> (try simp -dsimp (maxSteps := 1000000) only [go_sem, List.forall_mem_nil, ↓reduceIte, Nat.reduceEqDiff, Nat.reduceLT, Nat.reduceLeDiff, Nat.reduceAdd, Nat.reduceMul, reduceCtorEq, Try.f5, canT, runT O, runU0, rRun, oRun, ne_run, i1, sc_RunRack0, tI_toI, tI_len, rowsZ_len, rowsZ_nil, rowsN_nil, tIn, List.take_nil, List.take_zero, List.take_succ_cons, *])))
  intro O2
  try simp -dsimp (maxSteps := 1000000) only [go_sem, List.forall_mem_nil, ↓reduceIte, Nat.reduceEqDiff, Nat.reduceLT, Nat.reduceLeDiff, Nat.reduceAdd, Nat.reduceMul, reduceCtorEq, Try.f5, canU, runU O2, rRun, i1, c11, Bool.and_true, two_eq1, two_eq2, two_eq0, tIz1, Int.reduceLT, Int.reduceLE, tI_len, rowsZ_len]
  repeat' (first
    | ((with_reducible refine sl_i ?_ ?_); focus kernel_rfl)
    | ((with_reducible refine ro_i ?_ ?_); focus kernel_rfl)
    | ((with_reducible refine sl_e ?_); kernel_rfl)
    | ((with_reducible refine ro_e ?_); kernel_rfl)
    | ((first | (with_reducible refine gS_d ?_ ?_) | (with_reducible refine gS_dn ?_ ?_) | (with_reducible refine gS_i ?_ ?_)) <;> intro hg <;> (try simp -dsimp (maxSteps := 1000000) only [go_sem, List.forall_mem_nil, ↓reduceIte, Nat.reduceEqDiff, Nat.reduceLT, Nat.reduceLeDiff, Nat.reduceAdd, Nat.reduceMul, reduceCtorEq, Try.f5, canU, runU O2, rRun, i1, c11, Bool.and_true, two_eq1, two_eq2, two_eq0, tIz1, Int.reduceLT, Int.reduceLE, tI_len, rowsZ_len, *])))
end Go.SX
