/-
  laws.FnSuperposed: the walk.
  No condition.
-/
import Derived.Test.YtbhnlplbfhomcaaRpE
set_option linter.unusedVariables false
set_option linter.unusedSimpArgs false
namespace Go.SX
open Go Go.Proofs

theorem msK_next (l : List Int) (k : Nat) : msK l k ++ [mS (fS l k)] = msK l (k + 1) := by simp [msK, List.range_succ]
theorem tM_app (ms : List Mod) (m : Mod) : tM ms ++ [modT m] = tM (ms ++ [m]) := by simp [tM]
theorem csK_next (c : Nat → Nat) (k : Nat) (h : 0 < k) : csK c k ++ [((c k : Int), (k : Int)), ((k : Int) - 1, (k : Int))] = csK c (k + 1) := by
  have : ¬ k = 0 := by omega
  simp [csK, List.range_succ, this]
theorem csK_one (c : Nat → Nat) : csK c 1 = csK c 0 := rfl
theorem csK_len (c : Nat → Nat) (k : Nat) (h : k ≤ 6) : (csK c k).length ≤ 12 := by
  match k, h with
  | 0, _ => simp [csK]
  | 1, _ => simp [csK, List.range_succ]
  | 2, _ => simp [csK, List.range_succ]
  | 3, _ => simp [csK, List.range_succ]
  | 4, _ => simp [csK, List.range_succ]
  | 5, _ => simp [csK, List.range_succ]
  | 6, _ => simp [csK, List.range_succ]
theorem tIC_app (cs : List Cbl) (a b c d : Int) : tI (rowsC cs) ++ [[T.im (.int .i64 a), T.im (.int .i64 b)], [T.im (.int .i64 c), T.im (.int .i64 d)]] = tI (rowsC (cs ++ [(a, b), (c, d)])) := by simp [tI, rowsC]
theorem MvR_C (l : List Cbl) : MvR false (.arr 2 (tI (rowsC l))) = True := eq_true (sc_false _ _)
set_option maxRecDepth 100000 in
set_option maxHeartbeats 40000000 in
theorem law_FnSuperposed : Law Try.prog 6 ctLaw := by
  refine fam_law (Env_cons law_at (Env_cons law_NewSum (Env_cons law_NewDelay (Env_cons law_fresh (Env_cons law_MakeWhole (Env_cons law_RunRack Env_nil)))))) hmixA Try.func6 rfl rfl (fun ⟨l, hb⟩ => ⟨okO_im rfl, by simp [Try.f6], ?_⟩)
  simp only
  by_cases hbig : 1048576 < l.length
  · have hI : ((1048576 : Int) < (l.length : Int)) = True := eq_true (by omega)
    clear hbig
    try simp -dsimp (maxSteps := 1000000) only [go_sem, List.forall_mem_nil, ↓reduceIte, Nat.reduceEqDiff, Nat.reduceLT, Nat.reduceLeDiff, Nat.reduceAdd, Nat.reduceMul, reduceCtorEq, Try.f6, rowsB_len, hI]
    repeat' (first
      | ((with_reducible refine sl_i ?_ ?_); focus kernel_rfl)
      | ((with_reducible refine ro_i ?_ ?_); focus kernel_rfl)
      | ((with_reducible refine sl_e ?_); kernel_rfl)
      | ((with_reducible refine ro_e ?_); kernel_rfl)
      | ((first | (with_reducible refine gS_d ?_ ?_) | (with_reducible refine gS_dn ?_ ?_) | (with_reducible refine gS_i ?_ ?_)) <;> intro hg <;> (try simp -dsimp (maxSteps := 1000000) only [go_sem, List.forall_mem_nil, ↓reduceIte, Nat.reduceEqDiff, Nat.reduceLT, Nat.reduceLeDiff, Nat.reduceAdd, Nat.reduceMul, reduceCtorEq, Try.f6, rowsB_len, hI, *])))
  have hlen : l.length ≤ 1048576 := by omega
  have hI : ((1048576 : Int) < (l.length : Int)) = False := eq_false (by omega)
  try simp -dsimp (maxSteps := 1000000) only [go_sem, List.forall_mem_nil, ↓reduceIte, Nat.reduceEqDiff, Nat.reduceLT, Nat.reduceLeDiff, Nat.reduceAdd, Nat.reduceMul, reduceCtorEq, Try.f6, rowsB_len, hI]
  repeat' (first
    | ((with_reducible refine sl_i ?_ ?_); focus kernel_rfl)
    | ((with_reducible refine ro_i ?_ ?_); focus kernel_rfl)
    | ((with_reducible refine sl_e ?_); kernel_rfl)
    | ((with_reducible refine ro_e ?_); kernel_rfl)
    | ((first | (with_reducible refine gS_d ?_ ?_) | (with_reducible refine gS_dn ?_ ?_) | (with_reducible refine gS_i ?_ ?_)) <;> intro hg <;> (try simp -dsimp (maxSteps := 1000000) only [go_sem, List.forall_mem_nil, ↓reduceIte, Nat.reduceEqDiff, Nat.reduceLT, Nat.reduceLeDiff, Nat.reduceAdd, Nat.reduceMul, reduceCtorEq, Try.f6, rowsB_len, hI, *])))
  refine loop_i (ι := { k : Nat // k ≤ 6 }) (fun k => ⟨[(0, some (.c (.im (.sl 1 (rowsB l))))), (3, some (.c (.ptr 0 0 0 0))), (4, some (.c (.im (.int .i64 (k.1 : Int)))))],
    [(0, some (.box [.t (.lent 1 11 k.1), .t (.lent 2 2 (csK (cS l) k.1).length)])), (1, some (.arr 11 (tM (msK l k.1)))), (2, some (.arr 2 (tI (rowsC (csK (cS l) k.1)))))], 3⟩) (fun k => 6 - k.1) ⟨0, by simp⟩ ⟨[.nilT 0 0 0 11, .nilT 0 0 1 2, .unf 0 0 0, .unf 0 0 1], [0, 1, 2], by ((simp only [ne_eq, eq_self, subF, folds, wk1, subOk, sOk, hOk, nms, reF, rho, mapD, mapC, mapC1, NmD, NmC, NmC1, mapR, mapB, mapTt, NmR, NmB, NmT, MvRb, MvRn, MvRt, lk, ins, Root.get, Root.setT, List.map_cons, List.map_nil, List.nodup_cons, List.nodup_nil, List.not_mem_nil, List.mem_cons, not_false_eq_true, and_self, and_true, true_and, true_or, or_true, false_or, or_false, ↓reduceIte, Nat.reduceEqDiff, Nat.reduceLT, Nat.reduceLeDiff, reduceCtorEq, Option.isSome_some, List.forall_mem_cons, List.forall_mem_nil, implies_true, forall_const, Nat.le_refl, Nat.zero_le, false_implies, List.mem_singleton, MvB_im, MvB_nil, Mv_im, Option.some.injEq, D.c.injEq, C.im.injEq, I.int.injEq, List.getElem?_cons_zero, List.getElem?_cons_succ, List.set_cons_zero, List.set_cons_succ, List.length_cons, List.length_nil, Nat.zero_add, Option.map_some, forall_eq_or_imp, forall_eq, MvR_M, MvR_C]) <;> (try (simp -dsimp only [ne_eq, eq_self, subF, folds, wk1, subOk, sOk, hOk, nms, reF, rho, mapD, mapC, mapC1, NmD, NmC, NmC1, mapR, mapB, mapTt, NmR, NmB, NmT, MvRb, MvRn, MvRt, lk, ins, Root.get, Root.setT, List.map_cons, List.map_nil, List.nodup_cons, List.nodup_nil, List.not_mem_nil, List.mem_cons, not_false_eq_true, and_self, and_true, true_and, true_or, or_true, false_or, or_false, ↓reduceIte, Nat.reduceEqDiff, Nat.reduceLT, Nat.reduceLeDiff, reduceCtorEq, Option.isSome_some, List.forall_mem_cons, List.forall_mem_nil, implies_true, forall_const, Nat.le_refl, Nat.zero_le, false_implies, List.mem_singleton, MvB_im, MvB_nil, Mv_im, Option.some.injEq, D.c.injEq, C.im.injEq, I.int.injEq, List.getElem?_cons_zero, List.getElem?_cons_succ, List.set_cons_zero, List.set_cons_succ, List.length_cons, List.length_nil, Nat.zero_add, Option.map_some, forall_eq_or_imp, forall_eq, MvR_M, MvR_C]))) <;> simp [lk, MvB_im, msK, csK, tM, tI, rowsC]⟩ (fun ⟨k, hk⟩ => ?_)
  simp only
  have hsm : sm = 16777216 := rfl
  by_cases hk6 : k < 6
  · have hK : ((k : Int) < 6) = True := eq_true (by omega)
    have hwr : IntKind.i64.wrap ((k : Int) + 1) = (k : Int) + 1 := wrap_id (by omega) (by omega)
    have hw6 : IntKind.i64.wrap ((k : Int) + 6) = ((k + 6 : Nat) : Int) := by rw [wrap_id (by omega) (by omega)]; omega
    have hw12 : IntKind.i64.wrap ((k : Int) + 12) = ((k + 12 : Nat) : Int) := by rw [wrap_id (by omega) (by omega)]; omega
    have hwm : IntKind.i64.wrap ((k : Int) - 1) = (k : Int) - 1 := wrap_id (by omega) (by omega)
    have h20 : ((2 : Int) = 0) = False := by simp
    have h30 : ((3 : Int) = 0) = False := by simp
    have r1 := run_at hlen hb (i := k) (by omega)
    have r2 := run_at hlen hb (i := k + 6) (by omega)
    have r3 := run_at hlen hb (i := k + 12) (by omega)
    have hgk : ∀ r, (tM (msK l k) ++ [r])[k]? = some r := fun r => by rw [List.getElem?_append_right (by rw [tM_len, msK_len]; omega), tM_len, msK_len, Nat.sub_self]; rfl
    have hsk : ∀ r x, (tM (msK l k) ++ [r]).set k x = tM (msK l k) ++ [x] := fun r x => by rw [List.set_append_right _ _ (by rw [tM_len, msK_len]; omega), tM_len, msK_len, Nat.sub_self]; rfl
    have hby : ((k + 1) * 136 ≤ 140737488355328) = True := eq_true (by omega)
    have hlm := msK_len l k
    by_cases he : (atF l k).tmod 2 = 0
    · have he' := eq_true he
      obtain ⟨q, hq, hq3⟩ := at_mod hb (k + 6) 3 (by omega)
      have hq : (atF l (k + 6)).tmod 3 = (q : Int) := hq
      have hwq : IntKind.i64.wrap (1 + (q : Int)) = ((q + 1 : Nat) : Int) := by rw [wrap_id (by omega) (by omega)]; omega
      have hf : mS (fS l k) = mDel (zs (q + 1)) 0 := by
        have : (1 + (q : Int)).toNat = q + 1 := by omega
        simp only [fS, he, if_true, hq, this, mS]
      have hzl : (zs (q + 1)).length = q + 1 := by simp [zs]
      have hfin : tM (msK l k) ++ [[T.im (.int .i64 4), T.im (.cpx .f32 0 0), T.im (.cpx .f32 0 0), T.im (.flt .f32 0), T.own 1 (tI (rowsZ (zs (q + 1)))), T.im (.int .i64 0), T.im (.int .i64 ((q + 1 : Nat) : Int)), T.own 1 (tI (rowsZ [])), T.own 1 (tI (rowsN [])), T.im (.int .i64 0), T.im (.int .i64 0)]] = tM (msK l (k + 1)) := by
        rw [← msK_next, hf, ← tM_app]
        simp only [modT, mDel, hzl]
      by_cases h0 : k = 0
      · have hk0 : (0 < (k : Int)) = False := eq_false (by omega)
        try simp -dsimp (maxSteps := 1000000) only [go_sem, List.forall_mem_nil, ↓reduceIte, Nat.reduceEqDiff, Nat.reduceLT, Nat.reduceLeDiff, Nat.reduceAdd, Nat.reduceMul, reduceCtorEq, Try.f6, hK, hk0, hwr, hw6, hw12, hwm, h20, h30, r1, r2, r3, he', hgk, hsk, run_NewSum, rMod, mSum, tM_len, hlm, hby, appendH, srcRows, List.take_succ_cons, List.take_zero, List.all_cons, List.all_nil, okT, Bool.and_true, List.length_append, hq, hwq, run_NewDelay (n := q + 1) (by omega) (by omega), rCk, mDel, hzl]
        repeat' (first
          | ((with_reducible refine sl_i ?_ ?_); focus kernel_rfl)
          | ((with_reducible refine ro_i ?_ ?_); focus kernel_rfl)
          | ((with_reducible refine sl_e ?_); kernel_rfl)
          | ((with_reducible refine ro_e ?_); kernel_rfl)
          | ((first | (with_reducible refine gS_d ?_ ?_) | (with_reducible refine gS_dn ?_ ?_) | (with_reducible refine gS_i ?_ ?_)) <;> intro hg <;> (try simp -dsimp (maxSteps := 1000000) only [go_sem, List.forall_mem_nil, ↓reduceIte, Nat.reduceEqDiff, Nat.reduceLT, Nat.reduceLeDiff, Nat.reduceAdd, Nat.reduceMul, reduceCtorEq, Try.f6, hK, hk0, hwr, hw6, hw12, hwm, h20, h30, r1, r2, r3, he', hgk, hsk, run_NewSum, rMod, mSum, tM_len, hlm, hby, appendH, srcRows, List.take_succ_cons, List.take_zero, List.all_cons, List.all_nil, okT, Bool.and_true, List.length_append, hq, hwq, run_NewDelay (n := q + 1) (by omega) (by omega), rCk, mDel, hzl, *])))
        have hcs : csK (cS l) (k + 1) = csK (cS l) k := by subst h0; rfl
        refine ⟨⟨k + 1, by omega⟩, by simp only []; omega, [.fold 11 k 4, .fold 11 k 7, .fold 11 k 8], [0, 11, 2], ?_⟩
        ((simp only [ne_eq, eq_self, subF, folds, wk1, subOk, sOk, hOk, nms, reF, rho, mapD, mapC, mapC1, NmD, NmC, NmC1, mapR, mapB, mapTt, NmR, NmB, NmT, MvRb, MvRn, MvRt, lk, ins, Root.get, Root.setT, List.map_cons, List.map_nil, List.nodup_cons, List.nodup_nil, List.not_mem_nil, List.mem_cons, not_false_eq_true, and_self, and_true, true_and, true_or, or_true, false_or, or_false, ↓reduceIte, Nat.reduceEqDiff, Nat.reduceLT, Nat.reduceLeDiff, reduceCtorEq, Option.isSome_some, List.forall_mem_cons, List.forall_mem_nil, implies_true, forall_const, Nat.le_refl, Nat.zero_le, false_implies, List.mem_singleton, MvB_im, MvB_nil, Mv_im, Option.some.injEq, D.c.injEq, C.im.injEq, I.int.injEq, List.getElem?_cons_zero, List.getElem?_cons_succ, List.set_cons_zero, List.set_cons_succ, List.length_cons, List.length_nil, Nat.zero_add, Option.map_some, hgk, hsk, hfin, hzl, hcs, tI_len, rowsZ_len, rowsN_len, MvR_M, MvR_C, forall_eq_or_imp, forall_eq]) <;> (try (simp -dsimp only [ne_eq, eq_self, subF, folds, wk1, subOk, sOk, hOk, nms, reF, rho, mapD, mapC, mapC1, NmD, NmC, NmC1, mapR, mapB, mapTt, NmR, NmB, NmT, MvRb, MvRn, MvRt, lk, ins, Root.get, Root.setT, List.map_cons, List.map_nil, List.nodup_cons, List.nodup_nil, List.not_mem_nil, List.mem_cons, not_false_eq_true, and_self, and_true, true_and, true_or, or_true, false_or, or_false, ↓reduceIte, Nat.reduceEqDiff, Nat.reduceLT, Nat.reduceLeDiff, reduceCtorEq, Option.isSome_some, List.forall_mem_cons, List.forall_mem_nil, implies_true, forall_const, Nat.le_refl, Nat.zero_le, false_implies, List.mem_singleton, MvB_im, MvB_nil, Mv_im, Option.some.injEq, D.c.injEq, C.im.injEq, I.int.injEq, List.getElem?_cons_zero, List.getElem?_cons_succ, List.set_cons_zero, List.set_cons_succ, List.length_cons, List.length_nil, Nat.zero_add, Option.map_some, hgk, hsk, hfin, hzl, hcs, tI_len, rowsZ_len, rowsN_len, MvR_M, MvR_C, forall_eq_or_imp, forall_eq])))
        all_goals simp [lk, MvB_im]
      · have hk0 : (0 < (k : Int)) = True := eq_true (by omega)
        have hkz : ((k : Int) = 0) = False := eq_false (by omega)
        obtain ⟨c, hc, hcl2⟩ := at_mod hb (k + 12) k (by omega)
        have hck : (atF l (k + 12)).tmod (k : Int) = (c : Int) := hc
        have hcby : ((csK (cS l) k).length + 2) * 16 ≤ 140737488355328 := by have := csK_len (cS l) k (by omega); omega
        have hcby := eq_true hcby
        try simp -dsimp (maxSteps := 1000000) only [go_sem, List.forall_mem_nil, ↓reduceIte, Nat.reduceEqDiff, Nat.reduceLT, Nat.reduceLeDiff, Nat.reduceAdd, Nat.reduceMul, reduceCtorEq, Try.f6, hK, hk0, hwr, hw6, hw12, hwm, h20, h30, r1, r2, r3, he', hgk, hsk, run_NewSum, rMod, mSum, tM_len, hlm, hby, appendH, srcRows, List.take_succ_cons, List.take_zero, List.all_cons, List.all_nil, okT, Bool.and_true, List.length_append, hq, hwq, run_NewDelay (n := q + 1) (by omega) (by omega), rCk, mDel, hzl, hck, hkz, hcby, tI_len, rowsC_len, tIC_app]
        repeat' (first
          | ((with_reducible refine sl_i ?_ ?_); focus kernel_rfl)
          | ((with_reducible refine ro_i ?_ ?_); focus kernel_rfl)
          | ((with_reducible refine sl_e ?_); kernel_rfl)
          | ((with_reducible refine ro_e ?_); kernel_rfl)
          | ((first | (with_reducible refine gS_d ?_ ?_) | (with_reducible refine gS_dn ?_ ?_) | (with_reducible refine gS_i ?_ ?_)) <;> intro hg <;> (try simp -dsimp (maxSteps := 1000000) only [go_sem, List.forall_mem_nil, ↓reduceIte, Nat.reduceEqDiff, Nat.reduceLT, Nat.reduceLeDiff, Nat.reduceAdd, Nat.reduceMul, reduceCtorEq, Try.f6, hK, hk0, hwr, hw6, hw12, hwm, h20, h30, r1, r2, r3, he', hgk, hsk, run_NewSum, rMod, mSum, tM_len, hlm, hby, appendH, srcRows, List.take_succ_cons, List.take_zero, List.all_cons, List.all_nil, okT, Bool.and_true, List.length_append, hq, hwq, run_NewDelay (n := q + 1) (by omega) (by omega), rCk, mDel, hzl, hck, hkz, hcby, tI_len, rowsC_len, tIC_app, *])))
        have hcs : csK (cS l) k ++ [((c : Int), (k : Int)), ((k : Int) - 1, (k : Int))] = csK (cS l) (k + 1) := by
          rw [← csK_next (cS l) k (by omega)]
          simp [cS, hck]
        have hcl : (csK (cS l) k).length + 2 = (csK (cS l) (k + 1)).length := by rw [← hcs]; simp
        refine ⟨⟨k + 1, by omega⟩, by simp only []; omega, [.fold 11 k 4, .fold 11 k 7, .fold 11 k 8], [0, 11, 132], ?_⟩
        ((simp only [ne_eq, eq_self, subF, folds, wk1, subOk, sOk, hOk, nms, reF, rho, mapD, mapC, mapC1, NmD, NmC, NmC1, mapR, mapB, mapTt, NmR, NmB, NmT, MvRb, MvRn, MvRt, lk, ins, Root.get, Root.setT, List.map_cons, List.map_nil, List.nodup_cons, List.nodup_nil, List.not_mem_nil, List.mem_cons, not_false_eq_true, and_self, and_true, true_and, true_or, or_true, false_or, or_false, ↓reduceIte, Nat.reduceEqDiff, Nat.reduceLT, Nat.reduceLeDiff, reduceCtorEq, Option.isSome_some, List.forall_mem_cons, List.forall_mem_nil, implies_true, forall_const, Nat.le_refl, Nat.zero_le, false_implies, List.mem_singleton, MvB_im, MvB_nil, Mv_im, Option.some.injEq, D.c.injEq, C.im.injEq, I.int.injEq, List.getElem?_cons_zero, List.getElem?_cons_succ, List.set_cons_zero, List.set_cons_succ, List.length_cons, List.length_nil, Nat.zero_add, Option.map_some, hgk, hsk, hfin, hzl, hcs, hcl, tI_len, rowsZ_len, rowsN_len, MvR_M, MvR_C, forall_eq_or_imp, forall_eq]) <;> (try (simp -dsimp only [ne_eq, eq_self, subF, folds, wk1, subOk, sOk, hOk, nms, reF, rho, mapD, mapC, mapC1, NmD, NmC, NmC1, mapR, mapB, mapTt, NmR, NmB, NmT, MvRb, MvRn, MvRt, lk, ins, Root.get, Root.setT, List.map_cons, List.map_nil, List.nodup_cons, List.nodup_nil, List.not_mem_nil, List.mem_cons, not_false_eq_true, and_self, and_true, true_and, true_or, or_true, false_or, or_false, ↓reduceIte, Nat.reduceEqDiff, Nat.reduceLT, Nat.reduceLeDiff, reduceCtorEq, Option.isSome_some, List.forall_mem_cons, List.forall_mem_nil, implies_true, forall_const, Nat.le_refl, Nat.zero_le, false_implies, List.mem_singleton, MvB_im, MvB_nil, Mv_im, Option.some.injEq, D.c.injEq, C.im.injEq, I.int.injEq, List.getElem?_cons_zero, List.getElem?_cons_succ, List.set_cons_zero, List.set_cons_succ, List.length_cons, List.length_nil, Nat.zero_add, Option.map_some, hgk, hsk, hfin, hzl, hcs, hcl, tI_len, rowsZ_len, rowsN_len, MvR_M, MvR_C, forall_eq_or_imp, forall_eq])))
        all_goals simp [lk, MvB_im]
    · have he' := eq_false he
      have hf : mS (fS l k) = mSum := by simp only [fS, he, if_false, mS]
      have hfin : tM (msK l k) ++ [[T.im (.int .i64 5), T.im (.cpx .f32 0 0), T.im (.cpx .f32 0 0), T.im (.flt .f32 0), T.own 1 (tI (rowsZ [])), T.im (.int .i64 0), T.im (.int .i64 0), T.own 1 (tI (rowsZ [])), T.own 1 (tI (rowsN [])), T.im (.int .i64 0), T.im (.int .i64 0)]] = tM (msK l (k + 1)) := by
        rw [← msK_next, hf, ← tM_app]
        simp only [modT, mSum]
      by_cases h0 : k = 0
      · have hk0 : (0 < (k : Int)) = False := eq_false (by omega)
        try simp -dsimp (maxSteps := 1000000) only [go_sem, List.forall_mem_nil, ↓reduceIte, Nat.reduceEqDiff, Nat.reduceLT, Nat.reduceLeDiff, Nat.reduceAdd, Nat.reduceMul, reduceCtorEq, Try.f6, hK, hk0, hwr, hw6, hw12, hwm, h20, h30, r1, r2, r3, he', hgk, hsk, run_NewSum, rMod, mSum, tM_len, hlm, hby, appendH, srcRows, List.take_succ_cons, List.take_zero, List.all_cons, List.all_nil, okT, Bool.and_true, List.length_append]
        repeat' (first
          | ((with_reducible refine sl_i ?_ ?_); focus kernel_rfl)
          | ((with_reducible refine ro_i ?_ ?_); focus kernel_rfl)
          | ((with_reducible refine sl_e ?_); kernel_rfl)
          | ((with_reducible refine ro_e ?_); kernel_rfl)
          | ((first | (with_reducible refine gS_d ?_ ?_) | (with_reducible refine gS_dn ?_ ?_) | (with_reducible refine gS_i ?_ ?_)) <;> intro hg <;> (try simp -dsimp (maxSteps := 1000000) only [go_sem, List.forall_mem_nil, ↓reduceIte, Nat.reduceEqDiff, Nat.reduceLT, Nat.reduceLeDiff, Nat.reduceAdd, Nat.reduceMul, reduceCtorEq, Try.f6, hK, hk0, hwr, hw6, hw12, hwm, h20, h30, r1, r2, r3, he', hgk, hsk, run_NewSum, rMod, mSum, tM_len, hlm, hby, appendH, srcRows, List.take_succ_cons, List.take_zero, List.all_cons, List.all_nil, okT, Bool.and_true, List.length_append, *])))
        have hcs : csK (cS l) (k + 1) = csK (cS l) k := by subst h0; rfl
        refine ⟨⟨k + 1, by omega⟩, by simp only []; omega, [.fold 8 k 4, .fold 8 k 7, .fold 8 k 8], [0, 8, 2], ?_⟩
        ((simp only [ne_eq, eq_self, subF, folds, wk1, subOk, sOk, hOk, nms, reF, rho, mapD, mapC, mapC1, NmD, NmC, NmC1, mapR, mapB, mapTt, NmR, NmB, NmT, MvRb, MvRn, MvRt, lk, ins, Root.get, Root.setT, List.map_cons, List.map_nil, List.nodup_cons, List.nodup_nil, List.not_mem_nil, List.mem_cons, not_false_eq_true, and_self, and_true, true_and, true_or, or_true, false_or, or_false, ↓reduceIte, Nat.reduceEqDiff, Nat.reduceLT, Nat.reduceLeDiff, reduceCtorEq, Option.isSome_some, List.forall_mem_cons, List.forall_mem_nil, implies_true, forall_const, Nat.le_refl, Nat.zero_le, false_implies, List.mem_singleton, MvB_im, MvB_nil, Mv_im, Option.some.injEq, D.c.injEq, C.im.injEq, I.int.injEq, List.getElem?_cons_zero, List.getElem?_cons_succ, List.set_cons_zero, List.set_cons_succ, List.length_cons, List.length_nil, Nat.zero_add, Option.map_some, hgk, hsk, hfin, hcs, tI_len, rowsZ_len, rowsN_len, MvR_M, MvR_C, forall_eq_or_imp, forall_eq]) <;> (try (simp -dsimp only [ne_eq, eq_self, subF, folds, wk1, subOk, sOk, hOk, nms, reF, rho, mapD, mapC, mapC1, NmD, NmC, NmC1, mapR, mapB, mapTt, NmR, NmB, NmT, MvRb, MvRn, MvRt, lk, ins, Root.get, Root.setT, List.map_cons, List.map_nil, List.nodup_cons, List.nodup_nil, List.not_mem_nil, List.mem_cons, not_false_eq_true, and_self, and_true, true_and, true_or, or_true, false_or, or_false, ↓reduceIte, Nat.reduceEqDiff, Nat.reduceLT, Nat.reduceLeDiff, reduceCtorEq, Option.isSome_some, List.forall_mem_cons, List.forall_mem_nil, implies_true, forall_const, Nat.le_refl, Nat.zero_le, false_implies, List.mem_singleton, MvB_im, MvB_nil, Mv_im, Option.some.injEq, D.c.injEq, C.im.injEq, I.int.injEq, List.getElem?_cons_zero, List.getElem?_cons_succ, List.set_cons_zero, List.set_cons_succ, List.length_cons, List.length_nil, Nat.zero_add, Option.map_some, hgk, hsk, hfin, hcs, tI_len, rowsZ_len, rowsN_len, MvR_M, MvR_C, forall_eq_or_imp, forall_eq])))
        all_goals simp [lk, MvB_im]
      · have hk0 : (0 < (k : Int)) = True := eq_true (by omega)
        have hkz : ((k : Int) = 0) = False := eq_false (by omega)
        obtain ⟨c, hc, hcl2⟩ := at_mod hb (k + 12) k (by omega)
        have hck : (atF l (k + 12)).tmod (k : Int) = (c : Int) := hc
        have hcby : ((csK (cS l) k).length + 2) * 16 ≤ 140737488355328 := by have := csK_len (cS l) k (by omega); omega
        have hcby := eq_true hcby
        try simp -dsimp (maxSteps := 1000000) only [go_sem, List.forall_mem_nil, ↓reduceIte, Nat.reduceEqDiff, Nat.reduceLT, Nat.reduceLeDiff, Nat.reduceAdd, Nat.reduceMul, reduceCtorEq, Try.f6, hK, hk0, hwr, hw6, hw12, hwm, h20, h30, r1, r2, r3, he', hgk, hsk, run_NewSum, rMod, mSum, tM_len, hlm, hby, appendH, srcRows, List.take_succ_cons, List.take_zero, List.all_cons, List.all_nil, okT, Bool.and_true, List.length_append, hck, hkz, hcby, tI_len, rowsC_len, tIC_app]
        repeat' (first
          | ((with_reducible refine sl_i ?_ ?_); focus kernel_rfl)
          | ((with_reducible refine ro_i ?_ ?_); focus kernel_rfl)
          | ((with_reducible refine sl_e ?_); kernel_rfl)
          | ((with_reducible refine ro_e ?_); kernel_rfl)
          | ((first | (with_reducible refine gS_d ?_ ?_) | (with_reducible refine gS_dn ?_ ?_) | (with_reducible refine gS_i ?_ ?_)) <;> intro hg <;> (try simp -dsimp (maxSteps := 1000000) only [go_sem, List.forall_mem_nil, ↓reduceIte, Nat.reduceEqDiff, Nat.reduceLT, Nat.reduceLeDiff, Nat.reduceAdd, Nat.reduceMul, reduceCtorEq, Try.f6, hK, hk0, hwr, hw6, hw12, hwm, h20, h30, r1, r2, r3, he', hgk, hsk, run_NewSum, rMod, mSum, tM_len, hlm, hby, appendH, srcRows, List.take_succ_cons, List.take_zero, List.all_cons, List.all_nil, okT, Bool.and_true, List.length_append, hck, hkz, hcby, tI_len, rowsC_len, tIC_app, *])))
        have hcs : csK (cS l) k ++ [((c : Int), (k : Int)), ((k : Int) - 1, (k : Int))] = csK (cS l) (k + 1) := by
          rw [← csK_next (cS l) k (by omega)]
          simp [cS, hck]
        have hcl : (csK (cS l) k).length + 2 = (csK (cS l) (k + 1)).length := by rw [← hcs]; simp
        refine ⟨⟨k + 1, by omega⟩, by simp only []; omega, [.fold 8 k 4, .fold 8 k 7, .fold 8 k 8], [0, 8, 129], ?_⟩
        ((simp only [ne_eq, eq_self, subF, folds, wk1, subOk, sOk, hOk, nms, reF, rho, mapD, mapC, mapC1, NmD, NmC, NmC1, mapR, mapB, mapTt, NmR, NmB, NmT, MvRb, MvRn, MvRt, lk, ins, Root.get, Root.setT, List.map_cons, List.map_nil, List.nodup_cons, List.nodup_nil, List.not_mem_nil, List.mem_cons, not_false_eq_true, and_self, and_true, true_and, true_or, or_true, false_or, or_false, ↓reduceIte, Nat.reduceEqDiff, Nat.reduceLT, Nat.reduceLeDiff, reduceCtorEq, Option.isSome_some, List.forall_mem_cons, List.forall_mem_nil, implies_true, forall_const, Nat.le_refl, Nat.zero_le, false_implies, List.mem_singleton, MvB_im, MvB_nil, Mv_im, Option.some.injEq, D.c.injEq, C.im.injEq, I.int.injEq, List.getElem?_cons_zero, List.getElem?_cons_succ, List.set_cons_zero, List.set_cons_succ, List.length_cons, List.length_nil, Nat.zero_add, Option.map_some, hgk, hsk, hfin, hcs, hcl, tI_len, rowsZ_len, rowsN_len, MvR_M, MvR_C, forall_eq_or_imp, forall_eq]) <;> (try (simp -dsimp only [ne_eq, eq_self, subF, folds, wk1, subOk, sOk, hOk, nms, reF, rho, mapD, mapC, mapC1, NmD, NmC, NmC1, mapR, mapB, mapTt, NmR, NmB, NmT, MvRb, MvRn, MvRt, lk, ins, Root.get, Root.setT, List.map_cons, List.map_nil, List.nodup_cons, List.nodup_nil, List.not_mem_nil, List.mem_cons, not_false_eq_true, and_self, and_true, true_and, true_or, or_true, false_or, or_false, ↓reduceIte, Nat.reduceEqDiff, Nat.reduceLT, Nat.reduceLeDiff, reduceCtorEq, Option.isSome_some, List.forall_mem_cons, List.forall_mem_nil, implies_true, forall_const, Nat.le_refl, Nat.zero_le, false_implies, List.mem_singleton, MvB_im, MvB_nil, Mv_im, Option.some.injEq, D.c.injEq, C.im.injEq, I.int.injEq, List.getElem?_cons_zero, List.getElem?_cons_succ, List.set_cons_zero, List.set_cons_succ, List.length_cons, List.length_nil, Nat.zero_add, Option.map_some, hgk, hsk, hfin, hcs, hcl, tI_len, rowsZ_len, rowsN_len, MvR_M, MvR_C, forall_eq_or_imp, forall_eq])))
        all_goals simp [lk, MvB_im]
  have hK : ((k : Int) < 6) = False := eq_false (by omega)
  obtain rfl : k = 6 := by omega
  have rf3 := run_fresh hlen hb (s := 3) (by decide) (by decide)
  have rf5 := run_fresh hlen hb (s := 5) (by decide) (by decide)
  have hlm := msK_len l 6
  have hlc : (csK (cS l) 6).length = 10 := rfl
  have i24 : Int.toNat 24 = 24 := rfl
  try simp -dsimp (maxSteps := 1000000) only [go_sem, List.forall_mem_nil, ↓reduceIte, Nat.reduceEqDiff, Nat.reduceLT, Nat.reduceLeDiff, Nat.reduceAdd, Nat.reduceMul, reduceCtorEq, Try.f6, hK, rf3, sc_fresh, oFresh, ne_fresh]
  repeat' (first
    | ((with_reducible refine sl_i ?_ ?_); focus kernel_rfl)
    | ((with_reducible refine ro_i ?_ ?_); focus kernel_rfl)
    | ((with_reducible refine sl_e ?_); kernel_rfl)
    | ((with_reducible refine ro_e ?_); kernel_rfl)
    | ((first | (with_reducible refine gS_d ?_ ?_) | (with_reducible refine gS_dn ?_ ?_) | (with_reducible refine gS_i ?_ ?_)) <;> intro hg <;> (try simp -dsimp (maxSteps := 1000000) only [go_sem, List.forall_mem_nil, ↓reduceIte, Nat.reduceEqDiff, Nat.reduceLT, Nat.reduceLeDiff, Nat.reduceAdd, Nat.reduceMul, reduceCtorEq, Try.f6, hK, rf3, sc_fresh, oFresh, ne_fresh, *])))
  rintro ⟨f1, hf1, bf1⟩
  have rw1 : ct_MakeWhole.run [.c (.im (.sl 1 (rowsB f1))), .c (.im (.int .i64 20))] [] = some (oWhole 20) := run_MakeWhole (by omega) bf1 (n := 20) (by omega)
  have tk1 : List.take f1.length (tI (rowsB f1)) = tI (rowsB f1) := List.take_of_length_le (by simp [tI_len, rowsB_len])
  try simp -dsimp (maxSteps := 1000000) only [go_sem, List.forall_mem_nil, ↓reduceIte, Nat.reduceEqDiff, Nat.reduceLT, Nat.reduceLeDiff, Nat.reduceAdd, Nat.reduceMul, reduceCtorEq, Try.f6, rNew, rowsB_len, tk1, tI_toI, tI_len, rw1, sc_MakeWhole, oWhole, ne_whole]
  repeat' (first
    | ((with_reducible refine sl_i ?_ ?_); focus kernel_rfl)
    | ((with_reducible refine ro_i ?_ ?_); focus kernel_rfl)
    | ((with_reducible refine sl_e ?_); kernel_rfl)
    | ((with_reducible refine ro_e ?_); kernel_rfl)
    | ((first | (with_reducible refine gS_d ?_ ?_) | (with_reducible refine gS_dn ?_ ?_) | (with_reducible refine gS_i ?_ ?_)) <;> intro hg <;> (try simp -dsimp (maxSteps := 1000000) only [go_sem, List.forall_mem_nil, ↓reduceIte, Nat.reduceEqDiff, Nat.reduceLT, Nat.reduceLeDiff, Nat.reduceAdd, Nat.reduceMul, reduceCtorEq, Try.f6, rNew, rowsB_len, tk1, tI_toI, tI_len, rw1, sc_MakeWhole, oWhole, ne_whole, *])))
  rintro ⟨X, lX, hX⟩
  try simp -dsimp (maxSteps := 1000000) only [go_sem, List.forall_mem_nil, ↓reduceIte, Nat.reduceEqDiff, Nat.reduceLT, Nat.reduceLeDiff, Nat.reduceAdd, Nat.reduceMul, reduceCtorEq, Try.f6, rNew, rf5, sc_fresh, oFresh, ne_fresh, wL_len, rowsZ_len]
  repeat' (first
    | ((with_reducible refine sl_i ?_ ?_); focus kernel_rfl)
    | ((with_reducible refine ro_i ?_ ?_); focus kernel_rfl)
    | ((with_reducible refine sl_e ?_); kernel_rfl)
    | ((with_reducible refine ro_e ?_); kernel_rfl)
    | ((first | (with_reducible refine gS_d ?_ ?_) | (with_reducible refine gS_dn ?_ ?_) | (with_reducible refine gS_i ?_ ?_)) <;> intro hg <;> (try simp -dsimp (maxSteps := 1000000) only [go_sem, List.forall_mem_nil, ↓reduceIte, Nat.reduceEqDiff, Nat.reduceLT, Nat.reduceLeDiff, Nat.reduceAdd, Nat.reduceMul, reduceCtorEq, Try.f6, rNew, rf5, sc_fresh, oFresh, ne_fresh, wL_len, rowsZ_len, *])))
  rintro ⟨f2, hf2, bf2⟩
  have rw2 : ct_MakeWhole.run [.c (.im (.sl 1 (rowsB f2))), .c (.im (.int .i64 20))] [] = some (oWhole 20) := run_MakeWhole (by omega) bf2 (n := 20) (by omega)
  have tk2 : List.take f2.length (tI (rowsB f2)) = tI (rowsB f2) := List.take_of_length_le (by simp [tI_len, rowsB_len])
  try simp -dsimp (maxSteps := 1000000) only [go_sem, List.forall_mem_nil, ↓reduceIte, Nat.reduceEqDiff, Nat.reduceLT, Nat.reduceLeDiff, Nat.reduceAdd, Nat.reduceMul, reduceCtorEq, Try.f6, rNew, rowsB_len, tk2, tI_toI, tI_len, rw2, sc_MakeWhole, oWhole, ne_whole]
  repeat' (first
    | ((with_reducible refine sl_i ?_ ?_); focus kernel_rfl)
    | ((with_reducible refine ro_i ?_ ?_); focus kernel_rfl)
    | ((with_reducible refine sl_e ?_); kernel_rfl)
    | ((with_reducible refine ro_e ?_); kernel_rfl)
    | ((first | (with_reducible refine gS_d ?_ ?_) | (with_reducible refine gS_dn ?_ ?_) | (with_reducible refine gS_i ?_ ?_)) <;> intro hg <;> (try simp -dsimp (maxSteps := 1000000) only [go_sem, List.forall_mem_nil, ↓reduceIte, Nat.reduceEqDiff, Nat.reduceLT, Nat.reduceLeDiff, Nat.reduceAdd, Nat.reduceMul, reduceCtorEq, Try.f6, rNew, rowsB_len, tk2, tI_toI, tI_len, rw2, sc_MakeWhole, oWhole, ne_whole, *])))
  rintro ⟨Y, lY, hY⟩
  try simp -dsimp (maxSteps := 1000000) only [go_sem, List.forall_mem_nil, ↓reduceIte, Nat.reduceEqDiff, Nat.reduceLT, Nat.reduceLeDiff, Nat.reduceAdd, Nat.reduceMul, reduceCtorEq, Try.f6, rNew, wL_len, rowsZ_len]
  repeat' (first
    | ((with_reducible refine sl_i ?_ ?_); focus kernel_rfl)
    | ((with_reducible refine ro_i ?_ ?_); focus kernel_rfl)
    | ((with_reducible refine sl_e ?_); kernel_rfl)
    | ((with_reducible refine ro_e ?_); kernel_rfl)
    | ((first | (with_reducible refine gS_d ?_ ?_) | (with_reducible refine gS_dn ?_ ?_) | (with_reducible refine gS_i ?_ ?_)) <;> intro hg <;> (try simp -dsimp (maxSteps := 1000000) only [go_sem, List.forall_mem_nil, ↓reduceIte, Nat.reduceEqDiff, Nat.reduceLT, Nat.reduceLeDiff, Nat.reduceAdd, Nat.reduceMul, reduceCtorEq, Try.f6, rNew, wL_len, rowsZ_len, *])))
  refine loop_i (ι := { i : Nat // i ≤ 20 }) (fun i => ⟨[(3, some (.c (.ptr 0 0 0 0))), (6, some (.c (.view 4 1 0 X.length))), (7, some (.c (.view 6 1 0 Y.length))), (8, some (.c (.view 7 1 0 i.1))), (9, some (.c (.view 8 1 0 i.1))), (10, some (.c (.im (.int .i64 (i.1 : Int)))))],
    [(0, some (.box [.t (.lent 1 11 6), .t (.lent 2 2 10)])), (1, some (.arr 11 (tM (msK l 6)))), (2, some (.arr 2 (tI (rowsC (csK (cS l) 6))))), (4, some (.arr 1 (tI (rowsZ (wL X))))), (6, some (.arr 1 (tI (rowsZ (wL Y))))), (7, some (.arr 1 (tI (rowsZ (wL (bo X Y i.1)))))), (8, some (.arr 1 (tI (rowsZ (wL (tw X i.1))))))], 9⟩)
    (fun i => 20 - i.1) ⟨0, by simp⟩ ⟨[], [0, 1, 2, 4, 6, 7, 8], by ((simp only [ne_eq, eq_self, subF, folds, wk1, subOk, sOk, hOk, nms, reF, rho, mapD, mapC, mapC1, NmD, NmC, NmC1, mapR, mapB, mapTt, NmR, NmB, NmT, MvRb, MvRn, MvRt, lk, ins, Root.get, Root.setT, List.map_cons, List.map_nil, List.nodup_cons, List.nodup_nil, List.not_mem_nil, List.mem_cons, not_false_eq_true, and_self, and_true, true_and, true_or, or_true, false_or, or_false, ↓reduceIte, Nat.reduceEqDiff, Nat.reduceLT, Nat.reduceLeDiff, reduceCtorEq, Option.isSome_some, List.forall_mem_cons, List.forall_mem_nil, implies_true, forall_const, Nat.le_refl, Nat.zero_le, false_implies, List.mem_singleton, MvB_im, MvB_nil, Mv_im, Option.some.injEq, D.c.injEq, C.im.injEq, I.int.injEq, List.getElem?_cons_zero, List.getElem?_cons_succ, List.set_cons_zero, List.set_cons_succ, List.length_cons, List.length_nil, Nat.zero_add, hlc, MvR_M, MvR_C, MvR_Z]) <;> (try (simp -dsimp only [ne_eq, eq_self, subF, folds, wk1, subOk, sOk, hOk, nms, reF, rho, mapD, mapC, mapC1, NmD, NmC, NmC1, mapR, mapB, mapTt, NmR, NmB, NmT, MvRb, MvRn, MvRt, lk, ins, Root.get, Root.setT, List.map_cons, List.map_nil, List.nodup_cons, List.nodup_nil, List.not_mem_nil, List.mem_cons, not_false_eq_true, and_self, and_true, true_and, true_or, or_true, false_or, or_false, ↓reduceIte, Nat.reduceEqDiff, Nat.reduceLT, Nat.reduceLeDiff, reduceCtorEq, Option.isSome_some, List.forall_mem_cons, List.forall_mem_nil, implies_true, forall_const, Nat.le_refl, Nat.zero_le, false_implies, List.mem_singleton, MvB_im, MvB_nil, Mv_im, Option.some.injEq, D.c.injEq, C.im.injEq, I.int.injEq, List.getElem?_cons_zero, List.getElem?_cons_succ, List.set_cons_zero, List.set_cons_succ, List.length_cons, List.length_nil, Nat.zero_add, hlc, MvR_M, MvR_C, MvR_Z]))) <;> simp [lk, MvB_im, bo, tw, wL, rowsZ, tI]⟩ (fun ⟨i, hi⟩ => ?_)
  simp only
  by_cases hi20 : i < 20
  · have hJ : ((i : Int) < 20) = True := eq_true (by omega)
    have hwr : IntKind.i64.wrap ((i : Int) + 1) = (i : Int) + 1 := wrap_id (by omega) (by omega)
    have h0 : (0 ≤ (i : Int)) = True := by simp
    have hby : ((i + 1) * 8 ≤ 140737488355328) = True := eq_true (by omega)
    obtain ⟨x1, x2, y1, y2, w1, w2, t1, t2, rx, zx, ry, zy, s1, s2, d1, d2, hap1, hap2⟩ := caseXY hX hY i
    by_cases hxl : i < X.length
    · by_cases hyl : i < Y.length
      · have hx : ((i : Int) < (X.length : Int)) = True := eq_true (by omega)
        have hrx := rx hxl
        have hy : ((i : Int) < (Y.length : Int)) = True := eq_true (by omega)
        have hry := ry hyl
        clear rx ry zx zy
        try simp -dsimp (maxSteps := 1000000) only [go_sem, List.forall_mem_nil, ↓reduceIte, Nat.reduceEqDiff, Nat.reduceLT, Nat.reduceLeDiff, Nat.reduceAdd, Nat.reduceMul, reduceCtorEq, Try.f6, hJ, hwr, hx, hy, h0, hrx, hry, s1, s2, d1, d2, hby, Int.toNat_natCast, tIZ_app, hap1, hap2, bo_len, tw_len, wL_len, tI_len, rowsZ_len, appendH, srcRows, List.take_succ_cons, List.take_zero, List.all_cons, List.all_nil, okT, Bool.and_true, List.length_append, List.length_cons, List.length_nil]
        repeat' (first
          | ((with_reducible refine sl_i ?_ ?_); focus kernel_rfl)
          | ((with_reducible refine ro_i ?_ ?_); focus kernel_rfl)
          | ((with_reducible refine sl_e ?_); kernel_rfl)
          | ((with_reducible refine ro_e ?_); kernel_rfl)
          | ((first | (with_reducible refine gS_d ?_ ?_) | (with_reducible refine gS_dn ?_ ?_) | (with_reducible refine gS_i ?_ ?_)) <;> intro hg <;> (try simp -dsimp (maxSteps := 1000000) only [go_sem, List.forall_mem_nil, ↓reduceIte, Nat.reduceEqDiff, Nat.reduceLT, Nat.reduceLeDiff, Nat.reduceAdd, Nat.reduceMul, reduceCtorEq, Try.f6, hJ, hwr, hx, hy, h0, hrx, hry, s1, s2, d1, d2, hby, Int.toNat_natCast, tIZ_app, hap1, hap2, bo_len, tw_len, wL_len, tI_len, rowsZ_len, appendH, srcRows, List.take_succ_cons, List.take_zero, List.all_cons, List.all_nil, okT, Bool.and_true, List.length_append, List.length_cons, List.length_nil, *])))
        exact ⟨⟨i + 1, by omega⟩, by simp only []; omega, [], [0, 1, 2, 4, 6, 10, 12], by ((simp only [ne_eq, eq_self, subF, folds, wk1, subOk, sOk, hOk, nms, reF, rho, mapD, mapC, mapC1, NmD, NmC, NmC1, mapR, mapB, mapTt, NmR, NmB, NmT, MvRb, MvRn, MvRt, lk, ins, Root.get, Root.setT, List.map_cons, List.map_nil, List.nodup_cons, List.nodup_nil, List.not_mem_nil, List.mem_cons, not_false_eq_true, and_self, and_true, true_and, true_or, or_true, false_or, or_false, ↓reduceIte, Nat.reduceEqDiff, Nat.reduceLT, Nat.reduceLeDiff, reduceCtorEq, Option.isSome_some, List.forall_mem_cons, List.forall_mem_nil, implies_true, forall_const, Nat.le_refl, Nat.zero_le, false_implies, List.mem_singleton, MvB_im, MvB_nil, Mv_im, Option.some.injEq, D.c.injEq, C.im.injEq, I.int.injEq, List.getElem?_cons_zero, List.getElem?_cons_succ, List.set_cons_zero, List.set_cons_succ, List.length_cons, List.length_nil, Nat.zero_add, MvR_M, MvR_C, MvR_Z]) <;> (try (simp -dsimp only [ne_eq, eq_self, subF, folds, wk1, subOk, sOk, hOk, nms, reF, rho, mapD, mapC, mapC1, NmD, NmC, NmC1, mapR, mapB, mapTt, NmR, NmB, NmT, MvRb, MvRn, MvRt, lk, ins, Root.get, Root.setT, List.map_cons, List.map_nil, List.nodup_cons, List.nodup_nil, List.not_mem_nil, List.mem_cons, not_false_eq_true, and_self, and_true, true_and, true_or, or_true, false_or, or_false, ↓reduceIte, Nat.reduceEqDiff, Nat.reduceLT, Nat.reduceLeDiff, reduceCtorEq, Option.isSome_some, List.forall_mem_cons, List.forall_mem_nil, implies_true, forall_const, Nat.le_refl, Nat.zero_le, false_implies, List.mem_singleton, MvB_im, MvB_nil, Mv_im, Option.some.injEq, D.c.injEq, C.im.injEq, I.int.injEq, List.getElem?_cons_zero, List.getElem?_cons_succ, List.set_cons_zero, List.set_cons_succ, List.length_cons, List.length_nil, Nat.zero_add, MvR_M, MvR_C, MvR_Z]))) <;> simp [lk, MvB_im]⟩
      · have hx : ((i : Int) < (X.length : Int)) = True := eq_true (by omega)
        have hrx := rx hxl
        have hy : ((i : Int) < (Y.length : Int)) = False := eq_false (by omega)
        obtain ⟨rfl, rfl⟩ := zy hyl
        clear rx ry zx zy
        try simp -dsimp (maxSteps := 1000000) only [go_sem, List.forall_mem_nil, ↓reduceIte, Nat.reduceEqDiff, Nat.reduceLT, Nat.reduceLeDiff, Nat.reduceAdd, Nat.reduceMul, reduceCtorEq, Try.f6, hJ, hwr, hx, hy, h0, hrx, s1, s2, d1, d2, hby, Int.toNat_natCast, tIZ_app, hap1, hap2, bo_len, tw_len, wL_len, tI_len, rowsZ_len, appendH, srcRows, List.take_succ_cons, List.take_zero, List.all_cons, List.all_nil, okT, Bool.and_true, List.length_append, List.length_cons, List.length_nil]
        repeat' (first
          | ((with_reducible refine sl_i ?_ ?_); focus kernel_rfl)
          | ((with_reducible refine ro_i ?_ ?_); focus kernel_rfl)
          | ((with_reducible refine sl_e ?_); kernel_rfl)
          | ((with_reducible refine ro_e ?_); kernel_rfl)
          | ((first | (with_reducible refine gS_d ?_ ?_) | (with_reducible refine gS_dn ?_ ?_) | (with_reducible refine gS_i ?_ ?_)) <;> intro hg <;> (try simp -dsimp (maxSteps := 1000000) only [go_sem, List.forall_mem_nil, ↓reduceIte, Nat.reduceEqDiff, Nat.reduceLT, Nat.reduceLeDiff, Nat.reduceAdd, Nat.reduceMul, reduceCtorEq, Try.f6, hJ, hwr, hx, hy, h0, hrx, s1, s2, d1, d2, hby, Int.toNat_natCast, tIZ_app, hap1, hap2, bo_len, tw_len, wL_len, tI_len, rowsZ_len, appendH, srcRows, List.take_succ_cons, List.take_zero, List.all_cons, List.all_nil, okT, Bool.and_true, List.length_append, List.length_cons, List.length_nil, *])))
        exact ⟨⟨i + 1, by omega⟩, by simp only []; omega, [], [0, 1, 2, 4, 6, 10, 12], by ((simp only [ne_eq, eq_self, subF, folds, wk1, subOk, sOk, hOk, nms, reF, rho, mapD, mapC, mapC1, NmD, NmC, NmC1, mapR, mapB, mapTt, NmR, NmB, NmT, MvRb, MvRn, MvRt, lk, ins, Root.get, Root.setT, List.map_cons, List.map_nil, List.nodup_cons, List.nodup_nil, List.not_mem_nil, List.mem_cons, not_false_eq_true, and_self, and_true, true_and, true_or, or_true, false_or, or_false, ↓reduceIte, Nat.reduceEqDiff, Nat.reduceLT, Nat.reduceLeDiff, reduceCtorEq, Option.isSome_some, List.forall_mem_cons, List.forall_mem_nil, implies_true, forall_const, Nat.le_refl, Nat.zero_le, false_implies, List.mem_singleton, MvB_im, MvB_nil, Mv_im, Option.some.injEq, D.c.injEq, C.im.injEq, I.int.injEq, List.getElem?_cons_zero, List.getElem?_cons_succ, List.set_cons_zero, List.set_cons_succ, List.length_cons, List.length_nil, Nat.zero_add, MvR_M, MvR_C, MvR_Z]) <;> (try (simp -dsimp only [ne_eq, eq_self, subF, folds, wk1, subOk, sOk, hOk, nms, reF, rho, mapD, mapC, mapC1, NmD, NmC, NmC1, mapR, mapB, mapTt, NmR, NmB, NmT, MvRb, MvRn, MvRt, lk, ins, Root.get, Root.setT, List.map_cons, List.map_nil, List.nodup_cons, List.nodup_nil, List.not_mem_nil, List.mem_cons, not_false_eq_true, and_self, and_true, true_and, true_or, or_true, false_or, or_false, ↓reduceIte, Nat.reduceEqDiff, Nat.reduceLT, Nat.reduceLeDiff, reduceCtorEq, Option.isSome_some, List.forall_mem_cons, List.forall_mem_nil, implies_true, forall_const, Nat.le_refl, Nat.zero_le, false_implies, List.mem_singleton, MvB_im, MvB_nil, Mv_im, Option.some.injEq, D.c.injEq, C.im.injEq, I.int.injEq, List.getElem?_cons_zero, List.getElem?_cons_succ, List.set_cons_zero, List.set_cons_succ, List.length_cons, List.length_nil, Nat.zero_add, MvR_M, MvR_C, MvR_Z]))) <;> simp [lk, MvB_im]⟩
    · by_cases hyl : i < Y.length
      · have hx : ((i : Int) < (X.length : Int)) = False := eq_false (by omega)
        obtain ⟨rfl, rfl⟩ := zx hxl
        obtain rfl : t1 = t2 := d1.symm.trans d2
        have hy : ((i : Int) < (Y.length : Int)) = True := eq_true (by omega)
        have hry := ry hyl
        clear rx ry zx zy
        try simp -dsimp (maxSteps := 1000000) only [go_sem, List.forall_mem_nil, ↓reduceIte, Nat.reduceEqDiff, Nat.reduceLT, Nat.reduceLeDiff, Nat.reduceAdd, Nat.reduceMul, reduceCtorEq, Try.f6, hJ, hwr, hx, hy, h0, hry, s1, s2, d1, d2, hby, Int.toNat_natCast, tIZ_app, hap1, hap2, bo_len, tw_len, wL_len, tI_len, rowsZ_len, appendH, srcRows, List.take_succ_cons, List.take_zero, List.all_cons, List.all_nil, okT, Bool.and_true, List.length_append, List.length_cons, List.length_nil]
        repeat' (first
          | ((with_reducible refine sl_i ?_ ?_); focus kernel_rfl)
          | ((with_reducible refine ro_i ?_ ?_); focus kernel_rfl)
          | ((with_reducible refine sl_e ?_); kernel_rfl)
          | ((with_reducible refine ro_e ?_); kernel_rfl)
          | ((first | (with_reducible refine gS_d ?_ ?_) | (with_reducible refine gS_dn ?_ ?_) | (with_reducible refine gS_i ?_ ?_)) <;> intro hg <;> (try simp -dsimp (maxSteps := 1000000) only [go_sem, List.forall_mem_nil, ↓reduceIte, Nat.reduceEqDiff, Nat.reduceLT, Nat.reduceLeDiff, Nat.reduceAdd, Nat.reduceMul, reduceCtorEq, Try.f6, hJ, hwr, hx, hy, h0, hry, s1, s2, d1, d2, hby, Int.toNat_natCast, tIZ_app, hap1, hap2, bo_len, tw_len, wL_len, tI_len, rowsZ_len, appendH, srcRows, List.take_succ_cons, List.take_zero, List.all_cons, List.all_nil, okT, Bool.and_true, List.length_append, List.length_cons, List.length_nil, *])))
        exact ⟨⟨i + 1, by omega⟩, by simp only []; omega, [], [0, 1, 2, 4, 6, 10, 12], by ((simp only [ne_eq, eq_self, subF, folds, wk1, subOk, sOk, hOk, nms, reF, rho, mapD, mapC, mapC1, NmD, NmC, NmC1, mapR, mapB, mapTt, NmR, NmB, NmT, MvRb, MvRn, MvRt, lk, ins, Root.get, Root.setT, List.map_cons, List.map_nil, List.nodup_cons, List.nodup_nil, List.not_mem_nil, List.mem_cons, not_false_eq_true, and_self, and_true, true_and, true_or, or_true, false_or, or_false, ↓reduceIte, Nat.reduceEqDiff, Nat.reduceLT, Nat.reduceLeDiff, reduceCtorEq, Option.isSome_some, List.forall_mem_cons, List.forall_mem_nil, implies_true, forall_const, Nat.le_refl, Nat.zero_le, false_implies, List.mem_singleton, MvB_im, MvB_nil, Mv_im, Option.some.injEq, D.c.injEq, C.im.injEq, I.int.injEq, List.getElem?_cons_zero, List.getElem?_cons_succ, List.set_cons_zero, List.set_cons_succ, List.length_cons, List.length_nil, Nat.zero_add, MvR_M, MvR_C, MvR_Z]) <;> (try (simp -dsimp only [ne_eq, eq_self, subF, folds, wk1, subOk, sOk, hOk, nms, reF, rho, mapD, mapC, mapC1, NmD, NmC, NmC1, mapR, mapB, mapTt, NmR, NmB, NmT, MvRb, MvRn, MvRt, lk, ins, Root.get, Root.setT, List.map_cons, List.map_nil, List.nodup_cons, List.nodup_nil, List.not_mem_nil, List.mem_cons, not_false_eq_true, and_self, and_true, true_and, true_or, or_true, false_or, or_false, ↓reduceIte, Nat.reduceEqDiff, Nat.reduceLT, Nat.reduceLeDiff, reduceCtorEq, Option.isSome_some, List.forall_mem_cons, List.forall_mem_nil, implies_true, forall_const, Nat.le_refl, Nat.zero_le, false_implies, List.mem_singleton, MvB_im, MvB_nil, Mv_im, Option.some.injEq, D.c.injEq, C.im.injEq, I.int.injEq, List.getElem?_cons_zero, List.getElem?_cons_succ, List.set_cons_zero, List.set_cons_succ, List.length_cons, List.length_nil, Nat.zero_add, MvR_M, MvR_C, MvR_Z]))) <;> simp [lk, MvB_im]⟩
      · have hx : ((i : Int) < (X.length : Int)) = False := eq_false (by omega)
        obtain ⟨rfl, rfl⟩ := zx hxl
        obtain rfl : t1 = t2 := d1.symm.trans d2
        have hy : ((i : Int) < (Y.length : Int)) = False := eq_false (by omega)
        obtain ⟨rfl, rfl⟩ := zy hyl
        obtain rfl : w1 = w2 := s1.symm.trans s2
        clear rx ry zx zy
        try simp -dsimp (maxSteps := 1000000) only [go_sem, List.forall_mem_nil, ↓reduceIte, Nat.reduceEqDiff, Nat.reduceLT, Nat.reduceLeDiff, Nat.reduceAdd, Nat.reduceMul, reduceCtorEq, Try.f6, hJ, hwr, hx, hy, h0, s1, s2, d1, d2, hby, Int.toNat_natCast, tIZ_app, hap1, hap2, bo_len, tw_len, wL_len, tI_len, rowsZ_len, appendH, srcRows, List.take_succ_cons, List.take_zero, List.all_cons, List.all_nil, okT, Bool.and_true, List.length_append, List.length_cons, List.length_nil]
        repeat' (first
          | ((with_reducible refine sl_i ?_ ?_); focus kernel_rfl)
          | ((with_reducible refine ro_i ?_ ?_); focus kernel_rfl)
          | ((with_reducible refine sl_e ?_); kernel_rfl)
          | ((with_reducible refine ro_e ?_); kernel_rfl)
          | ((first | (with_reducible refine gS_d ?_ ?_) | (with_reducible refine gS_dn ?_ ?_) | (with_reducible refine gS_i ?_ ?_)) <;> intro hg <;> (try simp -dsimp (maxSteps := 1000000) only [go_sem, List.forall_mem_nil, ↓reduceIte, Nat.reduceEqDiff, Nat.reduceLT, Nat.reduceLeDiff, Nat.reduceAdd, Nat.reduceMul, reduceCtorEq, Try.f6, hJ, hwr, hx, hy, h0, s1, s2, d1, d2, hby, Int.toNat_natCast, tIZ_app, hap1, hap2, bo_len, tw_len, wL_len, tI_len, rowsZ_len, appendH, srcRows, List.take_succ_cons, List.take_zero, List.all_cons, List.all_nil, okT, Bool.and_true, List.length_append, List.length_cons, List.length_nil, *])))
        exact ⟨⟨i + 1, by omega⟩, by simp only []; omega, [], [0, 1, 2, 4, 6, 10, 12], by ((simp only [ne_eq, eq_self, subF, folds, wk1, subOk, sOk, hOk, nms, reF, rho, mapD, mapC, mapC1, NmD, NmC, NmC1, mapR, mapB, mapTt, NmR, NmB, NmT, MvRb, MvRn, MvRt, lk, ins, Root.get, Root.setT, List.map_cons, List.map_nil, List.nodup_cons, List.nodup_nil, List.not_mem_nil, List.mem_cons, not_false_eq_true, and_self, and_true, true_and, true_or, or_true, false_or, or_false, ↓reduceIte, Nat.reduceEqDiff, Nat.reduceLT, Nat.reduceLeDiff, reduceCtorEq, Option.isSome_some, List.forall_mem_cons, List.forall_mem_nil, implies_true, forall_const, Nat.le_refl, Nat.zero_le, false_implies, List.mem_singleton, MvB_im, MvB_nil, Mv_im, Option.some.injEq, D.c.injEq, C.im.injEq, I.int.injEq, List.getElem?_cons_zero, List.getElem?_cons_succ, List.set_cons_zero, List.set_cons_succ, List.length_cons, List.length_nil, Nat.zero_add, MvR_M, MvR_C, MvR_Z]) <;> (try (simp -dsimp only [ne_eq, eq_self, subF, folds, wk1, subOk, sOk, hOk, nms, reF, rho, mapD, mapC, mapC1, NmD, NmC, NmC1, mapR, mapB, mapTt, NmR, NmB, NmT, MvRb, MvRn, MvRt, lk, ins, Root.get, Root.setT, List.map_cons, List.map_nil, List.nodup_cons, List.nodup_nil, List.not_mem_nil, List.mem_cons, not_false_eq_true, and_self, and_true, true_and, true_or, or_true, false_or, or_false, ↓reduceIte, Nat.reduceEqDiff, Nat.reduceLT, Nat.reduceLeDiff, reduceCtorEq, Option.isSome_some, List.forall_mem_cons, List.forall_mem_nil, implies_true, forall_const, Nat.le_refl, Nat.zero_le, false_implies, List.mem_singleton, MvB_im, MvB_nil, Mv_im, Option.some.injEq, D.c.injEq, C.im.injEq, I.int.injEq, List.getElem?_cons_zero, List.getElem?_cons_succ, List.set_cons_zero, List.set_cons_succ, List.length_cons, List.length_nil, Nat.zero_add, MvR_M, MvR_C, MvR_Z]))) <;> simp [lk, MvB_im]⟩
  have hJ : ((i : Int) < 20) = False := eq_false (by omega)
  obtain rfl : i = 20 := by omega
  have hbl := bo_len X Y 20
  have htl := tw_len X 20
  have hin := inputs_4 hX hY lX lY
  have hokm : ∀ m ∈ msK l 6, OkM m := fun m hm => (okM_msK hb 6 m hm).1
  have hcan := canS hb
  have g1 := run_RunRack (ms := msK l 6) (cs := csK (cS l) 6) (xs := wL X) (by omega) (by omega) (by rw [wL_len]; omega) hokm 0 5 24
  have g2 := run_RunRack (ms := msK l 6) (cs := csK (cS l) 6) (xs := wL Y) (by omega) (by omega) (by rw [wL_len]; omega) hokm 0 5 24
  have g3 := run_RunRack (ms := msK l 6) (cs := csK (cS l) 6) (xs := wL (bo X Y 20)) (by omega) (by omega) (by rw [wL_len, hbl]; omega) hokm 0 5 24
  have g4 := run_RunRack (ms := msK l 6) (cs := csK (cS l) 6) (xs := wL (tw X 20)) (by omega) (by omega) (by rw [wL_len, htl]; omega) hokm 0 5 24
  have p1 := wL_len X
  have p2 := wL_len Y
  have p3 : (wL (bo X Y 20)).length = 20 := by rw [wL_len, hbl]
  have p4 : (wL (tw X 20)).length = 20 := by rw [wL_len, htl]
  have k1 : (wL X).take X.length = wL X := List.take_of_length_le (by omega)
  have k2 : (wL Y).take Y.length = wL Y := List.take_of_length_le (by omega)
  have k3 : (wL (bo X Y 20)).take 20 = wL (bo X Y 20) := List.take_of_length_le (by omega)
  have k4 : (wL (tw X 20)).take 20 = wL (tw X 20) := List.take_of_length_le (by omega)
  have km : List.take 6 (tM (msK l 6)) = tM (msK l 6) := List.take_of_length_le (by rw [tM_len, hlm]; omega)
  have kc : List.take 10 (tI (rowsC (csK (cS l) 6))) = tI (rowsC (csK (cS l) 6)) := List.take_of_length_le (by rw [tI_len, rowsC_len, hlc]; omega)
  have hR := R4_msK hb
  have hcs := cS_lt hb
  have htest : ∀ O1 O2 O3 O4, ∃ u v w t : List Pt, (runS O1 (csK (cS l) 6) 0 5 (wL X) (msK l 6) 24).2 = u ∧ (runS O2 (csK (cS l) 6) 0 5 (wL Y) (msK l 6) 24).2 = v ∧ (runS O3 (csK (cS l) 6) 0 5 (wL (bo X Y 20)) (msK l 6) 24).2 = w ∧ (runS O4 (csK (cS l) 6) 0 5 (wL (tw X 20)) (msK l 6) 24).2 = t ∧
      u.length = 24 ∧ v.length = 24 ∧ w.length = 24 ∧ t.length = 24 ∧ ∀ i, i < 24 → W4 96 (u.getD i (0, 0)) (v.getD i (0, 0)) (w.getD i (0, 0)) (t.getD i (0, 0)) := fun O1 O2 O3 O4 => by
    obtain ⟨_, a1, a2, a3, a4, a5⟩ := run_4 (O1 := O1) (O2 := O2) (O3 := O3) (O4' := O4) hcs hin hR 24
    exact ⟨_, _, _, _, rfl, rfl, rfl, rfl, a1, a2, a3, a4, a5⟩
  generalize wL (bo X Y 20) = B at *
  generalize wL (tw X 20) = T at *
  generalize wL X = X' at *
  generalize wL Y = Y' at *
  generalize csK (cS l) 6 = cs at *
  generalize msK l 6 = ms at *
  try simp -dsimp (maxSteps := 1000000) only [go_sem, List.forall_mem_nil, ↓reduceIte, Nat.reduceEqDiff, Nat.reduceLT, Nat.reduceLeDiff, Nat.reduceAdd, Nat.reduceMul, reduceCtorEq, Try.f6, hJ, g1, sc_RunRack, hlm, hlc, p1, k1, km, kc, takeZ, tM_toI, tI_toI, tM_len, tI_len, rowsC_len, rowsZ_len, oRun, ne_run, i24]
  repeat' (first
    | ((with_reducible refine sl_i ?_ ?_); focus kernel_rfl)
    | ((with_reducible refine ro_i ?_ ?_); focus kernel_rfl)
    | ((with_reducible refine sl_e ?_); kernel_rfl)
    | ((with_reducible refine ro_e ?_); kernel_rfl)
    | ((first | (with_reducible refine gS_d ?_ ?_) | (with_reducible refine gS_dn ?_ ?_) | (with_reducible refine gS_i ?_ ?_)) <;> intro hg <;> (try simp -dsimp (maxSteps := 1000000) only [go_sem, List.forall_mem_nil, ↓reduceIte, Nat.reduceEqDiff, Nat.reduceLT, Nat.reduceLeDiff, Nat.reduceAdd, Nat.reduceMul, reduceCtorEq, Try.f6, hJ, g1, sc_RunRack, hlm, hlc, p1, k1, km, kc, takeZ, tM_toI, tI_toI, tM_len, tI_len, rowsC_len, rowsZ_len, oRun, ne_run, i24, *])))
  intro O1
  try simp -dsimp (maxSteps := 1000000) only [go_sem, List.forall_mem_nil, ↓reduceIte, Nat.reduceEqDiff, Nat.reduceLT, Nat.reduceLeDiff, Nat.reduceAdd, Nat.reduceMul, reduceCtorEq, Try.f6, g2, p2, k2, sc_RunRack, hlm, hlc, hcan, rRun, km, kc, takeZ, tM_toI, tI_toI, tM_len, tI_len, rowsC_len, rowsZ_len, oRun, ne_run, i24]
  repeat' (first
    | ((with_reducible refine sl_i ?_ ?_); focus kernel_rfl)
    | ((with_reducible refine ro_i ?_ ?_); focus kernel_rfl)
    | ((with_reducible refine sl_e ?_); kernel_rfl)
    | ((with_reducible refine ro_e ?_); kernel_rfl)
    | ((first | (with_reducible refine gS_d ?_ ?_) | (with_reducible refine gS_dn ?_ ?_) | (with_reducible refine gS_i ?_ ?_)) <;> intro hg <;> (try simp -dsimp (maxSteps := 1000000) only [go_sem, List.forall_mem_nil, ↓reduceIte, Nat.reduceEqDiff, Nat.reduceLT, Nat.reduceLeDiff, Nat.reduceAdd, Nat.reduceMul, reduceCtorEq, Try.f6, g2, p2, k2, sc_RunRack, hlm, hlc, hcan, rRun, km, kc, takeZ, tM_toI, tI_toI, tM_len, tI_len, rowsC_len, rowsZ_len, oRun, ne_run, i24, *])))
  intro O2
  try simp -dsimp (maxSteps := 1000000) only [go_sem, List.forall_mem_nil, ↓reduceIte, Nat.reduceEqDiff, Nat.reduceLT, Nat.reduceLeDiff, Nat.reduceAdd, Nat.reduceMul, reduceCtorEq, Try.f6, g3, p3, k3, sc_RunRack, hlm, hlc, hcan, rRun, km, kc, takeZ, tM_toI, tI_toI, tM_len, tI_len, rowsC_len, rowsZ_len, oRun, ne_run, i24]
  repeat' (first
    | ((with_reducible refine sl_i ?_ ?_); focus kernel_rfl)
    | ((with_reducible refine ro_i ?_ ?_); focus kernel_rfl)
    | ((with_reducible refine sl_e ?_); kernel_rfl)
    | ((with_reducible refine ro_e ?_); kernel_rfl)
    | ((first | (with_reducible refine gS_d ?_ ?_) | (with_reducible refine gS_dn ?_ ?_) | (with_reducible refine gS_i ?_ ?_)) <;> intro hg <;> (try simp -dsimp (maxSteps := 1000000) only [go_sem, List.forall_mem_nil, ↓reduceIte, Nat.reduceEqDiff, Nat.reduceLT, Nat.reduceLeDiff, Nat.reduceAdd, Nat.reduceMul, reduceCtorEq, Try.f6, g3, p3, k3, sc_RunRack, hlm, hlc, hcan, rRun, km, kc, takeZ, tM_toI, tI_toI, tM_len, tI_len, rowsC_len, rowsZ_len, oRun, ne_run, i24, *])))
  intro O3
  try simp -dsimp (maxSteps := 1000000) only [go_sem, List.forall_mem_nil, ↓reduceIte, Nat.reduceEqDiff, Nat.reduceLT, Nat.reduceLeDiff, Nat.reduceAdd, Nat.reduceMul, reduceCtorEq, Try.f6, g4, p4, k4, sc_RunRack, hlm, hlc, hcan, rRun, km, kc, takeZ, tM_toI, tI_toI, tM_len, tI_len, rowsC_len, rowsZ_len, oRun, ne_run, i24]
  repeat' (first
    | ((with_reducible refine sl_i ?_ ?_); focus kernel_rfl)
    | ((with_reducible refine ro_i ?_ ?_); focus kernel_rfl)
    | ((with_reducible refine sl_e ?_); kernel_rfl)
    | ((with_reducible refine ro_e ?_); kernel_rfl)
    | ((first | (with_reducible refine gS_d ?_ ?_) | (with_reducible refine gS_dn ?_ ?_) | (with_reducible refine gS_i ?_ ?_)) <;> intro hg <;> (try simp -dsimp (maxSteps := 1000000) only [go_sem, List.forall_mem_nil, ↓reduceIte, Nat.reduceEqDiff, Nat.reduceLT, Nat.reduceLeDiff, Nat.reduceAdd, Nat.reduceMul, reduceCtorEq, Try.f6, g4, p4, k4, sc_RunRack, hlm, hlc, hcan, rRun, km, kc, takeZ, tM_toI, tI_toI, tM_len, tI_len, rowsC_len, rowsZ_len, oRun, ne_run, i24, *])))
  intro O4
  obtain ⟨u, v, w, t, hu, hv, hw, ht, lu, lv, lw, lt, hW⟩ := htest O1 O2 O3 O4
  clear htest hin hR hcs g1 g2 g3 g4 k1 k2 k3 k4 p1 p2 p3 p4
  have c24 : ((24 : Nat) : Int) = 24 := rfl
  try simp -dsimp (maxSteps := 1000000) only [go_sem, List.forall_mem_nil, ↓reduceIte, Nat.reduceEqDiff, Nat.reduceLT, Nat.reduceLeDiff, Nat.reduceAdd, Nat.reduceMul, reduceCtorEq, Try.f6, hu, hv, hw, ht, lu, lv, lw, lt, c24, hcan, rRun, i24]
  repeat' (first
    | ((with_reducible refine sl_i ?_ ?_); focus kernel_rfl)
    | ((with_reducible refine ro_i ?_ ?_); focus kernel_rfl)
    | ((with_reducible refine sl_e ?_); kernel_rfl)
    | ((with_reducible refine ro_e ?_); kernel_rfl)
    | ((first | (with_reducible refine gS_d ?_ ?_) | (with_reducible refine gS_dn ?_ ?_) | (with_reducible refine gS_i ?_ ?_)) <;> intro hg <;> (try simp -dsimp (maxSteps := 1000000) only [go_sem, List.forall_mem_nil, ↓reduceIte, Nat.reduceEqDiff, Nat.reduceLT, Nat.reduceLeDiff, Nat.reduceAdd, Nat.reduceMul, reduceCtorEq, Try.f6, hu, hv, hw, ht, lu, lv, lw, lt, c24, hcan, rRun, i24, *])))
  refine loop_i (ι := { i : Nat // i ≤ 24 }) (fun i => ⟨[(15, some (.c (.view 12 1 0 24))), (18, some (.c (.view 16 1 0 24))), (21, some (.c (.view 20 1 0 24))), (24, some (.c (.view 24 1 0 24))), (196, some (.c (.im (.int .i64 24)))), (197, some (.c (.im (.int .i64 (i.1 : Int)))))],
    [(12, some (.arr 1 (tI (rowsZ u)))), (16, some (.arr 1 (tI (rowsZ v)))), (20, some (.arr 1 (tI (rowsZ w)))), (24, some (.arr 1 (tI (rowsZ t))))], 26⟩) (fun i => 24 - i.1) ⟨0, by simp⟩ ⟨[], [12, 16, 20, 24], by ((simp only [ne_eq, eq_self, subF, folds, wk1, subOk, sOk, hOk, nms, reF, rho, mapD, mapC, mapC1, NmD, NmC, NmC1, mapR, mapB, mapTt, NmR, NmB, NmT, MvRb, MvRn, MvRt, lk, ins, Root.get, Root.setT, List.map_cons, List.map_nil, List.nodup_cons, List.nodup_nil, List.not_mem_nil, List.mem_cons, not_false_eq_true, and_self, and_true, true_and, true_or, or_true, false_or, or_false, ↓reduceIte, Nat.reduceEqDiff, Nat.reduceLT, Nat.reduceLeDiff, reduceCtorEq, Option.isSome_some, List.forall_mem_cons, List.forall_mem_nil, implies_true, forall_const, Nat.le_refl, Nat.zero_le, false_implies, List.mem_singleton, MvB_im, MvB_nil, Mv_im, Option.some.injEq, D.c.injEq, C.im.injEq, I.int.injEq, List.getElem?_cons_zero, List.getElem?_cons_succ, List.set_cons_zero, List.set_cons_succ, List.length_cons, List.length_nil, Nat.zero_add, MvR_Z]) <;> (try (simp -dsimp only [ne_eq, eq_self, subF, folds, wk1, subOk, sOk, hOk, nms, reF, rho, mapD, mapC, mapC1, NmD, NmC, NmC1, mapR, mapB, mapTt, NmR, NmB, NmT, MvRb, MvRn, MvRt, lk, ins, Root.get, Root.setT, List.map_cons, List.map_nil, List.nodup_cons, List.nodup_nil, List.not_mem_nil, List.mem_cons, not_false_eq_true, and_self, and_true, true_and, true_or, or_true, false_or, or_false, ↓reduceIte, Nat.reduceEqDiff, Nat.reduceLT, Nat.reduceLeDiff, reduceCtorEq, Option.isSome_some, List.forall_mem_cons, List.forall_mem_nil, implies_true, forall_const, Nat.le_refl, Nat.zero_le, false_implies, List.mem_singleton, MvB_im, MvB_nil, Mv_im, Option.some.injEq, D.c.injEq, C.im.injEq, I.int.injEq, List.getElem?_cons_zero, List.getElem?_cons_succ, List.set_cons_zero, List.set_cons_succ, List.length_cons, List.length_nil, Nat.zero_add, MvR_Z]))) <;> simp [lk]⟩ (fun ⟨i, hi⟩ => ?_)
  simp only
  clear hu hv hw ht
  by_cases hi4 : i < 24
  · have hL : ((i : Int) < 24) = True := eq_true (by omega)
    have hwr : IntKind.i64.wrap ((i : Int) + 1) = (i : Int) + 1 := wrap_id (by omega) (by omega)
    have h0 : (0 ≤ (i : Int)) = True := by simp
    obtain ⟨⟨u1, u2⟩, hu⟩ : ∃ p, u[i]? = some p := ⟨_, List.getElem?_eq_getElem (by omega)⟩
    have ru := tIZ_at hu
    have du : u.getD i (0, 0) = (u1, u2) := by rw [List.getD_eq_getElem?_getD, hu]; rfl
    obtain ⟨⟨v1, v2⟩, hv⟩ : ∃ p, v[i]? = some p := ⟨_, List.getElem?_eq_getElem (by omega)⟩
    have rv := tIZ_at hv
    have dv : v.getD i (0, 0) = (v1, v2) := by rw [List.getD_eq_getElem?_getD, hv]; rfl
    obtain ⟨⟨w1, w2⟩, hw⟩ : ∃ p, w[i]? = some p := ⟨_, List.getElem?_eq_getElem (by omega)⟩
    have rw' := tIZ_at hw
    have dw : w.getD i (0, 0) = (w1, w2) := by rw [List.getD_eq_getElem?_getD, hw]; rfl
    obtain ⟨⟨t1, t2⟩, ht⟩ : ∃ p, t[i]? = some p := ⟨_, List.getElem?_eq_getElem (by omega)⟩
    have rt := tIZ_at ht
    have dt : t.getD i (0, 0) = (t1, t2) := by rw [List.getD_eq_getElem?_getD, ht]; rfl
    have hT := W4_test (hW i hi4)
    rw [du, dv, dw, dt] at hT
    obtain ⟨q1, q2, q3, q4⟩ := hT
    simp only at q1 q2 q3 q4 ru rv rw' rt
    clear hW du dv dw dt
    try simp -dsimp (maxSteps := 1000000) only [go_sem, List.forall_mem_nil, ↓reduceIte, Nat.reduceEqDiff, Nat.reduceLT, Nat.reduceLeDiff, Nat.reduceAdd, Nat.reduceMul, reduceCtorEq, Try.f6, hL, h0, hwr, ru, rv, rw', rt, q1, q2, q3, q4, c24, Int.toNat_natCast, Bool.and_true, Bool.not_true]
    repeat' (first
      | ((with_reducible refine sl_i ?_ ?_); focus kernel_rfl)
      | ((with_reducible refine ro_i ?_ ?_); focus kernel_rfl)
      | ((with_reducible refine sl_e ?_); kernel_rfl)
      | ((with_reducible refine ro_e ?_); kernel_rfl)
      | ((first | (with_reducible refine gS_d ?_ ?_) | (with_reducible refine gS_dn ?_ ?_) | (with_reducible refine gS_i ?_ ?_)) <;> intro hg <;> (try simp -dsimp (maxSteps := 1000000) only [go_sem, List.forall_mem_nil, ↓reduceIte, Nat.reduceEqDiff, Nat.reduceLT, Nat.reduceLeDiff, Nat.reduceAdd, Nat.reduceMul, reduceCtorEq, Try.f6, hL, h0, hwr, ru, rv, rw', rt, q1, q2, q3, q4, c24, Int.toNat_natCast, Bool.and_true, Bool.not_true, *])))
    exact ⟨⟨i + 1, by omega⟩, by simp only []; omega, [], [12, 16, 20, 24], by ((simp only [ne_eq, eq_self, subF, folds, wk1, subOk, sOk, hOk, nms, reF, rho, mapD, mapC, mapC1, NmD, NmC, NmC1, mapR, mapB, mapTt, NmR, NmB, NmT, MvRb, MvRn, MvRt, lk, ins, Root.get, Root.setT, List.map_cons, List.map_nil, List.nodup_cons, List.nodup_nil, List.not_mem_nil, List.mem_cons, not_false_eq_true, and_self, and_true, true_and, true_or, or_true, false_or, or_false, ↓reduceIte, Nat.reduceEqDiff, Nat.reduceLT, Nat.reduceLeDiff, reduceCtorEq, Option.isSome_some, List.forall_mem_cons, List.forall_mem_nil, implies_true, forall_const, Nat.le_refl, Nat.zero_le, false_implies, List.mem_singleton, MvB_im, MvB_nil, Mv_im, Option.some.injEq, D.c.injEq, C.im.injEq, I.int.injEq, List.getElem?_cons_zero, List.getElem?_cons_succ, List.set_cons_zero, List.set_cons_succ, List.length_cons, List.length_nil, Nat.zero_add, MvR_Z]) <;> (try (simp -dsimp only [ne_eq, eq_self, subF, folds, wk1, subOk, sOk, hOk, nms, reF, rho, mapD, mapC, mapC1, NmD, NmC, NmC1, mapR, mapB, mapTt, NmR, NmB, NmT, MvRb, MvRn, MvRt, lk, ins, Root.get, Root.setT, List.map_cons, List.map_nil, List.nodup_cons, List.nodup_nil, List.not_mem_nil, List.mem_cons, not_false_eq_true, and_self, and_true, true_and, true_or, or_true, false_or, or_false, ↓reduceIte, Nat.reduceEqDiff, Nat.reduceLT, Nat.reduceLeDiff, reduceCtorEq, Option.isSome_some, List.forall_mem_cons, List.forall_mem_nil, implies_true, forall_const, Nat.le_refl, Nat.zero_le, false_implies, List.mem_singleton, MvB_im, MvB_nil, Mv_im, Option.some.injEq, D.c.injEq, C.im.injEq, I.int.injEq, List.getElem?_cons_zero, List.getElem?_cons_succ, List.set_cons_zero, List.set_cons_succ, List.length_cons, List.length_nil, Nat.zero_add, MvR_Z]))) <;> simp [lk]⟩
  · have hL : ((i : Int) < 24) = False := eq_false (by omega)
    try simp -dsimp (maxSteps := 1000000) only [go_sem, List.forall_mem_nil, ↓reduceIte, Nat.reduceEqDiff, Nat.reduceLT, Nat.reduceLeDiff, Nat.reduceAdd, Nat.reduceMul, reduceCtorEq, Try.f6, hL]
    repeat' (first
      | ((with_reducible refine sl_i ?_ ?_); focus kernel_rfl)
      | ((with_reducible refine ro_i ?_ ?_); focus kernel_rfl)
      | ((with_reducible refine sl_e ?_); kernel_rfl)
      | ((with_reducible refine ro_e ?_); kernel_rfl)
      | ((first | (with_reducible refine gS_d ?_ ?_) | (with_reducible refine gS_dn ?_ ?_) | (with_reducible refine gS_i ?_ ?_)) <;> intro hg <;> (try simp -dsimp (maxSteps := 1000000) only [go_sem, List.forall_mem_nil, ↓reduceIte, Nat.reduceEqDiff, Nat.reduceLT, Nat.reduceLeDiff, Nat.reduceAdd, Nat.reduceMul, reduceCtorEq, Try.f6, hL, *])))
end Go.SX
