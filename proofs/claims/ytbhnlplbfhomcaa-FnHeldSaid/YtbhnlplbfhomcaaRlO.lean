/-
  laws.FnHeld: the walk.
  No condition.
-/
import Derived.Test.YtbhnlplbfhomcaaRpH
import Derived.Test.YtbhnlplbfhomcaaRlN
import Derived.Test.YtbhnlplbfhomcaaRlE
set_option linter.unusedVariables false
set_option linter.unusedSimpArgs false
namespace Go.SX
open Go Go.Proofs

set_option maxRecDepth 100000 in
set_option maxHeartbeats 40000000 in
theorem law_FnHeld : Law Try.prog 9 ctLaw := by
  refine fam_law (Env_cons law_MakeSamples (Env_cons law_at (Env_cons law_NewHold (Env_cons law_NewDelay (Env_cons law_RunRack Env_nil))))) hmixA Try.func9 rfl rfl (fun ⟨l, hb⟩ => ⟨okO_im rfl, by simp [Try.f9], ?_⟩)
  simp only
  by_cases hbig : 1048576 < l.length
  · have hI : ((1048576 : Int) < (l.length : Int)) = True := eq_true (by omega)
    clear hbig
    try simp -dsimp (maxSteps := 1000000) only [go_sem, List.forall_mem_nil, ↓reduceIte, Nat.reduceEqDiff, Nat.reduceLT, Nat.reduceLeDiff, Nat.reduceAdd, Nat.reduceMul, reduceCtorEq, Try.f9, rowsB_len, hI]
    repeat' (first
      | ((with_reducible refine sl_i ?_ ?_); focus kernel_rfl)
      | ((with_reducible refine ro_i ?_ ?_); focus kernel_rfl)
      | ((with_reducible refine sl_e ?_); kernel_rfl)
      | ((with_reducible refine ro_e ?_); kernel_rfl)
      | ((first | (with_reducible refine gS_d ?_ ?_) | (with_reducible refine gS_dn ?_ ?_) | (with_reducible refine gS_i ?_ ?_)) <;> intro hg <;> (try simp -dsimp (maxSteps := 1000000) only [go_sem, List.forall_mem_nil, ↓reduceIte, Nat.reduceEqDiff, Nat.reduceLT, Nat.reduceLeDiff, Nat.reduceAdd, Nat.reduceMul, reduceCtorEq, Try.f9, rowsB_len, hI, *])))
  have hlen : l.length ≤ 1048576 := by omega
  have hI : ((1048576 : Int) < (l.length : Int)) = False := eq_false (by omega)
  have hsm : sm = 16777216 := rfl
  have rs : ct_MakeSamples.run [.c (.im (.sl 1 (rowsB l))), .c (.im (.int .i64 40))] [] = some (oSams 40) := run_MakeSamples hlen hb (n := 40) (by omega)
  try simp -dsimp (maxSteps := 1000000) only [go_sem, List.forall_mem_nil, ↓reduceIte, Nat.reduceEqDiff, Nat.reduceLT, Nat.reduceLeDiff, Nat.reduceAdd, Nat.reduceMul, reduceCtorEq, Try.f9, rowsB_len, hI, rs, oSams, ne_qlist]
  repeat' (first
    | ((with_reducible refine sl_i ?_ ?_); focus kernel_rfl)
    | ((with_reducible refine ro_i ?_ ?_); focus kernel_rfl)
    | ((with_reducible refine sl_e ?_); kernel_rfl)
    | ((with_reducible refine ro_e ?_); kernel_rfl)
    | ((first | (with_reducible refine gS_d ?_ ?_) | (with_reducible refine gS_dn ?_ ?_) | (with_reducible refine gS_i ?_ ?_)) <;> intro hg <;> (try simp -dsimp (maxSteps := 1000000) only [go_sem, List.forall_mem_nil, ↓reduceIte, Nat.reduceEqDiff, Nat.reduceLT, Nat.reduceLeDiff, Nat.reduceAdd, Nat.reduceMul, reduceCtorEq, Try.f9, rowsB_len, hI, rs, oSams, ne_qlist, *])))
  rintro ⟨X, lX⟩
  obtain ⟨n', hn', hn9⟩ := at_mod hb 1 9 (by omega)
  obtain ⟨k', hk', hk9⟩ := at_mod hb 2 9 (by omega)
  have hn' : (atF l 1).tmod 9 = (n' : Int) := hn'
  have hk' : (atF l 2).tmod 9 = (k' : Int) := hk'
  obtain ⟨n, hn1, hn2, hn⟩ : ∃ n : Nat, 1 ≤ n ∧ n ≤ 9 ∧ IntKind.i64.wrap (1 + (n' : Int)) = (n : Int) := ⟨n' + 1, by omega, by omega, by rw [wrap_id (by omega) (by omega)]; omega⟩
  obtain ⟨k, hk1, hk2, hk⟩ : ∃ k : Nat, 1 ≤ k ∧ k ≤ 9 ∧ IntKind.i64.wrap (1 + (k' : Int)) = (k : Int) := ⟨k' + 1, by omega, by omega, by rw [wrap_id (by omega) (by omega)]; omega⟩
  have h90 : ((9 : Int) = 0) = False := by simp
  have ha1 : ct_at.run [.c (.im (.sl 1 (rowsB l))), .c (.im (.int .i64 1))] [] = some (.one { val := .c (.im (.int .i64 (atF l 1))) }) := run_at hlen hb (i := 1) (by omega)
  have ha2 : ct_at.run [.c (.im (.sl 1 (rowsB l))), .c (.im (.int .i64 2))] [] = some (.one { val := .c (.im (.int .i64 (atF l 2))) }) := run_at hlen hb (i := 2) (by omega)
  have hzl : (zs k).length = k := by simp [zs]
  have hzt : List.take k (tI (rowsZ (zs k))) = tI (rowsZ (zs k)) := List.take_of_length_le (by simp [tI_len, rowsZ_len, hzl])
  have kx : X.take X.length = X := List.take_of_length_le (by omega)
  have wk : IntKind.i64.wrap ((X.length : Int) + (k : Int)) = ((X.length + k : Nat) : Int) := by rw [wrap_id (by omega) (by omega)]; omega
  have rg : ∀ b m : Int, ct_RunRack.run [.agg [.im (.sl 11 [[.int .i64 8, .cpx .f32 0 0, .cpx .f32 0 0, .flt .f32 0, .sl 1 [], .int .i64 0, .int .i64 0, .sl 1 [], .sl 1 [], .int .i64 (n : Int), .int .i64 0], [.int .i64 4, .cpx .f32 0 0, .cpx .f32 0 0, .flt .f32 0, .sl 1 (rowsZ (zs k)), .int .i64 0, .int .i64 ((zs k).length : Int), .sl 1 [], .sl 1 [], .int .i64 0, .int .i64 0]]), .im (.sl 2 [[.int .i64 0, .int .i64 1]])], .agg [.im (.int .i64 0), .im (.int .i64 b)], .c (.im (.sl 1 (rowsZ X))), .c (.im (.int .i64 m))] [] = some (oRun (msH (0, 0) n 0 (zs k) 0) csH 0 b X m) := fun b m => run_RunRack (ms := msH (0, 0) n 0 (zs k) 0) (cs := csH) (by simp [msH]; omega) (by simp [csH]; omega) (by omega) (okM_H (by omega)) 0 b m
  rw [hzl] at rg
  have rg1 := rg 0 (X.length : Int)
  have rg2 := rg 1 ((X.length + k : Nat) : Int)
  have hc1 : canRunF (msH (0, 0) n 0 (zs k) 0) csH 0 0 (X.length : Int) = true := canH hn1 (by omega) hk1 (by omega) (b := 0) (by omega) (by omega)
  have hc2 : canRunF (msH (0, 0) n 0 (zs k) 0) csH 0 1 ((X.length + k : Nat) : Int) = true := canH hn1 (by omega) hk1 (by omega) (b := 1) (by omega) (by omega)
  have hy : ∀ O, (runS O csH 0 0 X (msH (0, 0) n 0 (zs k) 0) X.length).2 = (List.range X.length).map (hF n X) := fun O => by
    obtain ⟨s, _, hr⟩ := runH hn1 hk1 X 0 O X.length
    rw [hr]; rfl
  have hz : ∀ O, (runS O csH 0 1 X (msH (0, 0) n 0 (zs k) 0) (X.length + k)).2 = (List.range (X.length + k)).map (dlF k (gF n X)) := fun O => by
    obtain ⟨s, _, hr⟩ := runH hn1 hk1 X 1 O (X.length + k)
    rw [hr]; rfl
  try simp -dsimp (maxSteps := 1000000) only [go_sem, List.forall_mem_nil, ↓reduceIte, Nat.reduceEqDiff, Nat.reduceLT, Nat.reduceLeDiff, Nat.reduceAdd, Nat.reduceMul, reduceCtorEq, Try.f9, rNew, rowsZ_len, ha1, ha2, h90, hn', hk', hn, hk, run_NewHold (n := n) hn1 (by omega), run_NewDelay (n := k) hk1 (by omega), rCk, mDel, mHold, hzl, hzt, kx, takeZ, rg1, sc_RunRack, tI_toI, tI_len, rowsZ_nil, rowsN_nil, tIn, List.take_nil, List.take_zero, List.take_succ_cons, oRun, ne_run]
  repeat' (first
    | ((with_reducible refine sl_i ?_ ?_); focus kernel_rfl)
    | ((with_reducible refine ro_i ?_ ?_); focus kernel_rfl)
    | ((with_reducible refine sl_e ?_); kernel_rfl)
    | ((with_reducible refine ro_e ?_); kernel_rfl)
    | ((first | (with_reducible refine gS_d ?_ ?_) | (with_reducible refine gS_dn ?_ ?_) | (with_reducible refine gS_i ?_ ?_)) <;> intro hg <;> (try simp -dsimp (maxSteps := 1000000) only [go_sem, List.forall_mem_nil, ↓reduceIte, Nat.reduceEqDiff, Nat.reduceLT, Nat.reduceLeDiff, Nat.reduceAdd, Nat.reduceMul, reduceCtorEq, Try.f9, rNew, rowsZ_len, ha1, ha2, h90, hn', hk', hn, hk, run_NewHold (n := n) hn1 (by omega), run_NewDelay (n := k) hk1 (by omega), rCk, mDel, mHold, hzl, hzt, kx, takeZ, rg1, sc_RunRack, tI_toI, tI_len, rowsZ_nil, rowsN_nil, tIn, List.take_nil, List.take_zero, List.take_succ_cons, oRun, ne_run, *])))
  intro O1
  have iX : Int.toNat (X.length : Int) = X.length := by simp
  have iX2 : Int.toNat ((X.length + k : Nat) : Int) = X.length + k := Int.toNat_natCast _
  have hy1 := hy O1
  have hcase := fun i hi => caseH (k := k) hn1 (X := X) (i := i) hi
  generalize hY : (List.range X.length).map (hF n X) = Y at *
  have lY : Y.length = X.length := by rw [← hY]; simp
  try simp -dsimp (maxSteps := 1000000) only [go_sem, List.forall_mem_nil, ↓reduceIte, Nat.reduceEqDiff, Nat.reduceLT, Nat.reduceLeDiff, Nat.reduceAdd, Nat.reduceMul, reduceCtorEq, Try.f9, hc1, iX, hy1, lY, wk, rg2, sc_RunRack, rRun, rowsZ_len, hzl, hzt, kx, takeZ, tI_toI, tI_len, rowsZ_nil, rowsN_nil, tIn, List.take_nil, List.take_zero, List.take_succ_cons, oRun, ne_run]
  repeat' (first
    | ((with_reducible refine sl_i ?_ ?_); focus kernel_rfl)
    | ((with_reducible refine ro_i ?_ ?_); focus kernel_rfl)
    | ((with_reducible refine sl_e ?_); kernel_rfl)
    | ((with_reducible refine ro_e ?_); kernel_rfl)
    | ((first | (with_reducible refine gS_d ?_ ?_) | (with_reducible refine gS_dn ?_ ?_) | (with_reducible refine gS_i ?_ ?_)) <;> intro hg <;> (try simp -dsimp (maxSteps := 1000000) only [go_sem, List.forall_mem_nil, ↓reduceIte, Nat.reduceEqDiff, Nat.reduceLT, Nat.reduceLeDiff, Nat.reduceAdd, Nat.reduceMul, reduceCtorEq, Try.f9, hc1, iX, hy1, lY, wk, rg2, sc_RunRack, rRun, rowsZ_len, hzl, hzt, kx, takeZ, tI_toI, tI_len, rowsZ_nil, rowsN_nil, tIn, List.take_nil, List.take_zero, List.take_succ_cons, oRun, ne_run, *])))
  intro O2
  have hz1 := hz O2
  generalize hZ : (List.range (X.length + k)).map (dlF k (gF n X)) = Z at *
  have lZ : Z.length = X.length + k := by rw [← hZ]; simp
  try simp -dsimp (maxSteps := 1000000) only [go_sem, List.forall_mem_nil, ↓reduceIte, Nat.reduceEqDiff, Nat.reduceLT, Nat.reduceLeDiff, Nat.reduceAdd, Nat.reduceMul, reduceCtorEq, Try.f9, hc2, iX2, hz1, lZ, lY, wk, rRun, rowsZ_len]
  repeat' (first
    | ((with_reducible refine sl_i ?_ ?_); focus kernel_rfl)
    | ((with_reducible refine ro_i ?_ ?_); focus kernel_rfl)
    | ((with_reducible refine sl_e ?_); kernel_rfl)
    | ((with_reducible refine ro_e ?_); kernel_rfl)
    | ((first | (with_reducible refine gS_d ?_ ?_) | (with_reducible refine gS_dn ?_ ?_) | (with_reducible refine gS_i ?_ ?_)) <;> intro hg <;> (try simp -dsimp (maxSteps := 1000000) only [go_sem, List.forall_mem_nil, ↓reduceIte, Nat.reduceEqDiff, Nat.reduceLT, Nat.reduceLeDiff, Nat.reduceAdd, Nat.reduceMul, reduceCtorEq, Try.f9, hc2, iX2, hz1, lZ, lY, wk, rRun, rowsZ_len, *])))
  clear hy hz hy1 hz1 hc1 hc2 rg rg1 rg2
  have hn0 : ((n : Int) = 0) = False := eq_false (by omega)
  refine loop_i (ι := { i : Nat // i ≤ X.length }) (fun i => ⟨[(3, some (.c (.view 0 1 0 X.length))), (4, some (.c (.im (.int .i64 (n : Int))))), (5, some (.c (.im (.int .i64 (k : Int))))), (12, some (.c (.view 14 1 0 X.length))), (15, some (.c (.view 18 1 0 (X.length + k)))), (101, some (.c (.im (.int .i64 (X.length : Int))))), (102, some (.c (.im (.int .i64 (i.1 : Int)))))],
    [(0, some (.arr 1 (tI (rowsZ X)))), (14, some (.arr 1 (tI (rowsZ Y)))), (18, some (.arr 1 (tI (rowsZ Z))))], 20⟩) (fun i => X.length - i.1) ⟨0, by simp⟩ ⟨[], [0, 14, 18], by ((simp only [ne_eq, eq_self, subF, folds, wk1, subOk, sOk, hOk, nms, reF, rho, mapD, mapC, mapC1, NmD, NmC, NmC1, mapR, mapB, mapTt, NmR, NmB, NmT, MvRb, MvRn, MvRt, lk, ins, Root.get, Root.setT, List.map_cons, List.map_nil, List.nodup_cons, List.nodup_nil, List.not_mem_nil, List.mem_cons, not_false_eq_true, and_self, and_true, true_and, true_or, or_true, false_or, or_false, ↓reduceIte, Nat.reduceEqDiff, Nat.reduceLT, Nat.reduceLeDiff, reduceCtorEq, Option.isSome_some, List.forall_mem_cons, List.forall_mem_nil, implies_true, forall_const, Nat.le_refl, Nat.zero_le, false_implies, List.mem_singleton, MvB_im, MvB_nil, Mv_im, Option.some.injEq, D.c.injEq, C.im.injEq, I.int.injEq, List.getElem?_cons_zero, List.getElem?_cons_succ, List.set_cons_zero, List.set_cons_succ, List.length_cons, List.length_nil, Nat.zero_add, MvR_Z]) <;> (try (simp -dsimp only [ne_eq, eq_self, subF, folds, wk1, subOk, sOk, hOk, nms, reF, rho, mapD, mapC, mapC1, NmD, NmC, NmC1, mapR, mapB, mapTt, NmR, NmB, NmT, MvRb, MvRn, MvRt, lk, ins, Root.get, Root.setT, List.map_cons, List.map_nil, List.nodup_cons, List.nodup_nil, List.not_mem_nil, List.mem_cons, not_false_eq_true, and_self, and_true, true_and, true_or, or_true, false_or, or_false, ↓reduceIte, Nat.reduceEqDiff, Nat.reduceLT, Nat.reduceLeDiff, reduceCtorEq, Option.isSome_some, List.forall_mem_cons, List.forall_mem_nil, implies_true, forall_const, Nat.le_refl, Nat.zero_le, false_implies, List.mem_singleton, MvB_im, MvB_nil, Mv_im, Option.some.injEq, D.c.injEq, C.im.injEq, I.int.injEq, List.getElem?_cons_zero, List.getElem?_cons_succ, List.set_cons_zero, List.set_cons_succ, List.length_cons, List.length_nil, Nat.zero_add, MvR_Z]))) <;> simp [lk]⟩ (fun ⟨i, hi⟩ => ?_)
  simp only
  by_cases hil : i < X.length
  · have hJ : ((i : Int) < (X.length : Int)) = True := eq_true (by omega)
    have hwr : IntKind.i64.wrap ((i : Int) + 1) = (i : Int) + 1 := wrap_id (by omega) (by omega)
    have h0 : (0 ≤ (i : Int)) = True := by simp
    have hmod : (i : Int).tmod (n : Int) = ((i % n : Nat) : Int) := by rw [Int.tmod_eq_emod_of_nonneg (by omega)]; rfl
    have hle : i % n ≤ i := Nat.mod_le _ _
    have hsub : IntKind.i64.wrap ((i : Int) - ((i % n : Nat) : Int)) = ((i - i % n : Nat) : Int) := by rw [wrap_id (by omega) (by omega)]; omega
    have hadd : IntKind.i64.wrap ((i : Int) + (k : Int)) = ((i + k : Nat) : Int) := by rw [wrap_id (by omega) (by omega)]; omega
    have b1 : (0 ≤ ((i - i % n : Nat) : Int)) = True := eq_true (by omega)
    have b2 : (((i - i % n : Nat) : Int) < (X.length : Int)) = True := eq_true (by omega)
    have b3 : (0 ≤ ((i + k : Nat) : Int)) = True := eq_true (by omega)
    have b4 : (((i + k : Nat) : Int) < ((X.length + k : Nat) : Int)) = True := eq_true (by omega)
    obtain ⟨v1, v2, y1, y2, z1, z2, q1, q2, q3, q4⟩ := hcase i hil
    clear hcase
    rcases q4 with ⟨e1, e2, e3⟩ | ⟨e1, e2, e3⟩
    · skip
      try simp -dsimp (maxSteps := 1000000) only [go_sem, List.forall_mem_nil, ↓reduceIte, Nat.reduceEqDiff, Nat.reduceLT, Nat.reduceLeDiff, Nat.reduceAdd, Nat.reduceMul, reduceCtorEq, Try.f9, hJ, hwr, h0, hn0, hmod, hsub, hadd, b1, b2, b3, b4, q1, q2, q3, e1, e2, e3, Int.toNat_natCast, Bool.not_true]
      repeat' (first
        | ((with_reducible refine sl_i ?_ ?_); focus kernel_rfl)
        | ((with_reducible refine ro_i ?_ ?_); focus kernel_rfl)
        | ((with_reducible refine sl_e ?_); kernel_rfl)
        | ((with_reducible refine ro_e ?_); kernel_rfl)
        | ((first | (with_reducible refine gS_d ?_ ?_) | (with_reducible refine gS_dn ?_ ?_) | (with_reducible refine gS_i ?_ ?_)) <;> intro hg <;> (try simp -dsimp (maxSteps := 1000000) only [go_sem, List.forall_mem_nil, ↓reduceIte, Nat.reduceEqDiff, Nat.reduceLT, Nat.reduceLeDiff, Nat.reduceAdd, Nat.reduceMul, reduceCtorEq, Try.f9, hJ, hwr, h0, hn0, hmod, hsub, hadd, b1, b2, b3, b4, q1, q2, q3, e1, e2, e3, Int.toNat_natCast, Bool.not_true, *])))
      exact ⟨⟨i + 1, by omega⟩, by simp only []; omega, [], [0, 14, 18], by ((simp only [ne_eq, eq_self, subF, folds, wk1, subOk, sOk, hOk, nms, reF, rho, mapD, mapC, mapC1, NmD, NmC, NmC1, mapR, mapB, mapTt, NmR, NmB, NmT, MvRb, MvRn, MvRt, lk, ins, Root.get, Root.setT, List.map_cons, List.map_nil, List.nodup_cons, List.nodup_nil, List.not_mem_nil, List.mem_cons, not_false_eq_true, and_self, and_true, true_and, true_or, or_true, false_or, or_false, ↓reduceIte, Nat.reduceEqDiff, Nat.reduceLT, Nat.reduceLeDiff, reduceCtorEq, Option.isSome_some, List.forall_mem_cons, List.forall_mem_nil, implies_true, forall_const, Nat.le_refl, Nat.zero_le, false_implies, List.mem_singleton, MvB_im, MvB_nil, Mv_im, Option.some.injEq, D.c.injEq, C.im.injEq, I.int.injEq, List.getElem?_cons_zero, List.getElem?_cons_succ, List.set_cons_zero, List.set_cons_succ, List.length_cons, List.length_nil, Nat.zero_add, MvR_Z]) <;> (try (simp -dsimp only [ne_eq, eq_self, subF, folds, wk1, subOk, sOk, hOk, nms, reF, rho, mapD, mapC, mapC1, NmD, NmC, NmC1, mapR, mapB, mapTt, NmR, NmB, NmT, MvRb, MvRn, MvRt, lk, ins, Root.get, Root.setT, List.map_cons, List.map_nil, List.nodup_cons, List.nodup_nil, List.not_mem_nil, List.mem_cons, not_false_eq_true, and_self, and_true, true_and, true_or, or_true, false_or, or_false, ↓reduceIte, Nat.reduceEqDiff, Nat.reduceLT, Nat.reduceLeDiff, reduceCtorEq, Option.isSome_some, List.forall_mem_cons, List.forall_mem_nil, implies_true, forall_const, Nat.le_refl, Nat.zero_le, false_implies, List.mem_singleton, MvB_im, MvB_nil, Mv_im, Option.some.injEq, D.c.injEq, C.im.injEq, I.int.injEq, List.getElem?_cons_zero, List.getElem?_cons_succ, List.set_cons_zero, List.set_cons_succ, List.length_cons, List.length_nil, Nat.zero_add, MvR_Z]))) <;> simp [lk]⟩
    · skip
      try simp -dsimp (maxSteps := 1000000) only [go_sem, List.forall_mem_nil, ↓reduceIte, Nat.reduceEqDiff, Nat.reduceLT, Nat.reduceLeDiff, Nat.reduceAdd, Nat.reduceMul, reduceCtorEq, Try.f9, hJ, hwr, h0, hn0, hmod, hsub, hadd, b1, b2, b3, b4, q1, q2, q3, e1, e2, e3, Int.toNat_natCast, Bool.not_false]
      repeat' (first
        | ((with_reducible refine sl_i ?_ ?_); focus kernel_rfl)
        | ((with_reducible refine ro_i ?_ ?_); focus kernel_rfl)
        | ((with_reducible refine sl_e ?_); kernel_rfl)
        | ((with_reducible refine ro_e ?_); kernel_rfl)
        | ((first | (with_reducible refine gS_d ?_ ?_) | (with_reducible refine gS_dn ?_ ?_) | (with_reducible refine gS_i ?_ ?_)) <;> intro hg <;> (try simp -dsimp (maxSteps := 1000000) only [go_sem, List.forall_mem_nil, ↓reduceIte, Nat.reduceEqDiff, Nat.reduceLT, Nat.reduceLeDiff, Nat.reduceAdd, Nat.reduceMul, reduceCtorEq, Try.f9, hJ, hwr, h0, hn0, hmod, hsub, hadd, b1, b2, b3, b4, q1, q2, q3, e1, e2, e3, Int.toNat_natCast, Bool.not_false, *])))
      exact ⟨⟨i + 1, by omega⟩, by simp only []; omega, [], [0, 14, 18], by ((simp only [ne_eq, eq_self, subF, folds, wk1, subOk, sOk, hOk, nms, reF, rho, mapD, mapC, mapC1, NmD, NmC, NmC1, mapR, mapB, mapTt, NmR, NmB, NmT, MvRb, MvRn, MvRt, lk, ins, Root.get, Root.setT, List.map_cons, List.map_nil, List.nodup_cons, List.nodup_nil, List.not_mem_nil, List.mem_cons, not_false_eq_true, and_self, and_true, true_and, true_or, or_true, false_or, or_false, ↓reduceIte, Nat.reduceEqDiff, Nat.reduceLT, Nat.reduceLeDiff, reduceCtorEq, Option.isSome_some, List.forall_mem_cons, List.forall_mem_nil, implies_true, forall_const, Nat.le_refl, Nat.zero_le, false_implies, List.mem_singleton, MvB_im, MvB_nil, Mv_im, Option.some.injEq, D.c.injEq, C.im.injEq, I.int.injEq, List.getElem?_cons_zero, List.getElem?_cons_succ, List.set_cons_zero, List.set_cons_succ, List.length_cons, List.length_nil, Nat.zero_add, MvR_Z]) <;> (try (simp -dsimp only [ne_eq, eq_self, subF, folds, wk1, subOk, sOk, hOk, nms, reF, rho, mapD, mapC, mapC1, NmD, NmC, NmC1, mapR, mapB, mapTt, NmR, NmB, NmT, MvRb, MvRn, MvRt, lk, ins, Root.get, Root.setT, List.map_cons, List.map_nil, List.nodup_cons, List.nodup_nil, List.not_mem_nil, List.mem_cons, not_false_eq_true, and_self, and_true, true_and, true_or, or_true, false_or, or_false, ↓reduceIte, Nat.reduceEqDiff, Nat.reduceLT, Nat.reduceLeDiff, reduceCtorEq, Option.isSome_some, List.forall_mem_cons, List.forall_mem_nil, implies_true, forall_const, Nat.le_refl, Nat.zero_le, false_implies, List.mem_singleton, MvB_im, MvB_nil, Mv_im, Option.some.injEq, D.c.injEq, C.im.injEq, I.int.injEq, List.getElem?_cons_zero, List.getElem?_cons_succ, List.set_cons_zero, List.set_cons_succ, List.length_cons, List.length_nil, Nat.zero_add, MvR_Z]))) <;> simp [lk]⟩
  have hJ : ((i : Int) < (X.length : Int)) = False := eq_false (by omega)
  try simp -dsimp (maxSteps := 1000000) only [go_sem, List.forall_mem_nil, ↓reduceIte, Nat.reduceEqDiff, Nat.reduceLT, Nat.reduceLeDiff, Nat.reduceAdd, Nat.reduceMul, reduceCtorEq, Try.f9, hJ]
  repeat' (first
    | ((with_reducible refine sl_i ?_ ?_); focus kernel_rfl)
    | ((with_reducible refine ro_i ?_ ?_); focus kernel_rfl)
    | ((with_reducible refine sl_e ?_); kernel_rfl)
    | ((with_reducible refine ro_e ?_); kernel_rfl)
    | ((first | (with_reducible refine gS_d ?_ ?_) | (with_reducible refine gS_dn ?_ ?_) | (with_reducible refine gS_i ?_ ?_)) <;> intro hg <;> (try simp -dsimp (maxSteps := 1000000) only [go_sem, List.forall_mem_nil, ↓reduceIte, Nat.reduceEqDiff, Nat.reduceLT, Nat.reduceLeDiff, Nat.reduceAdd, Nat.reduceMul, reduceCtorEq, Try.f9, hJ, *])))
end Go.SX
