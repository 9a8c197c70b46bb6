/-
  laws.FnHealed: the walk.
  No condition.
-/
import Derived.Test.YtbhnlplbfhomcaaRpI
import Derived.Test.YtbhnlplbfhomcaaRqG
import Derived.Test.YtbhnlplbfhomcaaRlK
set_option linter.unusedVariables false
set_option linter.unusedSimpArgs false
namespace Go.SX
open Go Go.Proofs

theorem run_ARf (x : ARf) : ct_RunFaults.run [.agg [.im (.sl 11 (rowsM x.ms)), .im (.sl 2 (rowsC x.cs))], .agg [.im (.int .i64 x.a), .im (.int .i64 x.b)], .c (.im (.sl 1 (rowsZ x.xs))), .c (.im (.sl 4 (rowsFa x.fs))), .c (.im (.int .i64 x.n))] [] = some (oRf x.ms x.cs x.a x.b x.xs x.fs x.n) := run_RunFaults x.ml x.cl x.xl x.fl x.ok x.a x.b x.n
/-- RunFaults with nil for its input. -/
structure ARf0 where
  ms : List Mod
  cs : List Cbl
  a : Int
  b : Int
  fs : List Fa
  n : Int
  ml : ms.length ≤ sm
  cl : cs.length ≤ sm
  fl : fs.length ≤ sm
  ok : ∀ m ∈ ms, OkM m
noncomputable def ct_RunFaults0 : Ct := fam true (fun x : ARf0 => ([.agg [.im (.sl 11 (rowsM x.ms)), .im (.sl 2 (rowsC x.cs))], .agg [.im (.int .i64 x.a), .im (.int .i64 x.b)], .c .nil, .c (.im (.sl 4 (rowsFa x.fs))), .c (.im (.int .i64 x.n))], [])) (fun x => oRf x.ms x.cs x.a x.b [] x.fs x.n)
theorem run_RunFaults0 {ms : List Mod} {cs : List Cbl} {fs : List Fa} (h1 : ms.length ≤ sm) (h2 : cs.length ≤ sm) (h4 : fs.length ≤ sm) (h5 : ∀ m ∈ ms, OkM m) (a b n : Int) : ct_RunFaults0.run [.agg [.im (.sl 11 (rowsM ms)), .im (.sl 2 (rowsC cs))], .agg [.im (.int .i64 a), .im (.int .i64 b)], .c .nil, .c (.im (.sl 4 (rowsFa fs))), .c (.im (.int .i64 n))] [] = some (oRf ms cs a b [] fs n) := by
  refine fam_run' (args := fun x : ARf0 => ([D.agg [.im (.sl 11 (rowsM x.ms)), .im (.sl 2 (rowsC x.cs))], .agg [.im (.int .i64 x.a), .im (.int .i64 x.b)], .c .nil, .c (.im (.sl 4 (rowsFa x.fs))), .c (.im (.int .i64 x.n))], [])) ?_ ⟨ms, cs, a, b, fs, n, h1, h2, h4, h5⟩
  rintro ⟨a, b, c, d, e, f, _, _, _, _⟩ ⟨a', b', c', d', e', f', _, _, _, _⟩ h
  simp only [Prod.mk.injEq, List.cons.injEq, D.c.injEq, D.agg.injEq, C.im.injEq, I.sl.injEq, I.int.injEq, true_and, and_true, rowsM_eq, rowsC_eq] at h
  obtain ⟨⟨rfl, rfl⟩, ⟨rfl, rfl⟩, h4, rfl⟩ := h
  have := rowsFa_inj h4
  subst this; rfl
theorem law_RunFaults0 : Law Try.prog 28 ct_RunFaults0 :=
  fam_nil law_RunFaults run_ARf (fun x => ⟨x.ms, x.cs, x.a, x.b, [], x.fs, x.n, x.ml, x.cl, by simp, x.fl, x.ok⟩)
    (fun x => ⟨.cons (.same _) (.cons (.same _) (.cons (.c _ _ (.nil 1)) (.cons (.same _) (.cons (.same _) .nil)))), rfl⟩) (fun x => rfl)
theorem sc_RunFaults0 : (ct_RunFaults0.sc = true) = True := by simp [ct_RunFaults0, fam]

theorem tM_appH (ms : List Mod) (m : Mod) : tM ms ++ [modT m] = tM (ms ++ [m]) := by simp [tM]
theorem csK_nextH (c : Nat → Nat) (k : Nat) (h : 0 < k) : csK c k ++ [((c k : Int), (k : Int)), ((k : Int) - 1, (k : Int))] = csK c (k + 1) := by
  have : ¬ k = 0 := by omega
  simp [csK, List.range_succ, this]
theorem csK_lenH (c : Nat → Nat) (k : Nat) (h : k ≤ 5) : (csK c k).length ≤ 12 := by
  match k, h with
  | 0, _ => simp [csK]
  | 1, _ => simp [csK, List.range_succ]
  | 2, _ => simp [csK, List.range_succ]
  | 3, _ => simp [csK, List.range_succ]
  | 4, _ => simp [csK, List.range_succ]
  | 5, _ => simp [csK, List.range_succ]
theorem tIC_appH (cs : List Cbl) (a b c d : Int) : tI (rowsC cs) ++ [[T.im (.int .i64 a), T.im (.int .i64 b)], [T.im (.int .i64 c), T.im (.int .i64 d)]] = tI (rowsC (cs ++ [(a, b), (c, d)])) := by simp [tI, rowsC]
set_option maxRecDepth 100000 in
set_option maxHeartbeats 40000000 in
theorem law_FnHealed : Law Try.prog 7 ctLaw := by
  refine fam_law (Env_cons law_at (Env_cons law_NewSource (Env_cons law_NewSum (Env_cons law_NewGain (Env_cons law_RunFaults0 (Env_cons law_RunRack0 (Env_cons law_SameRacks (Env_cons law_MakeSame Env_nil)))))))) hmixA Try.func7 rfl rfl (fun ⟨l, hb⟩ => ⟨okO_im rfl, by simp [Try.f7], ?_⟩)
  simp only
  by_cases hbig : 1048576 < l.length
  · have hI : ((1048576 : Int) < (l.length : Int)) = True := eq_true (by omega)
    clear hbig
    try simp -dsimp (maxSteps := 1000000) only [go_sem, List.forall_mem_nil, ↓reduceIte, Nat.reduceEqDiff, Nat.reduceLT, Nat.reduceLeDiff, Nat.reduceAdd, Nat.reduceMul, reduceCtorEq, Try.f7, rowsB_len, hI]
    repeat' (first
      | ((with_reducible refine sl_i ?_ ?_); focus kernel_rfl)
      | ((with_reducible refine ro_i ?_ ?_); focus kernel_rfl)
      | ((with_reducible refine sl_e ?_); kernel_rfl)
      | ((with_reducible refine ro_e ?_); kernel_rfl)
      | ((first | (with_reducible refine gS_d ?_ ?_) | (with_reducible refine gS_dn ?_ ?_) | (with_reducible refine gS_i ?_ ?_)) <;> intro hg <;> (try simp -dsimp (maxSteps := 1000000) only [go_sem, List.forall_mem_nil, ↓reduceIte, Nat.reduceEqDiff, Nat.reduceLT, Nat.reduceLeDiff, Nat.reduceAdd, Nat.reduceMul, reduceCtorEq, Try.f7, rowsB_len, hI, *])))
  have hlen : l.length ≤ 1048576 := by omega
  have hI : ((1048576 : Int) < (l.length : Int)) = False := eq_false (by omega)
  have hsm : sm = 16777216 := rfl
  try simp -dsimp (maxSteps := 1000000) only [go_sem, List.forall_mem_nil, ↓reduceIte, Nat.reduceEqDiff, Nat.reduceLT, Nat.reduceLeDiff, Nat.reduceAdd, Nat.reduceMul, reduceCtorEq, Try.f7, rowsB_len, hI, run_NewSource, rMod, mSrc]
  repeat' (first
    | ((with_reducible refine sl_i ?_ ?_); focus kernel_rfl)
    | ((with_reducible refine ro_i ?_ ?_); focus kernel_rfl)
    | ((with_reducible refine sl_e ?_); kernel_rfl)
    | ((with_reducible refine ro_e ?_); kernel_rfl)
    | ((first | (with_reducible refine gS_d ?_ ?_) | (with_reducible refine gS_dn ?_ ?_) | (with_reducible refine gS_i ?_ ?_)) <;> intro hg <;> (try simp -dsimp (maxSteps := 1000000) only [go_sem, List.forall_mem_nil, ↓reduceIte, Nat.reduceEqDiff, Nat.reduceLT, Nat.reduceLeDiff, Nat.reduceAdd, Nat.reduceMul, reduceCtorEq, Try.f7, rowsB_len, hI, run_NewSource, rMod, mSrc, *])))
  refine loop_i (ι := { x : Nat × Nat // x.1 = x.2 + 1 ∧ x.1 ≤ 5 }) (fun x => ⟨[(0, some (.c (.im (.sl 1 (rowsB l))))), (3, some (.c (.ptr 0 0 0 0))), (4, some (.c (.im (.int .i64 (x.1.1 : Int)))))],
    [(0, some (.box [.t (.lent 1 11 x.1.1), .t (.lent 2 2 (csK (cH l) x.1.1).length)])), (1, some (.arr 11 (tM (msH l x.1.2)))), (2, some (.arr 2 (tI (rowsC (csK (cH l) x.1.1)))))], 3⟩) (fun x => 5 - x.1.1) ⟨(1, 0), by simp⟩ ⟨[.fold 3 0 4, .fold 3 0 7, .fold 3 0 8, .nilT 4 0 1 2, .unf 4 0 1], [4, 3, 5], by ((simp only [ne_eq, eq_self, subF, folds, wk1, subOk, sOk, hOk, nms, reF, rho, mapD, mapC, mapC1, NmD, NmC, NmC1, mapR, mapB, mapTt, NmR, NmB, NmT, MvRb, MvRn, MvRt, lk, ins, Root.get, Root.setT, List.map_cons, List.map_nil, List.nodup_cons, List.nodup_nil, List.not_mem_nil, List.mem_cons, not_false_eq_true, and_self, and_true, true_and, true_or, or_true, false_or, or_false, ↓reduceIte, Nat.reduceEqDiff, Nat.reduceLT, Nat.reduceLeDiff, reduceCtorEq, Option.isSome_some, List.forall_mem_cons, List.forall_mem_nil, implies_true, forall_const, Nat.le_refl, Nat.zero_le, false_implies, List.mem_singleton, MvB_im, MvB_nil, Mv_im, Option.some.injEq, D.c.injEq, C.im.injEq, I.int.injEq, List.getElem?_cons_zero, List.getElem?_cons_succ, List.set_cons_zero, List.set_cons_succ, List.length_cons, List.length_nil, Nat.zero_add, Option.map_some, forall_eq_or_imp, forall_eq, MvR_M, MvR_C', tI_len, rowsZ_len, rowsN_len]) <;> (try (simp -dsimp only [ne_eq, eq_self, subF, folds, wk1, subOk, sOk, hOk, nms, reF, rho, mapD, mapC, mapC1, NmD, NmC, NmC1, mapR, mapB, mapTt, NmR, NmB, NmT, MvRb, MvRn, MvRt, lk, ins, Root.get, Root.setT, List.map_cons, List.map_nil, List.nodup_cons, List.nodup_nil, List.not_mem_nil, List.mem_cons, not_false_eq_true, and_self, and_true, true_and, true_or, or_true, false_or, or_false, ↓reduceIte, Nat.reduceEqDiff, Nat.reduceLT, Nat.reduceLeDiff, reduceCtorEq, Option.isSome_some, List.forall_mem_cons, List.forall_mem_nil, implies_true, forall_const, Nat.le_refl, Nat.zero_le, false_implies, List.mem_singleton, MvB_im, MvB_nil, Mv_im, Option.some.injEq, D.c.injEq, C.im.injEq, I.int.injEq, List.getElem?_cons_zero, List.getElem?_cons_succ, List.set_cons_zero, List.set_cons_succ, List.length_cons, List.length_nil, Nat.zero_add, Option.map_some, forall_eq_or_imp, forall_eq, MvR_M, MvR_C', tI_len, rowsZ_len, rowsN_len]))) <;> simp [lk, MvB_im, msH, csK, tM, tI, rowsC, modT, mSrc, List.range_succ]⟩ (fun ⟨⟨k, j⟩, hkj, hk⟩ => ?_)
  simp only at hkj hk ⊢
  by_cases hk5 : k < 5
  · have hK : ((k : Int) < 5) = True := eq_true (by omega)
    have hwr : IntKind.i64.wrap ((k : Int) + 1) = ((k + 1 : Nat) : Int) := by rw [wrap_id (by omega) (by omega)]; omega
    have hw5 : IntKind.i64.wrap ((k : Int) + 5) = ((k + 5 : Nat) : Int) := by rw [wrap_id (by omega) (by omega)]; omega
    have hw9 : IntKind.i64.wrap ((k : Int) + 9) = ((k + 9 : Nat) : Int) := by rw [wrap_id (by omega) (by omega)]; omega
    have hwm : IntKind.i64.wrap ((k : Int) - 1) = (k : Int) - 1 := wrap_id (by omega) (by omega)
    have h20 : ((2 : Int) = 0) = False := by simp
    have h50 : ((5 : Int) = 0) = False := by simp
    have hkz : ((k : Int) = 0) = False := eq_false (by omega)
    have r1 := run_at hlen hb (i := k) (by omega)
    have r2 := run_at hlen hb (i := k + 5) (by omega)
    have r3 := run_at hlen hb (i := k + 9) (by omega)
    have hlm : (msH l j).length = k := by rw [msH_len]; omega
    have hgk : ∀ r, (tM (msH l j) ++ [r])[k]? = some r := fun r => by rw [List.getElem?_append_right (by rw [tM_len, hlm]; omega), tM_len, hlm, Nat.sub_self]; rfl
    have hsk : ∀ r x, (tM (msH l j) ++ [r]).set k x = tM (msH l j) ++ [x] := fun r x => by rw [List.set_append_right _ _ (by rw [tM_len, hlm]; omega), tM_len, hlm, Nat.sub_self]; rfl
    have hby : ((k + 1) * 136 ≤ 140737488355328) = True := eq_true (by omega)
    obtain ⟨c, hc, hcl2⟩ := at_mod hb (k + 9) k (by omega)
    have hck : (atF l (k + 9)).tmod (k : Int) = (c : Int) := hc
    have hcby : ((csK (cH l) k).length + 2) * 16 ≤ 140737488355328 := by have := csK_lenH (cH l) k (by omega); omega
    have hcby := eq_true hcby
    have hcs : csK (cH l) k ++ [((c : Int), (k : Int)), ((k : Int) - 1, (k : Int))] = csK (cH l) (k + 1) := by
      rw [← csK_nextH (cH l) k (by omega)]
      simp [cH, hck]
    have hcl : (csK (cH l) k).length + 2 = (csK (cH l) (k + 1)).length := by rw [← hcs]; simp
    by_cases he : (atF l k).tmod 2 = 0
    · have he' := eq_true he
      obtain ⟨v, hv⟩ : ∃ v, fop .quo .f32 (FloatKind.f32.nearest ((atF l (k + 5)).tmod 5)) 1073741824 = v := ⟨_, rfl⟩
      have hf : mH (fH l k) = mGain v := by simp only [fH, he, if_true, hv, mH]
      have hfin : tM (msH l j) ++ [[T.im (.int .i64 3), T.im (.cpx .f32 0 0), T.im (.cpx .f32 0 0), T.im (.flt .f32 v), T.own 1 (tI (rowsZ [])), T.im (.int .i64 0), T.im (.int .i64 0), T.own 1 (tI (rowsZ [])), T.own 1 (tI (rowsN [])), T.im (.int .i64 0), T.im (.int .i64 0)]] = tM (msH l (j + 1)) := by
        rw [← msH_next, ← hkj, hf, ← tM_appH]
        simp only [modT, mGain]
      try simp -dsimp (maxSteps := 1000000) only [go_sem, List.forall_mem_nil, ↓reduceIte, Nat.reduceEqDiff, Nat.reduceLT, Nat.reduceLeDiff, Nat.reduceAdd, Nat.reduceMul, reduceCtorEq, Try.f7, hK, hwr, hw5, hw9, hwm, h20, h50, hkz, r1, r2, r3, he', hv, hgk, hsk, run_NewSum, run_NewGain, rMod, mSum, mGain, tM_len, hlm, hby, appendH, srcRows, List.take_succ_cons, List.take_zero, List.all_cons, List.all_nil, okT, Bool.and_true, List.length_append, hck, hcby, tI_len, rowsC_len, tIC_appH]
      repeat' (first
        | ((with_reducible refine sl_i ?_ ?_); focus kernel_rfl)
        | ((with_reducible refine ro_i ?_ ?_); focus kernel_rfl)
        | ((with_reducible refine sl_e ?_); kernel_rfl)
        | ((with_reducible refine ro_e ?_); kernel_rfl)
        | ((first | (with_reducible refine gS_d ?_ ?_) | (with_reducible refine gS_dn ?_ ?_) | (with_reducible refine gS_i ?_ ?_)) <;> intro hg <;> (try simp -dsimp (maxSteps := 1000000) only [go_sem, List.forall_mem_nil, ↓reduceIte, Nat.reduceEqDiff, Nat.reduceLT, Nat.reduceLeDiff, Nat.reduceAdd, Nat.reduceMul, reduceCtorEq, Try.f7, hK, hwr, hw5, hw9, hwm, h20, h50, hkz, r1, r2, r3, he', hv, hgk, hsk, run_NewSum, run_NewGain, rMod, mSum, mGain, tM_len, hlm, hby, appendH, srcRows, List.take_succ_cons, List.take_zero, List.all_cons, List.all_nil, okT, Bool.and_true, List.length_append, hck, hcby, tI_len, rowsC_len, tIC_appH, *])))
      refine ⟨⟨(k + 1, j + 1), by simp only []; omega, by simp only []; omega⟩, by simp only []; omega, [.fold 11 k 4, .fold 11 k 7, .fold 11 k 8], [0, 11, 132], ?_⟩
      ((simp only [ne_eq, eq_self, subF, folds, wk1, subOk, sOk, hOk, nms, reF, rho, mapD, mapC, mapC1, NmD, NmC, NmC1, mapR, mapB, mapTt, NmR, NmB, NmT, MvRb, MvRn, MvRt, lk, ins, Root.get, Root.setT, List.map_cons, List.map_nil, List.nodup_cons, List.nodup_nil, List.not_mem_nil, List.mem_cons, not_false_eq_true, and_self, and_true, true_and, true_or, or_true, false_or, or_false, ↓reduceIte, Nat.reduceEqDiff, Nat.reduceLT, Nat.reduceLeDiff, reduceCtorEq, Option.isSome_some, List.forall_mem_cons, List.forall_mem_nil, implies_true, forall_const, Nat.le_refl, Nat.zero_le, false_implies, List.mem_singleton, MvB_im, MvB_nil, Mv_im, Option.some.injEq, D.c.injEq, C.im.injEq, I.int.injEq, List.getElem?_cons_zero, List.getElem?_cons_succ, List.set_cons_zero, List.set_cons_succ, List.length_cons, List.length_nil, Nat.zero_add, Option.map_some, hgk, hsk, hfin, hcs, hcl, tI_len, rowsZ_len, rowsN_len, MvR_M, MvR_C', forall_eq_or_imp, forall_eq]) <;> (try (simp -dsimp only [ne_eq, eq_self, subF, folds, wk1, subOk, sOk, hOk, nms, reF, rho, mapD, mapC, mapC1, NmD, NmC, NmC1, mapR, mapB, mapTt, NmR, NmB, NmT, MvRb, MvRn, MvRt, lk, ins, Root.get, Root.setT, List.map_cons, List.map_nil, List.nodup_cons, List.nodup_nil, List.not_mem_nil, List.mem_cons, not_false_eq_true, and_self, and_true, true_and, true_or, or_true, false_or, or_false, ↓reduceIte, Nat.reduceEqDiff, Nat.reduceLT, Nat.reduceLeDiff, reduceCtorEq, Option.isSome_some, List.forall_mem_cons, List.forall_mem_nil, implies_true, forall_const, Nat.le_refl, Nat.zero_le, false_implies, List.mem_singleton, MvB_im, MvB_nil, Mv_im, Option.some.injEq, D.c.injEq, C.im.injEq, I.int.injEq, List.getElem?_cons_zero, List.getElem?_cons_succ, List.set_cons_zero, List.set_cons_succ, List.length_cons, List.length_nil, Nat.zero_add, Option.map_some, hgk, hsk, hfin, hcs, hcl, tI_len, rowsZ_len, rowsN_len, MvR_M, MvR_C', forall_eq_or_imp, forall_eq])))
      all_goals simp [lk, MvB_im]
    · have he' := eq_false he
      have hf : mH (fH l k) = mSum := by simp only [fH, he, if_false, mH]
      have hfin : tM (msH l j) ++ [[T.im (.int .i64 5), T.im (.cpx .f32 0 0), T.im (.cpx .f32 0 0), T.im (.flt .f32 0), T.own 1 (tI (rowsZ [])), T.im (.int .i64 0), T.im (.int .i64 0), T.own 1 (tI (rowsZ [])), T.own 1 (tI (rowsN [])), T.im (.int .i64 0), T.im (.int .i64 0)]] = tM (msH l (j + 1)) := by
        rw [← msH_next, ← hkj, hf, ← tM_appH]
        simp only [modT, mSum]
      try simp -dsimp (maxSteps := 1000000) only [go_sem, List.forall_mem_nil, ↓reduceIte, Nat.reduceEqDiff, Nat.reduceLT, Nat.reduceLeDiff, Nat.reduceAdd, Nat.reduceMul, reduceCtorEq, Try.f7, hK, hwr, hw5, hw9, hwm, h20, h50, hkz, r1, r2, r3, he', hgk, hsk, run_NewSum, run_NewGain, rMod, mSum, mGain, tM_len, hlm, hby, appendH, srcRows, List.take_succ_cons, List.take_zero, List.all_cons, List.all_nil, okT, Bool.and_true, List.length_append, hck, hcby, tI_len, rowsC_len, tIC_appH]
      repeat' (first
        | ((with_reducible refine sl_i ?_ ?_); focus kernel_rfl)
        | ((with_reducible refine ro_i ?_ ?_); focus kernel_rfl)
        | ((with_reducible refine sl_e ?_); kernel_rfl)
        | ((with_reducible refine ro_e ?_); kernel_rfl)
        | ((first | (with_reducible refine gS_d ?_ ?_) | (with_reducible refine gS_dn ?_ ?_) | (with_reducible refine gS_i ?_ ?_)) <;> intro hg <;> (try simp -dsimp (maxSteps := 1000000) only [go_sem, List.forall_mem_nil, ↓reduceIte, Nat.reduceEqDiff, Nat.reduceLT, Nat.reduceLeDiff, Nat.reduceAdd, Nat.reduceMul, reduceCtorEq, Try.f7, hK, hwr, hw5, hw9, hwm, h20, h50, hkz, r1, r2, r3, he', hgk, hsk, run_NewSum, run_NewGain, rMod, mSum, mGain, tM_len, hlm, hby, appendH, srcRows, List.take_succ_cons, List.take_zero, List.all_cons, List.all_nil, okT, Bool.and_true, List.length_append, hck, hcby, tI_len, rowsC_len, tIC_appH, *])))
      refine ⟨⟨(k + 1, j + 1), by simp only []; omega, by simp only []; omega⟩, by simp only []; omega, [.fold 8 k 4, .fold 8 k 7, .fold 8 k 8], [0, 8, 129], ?_⟩
      ((simp only [ne_eq, eq_self, subF, folds, wk1, subOk, sOk, hOk, nms, reF, rho, mapD, mapC, mapC1, NmD, NmC, NmC1, mapR, mapB, mapTt, NmR, NmB, NmT, MvRb, MvRn, MvRt, lk, ins, Root.get, Root.setT, List.map_cons, List.map_nil, List.nodup_cons, List.nodup_nil, List.not_mem_nil, List.mem_cons, not_false_eq_true, and_self, and_true, true_and, true_or, or_true, false_or, or_false, ↓reduceIte, Nat.reduceEqDiff, Nat.reduceLT, Nat.reduceLeDiff, reduceCtorEq, Option.isSome_some, List.forall_mem_cons, List.forall_mem_nil, implies_true, forall_const, Nat.le_refl, Nat.zero_le, false_implies, List.mem_singleton, MvB_im, MvB_nil, Mv_im, Option.some.injEq, D.c.injEq, C.im.injEq, I.int.injEq, List.getElem?_cons_zero, List.getElem?_cons_succ, List.set_cons_zero, List.set_cons_succ, List.length_cons, List.length_nil, Nat.zero_add, Option.map_some, hgk, hsk, hfin, hcs, hcl, tI_len, rowsZ_len, rowsN_len, MvR_M, MvR_C', forall_eq_or_imp, forall_eq]) <;> (try (simp -dsimp only [ne_eq, eq_self, subF, folds, wk1, subOk, sOk, hOk, nms, reF, rho, mapD, mapC, mapC1, NmD, NmC, NmC1, mapR, mapB, mapTt, NmR, NmB, NmT, MvRb, MvRn, MvRt, lk, ins, Root.get, Root.setT, List.map_cons, List.map_nil, List.nodup_cons, List.nodup_nil, List.not_mem_nil, List.mem_cons, not_false_eq_true, and_self, and_true, true_and, true_or, or_true, false_or, or_false, ↓reduceIte, Nat.reduceEqDiff, Nat.reduceLT, Nat.reduceLeDiff, reduceCtorEq, Option.isSome_some, List.forall_mem_cons, List.forall_mem_nil, implies_true, forall_const, Nat.le_refl, Nat.zero_le, false_implies, List.mem_singleton, MvB_im, MvB_nil, Mv_im, Option.some.injEq, D.c.injEq, C.im.injEq, I.int.injEq, List.getElem?_cons_zero, List.getElem?_cons_succ, List.set_cons_zero, List.set_cons_succ, List.length_cons, List.length_nil, Nat.zero_add, Option.map_some, hgk, hsk, hfin, hcs, hcl, tI_len, rowsZ_len, rowsN_len, MvR_M, MvR_C', forall_eq_or_imp, forall_eq])))
      all_goals simp [lk, MvB_im]
  have hK : ((k : Int) < 5) = False := eq_false (by omega)
  obtain rfl : k = 5 := by omega
  obtain rfl : j = 4 := by omega
  obtain ⟨q1, h1, m1⟩ := at_mod hb 1 8 (by omega)
  obtain ⟨q2, h2, m2⟩ := at_mod hb 2 6 (by omega)
  obtain ⟨q3, h3, m3⟩ := at_mod hb 3 3 (by omega)
  obtain ⟨q4, h4, m4⟩ := at_mod hb 4 5 (by omega)
  have h1 : (atF l 1).tmod 8 = (q1 : Int) := h1
  have h2 : (atF l 2).tmod 6 = (q2 : Int) := h2
  have h3 : (atF l 3).tmod 3 = (q3 : Int) := h3
  have h4 : (atF l 4).tmod 5 = (q4 : Int) := h4
  have n8 : ((8 : Int) = 0) = False := by simp
  have n6 : ((6 : Int) = 0) = False := by simp
  have n3 : ((3 : Int) = 0) = False := by simp
  have n5 : ((5 : Int) = 0) = False := by simp
  have r1 : ct_at.run [.c (.im (.sl 1 (rowsB l))), .c (.im (.int .i64 1))] [] = some (.one { val := .c (.im (.int .i64 (atF l 1))) }) := run_at hlen hb (i := 1) (by omega)
  have r2 : ct_at.run [.c (.im (.sl 1 (rowsB l))), .c (.im (.int .i64 2))] [] = some (.one { val := .c (.im (.int .i64 (atF l 2))) }) := run_at hlen hb (i := 2) (by omega)
  have r3 : ct_at.run [.c (.im (.sl 1 (rowsB l))), .c (.im (.int .i64 3))] [] = some (.one { val := .c (.im (.int .i64 (atF l 3))) }) := run_at hlen hb (i := 3) (by omega)
  have r4 : ct_at.run [.c (.im (.sl 1 (rowsB l))), .c (.im (.int .i64 4))] [] = some (.one { val := .c (.im (.int .i64 (atF l 4))) }) := run_at hlen hb (i := 4) (by omega)
  have w1 : IntKind.i64.wrap ((q1 : Int) + (q2 : Int)) = ((q1 + q2 : Nat) : Int) := by rw [wrap_id (by omega) (by omega)]; omega
  have w2 : IntKind.i64.wrap (1 + (q3 : Int)) = ((q3 + 1 : Nat) : Int) := by rw [wrap_id (by omega) (by omega)]; omega
  have hlm : (msH l 4).length = 5 := rfl
  have hlc : (csK (cH l) 5).length = 8 := rfl
  have hokm : ∀ m ∈ msH l 4, OkM m := fun m hm => (msH_ok l 4 m hm).2.1
  have hcalm : ∀ m ∈ msH l 4, calm m := fun m hm => (msH_ok l 4 m hm).1
  have hcan := canH hb
  have hcanf := canHf hb (f := ⟨((q3 + 1 : Nat) : Int), (q4 : Int), (q1 : Int), ((q1 + q2 : Nat) : Int)⟩) (by simp only []; omega) (by simp only []; omega) (by simp only []; omega) (by simp only []; omega) (by simp only []; omega) (by simp only []; omega) (by simp only []; omega)
  have rf : ct_RunFaults0.run [.agg [.im (.sl 11 (rowsM (msH l 4))), .im (.sl 2 (rowsC (csK (cH l) 5)))], .agg [.im (.int .i64 (-1)), .im (.int .i64 4)], .c .nil, .c (.im (.sl 4 [[.int .i64 ((q3 + 1 : Nat) : Int), .int .i64 (q4 : Int), .int .i64 (q1 : Int), .int .i64 ((q1 + q2 : Nat) : Int)]])), .c (.im (.int .i64 16))] [] = some (oRf (msH l 4) (csK (cH l) 5) (-1) 4 [] [⟨((q3 + 1 : Nat) : Int), (q4 : Int), (q1 : Int), ((q1 + q2 : Nat) : Int)⟩] 16) := run_RunFaults0 (fs := [⟨((q3 + 1 : Nat) : Int), (q4 : Int), (q1 : Int), ((q1 + q2 : Nat) : Int)⟩]) (by omega) (by omega) (by simp; omega) hokm (-1) 4 16
  have rr := run_RunRack0 (ms := msH l 4) (cs := csK (cH l) 5) (by omega) (by omega) hokm (-1) 4 16
  have km : List.take 5 (tM (msH l 4)) = tM (msH l 4) := List.take_of_length_le (by rw [tM_len, hlm]; omega)
  have kc : List.take 8 (tI (rowsC (csK (cH l) 5))) = tI (rowsC (csK (cH l) 5)) := List.take_of_length_le (by rw [tI_len, rowsC_len, hlc]; omega)
  have i16 : Int.toNat 16 = 16 := rfl
  have htest : ∀ O O' : Nat → Nat → Or, ∃ (M : List Mod) (Y Z : List Pt), (runG O (csK (cH l) 5) (-1) 4 [] [⟨((q3 + 1 : Nat) : Int), (q4 : Int), (q1 : Int), ((q1 + q2 : Nat) : Int)⟩] (msH l 4) 16).1.1 = M ∧ (runG O (csK (cH l) 5) (-1) 4 [] [⟨((q3 + 1 : Nat) : Int), (q4 : Int), (q1 : Int), ((q1 + q2 : Nat) : Int)⟩] (msH l 4) 16).2 = Y ∧ runS O' (csK (cH l) 5) (-1) 4 [] (msH l 4) 16 = (M, Z) ∧
      M.length = 5 ∧ Y.length = 16 ∧ Z.length = 16 ∧ (∀ m ∈ M, OkM m) ∧ Y.take q1 = Z.take q1 ∧ Y.drop (q1 + q2) = Z.drop (q1 + q2) := fun O O' => by
    obtain ⟨a1, a2, a3, a4, a5⟩ := run_same (O := O) (O' := O') (cs := csK (cH l) 5) (a := -1) (b := 4) (xs := []) (fs := [⟨((q3 + 1 : Nat) : Int), (q4 : Int), (q1 : Int), ((q1 + q2 : Nat) : Int)⟩]) hcalm 16
    have hoks : ∀ m ∈ msH l 4, OkS m := (RackOk_of hokm (rackH hb)).ok
    obtain ⟨b1, _, _, b4⟩ := runG_ok (O := O) (cs := csK (cH l) 5) (a := -1) (b := 4) (xs := []) (fs := [⟨((q3 + 1 : Nat) : Int), (q4 : Int), (q1 : Int), ((q1 + q2 : Nat) : Int)⟩]) hoks 16
    refine ⟨_, _, (runS O' (csK (cH l) 5) (-1) 4 [] (msH l 4) 16).2, rfl, rfl, ?_, by rw [b1, hlm], a3, a4, fun m hm => (b4 m hm).ok, ?_, ?_⟩
    · rw [a1]
    · exact take_same fun i hi => a5 i fun last n p => bec_out (.inl (by simp only []; omega)) last n p
    · exact drop_same fun i hi => a5 i fun last n p => bec_out (.inr (by simp only []; omega)) last n p
  generalize csK (cH l) 5 = cs at *
  generalize msH l 4 = ms at *
  try simp -dsimp (maxSteps := 1000000) only [go_sem, List.forall_mem_nil, ↓reduceIte, Nat.reduceEqDiff, Nat.reduceLT, Nat.reduceLeDiff, Nat.reduceAdd, Nat.reduceMul, reduceCtorEq, Try.f7, hK, r1, r2, r3, r4, h1, h2, h3, h4, n8, n6, n3, n5, w1, w2, rf, sc_RunFaults0, hlm, hlc, km, kc, tM_toI, tI_toI, tM_len, tI_len, rowsC_len, rowsZ_len, List.take_succ_cons, List.take_zero, oRf, ne_run, i16]
  repeat' (first
    | ((with_reducible refine sl_i ?_ ?_); focus kernel_rfl)
    | ((with_reducible refine ro_i ?_ ?_); focus kernel_rfl)
    | ((with_reducible refine sl_e ?_); kernel_rfl)
    | ((with_reducible refine ro_e ?_); kernel_rfl)
    | ((first | (with_reducible refine gS_d ?_ ?_) | (with_reducible refine gS_dn ?_ ?_) | (with_reducible refine gS_i ?_ ?_)) <;> intro hg <;> (try simp -dsimp (maxSteps := 1000000) only [go_sem, List.forall_mem_nil, ↓reduceIte, Nat.reduceEqDiff, Nat.reduceLT, Nat.reduceLeDiff, Nat.reduceAdd, Nat.reduceMul, reduceCtorEq, Try.f7, hK, r1, r2, r3, r4, h1, h2, h3, h4, n8, n6, n3, n5, w1, w2, rf, sc_RunFaults0, hlm, hlc, km, kc, tM_toI, tI_toI, tM_len, tI_len, rowsC_len, rowsZ_len, List.take_succ_cons, List.take_zero, oRf, ne_run, i16, *])))
  intro O
  try simp -dsimp (maxSteps := 1000000) only [go_sem, List.forall_mem_nil, ↓reduceIte, Nat.reduceEqDiff, Nat.reduceLT, Nat.reduceLeDiff, Nat.reduceAdd, Nat.reduceMul, reduceCtorEq, Try.f7, hcanf, rr, sc_RunRack0, hlm, hlc, km, kc, rRun, tM_toI, tI_toI, tM_len, tI_len, rowsC_len, rowsZ_len, oRun, ne_run, i16]
  repeat' (first
    | ((with_reducible refine sl_i ?_ ?_); focus kernel_rfl)
    | ((with_reducible refine ro_i ?_ ?_); focus kernel_rfl)
    | ((with_reducible refine sl_e ?_); kernel_rfl)
    | ((with_reducible refine ro_e ?_); kernel_rfl)
    | ((first | (with_reducible refine gS_d ?_ ?_) | (with_reducible refine gS_dn ?_ ?_) | (with_reducible refine gS_i ?_ ?_)) <;> intro hg <;> (try simp -dsimp (maxSteps := 1000000) only [go_sem, List.forall_mem_nil, ↓reduceIte, Nat.reduceEqDiff, Nat.reduceLT, Nat.reduceLeDiff, Nat.reduceAdd, Nat.reduceMul, reduceCtorEq, Try.f7, hcanf, rr, sc_RunRack0, hlm, hlc, km, kc, rRun, tM_toI, tI_toI, tM_len, tI_len, rowsC_len, rowsZ_len, oRun, ne_run, i16, *])))
  intro O'
  obtain ⟨M, Y, Z, e1, e2, e3, lM, lY, lZ, okM, eT, eD⟩ := htest O O'
  have rs := run_SameRacks (ms := M) (cs := cs) (by omega) (by omega) okM
  have t1 := run_MakeSame (l := Z.take q1) (by simp; omega)
  have t2 := run_MakeSame (l := Z.drop (q1 + q2)) (by simp; omega)
  have c16 : ((16 : Nat) : Int) = 16 := rfl
  have kM : List.take 5 (tM M) = tM M := List.take_of_length_le (by rw [tM_len]; omega)
  have b0 : (0 ≤ (q1 : Int)) = True := eq_true (by omega)
  have b1 : ((q1 : Int) ≤ 16) = True := eq_true (by omega)
  have b2 : (0 ≤ ((q1 + q2 : Nat) : Int)) = True := eq_true (by omega)
  have b3 : (((q1 + q2 : Nat) : Int) ≤ 16) = True := eq_true (by omega)
  have b4 : (q1 ≤ 16) = True := eq_true (by omega)
  have b5 : (q1 + q2 + (16 - (q1 + q2)) ≤ 16) = True := eq_true (by omega)
  have b6 : List.take (16 - (q1 + q2)) (Z.drop (q1 + q2)) = Z.drop (q1 + q2) := List.take_of_length_le (by simp; omega)
  clear htest
  try simp -dsimp (maxSteps := 1000000) only [go_sem, List.forall_mem_nil, ↓reduceIte, Nat.reduceEqDiff, Nat.reduceLT, Nat.reduceLeDiff, Nat.reduceAdd, Nat.reduceMul, reduceCtorEq, Try.f7, hcan, e1, e2, e3, lM, lY, lZ, c16, rRun, sc_SameRacks, sc_MakeSame, rs, t1, t2, hlc, kM, kc, b0, b1, b2, b3, b4, b5, b6, i16, Nat.sub_zero, Int.toNat_natCast, tM_toI, tI_toI, tM_len, tI_len, rowsC_len, rowsZ_len, takeZ, dropZ, eT, eD]
  repeat' (first
    | ((with_reducible refine sl_i ?_ ?_); focus kernel_rfl)
    | ((with_reducible refine ro_i ?_ ?_); focus kernel_rfl)
    | ((with_reducible refine sl_e ?_); kernel_rfl)
    | ((with_reducible refine ro_e ?_); kernel_rfl)
    | ((first | (with_reducible refine gS_d ?_ ?_) | (with_reducible refine gS_dn ?_ ?_) | (with_reducible refine gS_i ?_ ?_)) <;> intro hg <;> (try simp -dsimp (maxSteps := 1000000) only [go_sem, List.forall_mem_nil, ↓reduceIte, Nat.reduceEqDiff, Nat.reduceLT, Nat.reduceLeDiff, Nat.reduceAdd, Nat.reduceMul, reduceCtorEq, Try.f7, hcan, e1, e2, e3, lM, lY, lZ, c16, rRun, sc_SameRacks, sc_MakeSame, rs, t1, t2, hlc, kM, kc, b0, b1, b2, b3, b4, b5, b6, i16, Nat.sub_zero, Int.toNat_natCast, tM_toI, tI_toI, tM_len, tI_len, rowsC_len, rowsZ_len, takeZ, dropZ, eT, eD, *])))
end Go.SX
