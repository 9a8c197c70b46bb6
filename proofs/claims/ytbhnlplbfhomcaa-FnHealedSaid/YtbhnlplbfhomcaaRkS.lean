/-
  stepRack: the walk.
  No condition.
-/
import Derived.Test.YtbhnlplbfhomcaaRkR
set_option linter.unusedVariables false
set_option linter.unusedSimpArgs false
namespace Go.SX
open Go Go.Proofs

theorem okR_rk {sc : Bool} {n : Nat} {l : List Pt} {ms : List Mod} {cs : List Cbl} : OkR sc { val := .c (.view 0 1 0 n), roots := [.arr 1 (tI (rowsZ l))], places := hsS ms cs } := by
  refine ⟨.c _ (.view _ _ _ _ (by simp)), fun r hr => by simp at hr; subst hr; exact mvR_tI (sc_rowsZ _), fun c hc => ?_⟩
  simp only [hsS, List.mem_cons, List.not_mem_nil, or_false] at hc
  subst hc
  intro x hx
  simp only [List.mem_cons, List.not_mem_nil, or_false] at hx
  rcases hx with rfl | rfl
  · exact .t _ (.own _ _ (mvR_tM (sz := 11) ms))
  · exact .t _ (mv_own (sc_rowsC _))
theorem MvR_M (ms : List Mod) : MvR false (.arr 11 (tM ms)) = True := eq_true (mvR_tM _)
theorem MvB_Z (l : List Pt) : MvB false (.t (.own 1 (tI (rowsZ l)))) = True := eq_true (.t _ (mv_own (sc_rowsZ _)))
theorem MvB_N (l : List Int) : MvB false (.t (.own 1 (tI (rowsN l)))) = True := eq_true (.t _ (mv_own (sc_rowsN _)))
theorem sc_step : (ct_step.sc = true) = True := by simp [ct_step, fam]
theorem rep_Z (n : Nat) : List.replicate n [T.im (.cpx .f32 0 0)] = tI (rowsZ (List.replicate n (0, 0))) := by simp [tI, rowsZ]
set_option maxRecDepth 100000 in
set_option maxHeartbeats 8000000 in
theorem law_stepRack : Law Try.prog 44 ct_stepRack := by
  refine fam_lawU (Env_cons law_order (Env_cons law_add (Env_cons law_feeds (Env_cons law_step (Env_cons law_asItIs Env_nil))))) hmixA Try.func44 rfl rfl (fun _ => [.unf 0 0 0, .unf 0 0 1]) (fun ⟨ms, cs, inn, ⟨u, v⟩, h1, h2, h3, h4⟩ => ⟨okA (fun o => okR_rk), by simp [Try.f44], ?_⟩)
  have hsm : sm = 16777216 := rfl
  have h1' : ms.length ≤ sm := by omega
  simp only [oRk, hsS]
  have hk1 : (0 ≤ (ms.length : Int)) = True := eq_true (by omega)
  have hk2 : ((ms.length : Int) ≤ 9223372036854775807) = True := eq_true (by omega)
  have hk3 : (((8 : Nat) : Int) * (ms.length : Int) ≤ 281474976710656) = True := eq_true (by omega)
  try simp -dsimp (maxSteps := 1000000) only [go_sem, List.forall_mem_nil, ↓reduceIte, Nat.reduceEqDiff, Nat.reduceLT, Nat.reduceLeDiff, Nat.reduceAdd, Nat.reduceMul, reduceCtorEq, Try.f44, tM_len, tI_len, rowsC_len, rep_Z, hk1, hk2, hk3, Int.toNat_natCast, List.length_replicate, rowsZ_len]
  repeat' (first
    | ((with_reducible refine sl_i ?_ ?_); focus kernel_rfl)
    | ((with_reducible refine ro_i ?_ ?_); focus kernel_rfl)
    | ((with_reducible refine sl_e ?_); kernel_rfl)
    | ((with_reducible refine ro_e ?_); kernel_rfl)
    | ((first | (with_reducible refine gS_d ?_ ?_) | (with_reducible refine gS_dn ?_ ?_) | (with_reducible refine gS_i ?_ ?_)) <;> intro hg <;> (try simp -dsimp (maxSteps := 1000000) only [go_sem, List.forall_mem_nil, ↓reduceIte, Nat.reduceEqDiff, Nat.reduceLT, Nat.reduceLeDiff, Nat.reduceAdd, Nat.reduceMul, reduceCtorEq, Try.f44, tM_len, tI_len, rowsC_len, rep_Z, hk1, hk2, hk3, Int.toNat_natCast, List.length_replicate, rowsZ_len, *])))
  refine loop_i (ι := { k : Nat // k ≤ ms.length }) (fun k => ⟨[(0, some (.c (.ptr 0 0 0 0))), (1, some (.c (.im (.int .i64 inn)))), (2, some (.c (.im (.cpx .f32 u v)))), (3, some (.c (.fn (.func 45) []))), (9, some (.c (.view 3 1 0 ms.length))), (29, some (.c (.view 1 11 0 ms.length))), (30, some (.c (.im (.int .i64 (ms.length : Int))))), (31, some (.c (.im (.int .i64 (k.1 : Int)))))],
    [(0, some (.box [.t (.lent 1 11 ms.length), .t (.lent 2 2 cs.length)])), (1, some (.arr 11 (tM ms))), (2, some (.arr 2 (tI (rowsC cs)))), (3, some (.arr 1 (tI (rowsZ (outsK ms k.1)))))], 4⟩) (fun k => ms.length - k.1) ⟨0, by simp⟩ ⟨[], [0, 1, 2, 3], by ((simp only [ne_eq, eq_self, subF, folds, wk1, subOk, sOk, hOk, nms, reF, rho, mapD, mapC, mapC1, NmD, NmC, NmC1, mapR, mapB, mapTt, NmR, NmB, NmT, MvRb, MvRn, MvRt, lk, ins, Root.get, Root.setT, List.map_cons, List.map_nil, List.nodup_cons, List.nodup_nil, List.not_mem_nil, List.mem_cons, not_false_eq_true, and_self, and_true, true_and, true_or, or_true, false_or, or_false, ↓reduceIte, Nat.reduceEqDiff, Nat.reduceLT, Nat.reduceLeDiff, reduceCtorEq, Option.isSome_some, List.forall_mem_cons, List.forall_mem_nil, implies_true, forall_const, Nat.le_refl, Nat.zero_le, false_implies, List.mem_singleton, MvB_im, MvB_nil, Mv_im, Option.some.injEq, D.c.injEq, C.im.injEq, I.int.injEq, List.getElem?_cons_zero, List.getElem?_cons_succ, List.set_cons_zero, List.set_cons_succ, List.length_cons, List.length_nil, Nat.zero_add, outsK_0, MvRt, MvR_M]) <;> (try (simp -dsimp only [ne_eq, eq_self, subF, folds, wk1, subOk, sOk, hOk, nms, reF, rho, mapD, mapC, mapC1, NmD, NmC, NmC1, mapR, mapB, mapTt, NmR, NmB, NmT, MvRb, MvRn, MvRt, lk, ins, Root.get, Root.setT, List.map_cons, List.map_nil, List.nodup_cons, List.nodup_nil, List.not_mem_nil, List.mem_cons, not_false_eq_true, and_self, and_true, true_and, true_or, or_true, false_or, or_false, ↓reduceIte, Nat.reduceEqDiff, Nat.reduceLT, Nat.reduceLeDiff, reduceCtorEq, Option.isSome_some, List.forall_mem_cons, List.forall_mem_nil, implies_true, forall_const, Nat.le_refl, Nat.zero_le, false_implies, List.mem_singleton, MvB_im, MvB_nil, Mv_im, Option.some.injEq, D.c.injEq, C.im.injEq, I.int.injEq, List.getElem?_cons_zero, List.getElem?_cons_succ, List.set_cons_zero, List.set_cons_succ, List.length_cons, List.length_nil, Nat.zero_add, outsK_0, MvRt, MvR_M]))) <;> simp [lk, MvB_im, outsK_0]⟩ (fun ⟨k, hk⟩ => ?_)
  by_cases hlt : k < ms.length
  · obtain ⟨m, hp⟩ : ∃ p, ms[k]? = some p := ⟨_, List.getElem?_eq_getElem hlt⟩
    obtain ⟨hok, hring, _⟩ := h3 m (List.mem_of_getElem? hp)
    have hgm := tM_at hp
    have hgs : ∀ X, ((tM ms).set k X)[k]? = some X := fun X => List.getElem?_set_self (by rw [tM_len]; exact hlt)
    have hself := set_self hgm
    have hmv : MvR false (.arr 11 (tM ms)) = True := eq_true (mvR_tM _)
    simp only [modT] at hgm hself
    have hI : ((k : Int) < (ms.length : Int)) = True := by simp; omega
    have h0 : (0 ≤ (k : Int)) = True := by simp
    have hwr := lt_sm h1' hlt
    by_cases hk4 : m.kind = 4
    · obtain ⟨hr0, hr1⟩ := hring hk4
      obtain ⟨n, hn⟩ := Int.eq_ofNat_of_zero_le hr0
      have hnl : n < m.store.length := by omega
      obtain ⟨p, hpp⟩ : ∃ p, m.store[n]? = some p := ⟨_, List.getElem?_eq_getElem hnl⟩
      have hrow := tIZ_at hpp
      have hI2 : ((n : Int) < (m.store.length : Int)) = True := by simp; omega
      have h02 : (0 ≤ (n : Int)) = True := by simp
      have hof : outF m = (p.1, p.2) := by simp [outF, hk4, hn, List.getD, hpp]
      have hset := outsK_set hp
      have hro := tIZ_at (outsK_at hlt)
      simp only at hro
      rw [hof] at hset
      rw [hk4, hn] at hgm hself
      try simp -dsimp (maxSteps := 1000000) only [go_sem, List.forall_mem_nil, ↓reduceIte, Nat.reduceEqDiff, Nat.reduceLT, Nat.reduceLeDiff, Nat.reduceAdd, Nat.reduceMul, reduceCtorEq, Try.f44, tM_len, tI_len, rowsC_len, rowsZ_len, rowsN_len, outsK_len hk, hI, h0, hI2, h02, hgm, hgs, hrow, hro, run_asItIs, tI_setZ, hset, hwr, List.set_set, Int.toNat_natCast]
      repeat' (first
        | ((with_reducible refine sl_i ?_ ?_); focus kernel_rfl)
        | ((with_reducible refine ro_i ?_ ?_); focus kernel_rfl)
        | ((with_reducible refine sl_e ?_); kernel_rfl)
        | ((with_reducible refine ro_e ?_); kernel_rfl)
        | ((first | (with_reducible refine gS_d ?_ ?_) | (with_reducible refine gS_dn ?_ ?_) | (with_reducible refine gS_i ?_ ?_)) <;> intro hg <;> (try simp -dsimp (maxSteps := 1000000) only [go_sem, List.forall_mem_nil, ↓reduceIte, Nat.reduceEqDiff, Nat.reduceLT, Nat.reduceLeDiff, Nat.reduceAdd, Nat.reduceMul, reduceCtorEq, Try.f44, tM_len, tI_len, rowsC_len, rowsZ_len, rowsN_len, outsK_len hk, hI, h0, hI2, h02, hgm, hgs, hrow, hro, run_asItIs, tI_setZ, hset, hwr, List.set_set, Int.toNat_natCast, *])))
      refine ⟨⟨k + 1, by omega⟩, by simp only []; omega, [.fold 1 k 4, .fold 1 k 7, .fold 1 k 8], [0, 1, 2, 3], ?_⟩
      ((simp only [ne_eq, eq_self, subF, folds, wk1, subOk, sOk, hOk, nms, reF, rho, mapD, mapC, mapC1, NmD, NmC, NmC1, mapR, mapB, mapTt, NmR, NmB, NmT, MvRb, MvRn, MvRt, lk, ins, Root.get, Root.setT, List.map_cons, List.map_nil, List.nodup_cons, List.nodup_nil, List.not_mem_nil, List.mem_cons, not_false_eq_true, and_self, and_true, true_and, true_or, or_true, false_or, or_false, ↓reduceIte, Nat.reduceEqDiff, Nat.reduceLT, Nat.reduceLeDiff, reduceCtorEq, Option.isSome_some, List.forall_mem_cons, List.forall_mem_nil, implies_true, forall_const, Nat.le_refl, Nat.zero_le, false_implies, List.mem_singleton, MvB_im, MvB_nil, Mv_im, Option.some.injEq, D.c.injEq, C.im.injEq, I.int.injEq, List.getElem?_cons_zero, List.getElem?_cons_succ, List.set_cons_zero, List.set_cons_succ, List.length_cons, List.length_nil, Nat.zero_add, Option.map_some, forall_eq_or_imp, forall_eq, tI_len, rowsZ_len, rowsN_len, hgs, List.set_set, hself, MvRt, hmv]) <;> (try (simp -dsimp only [ne_eq, eq_self, subF, folds, wk1, subOk, sOk, hOk, nms, reF, rho, mapD, mapC, mapC1, NmD, NmC, NmC1, mapR, mapB, mapTt, NmR, NmB, NmT, MvRb, MvRn, MvRt, lk, ins, Root.get, Root.setT, List.map_cons, List.map_nil, List.nodup_cons, List.nodup_nil, List.not_mem_nil, List.mem_cons, not_false_eq_true, and_self, and_true, true_and, true_or, or_true, false_or, or_false, ↓reduceIte, Nat.reduceEqDiff, Nat.reduceLT, Nat.reduceLeDiff, reduceCtorEq, Option.isSome_some, List.forall_mem_cons, List.forall_mem_nil, implies_true, forall_const, Nat.le_refl, Nat.zero_le, false_implies, List.mem_singleton, MvB_im, MvB_nil, Mv_im, Option.some.injEq, D.c.injEq, C.im.injEq, I.int.injEq, List.getElem?_cons_zero, List.getElem?_cons_succ, List.set_cons_zero, List.set_cons_succ, List.length_cons, List.length_nil, Nat.zero_add, Option.map_some, forall_eq_or_imp, forall_eq, tI_len, rowsZ_len, rowsN_len, hgs, List.set_set, hself, MvRt, hmv])))
      all_goals simp [lk, MvB_im]
    · have hset := outsK_no hp hk4
      have hk4' := eq_false hk4
      clear hk4
      try simp -dsimp (maxSteps := 1000000) only [go_sem, List.forall_mem_nil, ↓reduceIte, Nat.reduceEqDiff, Nat.reduceLT, Nat.reduceLeDiff, Nat.reduceAdd, Nat.reduceMul, reduceCtorEq, Try.f44, tM_len, tI_len, rowsC_len, rowsZ_len, rowsN_len, outsK_len hk, hI, h0, hgm, hgs, hk4', hwr, List.set_set, Int.toNat_natCast]
      repeat' (first
        | ((with_reducible refine sl_i ?_ ?_); focus kernel_rfl)
        | ((with_reducible refine ro_i ?_ ?_); focus kernel_rfl)
        | ((with_reducible refine sl_e ?_); kernel_rfl)
        | ((with_reducible refine ro_e ?_); kernel_rfl)
        | ((first | (with_reducible refine gS_d ?_ ?_) | (with_reducible refine gS_dn ?_ ?_) | (with_reducible refine gS_i ?_ ?_)) <;> intro hg <;> (try simp -dsimp (maxSteps := 1000000) only [go_sem, List.forall_mem_nil, ↓reduceIte, Nat.reduceEqDiff, Nat.reduceLT, Nat.reduceLeDiff, Nat.reduceAdd, Nat.reduceMul, reduceCtorEq, Try.f44, tM_len, tI_len, rowsC_len, rowsZ_len, rowsN_len, outsK_len hk, hI, h0, hgm, hgs, hk4', hwr, List.set_set, Int.toNat_natCast, *])))
      refine ⟨⟨k + 1, by omega⟩, by simp only []; omega, [.fold 1 k 4, .fold 1 k 7, .fold 1 k 8], [0, 1, 2, 3], ?_⟩
      ((simp only [ne_eq, eq_self, subF, folds, wk1, subOk, sOk, hOk, nms, reF, rho, mapD, mapC, mapC1, NmD, NmC, NmC1, mapR, mapB, mapTt, NmR, NmB, NmT, MvRb, MvRn, MvRt, lk, ins, Root.get, Root.setT, List.map_cons, List.map_nil, List.nodup_cons, List.nodup_nil, List.not_mem_nil, List.mem_cons, not_false_eq_true, and_self, and_true, true_and, true_or, or_true, false_or, or_false, ↓reduceIte, Nat.reduceEqDiff, Nat.reduceLT, Nat.reduceLeDiff, reduceCtorEq, Option.isSome_some, List.forall_mem_cons, List.forall_mem_nil, implies_true, forall_const, Nat.le_refl, Nat.zero_le, false_implies, List.mem_singleton, MvB_im, MvB_nil, Mv_im, Option.some.injEq, D.c.injEq, C.im.injEq, I.int.injEq, List.getElem?_cons_zero, List.getElem?_cons_succ, List.set_cons_zero, List.set_cons_succ, List.length_cons, List.length_nil, Nat.zero_add, Option.map_some, forall_eq_or_imp, forall_eq, tI_len, rowsZ_len, rowsN_len, hgs, List.set_set, hself, hset, MvRt, hmv]) <;> (try (simp -dsimp only [ne_eq, eq_self, subF, folds, wk1, subOk, sOk, hOk, nms, reF, rho, mapD, mapC, mapC1, NmD, NmC, NmC1, mapR, mapB, mapTt, NmR, NmB, NmT, MvRb, MvRn, MvRt, lk, ins, Root.get, Root.setT, List.map_cons, List.map_nil, List.nodup_cons, List.nodup_nil, List.not_mem_nil, List.mem_cons, not_false_eq_true, and_self, and_true, true_and, true_or, or_true, false_or, or_false, ↓reduceIte, Nat.reduceEqDiff, Nat.reduceLT, Nat.reduceLeDiff, reduceCtorEq, Option.isSome_some, List.forall_mem_cons, List.forall_mem_nil, implies_true, forall_const, Nat.le_refl, Nat.zero_le, false_implies, List.mem_singleton, MvB_im, MvB_nil, Mv_im, Option.some.injEq, D.c.injEq, C.im.injEq, I.int.injEq, List.getElem?_cons_zero, List.getElem?_cons_succ, List.set_cons_zero, List.set_cons_succ, List.length_cons, List.length_nil, Nat.zero_add, Option.map_some, forall_eq_or_imp, forall_eq, tI_len, rowsZ_len, rowsN_len, hgs, List.set_set, hself, hset, MvRt, hmv])))
      all_goals simp [lk, MvB_im]
  have hI : ((k : Int) < (ms.length : Int)) = False := eq_false (by omega)
  have hkl : k = ms.length := by omega
  subst hkl
  simp only [outsK_n]
  have hmvM := MvB_M ms
  have hmvC := MvB_C cs
  cases ho : orderF ms cs with
  | none =>
    have hro := run_order h1 h2 h4
    rw [ho] at hro
    have hL : ordL ms cs = [] := by simp [ordL, ho]
    have hS : ∀ o, stepRackF o cs inn (u, v) ms = (ms, outs0 ms) := fun o => by simp only [stepRackF, hL, sweep]
    try simp -dsimp (maxSteps := 1000000) only [go_sem, List.forall_mem_nil, ↓reduceIte, Nat.reduceEqDiff, Nat.reduceLT, Nat.reduceLeDiff, Nat.reduceAdd, Nat.reduceMul, reduceCtorEq, Try.f44, hI, sc_order, hro, oOrder, tM_len, tI_len, rowsC_len, tI_toI, tM_toI, take_M, take_C, rowsM_len]
    repeat' (first
      | ((with_reducible refine sl_i ?_ ?_); focus kernel_rfl)
      | ((with_reducible refine ro_i ?_ ?_); focus kernel_rfl)
      | ((with_reducible refine sl_e ?_); kernel_rfl)
      | ((with_reducible refine ro_e ?_); kernel_rfl)
      | ((first | (with_reducible refine gS_d ?_ ?_) | (with_reducible refine gS_dn ?_ ?_) | (with_reducible refine gS_i ?_ ?_)) <;> intro hg <;> (try simp -dsimp (maxSteps := 1000000) only [go_sem, List.forall_mem_nil, ↓reduceIte, Nat.reduceEqDiff, Nat.reduceLT, Nat.reduceLeDiff, Nat.reduceAdd, Nat.reduceMul, reduceCtorEq, Try.f44, hI, sc_order, hro, oOrder, tM_len, tI_len, rowsC_len, tI_toI, tM_toI, take_M, take_C, rowsM_len, *])))
    refine loop_i (ι := Unit) (fun _ => ⟨[(0, some (.c (.ptr 0 0 0 0))), (1, some (.c (.im (.int .i64 inn)))), (2, some (.c (.im (.cpx .f32 u v)))), (3, some (.c (.fn (.func 45) []))), (9, some (.c (.view 3 1 0 ms.length))), (61, some (.c .nil)), (62, some (.c (.im (.int .i64 0)))), (63, some (.c (.im (.int .i64 0))))],
      [(0, some (.box [.t (.lent 1 11 ms.length), .t (.lent 2 2 cs.length)])), (1, some (.arr 11 (tM ms))), (2, some (.arr 2 (tI (rowsC cs)))), (3, some (.arr 1 (tI (rowsZ (outs0 ms)))))], 4⟩) (fun _ => 0) () ⟨[], [0, 1, 2, 3], by ((simp only [ne_eq, eq_self, subF, folds, wk1, subOk, sOk, hOk, nms, reF, rho, mapD, mapC, mapC1, NmD, NmC, NmC1, mapR, mapB, mapTt, NmR, NmB, NmT, MvRb, MvRn, MvRt, lk, ins, Root.get, Root.setT, List.map_cons, List.map_nil, List.nodup_cons, List.nodup_nil, List.not_mem_nil, List.mem_cons, not_false_eq_true, and_self, and_true, true_and, true_or, or_true, false_or, or_false, ↓reduceIte, Nat.reduceEqDiff, Nat.reduceLT, Nat.reduceLeDiff, reduceCtorEq, Option.isSome_some, List.forall_mem_cons, List.forall_mem_nil, implies_true, forall_const, Nat.le_refl, Nat.zero_le, false_implies, List.mem_singleton, MvB_im, MvB_nil, Mv_im, Option.some.injEq, D.c.injEq, C.im.injEq, I.int.injEq, List.getElem?_cons_zero, List.getElem?_cons_succ, List.set_cons_zero, List.set_cons_succ, List.length_cons, List.length_nil, Nat.zero_add, MvRt, MvR_M]) <;> (try (simp -dsimp only [ne_eq, eq_self, subF, folds, wk1, subOk, sOk, hOk, nms, reF, rho, mapD, mapC, mapC1, NmD, NmC, NmC1, mapR, mapB, mapTt, NmR, NmB, NmT, MvRb, MvRn, MvRt, lk, ins, Root.get, Root.setT, List.map_cons, List.map_nil, List.nodup_cons, List.nodup_nil, List.not_mem_nil, List.mem_cons, not_false_eq_true, and_self, and_true, true_and, true_or, or_true, false_or, or_false, ↓reduceIte, Nat.reduceEqDiff, Nat.reduceLT, Nat.reduceLeDiff, reduceCtorEq, Option.isSome_some, List.forall_mem_cons, List.forall_mem_nil, implies_true, forall_const, Nat.le_refl, Nat.zero_le, false_implies, List.mem_singleton, MvB_im, MvB_nil, Mv_im, Option.some.injEq, D.c.injEq, C.im.injEq, I.int.injEq, List.getElem?_cons_zero, List.getElem?_cons_succ, List.set_cons_zero, List.set_cons_succ, List.length_cons, List.length_nil, Nat.zero_add, MvRt, MvR_M]))) <;> simp [lk, MvB_im]⟩ (fun _ => ?_)
    try simp -dsimp (maxSteps := 1000000) only [go_sem, List.forall_mem_nil, ↓reduceIte, Nat.reduceEqDiff, Nat.reduceLT, Nat.reduceLeDiff, Nat.reduceAdd, Nat.reduceMul, reduceCtorEq, Try.f44, Int.lt_irrefl]
    repeat' (first
      | ((with_reducible refine sl_i ?_ ?_); focus kernel_rfl)
      | ((with_reducible refine ro_i ?_ ?_); focus kernel_rfl)
      | ((with_reducible refine sl_e ?_); kernel_rfl)
      | ((with_reducible refine ro_e ?_); kernel_rfl)
      | ((first | (with_reducible refine gS_d ?_ ?_) | (with_reducible refine gS_dn ?_ ?_) | (with_reducible refine gS_i ?_ ?_)) <;> intro hg <;> (try simp -dsimp (maxSteps := 1000000) only [go_sem, List.forall_mem_nil, ↓reduceIte, Nat.reduceEqDiff, Nat.reduceLT, Nat.reduceLeDiff, Nat.reduceAdd, Nat.reduceMul, reduceCtorEq, Try.f44, Int.lt_irrefl, *])))
    refine finF_i [.fold 0 0 0, .fold 0 0 1] ?_
    simp -dsimp (maxSteps := 1000000) only [go_sem, List.forall_mem_nil, ↓reduceIte, Nat.reduceEqDiff, Nat.reduceLT, Nat.reduceLeDiff, Nat.reduceAdd, Nat.reduceMul, reduceCtorEq, tI_len, tM_len, rowsC_len, hS]
    refine ⟨[3], ?_, ?_, ?_, rfl⟩ <;> simp [rtOk]
  | some L =>
    have hro := run_order h1 h2 h4
    rw [ho] at hro
    try simp -dsimp (maxSteps := 1000000) only [go_sem, List.forall_mem_nil, ↓reduceIte, Nat.reduceEqDiff, Nat.reduceLT, Nat.reduceLeDiff, Nat.reduceAdd, Nat.reduceMul, reduceCtorEq, Try.f44, hI, sc_order, hro, oOrder, tM_len, tI_len, rowsC_len, tI_toI, tM_toI, take_M, take_C, rowsM_len]
    repeat' (first
      | ((with_reducible refine sl_i ?_ ?_); focus kernel_rfl)
      | ((with_reducible refine ro_i ?_ ?_); focus kernel_rfl)
      | ((with_reducible refine sl_e ?_); kernel_rfl)
      | ((with_reducible refine ro_e ?_); kernel_rfl)
      | ((first | (with_reducible refine gS_d ?_ ?_) | (with_reducible refine gS_dn ?_ ?_) | (with_reducible refine gS_i ?_ ?_)) <;> intro hg <;> (try simp -dsimp (maxSteps := 1000000) only [go_sem, List.forall_mem_nil, ↓reduceIte, Nat.reduceEqDiff, Nat.reduceLT, Nat.reduceLeDiff, Nat.reduceAdd, Nat.reduceMul, reduceCtorEq, Try.f44, hI, sc_order, hro, oOrder, tM_len, tI_len, rowsC_len, tI_toI, tM_toI, take_M, take_C, rowsM_len, *])))
    have hL : ordL ms cs = L := by simp [ordL, ho]
    have hLl : ∀ i ∈ L, 0 ≤ i ∧ i < ms.length := fun i hi => ordL_lt i (by rw [hL]; exact hi)
    have hLs : L.length ≤ ms.length := by rw [← hL]; exact ordL_len ms cs
    refine loop_i (ι := { x : Nat × (Nat → Or) // x.1 ≤ L.length }) (fun x => ⟨[(0, some (.c (.ptr 0 0 0 0))), (1, some (.c (.im (.int .i64 inn)))), (2, some (.c (.im (.cpx .f32 u v)))), (3, some (.c (.fn (.func 45) []))), (9, some (.c (.view 3 1 0 ms.length))), (61, some (.c (.view 4 1 0 L.length))), (62, some (.c (.im (.int .i64 (L.length : Int))))), (63, some (.c (.im (.int .i64 (x.1.1 : Int)))))],
      [(0, some (.box [.t (.lent 1 11 ms.length), .t (.lent 2 2 cs.length)])), (1, some (.arr 11 (tM (sweep x.1.2 cs inn (u, v) (L.take x.1.1) 0 (ms, outs0 ms)).1))), (2, some (.arr 2 (tI (rowsC cs)))), (3, some (.arr 1 (tI (rowsZ (sweep x.1.2 cs inn (u, v) (L.take x.1.1) 0 (ms, outs0 ms)).2)))), (4, some (.arr 1 (tI (rowsN L))))], 5⟩) (fun x => L.length - x.1.1) ⟨(0, fun _ => ((0, 0), (0, 0))), by simp⟩ ⟨[], [0, 1, 2, 3, 4], by ((simp only [ne_eq, eq_self, subF, folds, wk1, subOk, sOk, hOk, nms, reF, rho, mapD, mapC, mapC1, NmD, NmC, NmC1, mapR, mapB, mapTt, NmR, NmB, NmT, MvRb, MvRn, MvRt, lk, ins, Root.get, Root.setT, List.map_cons, List.map_nil, List.nodup_cons, List.nodup_nil, List.not_mem_nil, List.mem_cons, not_false_eq_true, and_self, and_true, true_and, true_or, or_true, false_or, or_false, ↓reduceIte, Nat.reduceEqDiff, Nat.reduceLT, Nat.reduceLeDiff, reduceCtorEq, Option.isSome_some, List.forall_mem_cons, List.forall_mem_nil, implies_true, forall_const, Nat.le_refl, Nat.zero_le, false_implies, List.mem_singleton, MvB_im, MvB_nil, Mv_im, Option.some.injEq, D.c.injEq, C.im.injEq, I.int.injEq, List.getElem?_cons_zero, List.getElem?_cons_succ, List.set_cons_zero, List.set_cons_succ, List.length_cons, List.length_nil, Nat.zero_add, MvRt, MvR_M, List.take_zero, sweep]) <;> (try (simp -dsimp only [ne_eq, eq_self, subF, folds, wk1, subOk, sOk, hOk, nms, reF, rho, mapD, mapC, mapC1, NmD, NmC, NmC1, mapR, mapB, mapTt, NmR, NmB, NmT, MvRb, MvRn, MvRt, lk, ins, Root.get, Root.setT, List.map_cons, List.map_nil, List.nodup_cons, List.nodup_nil, List.not_mem_nil, List.mem_cons, not_false_eq_true, and_self, and_true, true_and, true_or, or_true, false_or, or_false, ↓reduceIte, Nat.reduceEqDiff, Nat.reduceLT, Nat.reduceLeDiff, reduceCtorEq, Option.isSome_some, List.forall_mem_cons, List.forall_mem_nil, implies_true, forall_const, Nat.le_refl, Nat.zero_le, false_implies, List.mem_singleton, MvB_im, MvB_nil, Mv_im, Option.some.injEq, D.c.injEq, C.im.injEq, I.int.injEq, List.getElem?_cons_zero, List.getElem?_cons_succ, List.set_cons_zero, List.set_cons_succ, List.length_cons, List.length_nil, Nat.zero_add, MvRt, MvR_M, List.take_zero, sweep]))) <;> simp [lk, MvB_im]⟩ (fun ⟨⟨j, o⟩, hj⟩ => ?_)
    have hSl := sweep_len (o := o) (cs := cs) (inn := inn) (z := (u, v)) (L.take j) 0 (ms, outs0 ms)
    have hSo := sweep_ok (o := o) (cs := cs) (inn := inn) (z := (u, v)) (L.take j) 0 (ms, outs0 ms) (fun i hi => hLl i (List.mem_of_mem_take hi)) h3
    have hnx := fun (i : Int) (hi : L[j]? = some i) => sweep_next (o := o) (cs := cs) (inn := inn) (z := (u, v)) (s0 := (ms, outs0 ms)) hi
    have hfin : j = L.length → stepRackF o cs inn (u, v) ms = sweep o cs inn (u, v) (L.take j) 0 (ms, outs0 ms) := fun e => by subst e; simp only [stepRackF, hL, List.take_length]
    simp only
    generalize hs : sweep o cs inn (u, v) (L.take j) 0 (ms, outs0 ms) = s at *
    obtain ⟨a, b⟩ := s
    simp only at hSl hSo hnx ⊢
    have hal : a.length = ms.length := hSl.1
    have hbl : b.length = ms.length := by rw [hSl.2]; simp [outs0]
    have htk : (tM a).take ms.length = tM a := by rw [← hal]; exact take_M a
    by_cases hlt : j < L.length
    rotate_left
    · have hI : ((j : Int) < (L.length : Int)) = False := eq_false (by omega)
      have hf := hfin (by omega)
      try simp -dsimp (maxSteps := 1000000) only [go_sem, List.forall_mem_nil, ↓reduceIte, Nat.reduceEqDiff, Nat.reduceLT, Nat.reduceLeDiff, Nat.reduceAdd, Nat.reduceMul, reduceCtorEq, Try.f44, hI]
      repeat' (first
        | ((with_reducible refine sl_i ?_ ?_); focus kernel_rfl)
        | ((with_reducible refine ro_i ?_ ?_); focus kernel_rfl)
        | ((with_reducible refine sl_e ?_); kernel_rfl)
        | ((with_reducible refine ro_e ?_); kernel_rfl)
        | ((first | (with_reducible refine gS_d ?_ ?_) | (with_reducible refine gS_dn ?_ ?_) | (with_reducible refine gS_i ?_ ?_)) <;> intro hg <;> (try simp -dsimp (maxSteps := 1000000) only [go_sem, List.forall_mem_nil, ↓reduceIte, Nat.reduceEqDiff, Nat.reduceLT, Nat.reduceLeDiff, Nat.reduceAdd, Nat.reduceMul, reduceCtorEq, Try.f44, hI, *])))
      refine finF_i [.fold 0 0 0, .fold 0 0 1] ?_
      simp -dsimp (maxSteps := 1000000) only [go_sem, List.forall_mem_nil, ↓reduceIte, Nat.reduceEqDiff, Nat.reduceLT, Nat.reduceLeDiff, Nat.reduceAdd, Nat.reduceMul, reduceCtorEq, tI_len, tM_len, rowsC_len, hal]
      refine ⟨o, ?_⟩
      rw [hf]
      refine ⟨rfl, [3], ?_, ?_, ?_, rfl⟩ <;> simp [rtOk]
    obtain ⟨i, hi⟩ : ∃ i, L[j]? = some i := ⟨_, List.getElem?_eq_getElem hlt⟩
    obtain ⟨hi0, hi1⟩ := hLl i (List.mem_of_getElem? hi)
    obtain ⟨n, rfl⟩ := Int.eq_ofNat_of_zero_le hi0
    have hnl : n < ms.length := by omega
    obtain ⟨m, hm⟩ : ∃ m, a[n]? = some m := ⟨_, List.getElem?_eq_getElem (by omega)⟩
    obtain ⟨p0, hp0⟩ : ∃ p, b[n]? = some p := ⟨_, List.getElem?_eq_getElem (by omega)⟩
    have hrow := tIN_at hi
    have hI : ((j : Int) < (L.length : Int)) = True := by simp; omega
    have h0 : (0 ≤ (j : Int)) = True := by simp
    have hIn : ((n : Int) < (ms.length : Int)) = True := by simp; omega
    have h0n : (0 ≤ (n : Int)) = True := by simp
    have hwr := lt_sm (by omega : L.length ≤ sm) hlt
    have hrf := run_feeds (ms := a) h2 n
    have hFl : (feedsF cs n).length ≤ sm := Nat.le_trans (feeds_le _ _) h2
    have hFm := feeds_mem (i := (n : Int)) h4
    have hsK := fun (k : Nat) (f : Int) (hf : (feedsF cs n)[k]? = some f) => inSumK_s (cs := cs) (i := n) (inn := inn) (z := (u, v)) (outs := b) hf
    have hsN := inSumK_n (cs := cs) (i := (n : Int)) (inn := inn) (z := (u, v)) (outs := b)
    have hgm := tM_at hm
    simp only [modT] at hgm
    have hgs : ∀ m' : Mod, (tM (a.set n m'))[n]? = some (modT m') := fun m' => tM_at (List.getElem?_set_self (by omega))
    have htS : ∀ m' : Mod, (tM a).set n (modT m') = tM (a.set n m') := fun m' => tM_set a n m'
    simp only [modT] at hgs htS
    have hrs : ∀ w1 w2 : Nat, ct_step.run [.c (.ptr 0 0 0 0), .c (.im (.cpx .f32 w1 w2))] [modB m] = some (oStep m (w1, w2)) := fun w1 w2 => run_step (hSo m (List.mem_of_getElem? hm)) w1 w2
    simp only [modB] at hrs
    have hro := tIZ_at hp0
    have hkS : ∀ (o1 : Or) (w : Pt), (stepF o1 m w).1.kind = m.kind := fun o1 w => stepF_kind o1 m w
    by_cases hin : (n : Int) = inn
    · have hin' := eq_true hin
      have hz0 : inSumK cs n inn (u, v) b 0 = addPt (0, 0) (u, v) := by simp only [inSumK, List.take_zero, List.foldl_nil, hin', if_true]
      clear hin
      try simp -dsimp (maxSteps := 1000000) only [go_sem, List.forall_mem_nil, ↓reduceIte, Nat.reduceEqDiff, Nat.reduceLT, Nat.reduceLeDiff, Nat.reduceAdd, Nat.reduceMul, reduceCtorEq, Try.f44, hI, h0, hrow, hin', hrf, run_add, sc_feeds, tI_toI, tM_toI, htk, take_C, rowsM_len, rowsN_len, tM_len, tI_len, rowsC_len, hal, rNew, Int.toNat_natCast]
      repeat' (first
        | ((with_reducible refine sl_i ?_ ?_); focus kernel_rfl)
        | ((with_reducible refine ro_i ?_ ?_); focus kernel_rfl)
        | ((with_reducible refine sl_e ?_); kernel_rfl)
        | ((with_reducible refine ro_e ?_); kernel_rfl)
        | ((first | (with_reducible refine gS_d ?_ ?_) | (with_reducible refine gS_dn ?_ ?_) | (with_reducible refine gS_i ?_ ?_)) <;> intro hg <;> (try simp -dsimp (maxSteps := 1000000) only [go_sem, List.forall_mem_nil, ↓reduceIte, Nat.reduceEqDiff, Nat.reduceLT, Nat.reduceLeDiff, Nat.reduceAdd, Nat.reduceMul, reduceCtorEq, Try.f44, hI, h0, hrow, hin', hrf, run_add, sc_feeds, tI_toI, tM_toI, htk, take_C, rowsM_len, rowsN_len, tM_len, tI_len, rowsC_len, hal, rNew, Int.toNat_natCast, *])))
      refine loop_i (ι := { k : Nat // k ≤ (feedsF cs n).length }) (fun k => ⟨[(0, some (.c (.ptr 0 0 0 0))), (1, some (.c (.im (.int .i64 inn)))), (2, some (.c (.im (.cpx .f32 u v)))), (3, some (.c (.fn (.func 45) []))), (9, some (.c (.view 3 1 0 ms.length))), (15, some (.c (.im (.int .i64 (n : Int))))), (16, some (.c (.im (.cpx .f32 (inSumK cs n inn (u, v) b k.1).1 (inSumK cs n inn (u, v) b k.1).2)))), (61, some (.c (.view 4 1 0 L.length))), (62, some (.c (.im (.int .i64 (L.length : Int))))), (63, some (.c (.im (.int .i64 (j : Int))))), (77, some (.c (.view 5 1 0 (feedsF cs n).length))), (78, some (.c (.im (.int .i64 ((feedsF cs n).length : Int))))), (79, some (.c (.im (.int .i64 (k.1 : Int)))))],
        [(0, some (.box [.t (.lent 1 11 ms.length), .t (.lent 2 2 cs.length)])), (1, some (.arr 11 (tM a))), (2, some (.arr 2 (tI (rowsC cs)))), (3, some (.arr 1 (tI (rowsZ b)))), (4, some (.arr 1 (tI (rowsN L)))), (5, some (.arr 1 (tI (rowsN (feedsF cs n)))))], 6⟩) (fun k => (feedsF cs n).length - k.1) ⟨0, by simp⟩ ⟨[], [0, 1, 2, 3, 4, 5], by ((simp only [ne_eq, eq_self, subF, folds, wk1, subOk, sOk, hOk, nms, reF, rho, mapD, mapC, mapC1, NmD, NmC, NmC1, mapR, mapB, mapTt, NmR, NmB, NmT, MvRb, MvRn, MvRt, lk, ins, Root.get, Root.setT, List.map_cons, List.map_nil, List.nodup_cons, List.nodup_nil, List.not_mem_nil, List.mem_cons, not_false_eq_true, and_self, and_true, true_and, true_or, or_true, false_or, or_false, ↓reduceIte, Nat.reduceEqDiff, Nat.reduceLT, Nat.reduceLeDiff, reduceCtorEq, Option.isSome_some, List.forall_mem_cons, List.forall_mem_nil, implies_true, forall_const, Nat.le_refl, Nat.zero_le, false_implies, List.mem_singleton, MvB_im, MvB_nil, Mv_im, Option.some.injEq, D.c.injEq, C.im.injEq, I.int.injEq, List.getElem?_cons_zero, List.getElem?_cons_succ, List.set_cons_zero, List.set_cons_succ, List.length_cons, List.length_nil, Nat.zero_add, MvRt, MvR_M, hz0]) <;> (try (simp -dsimp only [ne_eq, eq_self, subF, folds, wk1, subOk, sOk, hOk, nms, reF, rho, mapD, mapC, mapC1, NmD, NmC, NmC1, mapR, mapB, mapTt, NmR, NmB, NmT, MvRb, MvRn, MvRt, lk, ins, Root.get, Root.setT, List.map_cons, List.map_nil, List.nodup_cons, List.nodup_nil, List.not_mem_nil, List.mem_cons, not_false_eq_true, and_self, and_true, true_and, true_or, or_true, false_or, or_false, ↓reduceIte, Nat.reduceEqDiff, Nat.reduceLT, Nat.reduceLeDiff, reduceCtorEq, Option.isSome_some, List.forall_mem_cons, List.forall_mem_nil, implies_true, forall_const, Nat.le_refl, Nat.zero_le, false_implies, List.mem_singleton, MvB_im, MvB_nil, Mv_im, Option.some.injEq, D.c.injEq, C.im.injEq, I.int.injEq, List.getElem?_cons_zero, List.getElem?_cons_succ, List.set_cons_zero, List.set_cons_succ, List.length_cons, List.length_nil, Nat.zero_add, MvRt, MvR_M, hz0]))) <;> simp [lk, MvB_im]⟩ (fun ⟨k, hk⟩ => ?_)
      by_cases hkl : k < (feedsF cs n).length
      · obtain ⟨f, hf⟩ : ∃ f, (feedsF cs n)[k]? = some f := ⟨_, List.getElem?_eq_getElem hkl⟩
        obtain ⟨hf0, hf1⟩ := hFm f (List.mem_of_getElem? hf)
        obtain ⟨q, rfl⟩ := Int.eq_ofNat_of_zero_le hf0
        have hql : q < ms.length := by omega
        obtain ⟨p, hp⟩ : ∃ p, b[q]? = some p := ⟨_, List.getElem?_eq_getElem (by omega)⟩
        have hrow3 := tIN_at hf
        have hrow4 := tIZ_at hp
        have hI3 : ((k : Int) < ((feedsF cs n).length : Int)) = True := by simp; omega
        have h03 : (0 ≤ (k : Int)) = True := by simp
        have hIq : ((q : Int) < (ms.length : Int)) = True := by simp; omega
        have h0q : (0 ≤ (q : Int)) = True := by simp
        have hwr3 := lt_sm hFl hkl
        have hs1 := hsK k q hf
        rw [show b.getD (q : Int).toNat (0, 0) = p by simp [List.getD, hp]] at hs1
        try simp -dsimp (maxSteps := 1000000) only [go_sem, List.forall_mem_nil, ↓reduceIte, Nat.reduceEqDiff, Nat.reduceLT, Nat.reduceLeDiff, Nat.reduceAdd, Nat.reduceMul, reduceCtorEq, Try.f44, hI3, h03, hIq, h0q, hrow3, hrow4, hwr3, run_add, Int.toNat_natCast]
        repeat' (first
          | ((with_reducible refine sl_i ?_ ?_); focus kernel_rfl)
          | ((with_reducible refine ro_i ?_ ?_); focus kernel_rfl)
          | ((with_reducible refine sl_e ?_); kernel_rfl)
          | ((with_reducible refine ro_e ?_); kernel_rfl)
          | ((first | (with_reducible refine gS_d ?_ ?_) | (with_reducible refine gS_dn ?_ ?_) | (with_reducible refine gS_i ?_ ?_)) <;> intro hg <;> (try simp -dsimp (maxSteps := 1000000) only [go_sem, List.forall_mem_nil, ↓reduceIte, Nat.reduceEqDiff, Nat.reduceLT, Nat.reduceLeDiff, Nat.reduceAdd, Nat.reduceMul, reduceCtorEq, Try.f44, hI3, h03, hIq, h0q, hrow3, hrow4, hwr3, run_add, Int.toNat_natCast, *])))
        exact ⟨⟨k + 1, by omega⟩, by simp only []; omega, [], [0, 1, 2, 3, 4, 5], by ((simp only [ne_eq, eq_self, subF, folds, wk1, subOk, sOk, hOk, nms, reF, rho, mapD, mapC, mapC1, NmD, NmC, NmC1, mapR, mapB, mapTt, NmR, NmB, NmT, MvRb, MvRn, MvRt, lk, ins, Root.get, Root.setT, List.map_cons, List.map_nil, List.nodup_cons, List.nodup_nil, List.not_mem_nil, List.mem_cons, not_false_eq_true, and_self, and_true, true_and, true_or, or_true, false_or, or_false, ↓reduceIte, Nat.reduceEqDiff, Nat.reduceLT, Nat.reduceLeDiff, reduceCtorEq, Option.isSome_some, List.forall_mem_cons, List.forall_mem_nil, implies_true, forall_const, Nat.le_refl, Nat.zero_le, false_implies, List.mem_singleton, MvB_im, MvB_nil, Mv_im, Option.some.injEq, D.c.injEq, C.im.injEq, I.int.injEq, List.getElem?_cons_zero, List.getElem?_cons_succ, List.set_cons_zero, List.set_cons_succ, List.length_cons, List.length_nil, Nat.zero_add, MvRt, MvR_M, hs1]) <;> (try (simp -dsimp only [ne_eq, eq_self, subF, folds, wk1, subOk, sOk, hOk, nms, reF, rho, mapD, mapC, mapC1, NmD, NmC, NmC1, mapR, mapB, mapTt, NmR, NmB, NmT, MvRb, MvRn, MvRt, lk, ins, Root.get, Root.setT, List.map_cons, List.map_nil, List.nodup_cons, List.nodup_nil, List.not_mem_nil, List.mem_cons, not_false_eq_true, and_self, and_true, true_and, true_or, or_true, false_or, or_false, ↓reduceIte, Nat.reduceEqDiff, Nat.reduceLT, Nat.reduceLeDiff, reduceCtorEq, Option.isSome_some, List.forall_mem_cons, List.forall_mem_nil, implies_true, forall_const, Nat.le_refl, Nat.zero_le, false_implies, List.mem_singleton, MvB_im, MvB_nil, Mv_im, Option.some.injEq, D.c.injEq, C.im.injEq, I.int.injEq, List.getElem?_cons_zero, List.getElem?_cons_succ, List.set_cons_zero, List.set_cons_succ, List.length_cons, List.length_nil, Nat.zero_add, MvRt, MvR_M, hs1]))) <;> simp [lk, MvB_im]⟩
      have hI3 : ((k : Int) < ((feedsF cs n).length : Int)) = False := eq_false (by omega)
      have hkl2 : k = (feedsF cs n).length := by omega
      clear hkl
      subst hkl2
      rw [hsN]
      have hs1 := hnx n hi
      simp only [sweep1, Int.toNat_natCast, show a.getD n dMod = m by simp [List.getD, hm]] at hs1
      generalize inSum cs n inn (u, v) b = zz at *
      obtain ⟨z1, z2⟩ := zz
      by_cases hk4 : m.kind = 4
      · have hk4' : ∀ o1 : Or, ((stepF o1 m (z1, z2)).1.kind = 4) = True := fun o1 => eq_true (by rw [hkS]; exact hk4)
        simp only [hk4, if_true] at hs1
        try simp -dsimp (maxSteps := 1000000) only [go_sem, List.forall_mem_nil, ↓reduceIte, Nat.reduceEqDiff, Nat.reduceLT, Nat.reduceLeDiff, Nat.reduceAdd, Nat.reduceMul, reduceCtorEq, Try.f44, hI3, hIn, h0n, hgm, hrs, oStep, ne_or, modB, hgs, htS, hk4', hwr, hal, MvB_Z, MvB_N, Int.toNat_natCast]
        repeat' (first
          | ((with_reducible refine sl_i ?_ ?_); focus kernel_rfl)
          | ((with_reducible refine ro_i ?_ ?_); focus kernel_rfl)
          | ((with_reducible refine sl_e ?_); kernel_rfl)
          | ((with_reducible refine ro_e ?_); kernel_rfl)
          | ((first | (with_reducible refine gS_d ?_ ?_) | (with_reducible refine gS_dn ?_ ?_) | (with_reducible refine gS_i ?_ ?_)) <;> intro hg <;> (try simp -dsimp (maxSteps := 1000000) only [go_sem, List.forall_mem_nil, ↓reduceIte, Nat.reduceEqDiff, Nat.reduceLT, Nat.reduceLeDiff, Nat.reduceAdd, Nat.reduceMul, reduceCtorEq, Try.f44, hI3, hIn, h0n, hgm, hrs, oStep, ne_or, modB, hgs, htS, hk4', hwr, hal, MvB_Z, MvB_N, Int.toNat_natCast, *])))
        intro o1
        refine ⟨⟨(j + 1, fun q => if q = j then o1 else o q), by simp only []; omega⟩, by simp only []; omega, [], [0, 1, 2, 3, 4], ?_⟩
        simp only [hs1 o1]
        ((simp only [ne_eq, eq_self, subF, folds, wk1, subOk, sOk, hOk, nms, reF, rho, mapD, mapC, mapC1, NmD, NmC, NmC1, mapR, mapB, mapTt, NmR, NmB, NmT, MvRb, MvRn, MvRt, lk, ins, Root.get, Root.setT, List.map_cons, List.map_nil, List.nodup_cons, List.nodup_nil, List.not_mem_nil, List.mem_cons, not_false_eq_true, and_self, and_true, true_and, true_or, or_true, false_or, or_false, ↓reduceIte, Nat.reduceEqDiff, Nat.reduceLT, Nat.reduceLeDiff, reduceCtorEq, Option.isSome_some, List.forall_mem_cons, List.forall_mem_nil, implies_true, forall_const, Nat.le_refl, Nat.zero_le, false_implies, List.mem_singleton, MvB_im, MvB_nil, Mv_im, Option.some.injEq, D.c.injEq, C.im.injEq, I.int.injEq, List.getElem?_cons_zero, List.getElem?_cons_succ, List.set_cons_zero, List.set_cons_succ, List.length_cons, List.length_nil, Nat.zero_add, MvRt, MvR_M]) <;> (try (simp -dsimp only [ne_eq, eq_self, subF, folds, wk1, subOk, sOk, hOk, nms, reF, rho, mapD, mapC, mapC1, NmD, NmC, NmC1, mapR, mapB, mapTt, NmR, NmB, NmT, MvRb, MvRn, MvRt, lk, ins, Root.get, Root.setT, List.map_cons, List.map_nil, List.nodup_cons, List.nodup_nil, List.not_mem_nil, List.mem_cons, not_false_eq_true, and_self, and_true, true_and, true_or, or_true, false_or, or_false, ↓reduceIte, Nat.reduceEqDiff, Nat.reduceLT, Nat.reduceLeDiff, reduceCtorEq, Option.isSome_some, List.forall_mem_cons, List.forall_mem_nil, implies_true, forall_const, Nat.le_refl, Nat.zero_le, false_implies, List.mem_singleton, MvB_im, MvB_nil, Mv_im, Option.some.injEq, D.c.injEq, C.im.injEq, I.int.injEq, List.getElem?_cons_zero, List.getElem?_cons_succ, List.set_cons_zero, List.set_cons_succ, List.length_cons, List.length_nil, Nat.zero_add, MvRt, MvR_M])))
        all_goals simp [lk, MvB_im]
      · have hk4' : ∀ o1 : Or, ((stepF o1 m (z1, z2)).1.kind = 4) = False := fun o1 => eq_false (by rw [hkS]; exact hk4)
        simp only [hk4, if_false] at hs1
        try simp -dsimp (maxSteps := 1000000) only [go_sem, List.forall_mem_nil, ↓reduceIte, Nat.reduceEqDiff, Nat.reduceLT, Nat.reduceLeDiff, Nat.reduceAdd, Nat.reduceMul, reduceCtorEq, Try.f44, hI3, hIn, h0n, hgm, hrs, oStep, ne_or, modB, hgs, htS, hk4', hro, hwr, hal, MvB_Z, MvB_N, run_asItIs, tI_setZ, Int.toNat_natCast]
        repeat' (first
          | ((with_reducible refine sl_i ?_ ?_); focus kernel_rfl)
          | ((with_reducible refine ro_i ?_ ?_); focus kernel_rfl)
          | ((with_reducible refine sl_e ?_); kernel_rfl)
          | ((with_reducible refine ro_e ?_); kernel_rfl)
          | ((first | (with_reducible refine gS_d ?_ ?_) | (with_reducible refine gS_dn ?_ ?_) | (with_reducible refine gS_i ?_ ?_)) <;> intro hg <;> (try simp -dsimp (maxSteps := 1000000) only [go_sem, List.forall_mem_nil, ↓reduceIte, Nat.reduceEqDiff, Nat.reduceLT, Nat.reduceLeDiff, Nat.reduceAdd, Nat.reduceMul, reduceCtorEq, Try.f44, hI3, hIn, h0n, hgm, hrs, oStep, ne_or, modB, hgs, htS, hk4', hro, hwr, hal, MvB_Z, MvB_N, run_asItIs, tI_setZ, Int.toNat_natCast, *])))
        intro o1
        refine ⟨⟨(j + 1, fun q => if q = j then o1 else o q), by simp only []; omega⟩, by simp only []; omega, [], [0, 1, 2, 3, 4], ?_⟩
        simp only [hs1 o1]
        ((simp only [ne_eq, eq_self, subF, folds, wk1, subOk, sOk, hOk, nms, reF, rho, mapD, mapC, mapC1, NmD, NmC, NmC1, mapR, mapB, mapTt, NmR, NmB, NmT, MvRb, MvRn, MvRt, lk, ins, Root.get, Root.setT, List.map_cons, List.map_nil, List.nodup_cons, List.nodup_nil, List.not_mem_nil, List.mem_cons, not_false_eq_true, and_self, and_true, true_and, true_or, or_true, false_or, or_false, ↓reduceIte, Nat.reduceEqDiff, Nat.reduceLT, Nat.reduceLeDiff, reduceCtorEq, Option.isSome_some, List.forall_mem_cons, List.forall_mem_nil, implies_true, forall_const, Nat.le_refl, Nat.zero_le, false_implies, List.mem_singleton, MvB_im, MvB_nil, Mv_im, Option.some.injEq, D.c.injEq, C.im.injEq, I.int.injEq, List.getElem?_cons_zero, List.getElem?_cons_succ, List.set_cons_zero, List.set_cons_succ, List.length_cons, List.length_nil, Nat.zero_add, MvRt, MvR_M]) <;> (try (simp -dsimp only [ne_eq, eq_self, subF, folds, wk1, subOk, sOk, hOk, nms, reF, rho, mapD, mapC, mapC1, NmD, NmC, NmC1, mapR, mapB, mapTt, NmR, NmB, NmT, MvRb, MvRn, MvRt, lk, ins, Root.get, Root.setT, List.map_cons, List.map_nil, List.nodup_cons, List.nodup_nil, List.not_mem_nil, List.mem_cons, not_false_eq_true, and_self, and_true, true_and, true_or, or_true, false_or, or_false, ↓reduceIte, Nat.reduceEqDiff, Nat.reduceLT, Nat.reduceLeDiff, reduceCtorEq, Option.isSome_some, List.forall_mem_cons, List.forall_mem_nil, implies_true, forall_const, Nat.le_refl, Nat.zero_le, false_implies, List.mem_singleton, MvB_im, MvB_nil, Mv_im, Option.some.injEq, D.c.injEq, C.im.injEq, I.int.injEq, List.getElem?_cons_zero, List.getElem?_cons_succ, List.set_cons_zero, List.set_cons_succ, List.length_cons, List.length_nil, Nat.zero_add, MvRt, MvR_M])))
        all_goals simp [lk, MvB_im]
    · have hin' := eq_false hin
      have hz0 : inSumK cs n inn (u, v) b 0 = (0, 0) := by simp only [inSumK, List.take_zero, List.foldl_nil, hin', if_false]
      clear hin
      try simp -dsimp (maxSteps := 1000000) only [go_sem, List.forall_mem_nil, ↓reduceIte, Nat.reduceEqDiff, Nat.reduceLT, Nat.reduceLeDiff, Nat.reduceAdd, Nat.reduceMul, reduceCtorEq, Try.f44, hI, h0, hrow, hin', hrf, run_add, sc_feeds, tI_toI, tM_toI, htk, take_C, rowsM_len, rowsN_len, tM_len, tI_len, rowsC_len, hal, rNew, Int.toNat_natCast]
      repeat' (first
        | ((with_reducible refine sl_i ?_ ?_); focus kernel_rfl)
        | ((with_reducible refine ro_i ?_ ?_); focus kernel_rfl)
        | ((with_reducible refine sl_e ?_); kernel_rfl)
        | ((with_reducible refine ro_e ?_); kernel_rfl)
        | ((first | (with_reducible refine gS_d ?_ ?_) | (with_reducible refine gS_dn ?_ ?_) | (with_reducible refine gS_i ?_ ?_)) <;> intro hg <;> (try simp -dsimp (maxSteps := 1000000) only [go_sem, List.forall_mem_nil, ↓reduceIte, Nat.reduceEqDiff, Nat.reduceLT, Nat.reduceLeDiff, Nat.reduceAdd, Nat.reduceMul, reduceCtorEq, Try.f44, hI, h0, hrow, hin', hrf, run_add, sc_feeds, tI_toI, tM_toI, htk, take_C, rowsM_len, rowsN_len, tM_len, tI_len, rowsC_len, hal, rNew, Int.toNat_natCast, *])))
      refine loop_i (ι := { k : Nat // k ≤ (feedsF cs n).length }) (fun k => ⟨[(0, some (.c (.ptr 0 0 0 0))), (1, some (.c (.im (.int .i64 inn)))), (2, some (.c (.im (.cpx .f32 u v)))), (3, some (.c (.fn (.func 45) []))), (9, some (.c (.view 3 1 0 ms.length))), (15, some (.c (.im (.int .i64 (n : Int))))), (16, some (.c (.im (.cpx .f32 (inSumK cs n inn (u, v) b k.1).1 (inSumK cs n inn (u, v) b k.1).2)))), (61, some (.c (.view 4 1 0 L.length))), (62, some (.c (.im (.int .i64 (L.length : Int))))), (63, some (.c (.im (.int .i64 (j : Int))))), (77, some (.c (.view 5 1 0 (feedsF cs n).length))), (78, some (.c (.im (.int .i64 ((feedsF cs n).length : Int))))), (79, some (.c (.im (.int .i64 (k.1 : Int)))))],
        [(0, some (.box [.t (.lent 1 11 ms.length), .t (.lent 2 2 cs.length)])), (1, some (.arr 11 (tM a))), (2, some (.arr 2 (tI (rowsC cs)))), (3, some (.arr 1 (tI (rowsZ b)))), (4, some (.arr 1 (tI (rowsN L)))), (5, some (.arr 1 (tI (rowsN (feedsF cs n)))))], 6⟩) (fun k => (feedsF cs n).length - k.1) ⟨0, by simp⟩ ⟨[], [0, 1, 2, 3, 4, 5], by ((simp only [ne_eq, eq_self, subF, folds, wk1, subOk, sOk, hOk, nms, reF, rho, mapD, mapC, mapC1, NmD, NmC, NmC1, mapR, mapB, mapTt, NmR, NmB, NmT, MvRb, MvRn, MvRt, lk, ins, Root.get, Root.setT, List.map_cons, List.map_nil, List.nodup_cons, List.nodup_nil, List.not_mem_nil, List.mem_cons, not_false_eq_true, and_self, and_true, true_and, true_or, or_true, false_or, or_false, ↓reduceIte, Nat.reduceEqDiff, Nat.reduceLT, Nat.reduceLeDiff, reduceCtorEq, Option.isSome_some, List.forall_mem_cons, List.forall_mem_nil, implies_true, forall_const, Nat.le_refl, Nat.zero_le, false_implies, List.mem_singleton, MvB_im, MvB_nil, Mv_im, Option.some.injEq, D.c.injEq, C.im.injEq, I.int.injEq, List.getElem?_cons_zero, List.getElem?_cons_succ, List.set_cons_zero, List.set_cons_succ, List.length_cons, List.length_nil, Nat.zero_add, MvRt, MvR_M, hz0]) <;> (try (simp -dsimp only [ne_eq, eq_self, subF, folds, wk1, subOk, sOk, hOk, nms, reF, rho, mapD, mapC, mapC1, NmD, NmC, NmC1, mapR, mapB, mapTt, NmR, NmB, NmT, MvRb, MvRn, MvRt, lk, ins, Root.get, Root.setT, List.map_cons, List.map_nil, List.nodup_cons, List.nodup_nil, List.not_mem_nil, List.mem_cons, not_false_eq_true, and_self, and_true, true_and, true_or, or_true, false_or, or_false, ↓reduceIte, Nat.reduceEqDiff, Nat.reduceLT, Nat.reduceLeDiff, reduceCtorEq, Option.isSome_some, List.forall_mem_cons, List.forall_mem_nil, implies_true, forall_const, Nat.le_refl, Nat.zero_le, false_implies, List.mem_singleton, MvB_im, MvB_nil, Mv_im, Option.some.injEq, D.c.injEq, C.im.injEq, I.int.injEq, List.getElem?_cons_zero, List.getElem?_cons_succ, List.set_cons_zero, List.set_cons_succ, List.length_cons, List.length_nil, Nat.zero_add, MvRt, MvR_M, hz0]))) <;> simp [lk, MvB_im]⟩ (fun ⟨k, hk⟩ => ?_)
      by_cases hkl : k < (feedsF cs n).length
      · obtain ⟨f, hf⟩ : ∃ f, (feedsF cs n)[k]? = some f := ⟨_, List.getElem?_eq_getElem hkl⟩
        obtain ⟨hf0, hf1⟩ := hFm f (List.mem_of_getElem? hf)
        obtain ⟨q, rfl⟩ := Int.eq_ofNat_of_zero_le hf0
        have hql : q < ms.length := by omega
        obtain ⟨p, hp⟩ : ∃ p, b[q]? = some p := ⟨_, List.getElem?_eq_getElem (by omega)⟩
        have hrow3 := tIN_at hf
        have hrow4 := tIZ_at hp
        have hI3 : ((k : Int) < ((feedsF cs n).length : Int)) = True := by simp; omega
        have h03 : (0 ≤ (k : Int)) = True := by simp
        have hIq : ((q : Int) < (ms.length : Int)) = True := by simp; omega
        have h0q : (0 ≤ (q : Int)) = True := by simp
        have hwr3 := lt_sm hFl hkl
        have hs1 := hsK k q hf
        rw [show b.getD (q : Int).toNat (0, 0) = p by simp [List.getD, hp]] at hs1
        try simp -dsimp (maxSteps := 1000000) only [go_sem, List.forall_mem_nil, ↓reduceIte, Nat.reduceEqDiff, Nat.reduceLT, Nat.reduceLeDiff, Nat.reduceAdd, Nat.reduceMul, reduceCtorEq, Try.f44, hI3, h03, hIq, h0q, hrow3, hrow4, hwr3, run_add, Int.toNat_natCast]
        repeat' (first
          | ((with_reducible refine sl_i ?_ ?_); focus kernel_rfl)
          | ((with_reducible refine ro_i ?_ ?_); focus kernel_rfl)
          | ((with_reducible refine sl_e ?_); kernel_rfl)
          | ((with_reducible refine ro_e ?_); kernel_rfl)
          | ((first | (with_reducible refine gS_d ?_ ?_) | (with_reducible refine gS_dn ?_ ?_) | (with_reducible refine gS_i ?_ ?_)) <;> intro hg <;> (try simp -dsimp (maxSteps := 1000000) only [go_sem, List.forall_mem_nil, ↓reduceIte, Nat.reduceEqDiff, Nat.reduceLT, Nat.reduceLeDiff, Nat.reduceAdd, Nat.reduceMul, reduceCtorEq, Try.f44, hI3, h03, hIq, h0q, hrow3, hrow4, hwr3, run_add, Int.toNat_natCast, *])))
        exact ⟨⟨k + 1, by omega⟩, by simp only []; omega, [], [0, 1, 2, 3, 4, 5], by ((simp only [ne_eq, eq_self, subF, folds, wk1, subOk, sOk, hOk, nms, reF, rho, mapD, mapC, mapC1, NmD, NmC, NmC1, mapR, mapB, mapTt, NmR, NmB, NmT, MvRb, MvRn, MvRt, lk, ins, Root.get, Root.setT, List.map_cons, List.map_nil, List.nodup_cons, List.nodup_nil, List.not_mem_nil, List.mem_cons, not_false_eq_true, and_self, and_true, true_and, true_or, or_true, false_or, or_false, ↓reduceIte, Nat.reduceEqDiff, Nat.reduceLT, Nat.reduceLeDiff, reduceCtorEq, Option.isSome_some, List.forall_mem_cons, List.forall_mem_nil, implies_true, forall_const, Nat.le_refl, Nat.zero_le, false_implies, List.mem_singleton, MvB_im, MvB_nil, Mv_im, Option.some.injEq, D.c.injEq, C.im.injEq, I.int.injEq, List.getElem?_cons_zero, List.getElem?_cons_succ, List.set_cons_zero, List.set_cons_succ, List.length_cons, List.length_nil, Nat.zero_add, MvRt, MvR_M, hs1]) <;> (try (simp -dsimp only [ne_eq, eq_self, subF, folds, wk1, subOk, sOk, hOk, nms, reF, rho, mapD, mapC, mapC1, NmD, NmC, NmC1, mapR, mapB, mapTt, NmR, NmB, NmT, MvRb, MvRn, MvRt, lk, ins, Root.get, Root.setT, List.map_cons, List.map_nil, List.nodup_cons, List.nodup_nil, List.not_mem_nil, List.mem_cons, not_false_eq_true, and_self, and_true, true_and, true_or, or_true, false_or, or_false, ↓reduceIte, Nat.reduceEqDiff, Nat.reduceLT, Nat.reduceLeDiff, reduceCtorEq, Option.isSome_some, List.forall_mem_cons, List.forall_mem_nil, implies_true, forall_const, Nat.le_refl, Nat.zero_le, false_implies, List.mem_singleton, MvB_im, MvB_nil, Mv_im, Option.some.injEq, D.c.injEq, C.im.injEq, I.int.injEq, List.getElem?_cons_zero, List.getElem?_cons_succ, List.set_cons_zero, List.set_cons_succ, List.length_cons, List.length_nil, Nat.zero_add, MvRt, MvR_M, hs1]))) <;> simp [lk, MvB_im]⟩
      have hI3 : ((k : Int) < ((feedsF cs n).length : Int)) = False := eq_false (by omega)
      have hkl2 : k = (feedsF cs n).length := by omega
      clear hkl
      subst hkl2
      rw [hsN]
      have hs1 := hnx n hi
      simp only [sweep1, Int.toNat_natCast, show a.getD n dMod = m by simp [List.getD, hm]] at hs1
      generalize inSum cs n inn (u, v) b = zz at *
      obtain ⟨z1, z2⟩ := zz
      by_cases hk4 : m.kind = 4
      · have hk4' : ∀ o1 : Or, ((stepF o1 m (z1, z2)).1.kind = 4) = True := fun o1 => eq_true (by rw [hkS]; exact hk4)
        simp only [hk4, if_true] at hs1
        try simp -dsimp (maxSteps := 1000000) only [go_sem, List.forall_mem_nil, ↓reduceIte, Nat.reduceEqDiff, Nat.reduceLT, Nat.reduceLeDiff, Nat.reduceAdd, Nat.reduceMul, reduceCtorEq, Try.f44, hI3, hIn, h0n, hgm, hrs, oStep, ne_or, modB, hgs, htS, hk4', hwr, hal, MvB_Z, MvB_N, Int.toNat_natCast]
        repeat' (first
          | ((with_reducible refine sl_i ?_ ?_); focus kernel_rfl)
          | ((with_reducible refine ro_i ?_ ?_); focus kernel_rfl)
          | ((with_reducible refine sl_e ?_); kernel_rfl)
          | ((with_reducible refine ro_e ?_); kernel_rfl)
          | ((first | (with_reducible refine gS_d ?_ ?_) | (with_reducible refine gS_dn ?_ ?_) | (with_reducible refine gS_i ?_ ?_)) <;> intro hg <;> (try simp -dsimp (maxSteps := 1000000) only [go_sem, List.forall_mem_nil, ↓reduceIte, Nat.reduceEqDiff, Nat.reduceLT, Nat.reduceLeDiff, Nat.reduceAdd, Nat.reduceMul, reduceCtorEq, Try.f44, hI3, hIn, h0n, hgm, hrs, oStep, ne_or, modB, hgs, htS, hk4', hwr, hal, MvB_Z, MvB_N, Int.toNat_natCast, *])))
        intro o1
        refine ⟨⟨(j + 1, fun q => if q = j then o1 else o q), by simp only []; omega⟩, by simp only []; omega, [], [0, 1, 2, 3, 4], ?_⟩
        simp only [hs1 o1]
        ((simp only [ne_eq, eq_self, subF, folds, wk1, subOk, sOk, hOk, nms, reF, rho, mapD, mapC, mapC1, NmD, NmC, NmC1, mapR, mapB, mapTt, NmR, NmB, NmT, MvRb, MvRn, MvRt, lk, ins, Root.get, Root.setT, List.map_cons, List.map_nil, List.nodup_cons, List.nodup_nil, List.not_mem_nil, List.mem_cons, not_false_eq_true, and_self, and_true, true_and, true_or, or_true, false_or, or_false, ↓reduceIte, Nat.reduceEqDiff, Nat.reduceLT, Nat.reduceLeDiff, reduceCtorEq, Option.isSome_some, List.forall_mem_cons, List.forall_mem_nil, implies_true, forall_const, Nat.le_refl, Nat.zero_le, false_implies, List.mem_singleton, MvB_im, MvB_nil, Mv_im, Option.some.injEq, D.c.injEq, C.im.injEq, I.int.injEq, List.getElem?_cons_zero, List.getElem?_cons_succ, List.set_cons_zero, List.set_cons_succ, List.length_cons, List.length_nil, Nat.zero_add, MvRt, MvR_M]) <;> (try (simp -dsimp only [ne_eq, eq_self, subF, folds, wk1, subOk, sOk, hOk, nms, reF, rho, mapD, mapC, mapC1, NmD, NmC, NmC1, mapR, mapB, mapTt, NmR, NmB, NmT, MvRb, MvRn, MvRt, lk, ins, Root.get, Root.setT, List.map_cons, List.map_nil, List.nodup_cons, List.nodup_nil, List.not_mem_nil, List.mem_cons, not_false_eq_true, and_self, and_true, true_and, true_or, or_true, false_or, or_false, ↓reduceIte, Nat.reduceEqDiff, Nat.reduceLT, Nat.reduceLeDiff, reduceCtorEq, Option.isSome_some, List.forall_mem_cons, List.forall_mem_nil, implies_true, forall_const, Nat.le_refl, Nat.zero_le, false_implies, List.mem_singleton, MvB_im, MvB_nil, Mv_im, Option.some.injEq, D.c.injEq, C.im.injEq, I.int.injEq, List.getElem?_cons_zero, List.getElem?_cons_succ, List.set_cons_zero, List.set_cons_succ, List.length_cons, List.length_nil, Nat.zero_add, MvRt, MvR_M])))
        all_goals simp [lk, MvB_im]
      · have hk4' : ∀ o1 : Or, ((stepF o1 m (z1, z2)).1.kind = 4) = False := fun o1 => eq_false (by rw [hkS]; exact hk4)
        simp only [hk4, if_false] at hs1
        try simp -dsimp (maxSteps := 1000000) only [go_sem, List.forall_mem_nil, ↓reduceIte, Nat.reduceEqDiff, Nat.reduceLT, Nat.reduceLeDiff, Nat.reduceAdd, Nat.reduceMul, reduceCtorEq, Try.f44, hI3, hIn, h0n, hgm, hrs, oStep, ne_or, modB, hgs, htS, hk4', hro, hwr, hal, MvB_Z, MvB_N, run_asItIs, tI_setZ, Int.toNat_natCast]
        repeat' (first
          | ((with_reducible refine sl_i ?_ ?_); focus kernel_rfl)
          | ((with_reducible refine ro_i ?_ ?_); focus kernel_rfl)
          | ((with_reducible refine sl_e ?_); kernel_rfl)
          | ((with_reducible refine ro_e ?_); kernel_rfl)
          | ((first | (with_reducible refine gS_d ?_ ?_) | (with_reducible refine gS_dn ?_ ?_) | (with_reducible refine gS_i ?_ ?_)) <;> intro hg <;> (try simp -dsimp (maxSteps := 1000000) only [go_sem, List.forall_mem_nil, ↓reduceIte, Nat.reduceEqDiff, Nat.reduceLT, Nat.reduceLeDiff, Nat.reduceAdd, Nat.reduceMul, reduceCtorEq, Try.f44, hI3, hIn, h0n, hgm, hrs, oStep, ne_or, modB, hgs, htS, hk4', hro, hwr, hal, MvB_Z, MvB_N, run_asItIs, tI_setZ, Int.toNat_natCast, *])))
        intro o1
        refine ⟨⟨(j + 1, fun q => if q = j then o1 else o q), by simp only []; omega⟩, by simp only []; omega, [], [0, 1, 2, 3, 4], ?_⟩
        simp only [hs1 o1]
        ((simp only [ne_eq, eq_self, subF, folds, wk1, subOk, sOk, hOk, nms, reF, rho, mapD, mapC, mapC1, NmD, NmC, NmC1, mapR, mapB, mapTt, NmR, NmB, NmT, MvRb, MvRn, MvRt, lk, ins, Root.get, Root.setT, List.map_cons, List.map_nil, List.nodup_cons, List.nodup_nil, List.not_mem_nil, List.mem_cons, not_false_eq_true, and_self, and_true, true_and, true_or, or_true, false_or, or_false, ↓reduceIte, Nat.reduceEqDiff, Nat.reduceLT, Nat.reduceLeDiff, reduceCtorEq, Option.isSome_some, List.forall_mem_cons, List.forall_mem_nil, implies_true, forall_const, Nat.le_refl, Nat.zero_le, false_implies, List.mem_singleton, MvB_im, MvB_nil, Mv_im, Option.some.injEq, D.c.injEq, C.im.injEq, I.int.injEq, List.getElem?_cons_zero, List.getElem?_cons_succ, List.set_cons_zero, List.set_cons_succ, List.length_cons, List.length_nil, Nat.zero_add, MvRt, MvR_M]) <;> (try (simp -dsimp only [ne_eq, eq_self, subF, folds, wk1, subOk, sOk, hOk, nms, reF, rho, mapD, mapC, mapC1, NmD, NmC, NmC1, mapR, mapB, mapTt, NmR, NmB, NmT, MvRb, MvRn, MvRt, lk, ins, Root.get, Root.setT, List.map_cons, List.map_nil, List.nodup_cons, List.nodup_nil, List.not_mem_nil, List.mem_cons, not_false_eq_true, and_self, and_true, true_and, true_or, or_true, false_or, or_false, ↓reduceIte, Nat.reduceEqDiff, Nat.reduceLT, Nat.reduceLeDiff, reduceCtorEq, Option.isSome_some, List.forall_mem_cons, List.forall_mem_nil, implies_true, forall_const, Nat.le_refl, Nat.zero_le, false_implies, List.mem_singleton, MvB_im, MvB_nil, Mv_im, Option.some.injEq, D.c.injEq, C.im.injEq, I.int.injEq, List.getElem?_cons_zero, List.getElem?_cons_succ, List.set_cons_zero, List.set_cons_succ, List.length_cons, List.length_nil, Nat.zero_add, MvRt, MvR_M])))
        all_goals simp [lk, MvB_im]
end Go.SX
