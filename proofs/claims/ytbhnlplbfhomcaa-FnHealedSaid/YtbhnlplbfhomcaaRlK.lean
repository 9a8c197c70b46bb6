/-
  slices.Concat of two lists of cables; rackOf; AddCable.
  No condition.
-/
import Derived.Test.YtbhnlplbfhomcaaRlJ
import Derived.Test.YtbhnlplbfhomcaaRpA
set_option linter.unusedVariables false
set_option linter.unusedSimpArgs false
namespace Go.SX
open Go Go.Proofs

theorem MvR_C' (l : List Cbl) : MvR false (.arr 2 (tI (rowsC l))) = True := eq_true (sc_false _ _)
structure ACat where
  a : List Cbl
  b : List Cbl
  la : a.length ≤ 500
  lb : b.length ≤ 500
  pos : 1 ≤ a.length + b.length
noncomputable def ct_Concat : Ct := fam true (fun x : ACat => ([.c (.im (.sl 1 [[.sl 2 (rowsC x.a)], [.sl 2 (rowsC x.b)]]))], [])) (fun x => .one (rNew 2 (rowsC (x.a ++ x.b))))
theorem run_Concat {a b : List Cbl} (h1 : a.length ≤ 500) (h2 : b.length ≤ 500) (h3 : 1 ≤ a.length + b.length) : ct_Concat.run [.c (.im (.sl 1 [[.sl 2 (rowsC a)], [.sl 2 (rowsC b)]]))] [] = some (.one (rNew 2 (rowsC (a ++ b)))) := by
  refine fam_run' (args := fun x : ACat => ([D.c (.im (.sl 1 [[.sl 2 (rowsC x.a)], [.sl 2 (rowsC x.b)]]))], [])) ?_ ⟨a, b, h1, h2, h3⟩
  rintro ⟨a, b, _, _, _⟩ ⟨a', b', _, _, _⟩ h
  simp [rowsC_eq] at h ⊢
  exact h
theorem sc_Concat : (ct_Concat.sc = true) = True := by simp [ct_Concat, fam]
def szK (a b : List Cbl) : Nat → Int
  | 0 => 0
  | 1 => (a.length : Int)
  | _ + 2 => ((a.length + b.length : Nat) : Int)
def ctK (a b : List Cbl) : Nat → List Cbl
  | 0 => []
  | 1 => a
  | _ + 2 => a ++ b
set_option maxRecDepth 100000 in
set_option maxHeartbeats 4000000 in
theorem law_Concat : Law Try.prog 57 ct_Concat := by
  refine fam_law (Env_cons law_Grow Env_nil) hmixA Try.func57 rfl rfl (fun ⟨a, b, h1, h2, h3⟩ => ⟨okO (okR_new (sc_rowsC _)), by simp [Try.f57], ?_⟩)
  simp only [rNew]
  have hsm : sm = 16777216 := rfl
  have s1 : IntKind.i64.wrap (0 + (a.length : Int)) = (a.length : Int) := by rw [wrap_id (by omega) (by omega)]; omega
  have s2 : IntKind.i64.wrap ((a.length : Int) + (b.length : Int)) = ((a.length + b.length : Nat) : Int) := by rw [wrap_id (by omega) (by omega)]; omega
  have n1 : ((a.length : Int) < 0) = False := eq_false (by omega)
  have n2 : (((a.length + b.length : Nat) : Int) < 0) = False := eq_false (by omega)
  have c0 : ((0 : Nat) : Int) = 0 := rfl
  have c1 : ((1 : Nat) : Int) = 1 := rfl
  have c2 : ((2 : Nat) : Int) = 2 := rfl
  have w1 : IntKind.i64.wrap 1 = 1 := rfl
  have w2 : IntKind.i64.wrap 2 = 2 := rfl
  have z0 : szK a b 0 = 0 := rfl
  have z1 : szK a b 1 = (a.length : Int) := rfl
  have z2 : szK a b 2 = ((a.length + b.length : Nat) : Int) := rfl
  have q0 : ctK a b 0 = [] := rfl
  have q1 : ctK a b 1 = a := rfl
  have q2 : ctK a b 2 = a ++ b := rfl
  try simp -dsimp (maxSteps := 1000000) only [go_sem, List.forall_mem_nil, ↓reduceIte, Nat.reduceEqDiff, Nat.reduceLT, Nat.reduceLeDiff, Nat.reduceAdd, Nat.reduceMul, reduceCtorEq, Try.f57, c2]
  repeat' (first
    | ((with_reducible refine sl_i ?_ ?_); focus kernel_rfl)
    | ((with_reducible refine ro_i ?_ ?_); focus kernel_rfl)
    | ((with_reducible refine sl_e ?_); kernel_rfl)
    | ((with_reducible refine ro_e ?_); kernel_rfl)
    | ((first | (with_reducible refine gS_d ?_ ?_) | (with_reducible refine gS_dn ?_ ?_) | (with_reducible refine gS_i ?_ ?_)) <;> intro hg <;> (try simp -dsimp (maxSteps := 1000000) only [go_sem, List.forall_mem_nil, ↓reduceIte, Nat.reduceEqDiff, Nat.reduceLT, Nat.reduceLeDiff, Nat.reduceAdd, Nat.reduceMul, reduceCtorEq, Try.f57, c2, *])))
  refine loop_i (ι := { k : Nat // k ≤ 2 }) (fun k => ⟨[(0, some (.c (.im (.sl 1 [[.sl 2 (rowsC a)], [.sl 2 (rowsC b)]])))), (3, some (.c (.im (.int .i64 (szK a b k.1))))), (9, some (.c (.im (.sl 1 [[.sl 2 (rowsC a)], [.sl 2 (rowsC b)]])))), (10, some (.c (.im (.int .i64 2)))), (11, some (.c (.im (.int .i64 (k.1 : Int)))))], [], 0⟩) (fun k => 2 - k.1) ⟨0, by simp⟩ ⟨[], [], by ((simp only [ne_eq, eq_self, subF, folds, wk1, subOk, sOk, hOk, nms, reF, rho, mapD, mapC, mapC1, NmD, NmC, NmC1, mapR, mapB, mapTt, NmR, NmB, NmT, MvRb, MvRn, MvRt, lk, ins, Root.get, Root.setT, List.map_cons, List.map_nil, List.nodup_cons, List.nodup_nil, List.not_mem_nil, List.mem_cons, not_false_eq_true, and_self, and_true, true_and, true_or, or_true, false_or, or_false, ↓reduceIte, Nat.reduceEqDiff, Nat.reduceLT, Nat.reduceLeDiff, reduceCtorEq, Option.isSome_some, List.forall_mem_cons, List.forall_mem_nil, implies_true, forall_const, Nat.le_refl, Nat.zero_le, false_implies, List.mem_singleton, MvB_im, MvB_nil, Mv_im, Option.some.injEq, D.c.injEq, C.im.injEq, I.int.injEq, List.getElem?_cons_zero, List.getElem?_cons_succ, List.set_cons_zero, List.set_cons_succ, List.length_cons, List.length_nil, Nat.zero_add, z0, c0]) <;> (try (simp -dsimp only [ne_eq, eq_self, subF, folds, wk1, subOk, sOk, hOk, nms, reF, rho, mapD, mapC, mapC1, NmD, NmC, NmC1, mapR, mapB, mapTt, NmR, NmB, NmT, MvRb, MvRn, MvRt, lk, ins, Root.get, Root.setT, List.map_cons, List.map_nil, List.nodup_cons, List.nodup_nil, List.not_mem_nil, List.mem_cons, not_false_eq_true, and_self, and_true, true_and, true_or, or_true, false_or, or_false, ↓reduceIte, Nat.reduceEqDiff, Nat.reduceLT, Nat.reduceLeDiff, reduceCtorEq, Option.isSome_some, List.forall_mem_cons, List.forall_mem_nil, implies_true, forall_const, Nat.le_refl, Nat.zero_le, false_implies, List.mem_singleton, MvB_im, MvB_nil, Mv_im, Option.some.injEq, D.c.injEq, C.im.injEq, I.int.injEq, List.getElem?_cons_zero, List.getElem?_cons_succ, List.set_cons_zero, List.set_cons_succ, List.length_cons, List.length_nil, Nat.zero_add, z0, c0]))) <;> simp⟩ (fun ⟨k, hk⟩ => ?_)
  simp only
  match k, hk with
  | 0, _ =>
    try simp -dsimp (maxSteps := 1000000) only [go_sem, List.forall_mem_nil, ↓reduceIte, Nat.reduceEqDiff, Nat.reduceLT, Nat.reduceLeDiff, Nat.reduceAdd, Nat.reduceMul, reduceCtorEq, Try.f57, z0, c0, s1, n1, w1, rowsC_len, Int.reduceLT, Int.reduceLE, Int.reduceToNat, Int.reduceAdd, Int.toNat_zero]
    repeat' (first
      | ((with_reducible refine sl_i ?_ ?_); focus kernel_rfl)
      | ((with_reducible refine ro_i ?_ ?_); focus kernel_rfl)
      | ((with_reducible refine sl_e ?_); kernel_rfl)
      | ((with_reducible refine ro_e ?_); kernel_rfl)
      | ((first | (with_reducible refine gS_d ?_ ?_) | (with_reducible refine gS_dn ?_ ?_) | (with_reducible refine gS_i ?_ ?_)) <;> intro hg <;> (try simp -dsimp (maxSteps := 1000000) only [go_sem, List.forall_mem_nil, ↓reduceIte, Nat.reduceEqDiff, Nat.reduceLT, Nat.reduceLeDiff, Nat.reduceAdd, Nat.reduceMul, reduceCtorEq, Try.f57, z0, c0, s1, n1, w1, rowsC_len, Int.reduceLT, Int.reduceLE, Int.reduceToNat, Int.reduceAdd, Int.toNat_zero, *])))
    exact ⟨⟨1, by omega⟩, by simp, [], [], by ((simp only [ne_eq, eq_self, subF, folds, wk1, subOk, sOk, hOk, nms, reF, rho, mapD, mapC, mapC1, NmD, NmC, NmC1, mapR, mapB, mapTt, NmR, NmB, NmT, MvRb, MvRn, MvRt, lk, ins, Root.get, Root.setT, List.map_cons, List.map_nil, List.nodup_cons, List.nodup_nil, List.not_mem_nil, List.mem_cons, not_false_eq_true, and_self, and_true, true_and, true_or, or_true, false_or, or_false, ↓reduceIte, Nat.reduceEqDiff, Nat.reduceLT, Nat.reduceLeDiff, reduceCtorEq, Option.isSome_some, List.forall_mem_cons, List.forall_mem_nil, implies_true, forall_const, Nat.le_refl, Nat.zero_le, false_implies, List.mem_singleton, MvB_im, MvB_nil, Mv_im, Option.some.injEq, D.c.injEq, C.im.injEq, I.int.injEq, List.getElem?_cons_zero, List.getElem?_cons_succ, List.set_cons_zero, List.set_cons_succ, List.length_cons, List.length_nil, Nat.zero_add, z1, c1]) <;> (try (simp -dsimp only [ne_eq, eq_self, subF, folds, wk1, subOk, sOk, hOk, nms, reF, rho, mapD, mapC, mapC1, NmD, NmC, NmC1, mapR, mapB, mapTt, NmR, NmB, NmT, MvRb, MvRn, MvRt, lk, ins, Root.get, Root.setT, List.map_cons, List.map_nil, List.nodup_cons, List.nodup_nil, List.not_mem_nil, List.mem_cons, not_false_eq_true, and_self, and_true, true_and, true_or, or_true, false_or, or_false, ↓reduceIte, Nat.reduceEqDiff, Nat.reduceLT, Nat.reduceLeDiff, reduceCtorEq, Option.isSome_some, List.forall_mem_cons, List.forall_mem_nil, implies_true, forall_const, Nat.le_refl, Nat.zero_le, false_implies, List.mem_singleton, MvB_im, MvB_nil, Mv_im, Option.some.injEq, D.c.injEq, C.im.injEq, I.int.injEq, List.getElem?_cons_zero, List.getElem?_cons_succ, List.set_cons_zero, List.set_cons_succ, List.length_cons, List.length_nil, Nat.zero_add, z1, c1]))) <;> simp⟩
  | 1, _ =>
    try simp -dsimp (maxSteps := 1000000) only [go_sem, List.forall_mem_nil, ↓reduceIte, Nat.reduceEqDiff, Nat.reduceLT, Nat.reduceLeDiff, Nat.reduceAdd, Nat.reduceMul, reduceCtorEq, Try.f57, z1, c1, s2, n2, w2, rowsC_len, Int.reduceLT, Int.reduceLE, Int.reduceToNat, Int.reduceAdd, Int.toNat_zero]
    repeat' (first
      | ((with_reducible refine sl_i ?_ ?_); focus kernel_rfl)
      | ((with_reducible refine ro_i ?_ ?_); focus kernel_rfl)
      | ((with_reducible refine sl_e ?_); kernel_rfl)
      | ((with_reducible refine ro_e ?_); kernel_rfl)
      | ((first | (with_reducible refine gS_d ?_ ?_) | (with_reducible refine gS_dn ?_ ?_) | (with_reducible refine gS_i ?_ ?_)) <;> intro hg <;> (try simp -dsimp (maxSteps := 1000000) only [go_sem, List.forall_mem_nil, ↓reduceIte, Nat.reduceEqDiff, Nat.reduceLT, Nat.reduceLeDiff, Nat.reduceAdd, Nat.reduceMul, reduceCtorEq, Try.f57, z1, c1, s2, n2, w2, rowsC_len, Int.reduceLT, Int.reduceLE, Int.reduceToNat, Int.reduceAdd, Int.toNat_zero, *])))
    exact ⟨⟨2, by omega⟩, by simp, [], [], by ((simp only [ne_eq, eq_self, subF, folds, wk1, subOk, sOk, hOk, nms, reF, rho, mapD, mapC, mapC1, NmD, NmC, NmC1, mapR, mapB, mapTt, NmR, NmB, NmT, MvRb, MvRn, MvRt, lk, ins, Root.get, Root.setT, List.map_cons, List.map_nil, List.nodup_cons, List.nodup_nil, List.not_mem_nil, List.mem_cons, not_false_eq_true, and_self, and_true, true_and, true_or, or_true, false_or, or_false, ↓reduceIte, Nat.reduceEqDiff, Nat.reduceLT, Nat.reduceLeDiff, reduceCtorEq, Option.isSome_some, List.forall_mem_cons, List.forall_mem_nil, implies_true, forall_const, Nat.le_refl, Nat.zero_le, false_implies, List.mem_singleton, MvB_im, MvB_nil, Mv_im, Option.some.injEq, D.c.injEq, C.im.injEq, I.int.injEq, List.getElem?_cons_zero, List.getElem?_cons_succ, List.set_cons_zero, List.set_cons_succ, List.length_cons, List.length_nil, Nat.zero_add, z2, c2]) <;> (try (simp -dsimp only [ne_eq, eq_self, subF, folds, wk1, subOk, sOk, hOk, nms, reF, rho, mapD, mapC, mapC1, NmD, NmC, NmC1, mapR, mapB, mapTt, NmR, NmB, NmT, MvRb, MvRn, MvRt, lk, ins, Root.get, Root.setT, List.map_cons, List.map_nil, List.nodup_cons, List.nodup_nil, List.not_mem_nil, List.mem_cons, not_false_eq_true, and_self, and_true, true_and, true_or, or_true, false_or, or_false, ↓reduceIte, Nat.reduceEqDiff, Nat.reduceLT, Nat.reduceLeDiff, reduceCtorEq, Option.isSome_some, List.forall_mem_cons, List.forall_mem_nil, implies_true, forall_const, Nat.le_refl, Nat.zero_le, false_implies, List.mem_singleton, MvB_im, MvB_nil, Mv_im, Option.some.injEq, D.c.injEq, C.im.injEq, I.int.injEq, List.getElem?_cons_zero, List.getElem?_cons_succ, List.set_cons_zero, List.set_cons_succ, List.length_cons, List.length_nil, Nat.zero_add, z2, c2]))) <;> simp⟩
  | 2, _ =>
    try simp -dsimp (maxSteps := 1000000) only [go_sem, List.forall_mem_nil, ↓reduceIte, Nat.reduceEqDiff, Nat.reduceLT, Nat.reduceLeDiff, Nat.reduceAdd, Nat.reduceMul, reduceCtorEq, Try.f57, z2, c2, run_Grow (n := a.length + b.length) (by omega) (by omega), rEmp, rowsC_len, Int.reduceLT, Int.reduceLE, Int.reduceToNat]
    repeat' (first
      | ((with_reducible refine sl_i ?_ ?_); focus kernel_rfl)
      | ((with_reducible refine ro_i ?_ ?_); focus kernel_rfl)
      | ((with_reducible refine sl_e ?_); kernel_rfl)
      | ((with_reducible refine ro_e ?_); kernel_rfl)
      | ((first | (with_reducible refine gS_d ?_ ?_) | (with_reducible refine gS_dn ?_ ?_) | (with_reducible refine gS_i ?_ ?_)) <;> intro hg <;> (try simp -dsimp (maxSteps := 1000000) only [go_sem, List.forall_mem_nil, ↓reduceIte, Nat.reduceEqDiff, Nat.reduceLT, Nat.reduceLeDiff, Nat.reduceAdd, Nat.reduceMul, reduceCtorEq, Try.f57, z2, c2, run_Grow (n := a.length + b.length) (by omega) (by omega), rEmp, rowsC_len, Int.reduceLT, Int.reduceLE, Int.reduceToNat, *])))
    have b1 : (a.length * 16 ≤ 140737488355328) = True := bytes_sm (by omega) (by decide)
    have b2 : ((a.length + b.length) * 16 ≤ 140737488355328) = True := bytes_sm (by omega) (by decide)
    have r0 : ctK a b 0 = [] := rfl
    have r1 : ctK a b 1 = a := rfl
    have r2 : ctK a b 2 = a ++ b := rfl
    have ha : tI (rowsC a) ++ tI (rowsC b) = tI (rowsC (a ++ b)) := by simp [tI, rowsC]
    refine loop_i (ι := { k : Nat // k ≤ 2 }) (fun k => ⟨[(6, some (.c (.view 0 2 0 (ctK a b k.1).length))), (25, some (.c (.im (.sl 1 [[.sl 2 (rowsC a)], [.sl 2 (rowsC b)]])))), (26, some (.c (.im (.int .i64 2)))), (27, some (.c (.im (.int .i64 (k.1 : Int)))))], [(0, some (.arr 2 (tI (rowsC (ctK a b k.1)))))], 1⟩) (fun k => 2 - k.1) ⟨0, by simp⟩ ⟨[], [0], by ((simp only [ne_eq, eq_self, subF, folds, wk1, subOk, sOk, hOk, nms, reF, rho, mapD, mapC, mapC1, NmD, NmC, NmC1, mapR, mapB, mapTt, NmR, NmB, NmT, MvRb, MvRn, MvRt, lk, ins, Root.get, Root.setT, List.map_cons, List.map_nil, List.nodup_cons, List.nodup_nil, List.not_mem_nil, List.mem_cons, not_false_eq_true, and_self, and_true, true_and, true_or, or_true, false_or, or_false, ↓reduceIte, Nat.reduceEqDiff, Nat.reduceLT, Nat.reduceLeDiff, reduceCtorEq, Option.isSome_some, List.forall_mem_cons, List.forall_mem_nil, implies_true, forall_const, Nat.le_refl, Nat.zero_le, false_implies, List.mem_singleton, MvB_im, MvB_nil, Mv_im, Option.some.injEq, D.c.injEq, C.im.injEq, I.int.injEq, List.getElem?_cons_zero, List.getElem?_cons_succ, List.set_cons_zero, List.set_cons_succ, List.length_cons, List.length_nil, Nat.zero_add, MvR_C']) <;> (try (simp -dsimp only [ne_eq, eq_self, subF, folds, wk1, subOk, sOk, hOk, nms, reF, rho, mapD, mapC, mapC1, NmD, NmC, NmC1, mapR, mapB, mapTt, NmR, NmB, NmT, MvRb, MvRn, MvRt, lk, ins, Root.get, Root.setT, List.map_cons, List.map_nil, List.nodup_cons, List.nodup_nil, List.not_mem_nil, List.mem_cons, not_false_eq_true, and_self, and_true, true_and, true_or, or_true, false_or, or_false, ↓reduceIte, Nat.reduceEqDiff, Nat.reduceLT, Nat.reduceLeDiff, reduceCtorEq, Option.isSome_some, List.forall_mem_cons, List.forall_mem_nil, implies_true, forall_const, Nat.le_refl, Nat.zero_le, false_implies, List.mem_singleton, MvB_im, MvB_nil, Mv_im, Option.some.injEq, D.c.injEq, C.im.injEq, I.int.injEq, List.getElem?_cons_zero, List.getElem?_cons_succ, List.set_cons_zero, List.set_cons_succ, List.length_cons, List.length_nil, Nat.zero_add, MvR_C']))) <;> simp [ctK, rowsC, tI]⟩ (fun ⟨k, hk⟩ => ?_)
    simp only
    match k, hk with
    | 0, _ =>
      try simp -dsimp (maxSteps := 1000000) only [go_sem, List.forall_mem_nil, ↓reduceIte, Nat.reduceEqDiff, Nat.reduceLT, Nat.reduceLeDiff, Nat.reduceAdd, Nat.reduceMul, reduceCtorEq, Try.f57, r0, c0, w1, b1, map_im_tI, rowsC_len, tI_len, List.length_map, appendH, srcRows, show tI (rowsC []) = [] from rfl, Int.reduceLT, Int.reduceLE, Int.reduceToNat, Int.reduceAdd, Int.toNat_zero]
      repeat' (first
        | ((with_reducible refine sl_i ?_ ?_); focus kernel_rfl)
        | ((with_reducible refine ro_i ?_ ?_); focus kernel_rfl)
        | ((with_reducible refine sl_e ?_); kernel_rfl)
        | ((with_reducible refine ro_e ?_); kernel_rfl)
        | ((first | (with_reducible refine gS_d ?_ ?_) | (with_reducible refine gS_dn ?_ ?_) | (with_reducible refine gS_i ?_ ?_)) <;> intro hg <;> (try simp -dsimp (maxSteps := 1000000) only [go_sem, List.forall_mem_nil, ↓reduceIte, Nat.reduceEqDiff, Nat.reduceLT, Nat.reduceLeDiff, Nat.reduceAdd, Nat.reduceMul, reduceCtorEq, Try.f57, r0, c0, w1, b1, map_im_tI, rowsC_len, tI_len, List.length_map, appendH, srcRows, show tI (rowsC []) = [] from rfl, Int.reduceLT, Int.reduceLE, Int.reduceToNat, Int.reduceAdd, Int.toNat_zero, *])))
      exact ⟨⟨1, by omega⟩, by simp, [], [1], by ((simp only [ne_eq, eq_self, subF, folds, wk1, subOk, sOk, hOk, nms, reF, rho, mapD, mapC, mapC1, NmD, NmC, NmC1, mapR, mapB, mapTt, NmR, NmB, NmT, MvRb, MvRn, MvRt, lk, ins, Root.get, Root.setT, List.map_cons, List.map_nil, List.nodup_cons, List.nodup_nil, List.not_mem_nil, List.mem_cons, not_false_eq_true, and_self, and_true, true_and, true_or, or_true, false_or, or_false, ↓reduceIte, Nat.reduceEqDiff, Nat.reduceLT, Nat.reduceLeDiff, reduceCtorEq, Option.isSome_some, List.forall_mem_cons, List.forall_mem_nil, implies_true, forall_const, Nat.le_refl, Nat.zero_le, false_implies, List.mem_singleton, MvB_im, MvB_nil, Mv_im, Option.some.injEq, D.c.injEq, C.im.injEq, I.int.injEq, List.getElem?_cons_zero, List.getElem?_cons_succ, List.set_cons_zero, List.set_cons_succ, List.length_cons, List.length_nil, Nat.zero_add, r1, c1, MvR_C']) <;> (try (simp -dsimp only [ne_eq, eq_self, subF, folds, wk1, subOk, sOk, hOk, nms, reF, rho, mapD, mapC, mapC1, NmD, NmC, NmC1, mapR, mapB, mapTt, NmR, NmB, NmT, MvRb, MvRn, MvRt, lk, ins, Root.get, Root.setT, List.map_cons, List.map_nil, List.nodup_cons, List.nodup_nil, List.not_mem_nil, List.mem_cons, not_false_eq_true, and_self, and_true, true_and, true_or, or_true, false_or, or_false, ↓reduceIte, Nat.reduceEqDiff, Nat.reduceLT, Nat.reduceLeDiff, reduceCtorEq, Option.isSome_some, List.forall_mem_cons, List.forall_mem_nil, implies_true, forall_const, Nat.le_refl, Nat.zero_le, false_implies, List.mem_singleton, MvB_im, MvB_nil, Mv_im, Option.some.injEq, D.c.injEq, C.im.injEq, I.int.injEq, List.getElem?_cons_zero, List.getElem?_cons_succ, List.set_cons_zero, List.set_cons_succ, List.length_cons, List.length_nil, Nat.zero_add, r1, c1, MvR_C']))) <;> simp [lk]⟩
    | 1, _ =>
      try simp -dsimp (maxSteps := 1000000) only [go_sem, List.forall_mem_nil, ↓reduceIte, Nat.reduceEqDiff, Nat.reduceLT, Nat.reduceLeDiff, Nat.reduceAdd, Nat.reduceMul, reduceCtorEq, Try.f57, r1, c1, w2, b2, ha, map_im_tI, rowsC_len, tI_len, List.length_map, List.length_append, appendH, srcRows, Int.reduceLT, Int.reduceLE, Int.reduceToNat, Int.reduceAdd, Int.toNat_zero]
      repeat' (first
        | ((with_reducible refine sl_i ?_ ?_); focus kernel_rfl)
        | ((with_reducible refine ro_i ?_ ?_); focus kernel_rfl)
        | ((with_reducible refine sl_e ?_); kernel_rfl)
        | ((with_reducible refine ro_e ?_); kernel_rfl)
        | ((first | (with_reducible refine gS_d ?_ ?_) | (with_reducible refine gS_dn ?_ ?_) | (with_reducible refine gS_i ?_ ?_)) <;> intro hg <;> (try simp -dsimp (maxSteps := 1000000) only [go_sem, List.forall_mem_nil, ↓reduceIte, Nat.reduceEqDiff, Nat.reduceLT, Nat.reduceLeDiff, Nat.reduceAdd, Nat.reduceMul, reduceCtorEq, Try.f57, r1, c1, w2, b2, ha, map_im_tI, rowsC_len, tI_len, List.length_map, List.length_append, appendH, srcRows, Int.reduceLT, Int.reduceLE, Int.reduceToNat, Int.reduceAdd, Int.toNat_zero, *])))
      exact ⟨⟨2, by omega⟩, by simp, [], [1], by ((simp only [ne_eq, eq_self, subF, folds, wk1, subOk, sOk, hOk, nms, reF, rho, mapD, mapC, mapC1, NmD, NmC, NmC1, mapR, mapB, mapTt, NmR, NmB, NmT, MvRb, MvRn, MvRt, lk, ins, Root.get, Root.setT, List.map_cons, List.map_nil, List.nodup_cons, List.nodup_nil, List.not_mem_nil, List.mem_cons, not_false_eq_true, and_self, and_true, true_and, true_or, or_true, false_or, or_false, ↓reduceIte, Nat.reduceEqDiff, Nat.reduceLT, Nat.reduceLeDiff, reduceCtorEq, Option.isSome_some, List.forall_mem_cons, List.forall_mem_nil, implies_true, forall_const, Nat.le_refl, Nat.zero_le, false_implies, List.mem_singleton, MvB_im, MvB_nil, Mv_im, Option.some.injEq, D.c.injEq, C.im.injEq, I.int.injEq, List.getElem?_cons_zero, List.getElem?_cons_succ, List.set_cons_zero, List.set_cons_succ, List.length_cons, List.length_nil, Nat.zero_add, r2, c2, MvR_C', List.length_append]) <;> (try (simp -dsimp only [ne_eq, eq_self, subF, folds, wk1, subOk, sOk, hOk, nms, reF, rho, mapD, mapC, mapC1, NmD, NmC, NmC1, mapR, mapB, mapTt, NmR, NmB, NmT, MvRb, MvRn, MvRt, lk, ins, Root.get, Root.setT, List.map_cons, List.map_nil, List.nodup_cons, List.nodup_nil, List.not_mem_nil, List.mem_cons, not_false_eq_true, and_self, and_true, true_and, true_or, or_true, false_or, or_false, ↓reduceIte, Nat.reduceEqDiff, Nat.reduceLT, Nat.reduceLeDiff, reduceCtorEq, Option.isSome_some, List.forall_mem_cons, List.forall_mem_nil, implies_true, forall_const, Nat.le_refl, Nat.zero_le, false_implies, List.mem_singleton, MvB_im, MvB_nil, Mv_im, Option.some.injEq, D.c.injEq, C.im.injEq, I.int.injEq, List.getElem?_cons_zero, List.getElem?_cons_succ, List.set_cons_zero, List.set_cons_succ, List.length_cons, List.length_nil, Nat.zero_add, r2, c2, MvR_C', List.length_append]))) <;> simp [lk]⟩
    | 2, _ =>
      try simp -dsimp (maxSteps := 1000000) only [go_sem, List.forall_mem_nil, ↓reduceIte, Nat.reduceEqDiff, Nat.reduceLT, Nat.reduceLeDiff, Nat.reduceAdd, Nat.reduceMul, reduceCtorEq, Try.f57, r2, c2, Int.reduceLT, Int.reduceLE, Int.reduceToNat, List.length_append, rowsC_len, tI_len]
      repeat' (first
        | ((with_reducible refine sl_i ?_ ?_); focus kernel_rfl)
        | ((with_reducible refine ro_i ?_ ?_); focus kernel_rfl)
        | ((with_reducible refine sl_e ?_); kernel_rfl)
        | ((with_reducible refine ro_e ?_); kernel_rfl)
        | ((first | (with_reducible refine gS_d ?_ ?_) | (with_reducible refine gS_dn ?_ ?_) | (with_reducible refine gS_i ?_ ?_)) <;> intro hg <;> (try simp -dsimp (maxSteps := 1000000) only [go_sem, List.forall_mem_nil, ↓reduceIte, Nat.reduceEqDiff, Nat.reduceLT, Nat.reduceLeDiff, Nat.reduceAdd, Nat.reduceMul, reduceCtorEq, Try.f57, r2, c2, Int.reduceLT, Int.reduceLE, Int.reduceToNat, List.length_append, rowsC_len, tI_len, *])))
      exact ⟨[0], by simp, by simp, by simp [rtOk], by simp [rowsC_len]⟩

/-! ### rackOf -/
def rRackT (ms : List Mod) (cs : List Cbl) : Res := { val := .tup [.agg [.view 0 11 0 ms.length, .view 1 2 0 cs.length], .c (.im (.bool true))], roots := [.arr 11 (tM ms), .arr 2 (tI (rowsC cs))] }
def rRackF : Res := { val := .tup [.agg [.nil, .nil], .c (.im (.bool false))] }
theorem okR_rackT {sc : Bool} {ms : List Mod} {cs : List Cbl} : OkR sc (rRackT ms cs) := by
  refine ⟨.tup _ (fun d hd => ?_), fun r hr => ?_, by simp [rRackT]⟩
  · simp only [rRackT, List.mem_cons, List.not_mem_nil, or_false] at hd
    rcases hd with rfl | rfl
    · refine .inr ⟨_, rfl, fun x hx => ?_⟩
      simp only [List.mem_cons, List.not_mem_nil, or_false] at hx
      rcases hx with rfl | rfl <;> exact .view _ _ _ _ (by simp [rRackT])
    · exact .inl ⟨_, rfl, okC_sc rfl⟩
  · simp only [rRackT, List.mem_cons, List.not_mem_nil, or_false] at hr
    rcases hr with rfl | rfl
    · exact mvR_tM _
    · exact mvR_tI (sc_rowsC _)
theorem okR_rackF {sc : Bool} : OkR sc rRackF := by
  refine ⟨.tup _ (fun d hd => ?_), by simp [rRackF], by simp [rRackF]⟩
  simp only [rRackF, List.mem_cons, List.not_mem_nil, or_false] at hd
  rcases hd with rfl | rfl
  · exact .inr ⟨_, rfl, fun x hx => by simp at hx; subst hx; exact .nil⟩
  · exact .inl ⟨_, rfl, okC_sc rfl⟩
def rRackB (b : Bool) (ms : List Mod) (cs : List Cbl) : Res := if b = true then rRackT ms cs else rRackF
structure AROf where
  ms : List Mod
  cs : List Cbl
  ml : ms.length ≤ sm
  cl : cs.length ≤ sm
  ok : ∀ m ∈ ms, OkM m
noncomputable def ct_rackOf : Ct := fam true (fun x : AROf => ([.agg [.im (.sl 11 (rowsM x.ms)), .im (.sl 2 (rowsC x.cs))]], [])) (fun x => .one (rRackB (isRackF x.ms x.cs) x.ms x.cs))
theorem run_rackOf {ms : List Mod} {cs : List Cbl} (h1 : ms.length ≤ sm) (h2 : cs.length ≤ sm) (h5 : ∀ m ∈ ms, OkM m) : ct_rackOf.run [.agg [.im (.sl 11 (rowsM ms)), .im (.sl 2 (rowsC cs))]] [] = some (.one (rRackB (isRackF ms cs) ms cs)) := by
  refine fam_run' (args := fun x : AROf => ([D.agg [.im (.sl 11 (rowsM x.ms)), .im (.sl 2 (rowsC x.cs))]], [])) ?_ ⟨ms, cs, h1, h2, h5⟩
  rintro ⟨a, b, _, _, _⟩ ⟨a', b', _, _, _⟩ h
  simp [rowsM_eq, rowsC_eq] at h ⊢
  exact h
theorem sc_rackOf : (ct_rackOf.sc = true) = True := by simp [ct_rackOf, fam]
set_option maxRecDepth 100000 in
set_option maxHeartbeats 4000000 in
theorem law_rackOf : Law Try.prog 56 ct_rackOf := by
  refine fam_lawF (Env_cons law_IsRack (Env_cons law_copyRack Env_nil)) hmixA Try.func56 rfl rfl (fun ⟨ms, cs, h1, h2, h5⟩ => ⟨okO (by unfold rRackB; split; exact okR_rackT; exact okR_rackF), by simp [Try.f56], ?_⟩)
  simp only
  cases hr : isRackF ms cs with
  | false =>
    simp only [rRackB, Bool.false_eq_true, if_false, rRackF]
    try simp -dsimp (maxSteps := 1000000) only [go_sem, List.forall_mem_nil, ↓reduceIte, Nat.reduceEqDiff, Nat.reduceLT, Nat.reduceLeDiff, Nat.reduceAdd, Nat.reduceMul, reduceCtorEq, Try.f56, run_IsRack h1 h2 h5, hr]
    repeat' (first
      | ((with_reducible refine sl_i ?_ ?_); focus kernel_rfl)
      | ((with_reducible refine ro_i ?_ ?_); focus kernel_rfl)
      | ((with_reducible refine sl_e ?_); kernel_rfl)
      | ((with_reducible refine ro_e ?_); kernel_rfl)
      | ((first | (with_reducible refine gS_d ?_ ?_) | (with_reducible refine gS_dn ?_ ?_) | (with_reducible refine gS_i ?_ ?_)) <;> intro hg <;> (try simp -dsimp (maxSteps := 1000000) only [go_sem, List.forall_mem_nil, ↓reduceIte, Nat.reduceEqDiff, Nat.reduceLT, Nat.reduceLeDiff, Nat.reduceAdd, Nat.reduceMul, reduceCtorEq, Try.f56, run_IsRack h1 h2 h5, hr, *])))
    refine finF_i [] ?_
    simp -dsimp (maxSteps := 1000000) only [go_sem, List.forall_mem_nil, ↓reduceIte, Nat.reduceEqDiff, Nat.reduceLT, Nat.reduceLeDiff, Nat.reduceAdd, Nat.reduceMul, reduceCtorEq, rRackF]
  | true =>
    simp only [rRackB, if_true, rRackT]
    try simp -dsimp (maxSteps := 1000000) only [go_sem, List.forall_mem_nil, ↓reduceIte, Nat.reduceEqDiff, Nat.reduceLT, Nat.reduceLeDiff, Nat.reduceAdd, Nat.reduceMul, reduceCtorEq, Try.f56, run_IsRack h1 h2 h5, hr, run_copyRack h1 h2 h5, rRack]
    repeat' (first
      | ((with_reducible refine sl_i ?_ ?_); focus kernel_rfl)
      | ((with_reducible refine ro_i ?_ ?_); focus kernel_rfl)
      | ((with_reducible refine sl_e ?_); kernel_rfl)
      | ((with_reducible refine ro_e ?_); kernel_rfl)
      | ((first | (with_reducible refine gS_d ?_ ?_) | (with_reducible refine gS_dn ?_ ?_) | (with_reducible refine gS_i ?_ ?_)) <;> intro hg <;> (try simp -dsimp (maxSteps := 1000000) only [go_sem, List.forall_mem_nil, ↓reduceIte, Nat.reduceEqDiff, Nat.reduceLT, Nat.reduceLeDiff, Nat.reduceAdd, Nat.reduceMul, reduceCtorEq, Try.f56, run_IsRack h1 h2 h5, hr, run_copyRack h1 h2 h5, rRack, *])))
    refine finF_i [] ?_
    simp -dsimp (maxSteps := 1000000) only [go_sem, List.forall_mem_nil, ↓reduceIte, Nat.reduceEqDiff, Nat.reduceLT, Nat.reduceLeDiff, Nat.reduceAdd, Nat.reduceMul, reduceCtorEq, rRackT]
    refine ⟨[_, _], ?_, ?_, ?_, rfl, rfl⟩ <;> simp [rtOk]

/-! ### AddCable -/
structure AAd where
  ms : List Mod
  cs : List Cbl
  a : Int
  b : Int
  ml : ms.length ≤ sm
  cl : cs.length ≤ 400
  ok : ∀ m ∈ ms, OkM m
def addF (ms : List Mod) (cs : List Cbl) (a b : Int) : Bool := isRackF ms cs && isRackF ms (cs ++ [(a, b)])
noncomputable def ct_AddCable : Ct := fam true (fun x : AAd => ([.agg [.im (.sl 11 (rowsM x.ms)), .im (.sl 2 (rowsC x.cs))], .c (.im (.int .i64 x.a)), .c (.im (.int .i64 x.b))], [])) (fun x => .one (rRackB (addF x.ms x.cs x.a x.b) x.ms (x.cs ++ [(x.a, x.b)])))
theorem run_AddCable {ms : List Mod} {cs : List Cbl} (h1 : ms.length ≤ sm) (h2 : cs.length ≤ 400) (h5 : ∀ m ∈ ms, OkM m) (a b : Int) : ct_AddCable.run [.agg [.im (.sl 11 (rowsM ms)), .im (.sl 2 (rowsC cs))], .c (.im (.int .i64 a)), .c (.im (.int .i64 b))] [] = some (.one (rRackB (addF ms cs a b) ms (cs ++ [(a, b)]))) := by
  refine fam_run' (args := fun x : AAd => ([D.agg [.im (.sl 11 (rowsM x.ms)), .im (.sl 2 (rowsC x.cs))], .c (.im (.int .i64 x.a)), .c (.im (.int .i64 x.b))], [])) ?_ ⟨ms, cs, a, b, h1, h2, h5⟩
  rintro ⟨a, b, _, _, _, _, _⟩ ⟨a', b', _, _, _, _, _⟩ h
  simp [rowsM_eq, rowsC_eq] at h ⊢
  simp [h]
theorem sc_AddCable : (ct_AddCable.sc = true) = True := by simp [ct_AddCable, fam]
set_option maxRecDepth 100000 in
set_option maxHeartbeats 8000000 in
theorem law_AddCable : Law Try.prog 31 ct_AddCable := by
  refine fam_lawF (Env_cons law_IsRack (Env_cons law_Concat (Env_cons law_rackOf Env_nil))) hmixA Try.func31 rfl rfl (fun ⟨ms, cs, a, b, h1, h2, h5⟩ => ⟨okO (by unfold rRackB; split; exact okR_rackT; exact okR_rackF), by simp [Try.f31], ?_⟩)
  simp only
  have hsm : sm = 16777216 := rfl
  have h2' : cs.length ≤ sm := by omega
  cases hr : isRackF ms cs with
  | false =>
    have ha : addF ms cs a b = false := by simp [addF, hr]
    simp only [ha, rRackB, Bool.false_eq_true, if_false, rRackF]
    try simp -dsimp (maxSteps := 1000000) only [go_sem, List.forall_mem_nil, ↓reduceIte, Nat.reduceEqDiff, Nat.reduceLT, Nat.reduceLeDiff, Nat.reduceAdd, Nat.reduceMul, reduceCtorEq, Try.f31, run_IsRack h1 h2' h5, hr]
    repeat' (first
      | ((with_reducible refine sl_i ?_ ?_); focus kernel_rfl)
      | ((with_reducible refine ro_i ?_ ?_); focus kernel_rfl)
      | ((with_reducible refine sl_e ?_); kernel_rfl)
      | ((with_reducible refine ro_e ?_); kernel_rfl)
      | ((first | (with_reducible refine gS_d ?_ ?_) | (with_reducible refine gS_dn ?_ ?_) | (with_reducible refine gS_i ?_ ?_)) <;> intro hg <;> (try simp -dsimp (maxSteps := 1000000) only [go_sem, List.forall_mem_nil, ↓reduceIte, Nat.reduceEqDiff, Nat.reduceLT, Nat.reduceLeDiff, Nat.reduceAdd, Nat.reduceMul, reduceCtorEq, Try.f31, run_IsRack h1 h2' h5, hr, *])))
    refine finF_i [] ?_
    simp -dsimp (maxSteps := 1000000) only [go_sem, List.forall_mem_nil, ↓reduceIte, Nat.reduceEqDiff, Nat.reduceLT, Nat.reduceLeDiff, Nat.reduceAdd, Nat.reduceMul, reduceCtorEq, ha, rRackF, rRackB]
  | true =>
    have ha : addF ms cs a b = isRackF ms (cs ++ [(a, b)]) := by simp [addF, hr]
    have rc : ct_Concat.run [.c (.im (.sl 1 [[.sl 2 (rowsC cs)], [.sl 2 [[.int .i64 a, .int .i64 b]]]]))] [] = some (.one (rNew 2 (rowsC (cs ++ [(a, b)])))) := run_Concat (a := cs) (b := [(a, b)]) (by omega) (by simp) (by simp)
    have ro := run_rackOf (ms := ms) (cs := cs ++ [(a, b)]) h1 (by simp; omega) h5
    have tk : List.take (cs ++ [(a, b)]).length (tI (rowsC (cs ++ [(a, b)]))) = tI (rowsC (cs ++ [(a, b)])) := List.take_of_length_le (by simp [tI_len, rowsC_len])
    generalize hcs : cs ++ [(a, b)] = cs2 at *
    cases hr2 : isRackF ms cs2 with
    | false =>
      simp only [ha, hr2, rRackB, Bool.false_eq_true, if_false, rRackF]
      try simp -dsimp (maxSteps := 1000000) only [go_sem, List.forall_mem_nil, ↓reduceIte, Nat.reduceEqDiff, Nat.reduceLT, Nat.reduceLeDiff, Nat.reduceAdd, Nat.reduceMul, reduceCtorEq, Try.f31, run_IsRack h1 h2' h5, hr, rc, ro, hr2, rRackB, rRackF, rNew, sc_Concat, sc_rackOf, tk, tI_toI, tI_len, rowsC_len, List.take_succ_cons, List.take_zero, List.take_nil]
      repeat' (first
        | ((with_reducible refine sl_i ?_ ?_); focus kernel_rfl)
        | ((with_reducible refine ro_i ?_ ?_); focus kernel_rfl)
        | ((with_reducible refine sl_e ?_); kernel_rfl)
        | ((with_reducible refine ro_e ?_); kernel_rfl)
        | ((first | (with_reducible refine gS_d ?_ ?_) | (with_reducible refine gS_dn ?_ ?_) | (with_reducible refine gS_i ?_ ?_)) <;> intro hg <;> (try simp -dsimp (maxSteps := 1000000) only [go_sem, List.forall_mem_nil, ↓reduceIte, Nat.reduceEqDiff, Nat.reduceLT, Nat.reduceLeDiff, Nat.reduceAdd, Nat.reduceMul, reduceCtorEq, Try.f31, run_IsRack h1 h2' h5, hr, rc, ro, hr2, rRackB, rRackF, rNew, sc_Concat, sc_rackOf, tk, tI_toI, tI_len, rowsC_len, List.take_succ_cons, List.take_zero, List.take_nil, *])))
      refine finF_i [] ?_
      simp -dsimp (maxSteps := 1000000) only [go_sem, List.forall_mem_nil, ↓reduceIte, Nat.reduceEqDiff, Nat.reduceLT, Nat.reduceLeDiff, Nat.reduceAdd, Nat.reduceMul, reduceCtorEq, ha, hr2, rRackF]
    | true =>
      simp only [ha, hr2, rRackB, if_true, rRackT]
      try simp -dsimp (maxSteps := 1000000) only [go_sem, List.forall_mem_nil, ↓reduceIte, Nat.reduceEqDiff, Nat.reduceLT, Nat.reduceLeDiff, Nat.reduceAdd, Nat.reduceMul, reduceCtorEq, Try.f31, run_IsRack h1 h2' h5, hr, rc, ro, hr2, rRackB, rRackT, rNew, sc_Concat, sc_rackOf, tk, tI_toI, tI_len, rowsC_len, List.take_succ_cons, List.take_zero, List.take_nil]
      repeat' (first
        | ((with_reducible refine sl_i ?_ ?_); focus kernel_rfl)
        | ((with_reducible refine ro_i ?_ ?_); focus kernel_rfl)
        | ((with_reducible refine sl_e ?_); kernel_rfl)
        | ((with_reducible refine ro_e ?_); kernel_rfl)
        | ((first | (with_reducible refine gS_d ?_ ?_) | (with_reducible refine gS_dn ?_ ?_) | (with_reducible refine gS_i ?_ ?_)) <;> intro hg <;> (try simp -dsimp (maxSteps := 1000000) only [go_sem, List.forall_mem_nil, ↓reduceIte, Nat.reduceEqDiff, Nat.reduceLT, Nat.reduceLeDiff, Nat.reduceAdd, Nat.reduceMul, reduceCtorEq, Try.f31, run_IsRack h1 h2' h5, hr, rc, ro, hr2, rRackB, rRackT, rNew, sc_Concat, sc_rackOf, tk, tI_toI, tI_len, rowsC_len, List.take_succ_cons, List.take_zero, List.take_nil, *])))
      refine finF_i [] ?_
      simp -dsimp (maxSteps := 1000000) only [go_sem, List.forall_mem_nil, ↓reduceIte, Nat.reduceEqDiff, Nat.reduceLT, Nat.reduceLeDiff, Nat.reduceAdd, Nat.reduceMul, reduceCtorEq, ha, hr2, rRackT]
      refine ⟨[_, _], ?_, ?_, ?_, rfl, rfl⟩ <;> simp [rtOk]
end Go.SX
