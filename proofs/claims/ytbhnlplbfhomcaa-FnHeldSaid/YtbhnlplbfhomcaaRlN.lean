/-
  l1In, FromSteps, l1Any, l2Any, l4Samples, MakeSamples.
  No condition.
-/
import Derived.Test.YtbhnlplbfhomcaaRlM
import Derived.Test.YtbhnlplbfhomcaaRlH
set_option linter.unusedVariables false
set_option linter.unusedSimpArgs false
namespace Go.SX
open Go Go.Proofs

/-! ### l1In -/
noncomputable def ct_l1In : Ct := fam true (fun x : Int × Int × Int => ([.c (.im (.int .i64 x.1)), .c (.im (.int .i64 x.2.1)), .c (.im (.int .i64 x.2.2))], [])) (fun x => .one { val := .c (.im (.bool (decide (x.2.1 ≤ x.1) && decide (x.1 ≤ x.2.2)))) })
theorem run_l1In (k a b : Int) : ct_l1In.run [.c (.im (.int .i64 k)), .c (.im (.int .i64 a)), .c (.im (.int .i64 b))] [] = some (.one { val := .c (.im (.bool (decide (a ≤ k) && decide (k ≤ b)))) }) := fam_run' (args := fun x : Int × Int × Int => ([D.c (.im (.int .i64 x.1)), .c (.im (.int .i64 x.2.1)), .c (.im (.int .i64 x.2.2))], [])) (by
    intro a b h
    simp only [Prod.mk.injEq, List.cons.injEq, D.c.injEq, D.agg.injEq, C.im.injEq, I.cpx.injEq, I.flt.injEq, I.int.injEq, I.sl.injEq, I.bool.injEq, I.str.injEq, Int.natCast_inj, true_and, and_true] at h
    (try simp only [Prod.ext_iff, Subtype.ext_iff])
    (try simp only [rowsZ_eq, rowsN_eq] at h)
    simp_all) (k, a, b)
set_option maxRecDepth 100000 in
theorem law_l1In : Law Try.prog 35 ct_l1In := by
  refine fam_law Env_nil hmixA Try.func35 rfl rfl (fun ⟨k, a, b⟩ => ⟨okO_im rfl, by simp [Try.f35], ?_⟩)
  simp only
  by_cases h1 : a ≤ k
  · have h1' := eq_true h1
    by_cases h2 : k ≤ b
    · have h2' := eq_true h2
      clear h1 h2
      try simp -dsimp (maxSteps := 1000000) only [go_sem, List.forall_mem_nil, ↓reduceIte, Nat.reduceEqDiff, Nat.reduceLT, Nat.reduceLeDiff, Nat.reduceAdd, Nat.reduceMul, reduceCtorEq, Try.f35, h1', h2', Bool.and_true]
      repeat' (first
        | ((with_reducible refine sl_i ?_ ?_); focus kernel_rfl)
        | ((with_reducible refine ro_i ?_ ?_); focus kernel_rfl)
        | ((with_reducible refine sl_e ?_); kernel_rfl)
        | ((with_reducible refine ro_e ?_); kernel_rfl)
        | ((first | (with_reducible refine gS_d ?_ ?_) | (with_reducible refine gS_dn ?_ ?_) | (with_reducible refine gS_i ?_ ?_)) <;> intro hg <;> (try simp -dsimp (maxSteps := 1000000) only [go_sem, List.forall_mem_nil, ↓reduceIte, Nat.reduceEqDiff, Nat.reduceLT, Nat.reduceLeDiff, Nat.reduceAdd, Nat.reduceMul, reduceCtorEq, Try.f35, h1', h2', Bool.and_true, *])))
    · have h2' := eq_false h2
      clear h1 h2
      try simp -dsimp (maxSteps := 1000000) only [go_sem, List.forall_mem_nil, ↓reduceIte, Nat.reduceEqDiff, Nat.reduceLT, Nat.reduceLeDiff, Nat.reduceAdd, Nat.reduceMul, reduceCtorEq, Try.f35, h1', h2', Bool.and_false]
      repeat' (first
        | ((with_reducible refine sl_i ?_ ?_); focus kernel_rfl)
        | ((with_reducible refine ro_i ?_ ?_); focus kernel_rfl)
        | ((with_reducible refine sl_e ?_); kernel_rfl)
        | ((with_reducible refine ro_e ?_); kernel_rfl)
        | ((first | (with_reducible refine gS_d ?_ ?_) | (with_reducible refine gS_dn ?_ ?_) | (with_reducible refine gS_i ?_ ?_)) <;> intro hg <;> (try simp -dsimp (maxSteps := 1000000) only [go_sem, List.forall_mem_nil, ↓reduceIte, Nat.reduceEqDiff, Nat.reduceLT, Nat.reduceLeDiff, Nat.reduceAdd, Nat.reduceMul, reduceCtorEq, Try.f35, h1', h2', Bool.and_false, *])))
  · have h1' := eq_false h1
    clear h1
    try simp -dsimp (maxSteps := 1000000) only [go_sem, List.forall_mem_nil, ↓reduceIte, Nat.reduceEqDiff, Nat.reduceLT, Nat.reduceLeDiff, Nat.reduceAdd, Nat.reduceMul, reduceCtorEq, Try.f35, h1', Bool.false_and]
    repeat' (first
      | ((with_reducible refine sl_i ?_ ?_); focus kernel_rfl)
      | ((with_reducible refine ro_i ?_ ?_); focus kernel_rfl)
      | ((with_reducible refine sl_e ?_); kernel_rfl)
      | ((with_reducible refine ro_e ?_); kernel_rfl)
      | ((first | (with_reducible refine gS_d ?_ ?_) | (with_reducible refine gS_dn ?_ ?_) | (with_reducible refine gS_i ?_ ?_)) <;> intro hg <;> (try simp -dsimp (maxSteps := 1000000) only [go_sem, List.forall_mem_nil, ↓reduceIte, Nat.reduceEqDiff, Nat.reduceLT, Nat.reduceLeDiff, Nat.reduceAdd, Nat.reduceMul, reduceCtorEq, Try.f35, h1', Bool.false_and, *])))

/-! ### FromSteps -/
abbrev KR := { k : Int // -4294967296 ≤ k ∧ k ≤ 4294967296 }
def rFS (q : Nat × Bool) : Res := { val := .tup [.c (.im (.flt .f32 q.1)), .c (.im (.bool q.2))] }
def oFS : Outs := .any (Nat × Bool) (fun q => rFS q)
theorem okR_FS {sc : Bool} {q : Nat × Bool} : OkR sc (rFS q) := by
  refine ⟨.tup _ (fun d hd => ?_), by simp [rFS], by simp [rFS]⟩
  simp only [rFS, List.mem_cons, List.not_mem_nil, or_false] at hd
  rcases hd with rfl | rfl <;> exact .inl ⟨_, rfl, okC_sc rfl⟩
noncomputable def ct_FromSteps : Ct := fam true (fun x : KR => ([.c (.im (.int .i64 x.1))], [])) (fun _ => oFS)
theorem run_FromSteps {k : Int} (h1 : -4294967296 ≤ k) (h2 : k ≤ 4294967296) : ct_FromSteps.run [.c (.im (.int .i64 k))] [] = some oFS := fam_run' (args := fun x : KR => ([D.c (.im (.int .i64 x.1))], [])) (by
    intro a b h
    simp only [Prod.mk.injEq, List.cons.injEq, D.c.injEq, D.agg.injEq, C.im.injEq, I.cpx.injEq, I.flt.injEq, I.int.injEq, I.sl.injEq, I.bool.injEq, I.str.injEq, Int.natCast_inj, true_and, and_true] at h
    (try simp only [Prod.ext_iff, Subtype.ext_iff])
    (try simp only [rowsZ_eq, rowsN_eq] at h)
    simp_all) (⟨k, h1, h2⟩ : KR)
theorem ne_FS : Nonempty (Nat × Bool) = True := by simp only [eq_iff_iff, iff_true]; exact ⟨(0, true)⟩
set_option maxRecDepth 100000 in
set_option maxHeartbeats 4000000 in
theorem law_FromSteps : Law Try.prog 104 ct_FromSteps := by
  refine fam_law (Env_cons law_l1In Env_nil) hmixA Try.func104 rfl rfl (fun ⟨k, n1, n2⟩ => ⟨okA (fun o => okR_FS), by simp [Try.f104], ?_⟩)
  simp only [oFS, rFS]
  by_cases hin : -2139095039 ≤ k ∧ k ≤ 2139095039
  rotate_left
  · have hb : (decide (-2139095039 ≤ k) && decide (k ≤ 2139095039)) = false := by simpa using fun h => by omega
    try simp -dsimp (maxSteps := 1000000) only [go_sem, List.forall_mem_nil, ↓reduceIte, Nat.reduceEqDiff, Nat.reduceLT, Nat.reduceLeDiff, Nat.reduceAdd, Nat.reduceMul, reduceCtorEq, Try.f104, run_l1In, hb]
    repeat' (first
      | ((with_reducible refine sl_i ?_ ?_); focus kernel_rfl)
      | ((with_reducible refine ro_i ?_ ?_); focus kernel_rfl)
      | ((with_reducible refine sl_e ?_); kernel_rfl)
      | ((with_reducible refine ro_e ?_); kernel_rfl)
      | ((first | (with_reducible refine gS_d ?_ ?_) | (with_reducible refine gS_dn ?_ ?_) | (with_reducible refine gS_i ?_ ?_)) <;> intro hg <;> (try simp -dsimp (maxSteps := 1000000) only [go_sem, List.forall_mem_nil, ↓reduceIte, Nat.reduceEqDiff, Nat.reduceLT, Nat.reduceLeDiff, Nat.reduceAdd, Nat.reduceMul, reduceCtorEq, Try.f104, run_l1In, hb, *])))
    all_goals exact ⟨(_, _), rfl, rfl⟩
  have hb : (decide (-2139095039 ≤ k) && decide (k ≤ 2139095039)) = true := by simpa using hin
  obtain ⟨m, hm⟩ : ∃ m, (if IntKind.i64.wrap (-k) > k then IntKind.i64.wrap (-k) else k) = m := ⟨_, rfl⟩
  have hmr : m ≤ 4294967296 ∧ 0 ≤ m := by rw [← hm, wrap_id (by omega) (by omega)]; split <;> omega
  try simp -dsimp (maxSteps := 1000000) only [go_sem, List.forall_mem_nil, ↓reduceIte, Nat.reduceEqDiff, Nat.reduceLT, Nat.reduceLeDiff, Nat.reduceAdd, Nat.reduceMul, reduceCtorEq, Try.f104, run_l1In, hb, hm]
  repeat' (first
    | ((with_reducible refine sl_i ?_ ?_); focus kernel_rfl)
    | ((with_reducible refine ro_i ?_ ?_); focus kernel_rfl)
    | ((with_reducible refine sl_e ?_); kernel_rfl)
    | ((with_reducible refine ro_e ?_); kernel_rfl)
    | ((first | (with_reducible refine gS_d ?_ ?_) | (with_reducible refine gS_dn ?_ ?_) | (with_reducible refine gS_i ?_ ?_)) <;> intro hg <;> (try simp -dsimp (maxSteps := 1000000) only [go_sem, List.forall_mem_nil, ↓reduceIte, Nat.reduceEqDiff, Nat.reduceLT, Nat.reduceLeDiff, Nat.reduceAdd, Nat.reduceMul, reduceCtorEq, Try.f104, run_l1In, hb, hm, *])))
  refine loop_i (ι := { x : Int × Int // 0 ≤ x.1 ∧ 0 ≤ x.2 ∧ x.2 * 8388608 + x.1 ≤ 4294967296 }) (fun x => ⟨[(0, some (.c (.im (.int .i64 k)))), (4, some (.c (.im (.int .i64 x.1.1)))), (5, some (.c (.im (.int .i64 x.1.2))))], [], 0⟩) (fun x => x.1.1.toNat) ⟨(m, 0), by simp only []; omega⟩ ⟨[], [], by ((simp only [ne_eq, eq_self, subF, folds, wk1, subOk, sOk, hOk, nms, reF, rho, mapD, mapC, mapC1, NmD, NmC, NmC1, mapR, mapB, mapTt, NmR, NmB, NmT, MvRb, MvRn, MvRt, lk, ins, Root.get, Root.setT, List.map_cons, List.map_nil, List.nodup_cons, List.nodup_nil, List.not_mem_nil, List.mem_cons, not_false_eq_true, and_self, and_true, true_and, true_or, or_true, false_or, or_false, ↓reduceIte, Nat.reduceEqDiff, Nat.reduceLT, Nat.reduceLeDiff, reduceCtorEq, Option.isSome_some, List.forall_mem_cons, List.forall_mem_nil, implies_true, forall_const, Nat.le_refl, Nat.zero_le, false_implies, List.mem_singleton, MvB_im, MvB_nil, Mv_im, Option.some.injEq, D.c.injEq, C.im.injEq, I.int.injEq, List.getElem?_cons_zero, List.getElem?_cons_succ, List.set_cons_zero, List.set_cons_succ, List.length_cons, List.length_nil, Nat.zero_add, hm]) <;> (try (simp -dsimp only [ne_eq, eq_self, subF, folds, wk1, subOk, sOk, hOk, nms, reF, rho, mapD, mapC, mapC1, NmD, NmC, NmC1, mapR, mapB, mapTt, NmR, NmB, NmT, MvRb, MvRn, MvRt, lk, ins, Root.get, Root.setT, List.map_cons, List.map_nil, List.nodup_cons, List.nodup_nil, List.not_mem_nil, List.mem_cons, not_false_eq_true, and_self, and_true, true_and, true_or, or_true, false_or, or_false, ↓reduceIte, Nat.reduceEqDiff, Nat.reduceLT, Nat.reduceLeDiff, reduceCtorEq, Option.isSome_some, List.forall_mem_cons, List.forall_mem_nil, implies_true, forall_const, Nat.le_refl, Nat.zero_le, false_implies, List.mem_singleton, MvB_im, MvB_nil, Mv_im, Option.some.injEq, D.c.injEq, C.im.injEq, I.int.injEq, List.getElem?_cons_zero, List.getElem?_cons_succ, List.set_cons_zero, List.set_cons_succ, List.length_cons, List.length_nil, Nat.zero_add, hm]))) <;> simp <;> exact hm⟩ (fun ⟨⟨n, e⟩, q1, q2, q3⟩ => ?_)
  simp only at q1 q2 q3 ⊢
  by_cases hn : 16777216 ≤ n
  · have hn' := eq_true hn
    have w1 : IntKind.i64.wrap (n - 8388608) = n - 8388608 := wrap_id (by omega) (by omega)
    have w2 : IntKind.i64.wrap (e + 1) = e + 1 := wrap_id (by omega) (by omega)
    try simp -dsimp (maxSteps := 1000000) only [go_sem, List.forall_mem_nil, ↓reduceIte, Nat.reduceEqDiff, Nat.reduceLT, Nat.reduceLeDiff, Nat.reduceAdd, Nat.reduceMul, reduceCtorEq, Try.f104, hn', w1, w2]
    repeat' (first
      | ((with_reducible refine sl_i ?_ ?_); focus kernel_rfl)
      | ((with_reducible refine ro_i ?_ ?_); focus kernel_rfl)
      | ((with_reducible refine sl_e ?_); kernel_rfl)
      | ((with_reducible refine ro_e ?_); kernel_rfl)
      | ((first | (with_reducible refine gS_d ?_ ?_) | (with_reducible refine gS_dn ?_ ?_) | (with_reducible refine gS_i ?_ ?_)) <;> intro hg <;> (try simp -dsimp (maxSteps := 1000000) only [go_sem, List.forall_mem_nil, ↓reduceIte, Nat.reduceEqDiff, Nat.reduceLT, Nat.reduceLeDiff, Nat.reduceAdd, Nat.reduceMul, reduceCtorEq, Try.f104, hn', w1, w2, *])))
    exact ⟨⟨(n - 8388608, e + 1), by simp only []; omega⟩, by simp only []; omega, [], [], by ((simp only [ne_eq, eq_self, subF, folds, wk1, subOk, sOk, hOk, nms, reF, rho, mapD, mapC, mapC1, NmD, NmC, NmC1, mapR, mapB, mapTt, NmR, NmB, NmT, MvRb, MvRn, MvRt, lk, ins, Root.get, Root.setT, List.map_cons, List.map_nil, List.nodup_cons, List.nodup_nil, List.not_mem_nil, List.mem_cons, not_false_eq_true, and_self, and_true, true_and, true_or, or_true, false_or, or_false, ↓reduceIte, Nat.reduceEqDiff, Nat.reduceLT, Nat.reduceLeDiff, reduceCtorEq, Option.isSome_some, List.forall_mem_cons, List.forall_mem_nil, implies_true, forall_const, Nat.le_refl, Nat.zero_le, false_implies, List.mem_singleton, MvB_im, MvB_nil, Mv_im, Option.some.injEq, D.c.injEq, C.im.injEq, I.int.injEq, List.getElem?_cons_zero, List.getElem?_cons_succ, List.set_cons_zero, List.set_cons_succ, List.length_cons, List.length_nil, Nat.zero_add]) <;> (try (simp -dsimp only [ne_eq, eq_self, subF, folds, wk1, subOk, sOk, hOk, nms, reF, rho, mapD, mapC, mapC1, NmD, NmC, NmC1, mapR, mapB, mapTt, NmR, NmB, NmT, MvRb, MvRn, MvRt, lk, ins, Root.get, Root.setT, List.map_cons, List.map_nil, List.nodup_cons, List.nodup_nil, List.not_mem_nil, List.mem_cons, not_false_eq_true, and_self, and_true, true_and, true_or, or_true, false_or, or_false, ↓reduceIte, Nat.reduceEqDiff, Nat.reduceLT, Nat.reduceLeDiff, reduceCtorEq, Option.isSome_some, List.forall_mem_cons, List.forall_mem_nil, implies_true, forall_const, Nat.le_refl, Nat.zero_le, false_implies, List.mem_singleton, MvB_im, MvB_nil, Mv_im, Option.some.injEq, D.c.injEq, C.im.injEq, I.int.injEq, List.getElem?_cons_zero, List.getElem?_cons_succ, List.set_cons_zero, List.set_cons_succ, List.length_cons, List.length_nil, Nat.zero_add]))) <;> simp⟩
  have hn' := eq_false hn
  obtain ⟨y0, hy0⟩ : ∃ y, FloatKind.f64.nearest n = y := ⟨_, rfl⟩
  try simp -dsimp (maxSteps := 1000000) only [go_sem, List.forall_mem_nil, ↓reduceIte, Nat.reduceEqDiff, Nat.reduceLT, Nat.reduceLeDiff, Nat.reduceAdd, Nat.reduceMul, reduceCtorEq, Try.f104, hn', hy0]
  repeat' (first
    | ((with_reducible refine sl_i ?_ ?_); focus kernel_rfl)
    | ((with_reducible refine ro_i ?_ ?_); focus kernel_rfl)
    | ((with_reducible refine sl_e ?_); kernel_rfl)
    | ((with_reducible refine ro_e ?_); kernel_rfl)
    | ((first | (with_reducible refine gS_d ?_ ?_) | (with_reducible refine gS_dn ?_ ?_) | (with_reducible refine gS_i ?_ ?_)) <;> intro hg <;> (try simp -dsimp (maxSteps := 1000000) only [go_sem, List.forall_mem_nil, ↓reduceIte, Nat.reduceEqDiff, Nat.reduceLT, Nat.reduceLeDiff, Nat.reduceAdd, Nat.reduceMul, reduceCtorEq, Try.f104, hn', hy0, *])))
  refine loop_i (ι := Nat × { i : Nat // i ≤ 149 }) (fun x => ⟨[(0, some (.c (.im (.int .i64 k)))), (5, some (.c (.im (.int .i64 e)))), (6, some (.c (.im (.flt .f64 x.1)))), (7, some (.c (.im (.int .i64 (x.2.1 : Int)))))], [], 0⟩) (fun x => 149 - x.2.1) (y0, ⟨0, by omega⟩) ⟨[], [], by ((simp only [ne_eq, eq_self, subF, folds, wk1, subOk, sOk, hOk, nms, reF, rho, mapD, mapC, mapC1, NmD, NmC, NmC1, mapR, mapB, mapTt, NmR, NmB, NmT, MvRb, MvRn, MvRt, lk, ins, Root.get, Root.setT, List.map_cons, List.map_nil, List.nodup_cons, List.nodup_nil, List.not_mem_nil, List.mem_cons, not_false_eq_true, and_self, and_true, true_and, true_or, or_true, false_or, or_false, ↓reduceIte, Nat.reduceEqDiff, Nat.reduceLT, Nat.reduceLeDiff, reduceCtorEq, Option.isSome_some, List.forall_mem_cons, List.forall_mem_nil, implies_true, forall_const, Nat.le_refl, Nat.zero_le, false_implies, List.mem_singleton, MvB_im, MvB_nil, Mv_im, Option.some.injEq, D.c.injEq, C.im.injEq, I.int.injEq, List.getElem?_cons_zero, List.getElem?_cons_succ, List.set_cons_zero, List.set_cons_succ, List.length_cons, List.length_nil, Nat.zero_add]) <;> (try (simp -dsimp only [ne_eq, eq_self, subF, folds, wk1, subOk, sOk, hOk, nms, reF, rho, mapD, mapC, mapC1, NmD, NmC, NmC1, mapR, mapB, mapTt, NmR, NmB, NmT, MvRb, MvRn, MvRt, lk, ins, Root.get, Root.setT, List.map_cons, List.map_nil, List.nodup_cons, List.nodup_nil, List.not_mem_nil, List.mem_cons, not_false_eq_true, and_self, and_true, true_and, true_or, or_true, false_or, or_false, ↓reduceIte, Nat.reduceEqDiff, Nat.reduceLT, Nat.reduceLeDiff, reduceCtorEq, Option.isSome_some, List.forall_mem_cons, List.forall_mem_nil, implies_true, forall_const, Nat.le_refl, Nat.zero_le, false_implies, List.mem_singleton, MvB_im, MvB_nil, Mv_im, Option.some.injEq, D.c.injEq, C.im.injEq, I.int.injEq, List.getElem?_cons_zero, List.getElem?_cons_succ, List.set_cons_zero, List.set_cons_succ, List.length_cons, List.length_nil, Nat.zero_add]))) <;> simp⟩ (fun ⟨y, ⟨i, hi⟩⟩ => ?_)
  simp only
  by_cases hi' : i < 149
  · have hI : ((i : Int) < 149) = True := eq_true (by omega)
    have w1 : IntKind.i64.wrap ((i : Int) + 1) = (i : Int) + 1 := wrap_id (by omega) (by omega)
    try simp -dsimp (maxSteps := 1000000) only [go_sem, List.forall_mem_nil, ↓reduceIte, Nat.reduceEqDiff, Nat.reduceLT, Nat.reduceLeDiff, Nat.reduceAdd, Nat.reduceMul, reduceCtorEq, Try.f104, hI, w1]
    repeat' (first
      | ((with_reducible refine sl_i ?_ ?_); focus kernel_rfl)
      | ((with_reducible refine ro_i ?_ ?_); focus kernel_rfl)
      | ((with_reducible refine sl_e ?_); kernel_rfl)
      | ((with_reducible refine ro_e ?_); kernel_rfl)
      | ((first | (with_reducible refine gS_d ?_ ?_) | (with_reducible refine gS_dn ?_ ?_) | (with_reducible refine gS_i ?_ ?_)) <;> intro hg <;> (try simp -dsimp (maxSteps := 1000000) only [go_sem, List.forall_mem_nil, ↓reduceIte, Nat.reduceEqDiff, Nat.reduceLT, Nat.reduceLeDiff, Nat.reduceAdd, Nat.reduceMul, reduceCtorEq, Try.f104, hI, w1, *])))
    exact ⟨(fop .quo .f64 y 4611686018427387904, ⟨i + 1, by omega⟩), by simp only []; omega, [], [], by ((simp only [ne_eq, eq_self, subF, folds, wk1, subOk, sOk, hOk, nms, reF, rho, mapD, mapC, mapC1, NmD, NmC, NmC1, mapR, mapB, mapTt, NmR, NmB, NmT, MvRb, MvRn, MvRt, lk, ins, Root.get, Root.setT, List.map_cons, List.map_nil, List.nodup_cons, List.nodup_nil, List.not_mem_nil, List.mem_cons, not_false_eq_true, and_self, and_true, true_and, true_or, or_true, false_or, or_false, ↓reduceIte, Nat.reduceEqDiff, Nat.reduceLT, Nat.reduceLeDiff, reduceCtorEq, Option.isSome_some, List.forall_mem_cons, List.forall_mem_nil, implies_true, forall_const, Nat.le_refl, Nat.zero_le, false_implies, List.mem_singleton, MvB_im, MvB_nil, Mv_im, Option.some.injEq, D.c.injEq, C.im.injEq, I.int.injEq, List.getElem?_cons_zero, List.getElem?_cons_succ, List.set_cons_zero, List.set_cons_succ, List.length_cons, List.length_nil, Nat.zero_add]) <;> (try (simp -dsimp only [ne_eq, eq_self, subF, folds, wk1, subOk, sOk, hOk, nms, reF, rho, mapD, mapC, mapC1, NmD, NmC, NmC1, mapR, mapB, mapTt, NmR, NmB, NmT, MvRb, MvRn, MvRt, lk, ins, Root.get, Root.setT, List.map_cons, List.map_nil, List.nodup_cons, List.nodup_nil, List.not_mem_nil, List.mem_cons, not_false_eq_true, and_self, and_true, true_and, true_or, or_true, false_or, or_false, ↓reduceIte, Nat.reduceEqDiff, Nat.reduceLT, Nat.reduceLeDiff, reduceCtorEq, Option.isSome_some, List.forall_mem_cons, List.forall_mem_nil, implies_true, forall_const, Nat.le_refl, Nat.zero_le, false_implies, List.mem_singleton, MvB_im, MvB_nil, Mv_im, Option.some.injEq, D.c.injEq, C.im.injEq, I.int.injEq, List.getElem?_cons_zero, List.getElem?_cons_succ, List.set_cons_zero, List.set_cons_succ, List.length_cons, List.length_nil, Nat.zero_add]))) <;> simp⟩
  have hI : ((i : Int) < 149) = False := eq_false (by omega)
  try simp -dsimp (maxSteps := 1000000) only [go_sem, List.forall_mem_nil, ↓reduceIte, Nat.reduceEqDiff, Nat.reduceLT, Nat.reduceLeDiff, Nat.reduceAdd, Nat.reduceMul, reduceCtorEq, Try.f104, hI]
  repeat' (first
    | ((with_reducible refine sl_i ?_ ?_); focus kernel_rfl)
    | ((with_reducible refine ro_i ?_ ?_); focus kernel_rfl)
    | ((with_reducible refine sl_e ?_); kernel_rfl)
    | ((with_reducible refine ro_e ?_); kernel_rfl)
    | ((first | (with_reducible refine gS_d ?_ ?_) | (with_reducible refine gS_dn ?_ ?_) | (with_reducible refine gS_i ?_ ?_)) <;> intro hg <;> (try simp -dsimp (maxSteps := 1000000) only [go_sem, List.forall_mem_nil, ↓reduceIte, Nat.reduceEqDiff, Nat.reduceLT, Nat.reduceLeDiff, Nat.reduceAdd, Nat.reduceMul, reduceCtorEq, Try.f104, hI, *])))
  refine loop_i (ι := Nat × { e : Int // 0 ≤ e ∧ e ≤ 4294967296 }) (fun x => ⟨[(0, some (.c (.im (.int .i64 k)))), (5, some (.c (.im (.int .i64 x.2.1)))), (6, some (.c (.im (.flt .f64 x.1))))], [], 0⟩) (fun x => x.2.1.toNat) (y, ⟨e, by omega⟩) ⟨[], [], by ((simp only [ne_eq, eq_self, subF, folds, wk1, subOk, sOk, hOk, nms, reF, rho, mapD, mapC, mapC1, NmD, NmC, NmC1, mapR, mapB, mapTt, NmR, NmB, NmT, MvRb, MvRn, MvRt, lk, ins, Root.get, Root.setT, List.map_cons, List.map_nil, List.nodup_cons, List.nodup_nil, List.not_mem_nil, List.mem_cons, not_false_eq_true, and_self, and_true, true_and, true_or, or_true, false_or, or_false, ↓reduceIte, Nat.reduceEqDiff, Nat.reduceLT, Nat.reduceLeDiff, reduceCtorEq, Option.isSome_some, List.forall_mem_cons, List.forall_mem_nil, implies_true, forall_const, Nat.le_refl, Nat.zero_le, false_implies, List.mem_singleton, MvB_im, MvB_nil, Mv_im, Option.some.injEq, D.c.injEq, C.im.injEq, I.int.injEq, List.getElem?_cons_zero, List.getElem?_cons_succ, List.set_cons_zero, List.set_cons_succ, List.length_cons, List.length_nil, Nat.zero_add]) <;> (try (simp -dsimp only [ne_eq, eq_self, subF, folds, wk1, subOk, sOk, hOk, nms, reF, rho, mapD, mapC, mapC1, NmD, NmC, NmC1, mapR, mapB, mapTt, NmR, NmB, NmT, MvRb, MvRn, MvRt, lk, ins, Root.get, Root.setT, List.map_cons, List.map_nil, List.nodup_cons, List.nodup_nil, List.not_mem_nil, List.mem_cons, not_false_eq_true, and_self, and_true, true_and, true_or, or_true, false_or, or_false, ↓reduceIte, Nat.reduceEqDiff, Nat.reduceLT, Nat.reduceLeDiff, reduceCtorEq, Option.isSome_some, List.forall_mem_cons, List.forall_mem_nil, implies_true, forall_const, Nat.le_refl, Nat.zero_le, false_implies, List.mem_singleton, MvB_im, MvB_nil, Mv_im, Option.some.injEq, D.c.injEq, C.im.injEq, I.int.injEq, List.getElem?_cons_zero, List.getElem?_cons_succ, List.set_cons_zero, List.set_cons_succ, List.length_cons, List.length_nil, Nat.zero_add]))) <;> simp⟩ (fun ⟨z, ⟨f, f1, f2⟩⟩ => ?_)
  simp only
  by_cases hf : 0 < f
  · have hF := eq_true hf
    have w1 : IntKind.i64.wrap (f - 1) = f - 1 := wrap_id (by omega) (by omega)
    try simp -dsimp (maxSteps := 1000000) only [go_sem, List.forall_mem_nil, ↓reduceIte, Nat.reduceEqDiff, Nat.reduceLT, Nat.reduceLeDiff, Nat.reduceAdd, Nat.reduceMul, reduceCtorEq, Try.f104, hF, w1]
    repeat' (first
      | ((with_reducible refine sl_i ?_ ?_); focus kernel_rfl)
      | ((with_reducible refine ro_i ?_ ?_); focus kernel_rfl)
      | ((with_reducible refine sl_e ?_); kernel_rfl)
      | ((with_reducible refine ro_e ?_); kernel_rfl)
      | ((first | (with_reducible refine gS_d ?_ ?_) | (with_reducible refine gS_dn ?_ ?_) | (with_reducible refine gS_i ?_ ?_)) <;> intro hg <;> (try simp -dsimp (maxSteps := 1000000) only [go_sem, List.forall_mem_nil, ↓reduceIte, Nat.reduceEqDiff, Nat.reduceLT, Nat.reduceLeDiff, Nat.reduceAdd, Nat.reduceMul, reduceCtorEq, Try.f104, hF, w1, *])))
    exact ⟨(fop .mul .f64 z 4611686018427387904, ⟨f - 1, by omega⟩), by simp only []; omega, [], [], by ((simp only [ne_eq, eq_self, subF, folds, wk1, subOk, sOk, hOk, nms, reF, rho, mapD, mapC, mapC1, NmD, NmC, NmC1, mapR, mapB, mapTt, NmR, NmB, NmT, MvRb, MvRn, MvRt, lk, ins, Root.get, Root.setT, List.map_cons, List.map_nil, List.nodup_cons, List.nodup_nil, List.not_mem_nil, List.mem_cons, not_false_eq_true, and_self, and_true, true_and, true_or, or_true, false_or, or_false, ↓reduceIte, Nat.reduceEqDiff, Nat.reduceLT, Nat.reduceLeDiff, reduceCtorEq, Option.isSome_some, List.forall_mem_cons, List.forall_mem_nil, implies_true, forall_const, Nat.le_refl, Nat.zero_le, false_implies, List.mem_singleton, MvB_im, MvB_nil, Mv_im, Option.some.injEq, D.c.injEq, C.im.injEq, I.int.injEq, List.getElem?_cons_zero, List.getElem?_cons_succ, List.set_cons_zero, List.set_cons_succ, List.length_cons, List.length_nil, Nat.zero_add]) <;> (try (simp -dsimp only [ne_eq, eq_self, subF, folds, wk1, subOk, sOk, hOk, nms, reF, rho, mapD, mapC, mapC1, NmD, NmC, NmC1, mapR, mapB, mapTt, NmR, NmB, NmT, MvRb, MvRn, MvRt, lk, ins, Root.get, Root.setT, List.map_cons, List.map_nil, List.nodup_cons, List.nodup_nil, List.not_mem_nil, List.mem_cons, not_false_eq_true, and_self, and_true, true_and, true_or, or_true, false_or, or_false, ↓reduceIte, Nat.reduceEqDiff, Nat.reduceLT, Nat.reduceLeDiff, reduceCtorEq, Option.isSome_some, List.forall_mem_cons, List.forall_mem_nil, implies_true, forall_const, Nat.le_refl, Nat.zero_le, false_implies, List.mem_singleton, MvB_im, MvB_nil, Mv_im, Option.some.injEq, D.c.injEq, C.im.injEq, I.int.injEq, List.getElem?_cons_zero, List.getElem?_cons_succ, List.set_cons_zero, List.set_cons_succ, List.length_cons, List.length_nil, Nat.zero_add]))) <;> simp⟩
  have hF := eq_false hf
  by_cases hk0 : k < 0
  · have hk' := eq_true hk0
    try simp -dsimp (maxSteps := 1000000) only [go_sem, List.forall_mem_nil, ↓reduceIte, Nat.reduceEqDiff, Nat.reduceLT, Nat.reduceLeDiff, Nat.reduceAdd, Nat.reduceMul, reduceCtorEq, Try.f104, hF, hk', cK_narrow]
    repeat' (first
      | ((with_reducible refine sl_i ?_ ?_); focus kernel_rfl)
      | ((with_reducible refine ro_i ?_ ?_); focus kernel_rfl)
      | ((with_reducible refine sl_e ?_); kernel_rfl)
      | ((with_reducible refine ro_e ?_); kernel_rfl)
      | ((first | (with_reducible refine gS_d ?_ ?_) | (with_reducible refine gS_dn ?_ ?_) | (with_reducible refine gS_i ?_ ?_)) <;> intro hg <;> (try simp -dsimp (maxSteps := 1000000) only [go_sem, List.forall_mem_nil, ↓reduceIte, Nat.reduceEqDiff, Nat.reduceLT, Nat.reduceLeDiff, Nat.reduceAdd, Nat.reduceMul, reduceCtorEq, Try.f104, hF, hk', cK_narrow, *])))
    intro o
    exact ⟨(_, _), rfl, rfl⟩
  · have hk' := eq_false hk0
    try simp -dsimp (maxSteps := 1000000) only [go_sem, List.forall_mem_nil, ↓reduceIte, Nat.reduceEqDiff, Nat.reduceLT, Nat.reduceLeDiff, Nat.reduceAdd, Nat.reduceMul, reduceCtorEq, Try.f104, hF, hk', cK_narrow]
    repeat' (first
      | ((with_reducible refine sl_i ?_ ?_); focus kernel_rfl)
      | ((with_reducible refine ro_i ?_ ?_); focus kernel_rfl)
      | ((with_reducible refine sl_e ?_); kernel_rfl)
      | ((with_reducible refine ro_e ?_); kernel_rfl)
      | ((first | (with_reducible refine gS_d ?_ ?_) | (with_reducible refine gS_dn ?_ ?_) | (with_reducible refine gS_i ?_ ?_)) <;> intro hg <;> (try simp -dsimp (maxSteps := 1000000) only [go_sem, List.forall_mem_nil, ↓reduceIte, Nat.reduceEqDiff, Nat.reduceLT, Nat.reduceLeDiff, Nat.reduceAdd, Nat.reduceMul, reduceCtorEq, Try.f104, hF, hk', cK_narrow, *])))
    intro o
    exact ⟨(_, _), rfl, rfl⟩

/-! ### l1Any -/
def pick5 : List Int := [0, 8388608, -8388608, 1065353216, 2139095019]
theorem pick5_rng {x : Int} (h : x ∈ pick5) : -8388608 ≤ x ∧ x ≤ 2139095019 := by
  simp only [pick5, List.mem_cons, List.not_mem_nil, or_false] at h
  omega
set_option maxRecDepth 100000 in
set_option maxHeartbeats 4000000 in
theorem law_l1Any : Law Try.prog 94 ctNat := by
  refine fam_law (Env_cons law_l01Once (Env_cons law_l1Odd (Env_cons law_l01Below (Env_cons law_l01Int (Env_cons law_FromSteps (Env_cons law_l1Some Env_nil)))))) hmixA Try.func94 rfl rfl (fun ⟨l, h1, h2, a, h, h3, h4⟩ => ⟨okA (fun o => okK (n := 0) okDi), by simp [Try.f94], ?_⟩)
  simp only [oNat, hsK]
  try simp -dsimp (maxSteps := 1000000) only [go_sem, List.forall_mem_nil, ↓reduceIte, Nat.reduceEqDiff, Nat.reduceLT, Nat.reduceLeDiff, Nat.reduceAdd, Nat.reduceMul, reduceCtorEq, Try.f94, run_l01Once h1 h2 h3 h4 (n := 8) (by decide) (by decide), oOnce, hsK, ne_once]
  repeat' (first
    | ((with_reducible refine sl_i ?_ ?_); focus kernel_rfl)
    | ((with_reducible refine ro_i ?_ ?_); focus kernel_rfl)
    | ((with_reducible refine sl_e ?_); kernel_rfl)
    | ((with_reducible refine ro_e ?_); kernel_rfl)
    | ((first | (with_reducible refine gS_d ?_ ?_) | (with_reducible refine gS_dn ?_ ?_) | (with_reducible refine gS_i ?_ ?_)) <;> intro hg <;> (try simp -dsimp (maxSteps := 1000000) only [go_sem, List.forall_mem_nil, ↓reduceIte, Nat.reduceEqDiff, Nat.reduceLT, Nat.reduceLeDiff, Nat.reduceAdd, Nat.reduceMul, reduceCtorEq, Try.f94, run_l01Once h1 h2 h3 h4 (n := 8) (by decide) (by decide), oOnce, hsK, ne_once, *])))
  rintro ⟨c1, ⟨⟨a1, k1⟩, b1⟩⟩
  cases c1 with
  | true =>
    try simp -dsimp (maxSteps := 1000000) only [go_sem, List.forall_mem_nil, ↓reduceIte, Nat.reduceEqDiff, Nat.reduceLT, Nat.reduceLeDiff, Nat.reduceAdd, Nat.reduceMul, reduceCtorEq, Try.f94, runNat h1 h2 b1.1 b1.2, oNat, hsK, ne_onat]
    repeat' (first
      | ((with_reducible refine sl_i ?_ ?_); focus kernel_rfl)
      | ((with_reducible refine ro_i ?_ ?_); focus kernel_rfl)
      | ((with_reducible refine sl_e ?_); kernel_rfl)
      | ((with_reducible refine ro_e ?_); kernel_rfl)
      | ((first | (with_reducible refine gS_d ?_ ?_) | (with_reducible refine gS_dn ?_ ?_) | (with_reducible refine gS_i ?_ ?_)) <;> intro hg <;> (try simp -dsimp (maxSteps := 1000000) only [go_sem, List.forall_mem_nil, ↓reduceIte, Nat.reduceEqDiff, Nat.reduceLT, Nat.reduceLeDiff, Nat.reduceAdd, Nat.reduceMul, reduceCtorEq, Try.f94, runNat h1 h2 b1.1 b1.2, oNat, hsK, ne_onat, *])))
    rintro ⟨x, ⟨⟨a2, k2⟩, b2⟩⟩
    try simp -dsimp (maxSteps := 1000000) only [go_sem, List.forall_mem_nil, ↓reduceIte, Nat.reduceEqDiff, Nat.reduceLT, Nat.reduceLeDiff, Nat.reduceAdd, Nat.reduceMul, reduceCtorEq, Try.f94, hsK]
    repeat' (first
      | ((with_reducible refine sl_i ?_ ?_); focus kernel_rfl)
      | ((with_reducible refine ro_i ?_ ?_); focus kernel_rfl)
      | ((with_reducible refine sl_e ?_); kernel_rfl)
      | ((with_reducible refine ro_e ?_); kernel_rfl)
      | ((first | (with_reducible refine gS_d ?_ ?_) | (with_reducible refine gS_dn ?_ ?_) | (with_reducible refine gS_i ?_ ?_)) <;> intro hg <;> (try simp -dsimp (maxSteps := 1000000) only [go_sem, List.forall_mem_nil, ↓reduceIte, Nat.reduceEqDiff, Nat.reduceLT, Nat.reduceLeDiff, Nat.reduceAdd, Nat.reduceMul, reduceCtorEq, Try.f94, hsK, *])))
    exact ⟨(_, ⟨(a2, k2), b2⟩), rfl, rfl⟩
  | false =>
    try simp -dsimp (maxSteps := 1000000) only [go_sem, List.forall_mem_nil, ↓reduceIte, Nat.reduceEqDiff, Nat.reduceLT, Nat.reduceLeDiff, Nat.reduceAdd, Nat.reduceMul, reduceCtorEq, Try.f94, run_l01Once h1 h2 b1.1 b1.2 (n := 6) (by decide) (by decide), oOnce, hsK, ne_once]
    repeat' (first
      | ((with_reducible refine sl_i ?_ ?_); focus kernel_rfl)
      | ((with_reducible refine ro_i ?_ ?_); focus kernel_rfl)
      | ((with_reducible refine sl_e ?_); kernel_rfl)
      | ((with_reducible refine ro_e ?_); kernel_rfl)
      | ((first | (with_reducible refine gS_d ?_ ?_) | (with_reducible refine gS_dn ?_ ?_) | (with_reducible refine gS_i ?_ ?_)) <;> intro hg <;> (try simp -dsimp (maxSteps := 1000000) only [go_sem, List.forall_mem_nil, ↓reduceIte, Nat.reduceEqDiff, Nat.reduceLT, Nat.reduceLeDiff, Nat.reduceAdd, Nat.reduceMul, reduceCtorEq, Try.f94, run_l01Once h1 h2 b1.1 b1.2 (n := 6) (by decide) (by decide), oOnce, hsK, ne_once, *])))
    rintro ⟨c2, ⟨⟨a2, k2⟩, b2⟩⟩
    cases c2 with
    | false =>
      try simp -dsimp (maxSteps := 1000000) only [go_sem, List.forall_mem_nil, ↓reduceIte, Nat.reduceEqDiff, Nat.reduceLT, Nat.reduceLeDiff, Nat.reduceAdd, Nat.reduceMul, reduceCtorEq, Try.f94, runNat h1 h2 b2.1 b2.2, oNat, hsK, ne_onat]
      repeat' (first
        | ((with_reducible refine sl_i ?_ ?_); focus kernel_rfl)
        | ((with_reducible refine ro_i ?_ ?_); focus kernel_rfl)
        | ((with_reducible refine sl_e ?_); kernel_rfl)
        | ((with_reducible refine ro_e ?_); kernel_rfl)
        | ((first | (with_reducible refine gS_d ?_ ?_) | (with_reducible refine gS_dn ?_ ?_) | (with_reducible refine gS_i ?_ ?_)) <;> intro hg <;> (try simp -dsimp (maxSteps := 1000000) only [go_sem, List.forall_mem_nil, ↓reduceIte, Nat.reduceEqDiff, Nat.reduceLT, Nat.reduceLeDiff, Nat.reduceAdd, Nat.reduceMul, reduceCtorEq, Try.f94, runNat h1 h2 b2.1 b2.2, oNat, hsK, ne_onat, *])))
      rintro ⟨x, ⟨⟨a3, k3⟩, b3⟩⟩
      try simp -dsimp (maxSteps := 1000000) only [go_sem, List.forall_mem_nil, ↓reduceIte, Nat.reduceEqDiff, Nat.reduceLT, Nat.reduceLeDiff, Nat.reduceAdd, Nat.reduceMul, reduceCtorEq, Try.f94, hsK]
      repeat' (first
        | ((with_reducible refine sl_i ?_ ?_); focus kernel_rfl)
        | ((with_reducible refine ro_i ?_ ?_); focus kernel_rfl)
        | ((with_reducible refine sl_e ?_); kernel_rfl)
        | ((with_reducible refine ro_e ?_); kernel_rfl)
        | ((first | (with_reducible refine gS_d ?_ ?_) | (with_reducible refine gS_dn ?_ ?_) | (with_reducible refine gS_i ?_ ?_)) <;> intro hg <;> (try simp -dsimp (maxSteps := 1000000) only [go_sem, List.forall_mem_nil, ↓reduceIte, Nat.reduceEqDiff, Nat.reduceLT, Nat.reduceLeDiff, Nat.reduceAdd, Nat.reduceMul, reduceCtorEq, Try.f94, hsK, *])))
      exact ⟨(_, ⟨(a3, k3), b3⟩), rfl, rfl⟩
    | true =>
      try simp -dsimp (maxSteps := 1000000) only [go_sem, List.forall_mem_nil, ↓reduceIte, Nat.reduceEqDiff, Nat.reduceLT, Nat.reduceLeDiff, Nat.reduceAdd, Nat.reduceMul, reduceCtorEq, Try.f94, run_l01Below h1 h2 b2.1 b2.2 (n := 40) (by decide) (by decide), oBelow, hsK, ne_below l (n := 40) (by decide)]
      repeat' (first
        | ((with_reducible refine sl_i ?_ ?_); focus kernel_rfl)
        | ((with_reducible refine ro_i ?_ ?_); focus kernel_rfl)
        | ((with_reducible refine sl_e ?_); kernel_rfl)
        | ((with_reducible refine ro_e ?_); kernel_rfl)
        | ((first | (with_reducible refine gS_d ?_ ?_) | (with_reducible refine gS_dn ?_ ?_) | (with_reducible refine gS_i ?_ ?_)) <;> intro hg <;> (try simp -dsimp (maxSteps := 1000000) only [go_sem, List.forall_mem_nil, ↓reduceIte, Nat.reduceEqDiff, Nat.reduceLT, Nat.reduceLeDiff, Nat.reduceAdd, Nat.reduceMul, reduceCtorEq, Try.f94, run_l01Below h1 h2 b2.1 b2.2 (n := 40) (by decide) (by decide), oBelow, hsK, ne_below l (n := 40) (by decide), *])))
      rintro ⟨⟨v, ⟨⟨a3, k3⟩, b3⟩⟩, v1, v2⟩
      simp only at v1 v2
      have w1 : IntKind.i64.wrap (v - 20) = v - 20 := wrap_id (by omega) (by omega)
      have ri : ct_l01Int.run [.c (.ptr 0 0 0 0), .c (.im (.sl 1 [[.int .i64 0], [.int .i64 8388608], [.int .i64 (-8388608)], [.int .i64 1065353216], [.int .i64 2139095019]]))] [[.t (.im (.sl 1 (rowsB l))), .t (.im (.int .i64 a3)), .t (.im (.int .i64 k3))]] = some (oInt l pick5) := run_l01Int (m := pick5) h1 h2 b3.1 b3.2 (by decide) (by decide)
      try simp -dsimp (maxSteps := 1000000) only [go_sem, List.forall_mem_nil, ↓reduceIte, Nat.reduceEqDiff, Nat.reduceLT, Nat.reduceLeDiff, Nat.reduceAdd, Nat.reduceMul, reduceCtorEq, Try.f94, w1, ri, sc_l01Int, oInt, hsK, ne_oint l (m := pick5) (by decide)]
      repeat' (first
        | ((with_reducible refine sl_i ?_ ?_); focus kernel_rfl)
        | ((with_reducible refine ro_i ?_ ?_); focus kernel_rfl)
        | ((with_reducible refine sl_e ?_); kernel_rfl)
        | ((with_reducible refine ro_e ?_); kernel_rfl)
        | ((first | (with_reducible refine gS_d ?_ ?_) | (with_reducible refine gS_dn ?_ ?_) | (with_reducible refine gS_i ?_ ?_)) <;> intro hg <;> (try simp -dsimp (maxSteps := 1000000) only [go_sem, List.forall_mem_nil, ↓reduceIte, Nat.reduceEqDiff, Nat.reduceLT, Nat.reduceLeDiff, Nat.reduceAdd, Nat.reduceMul, reduceCtorEq, Try.f94, w1, ri, sc_l01Int, oInt, hsK, ne_oint l (m := pick5) (by decide), *])))
      rintro ⟨⟨u, hu⟩, ⟨⟨a4, k4⟩, b4⟩⟩
      have hur := pick5_rng hu
      have w2 : IntKind.i64.wrap (v - 20 + u) = v - 20 + u := wrap_id (by omega) (by omega)
      try simp -dsimp (maxSteps := 1000000) only [go_sem, List.forall_mem_nil, ↓reduceIte, Nat.reduceEqDiff, Nat.reduceLT, Nat.reduceLeDiff, Nat.reduceAdd, Nat.reduceMul, reduceCtorEq, Try.f94, w1, w2, run_FromSteps (k := v - 20 + u) (by omega) (by omega), oFS, rFS, hsK, ne_FS]
      repeat' (first
        | ((with_reducible refine sl_i ?_ ?_); focus kernel_rfl)
        | ((with_reducible refine ro_i ?_ ?_); focus kernel_rfl)
        | ((with_reducible refine sl_e ?_); kernel_rfl)
        | ((with_reducible refine ro_e ?_); kernel_rfl)
        | ((first | (with_reducible refine gS_d ?_ ?_) | (with_reducible refine gS_dn ?_ ?_) | (with_reducible refine gS_i ?_ ?_)) <;> intro hg <;> (try simp -dsimp (maxSteps := 1000000) only [go_sem, List.forall_mem_nil, ↓reduceIte, Nat.reduceEqDiff, Nat.reduceLT, Nat.reduceLeDiff, Nat.reduceAdd, Nat.reduceMul, reduceCtorEq, Try.f94, w1, w2, run_FromSteps (k := v - 20 + u) (by omega) (by omega), oFS, rFS, hsK, ne_FS, *])))
      rintro ⟨x, ok⟩
      try simp -dsimp (maxSteps := 1000000) only [go_sem, List.forall_mem_nil, ↓reduceIte, Nat.reduceEqDiff, Nat.reduceLT, Nat.reduceLeDiff, Nat.reduceAdd, Nat.reduceMul, reduceCtorEq, Try.f94, rFS, hsK]
      repeat' (first
        | ((with_reducible refine sl_i ?_ ?_); focus kernel_rfl)
        | ((with_reducible refine ro_i ?_ ?_); focus kernel_rfl)
        | ((with_reducible refine sl_e ?_); kernel_rfl)
        | ((with_reducible refine ro_e ?_); kernel_rfl)
        | ((first | (with_reducible refine gS_d ?_ ?_) | (with_reducible refine gS_dn ?_ ?_) | (with_reducible refine gS_i ?_ ?_)) <;> intro hg <;> (try simp -dsimp (maxSteps := 1000000) only [go_sem, List.forall_mem_nil, ↓reduceIte, Nat.reduceEqDiff, Nat.reduceLT, Nat.reduceLeDiff, Nat.reduceAdd, Nat.reduceMul, reduceCtorEq, Try.f94, rFS, hsK, *])))
      exact ⟨(_, ⟨(a4, k4), b4⟩), rfl, rfl⟩

/-! ### l2Any -/
def oPt (l : List Int) : Outs := .any (Pt × SK l) (fun q => { val := .c (.im (.cpx .f32 q.1.1 q.1.2)), places := hsK l q.2.1.1 q.2.1.2 })
theorem ne_opt (l : List Int) : Nonempty (Pt × SK l) = True := by simp only [eq_iff_iff, iff_true]; exact ⟨((0, 0), ⟨(0, 0), by simp⟩)⟩
noncomputable def ct_l2Any : Ct := fam false (fun x : AKn => ([.c (.ptr 0 0 0 0)], hsK x.l x.a x.h)) (fun x => oPt x.l)
theorem run_l2Any {l : List Int} {a h : Int} (h1 : l.length ≤ 1048576) (h2 : ∀ b ∈ l, 0 ≤ b ∧ b < 256) (h3 : 0 ≤ a) (h4 : a ≤ l.length) : ct_l2Any.run [.c (.ptr 0 0 0 0)] [[.t (.im (.sl 1 (rowsB l))), .t (.im (.int .i64 a)), .t (.im (.int .i64 h))]] = some (oPt l) := by
  refine fam_run' (args := fun x : AKn => ([D.c (.ptr 0 0 0 0)], hsK x.l x.a x.h)) (fun x y h => ?_) ⟨l, h1, h2, a, h, h3, h4⟩
  simp only [Prod.mk.injEq, true_and] at h
  exact AKn_ext (hsK_inj h)
set_option maxRecDepth 100000 in
set_option maxHeartbeats 4000000 in
theorem law_l2Any : Law Try.prog 78 ct_l2Any := by
  refine fam_law (Env_cons law_l1Any Env_nil) hmixA Try.func78 rfl rfl (fun ⟨l, h1, h2, a, h, h3, h4⟩ => ⟨okA (fun o => okK (n := 0) okDi), by simp [Try.f78], ?_⟩)
  simp only [oPt, hsK]
  try simp -dsimp (maxSteps := 1000000) only [go_sem, List.forall_mem_nil, ↓reduceIte, Nat.reduceEqDiff, Nat.reduceLT, Nat.reduceLeDiff, Nat.reduceAdd, Nat.reduceMul, reduceCtorEq, Try.f78, runNat h1 h2 h3 h4, oNat, hsK, ne_onat]
  repeat' (first
    | ((with_reducible refine sl_i ?_ ?_); focus kernel_rfl)
    | ((with_reducible refine ro_i ?_ ?_); focus kernel_rfl)
    | ((with_reducible refine sl_e ?_); kernel_rfl)
    | ((with_reducible refine ro_e ?_); kernel_rfl)
    | ((first | (with_reducible refine gS_d ?_ ?_) | (with_reducible refine gS_dn ?_ ?_) | (with_reducible refine gS_i ?_ ?_)) <;> intro hg <;> (try simp -dsimp (maxSteps := 1000000) only [go_sem, List.forall_mem_nil, ↓reduceIte, Nat.reduceEqDiff, Nat.reduceLT, Nat.reduceLeDiff, Nat.reduceAdd, Nat.reduceMul, reduceCtorEq, Try.f78, runNat h1 h2 h3 h4, oNat, hsK, ne_onat, *])))
  rintro ⟨x, ⟨⟨a1, k1⟩, b1⟩⟩
  try simp -dsimp (maxSteps := 1000000) only [go_sem, List.forall_mem_nil, ↓reduceIte, Nat.reduceEqDiff, Nat.reduceLT, Nat.reduceLeDiff, Nat.reduceAdd, Nat.reduceMul, reduceCtorEq, Try.f78, runNat h1 h2 b1.1 b1.2, oNat, hsK, ne_onat]
  repeat' (first
    | ((with_reducible refine sl_i ?_ ?_); focus kernel_rfl)
    | ((with_reducible refine ro_i ?_ ?_); focus kernel_rfl)
    | ((with_reducible refine sl_e ?_); kernel_rfl)
    | ((with_reducible refine ro_e ?_); kernel_rfl)
    | ((first | (with_reducible refine gS_d ?_ ?_) | (with_reducible refine gS_dn ?_ ?_) | (with_reducible refine gS_i ?_ ?_)) <;> intro hg <;> (try simp -dsimp (maxSteps := 1000000) only [go_sem, List.forall_mem_nil, ↓reduceIte, Nat.reduceEqDiff, Nat.reduceLT, Nat.reduceLeDiff, Nat.reduceAdd, Nat.reduceMul, reduceCtorEq, Try.f78, runNat h1 h2 b1.1 b1.2, oNat, hsK, ne_onat, *])))
  rintro ⟨y, ⟨⟨a2, k2⟩, b2⟩⟩
  try simp -dsimp (maxSteps := 1000000) only [go_sem, List.forall_mem_nil, ↓reduceIte, Nat.reduceEqDiff, Nat.reduceLT, Nat.reduceLeDiff, Nat.reduceAdd, Nat.reduceMul, reduceCtorEq, Try.f78, hsK]
  repeat' (first
    | ((with_reducible refine sl_i ?_ ?_); focus kernel_rfl)
    | ((with_reducible refine ro_i ?_ ?_); focus kernel_rfl)
    | ((with_reducible refine sl_e ?_); kernel_rfl)
    | ((with_reducible refine ro_e ?_); kernel_rfl)
    | ((first | (with_reducible refine gS_d ?_ ?_) | (with_reducible refine gS_dn ?_ ?_) | (with_reducible refine gS_i ?_ ?_)) <;> intro hg <;> (try simp -dsimp (maxSteps := 1000000) only [go_sem, List.forall_mem_nil, ↓reduceIte, Nat.reduceEqDiff, Nat.reduceLT, Nat.reduceLeDiff, Nat.reduceAdd, Nat.reduceMul, reduceCtorEq, Try.f78, hsK, *])))
  exact ⟨((x, y), ⟨(a2, k2), b2⟩), rfl, rfl, rfl⟩

/-! ### l4Samples, MakeSamples -/
abbrev QList (n : Nat) := { zs : List Pt // zs.length ≤ n }
theorem ne_qlist (n : Nat) : Nonempty (QList n) = True := by simp only [eq_iff_iff, iff_true]; exact ⟨⟨[], by simp⟩⟩
def oSam (l : List Int) (n : Nat) : Outs := .any (QList n × SK l) (fun q => { val := .c (.view 0 1 0 q.1.1.length), roots := [.arr 1 (tI (rowsZ q.1.1))], places := hsK l q.2.1.1 q.2.1.2 })
theorem ne_osam (l : List Int) (n : Nat) : Nonempty (QList n × SK l) = True := by simp only [eq_iff_iff, iff_true]; exact ⟨(⟨[], by simp⟩, ⟨(0, 0), by simp⟩)⟩
noncomputable def ct_l4Samples : Ct := fam false (fun x : AKn × N100' => ([.c (.ptr 0 0 0 0), .c (.im (.int .i64 (x.2.1 : Int)))], hsK x.1.l x.1.a x.1.h)) (fun x => oSam x.1.l x.2.1)
theorem run_l4Samples {l : List Int} {a h : Int} {n : Nat} (h1 : l.length ≤ 1048576) (h2 : ∀ b ∈ l, 0 ≤ b ∧ b < 256) (h3 : 0 ≤ a) (h4 : a ≤ l.length) (h5 : n ≤ 100) : ct_l4Samples.run [.c (.ptr 0 0 0 0), .c (.im (.int .i64 (n : Int)))] [[.t (.im (.sl 1 (rowsB l))), .t (.im (.int .i64 a)), .t (.im (.int .i64 h))]] = some (oSam l n) := by
  refine fam_run' (args := fun x : AKn × N100' => ([D.c (.ptr 0 0 0 0), .c (.im (.int .i64 (x.2.1 : Int)))], hsK x.1.l x.1.a x.1.h)) (fun x y h => ?_) (⟨l, h1, h2, a, h, h3, h4⟩, ⟨n, h5⟩)
  simp only [Prod.mk.injEq, List.cons.injEq, D.c.injEq, C.im.injEq, I.int.injEq, true_and, and_true] at h
  exact Prod.ext (AKn_ext (hsK_inj h.2)) (Subtype.ext (by omega))
theorem okSam {l : List Int} {n : Nat} {q : QList n × SK l} : OkR false { val := .c (.view 0 1 0 q.1.1.length), roots := [.arr 1 (tI (rowsZ q.1.1))], places := hsK l q.2.1.1 q.2.1.2 } := by
  refine ⟨.c _ (.view _ _ _ _ (by simp)), fun r hr => ?_, (okK (n := 0) (v := .c (.im (.bool true))) okDi).places⟩
  simp only [List.mem_cons, List.not_mem_nil, or_false] at hr
  subst hr
  exact sc_false _ _
set_option maxRecDepth 100000 in
set_option maxHeartbeats 4000000 in
theorem law_l4Samples : Law Try.prog 58 ct_l4Samples := by
  refine fam_law (Env_cons law_l01Below (Env_cons law_l2Small (Env_cons law_l01Once (Env_cons law_l2Any Env_nil)))) hmixA Try.func58 rfl rfl (fun ⟨⟨l, h1, h2, a, h, h3, h4⟩, ⟨n, h5⟩⟩ => ⟨okA (fun o => okSam), by simp [Try.f58], ?_⟩)
  simp only [oSam, hsK]
  have hn : IntKind.i64.wrap ((n : Int) + 1) = (n : Int) + 1 := wrap_id (by omega) (by omega)
  try simp -dsimp (maxSteps := 1000000) only [go_sem, List.forall_mem_nil, ↓reduceIte, Nat.reduceEqDiff, Nat.reduceLT, Nat.reduceLeDiff, Nat.reduceAdd, Nat.reduceMul, reduceCtorEq, Try.f58, hn, run_l01Below h1 h2 h3 h4 (n := (n : Int) + 1) (by omega) (by omega), oBelow, hsK, ne_below l (n := (n : Int) + 1) (by omega)]
  repeat' (first
    | ((with_reducible refine sl_i ?_ ?_); focus kernel_rfl)
    | ((with_reducible refine ro_i ?_ ?_); focus kernel_rfl)
    | ((with_reducible refine sl_e ?_); kernel_rfl)
    | ((with_reducible refine ro_e ?_); kernel_rfl)
    | ((first | (with_reducible refine gS_d ?_ ?_) | (with_reducible refine gS_dn ?_ ?_) | (with_reducible refine gS_i ?_ ?_)) <;> intro hg <;> (try simp -dsimp (maxSteps := 1000000) only [go_sem, List.forall_mem_nil, ↓reduceIte, Nat.reduceEqDiff, Nat.reduceLT, Nat.reduceLeDiff, Nat.reduceAdd, Nat.reduceMul, reduceCtorEq, Try.f58, hn, run_l01Below h1 h2 h3 h4 (n := (n : Int) + 1) (by omega) (by omega), oBelow, hsK, ne_below l (n := (n : Int) + 1) (by omega), *])))
  rintro ⟨⟨k0, ⟨⟨a0, g0⟩, b0⟩⟩, k1, k2⟩
  obtain ⟨K, rfl⟩ := Int.eq_ofNat_of_zero_le k1
  try simp -dsimp (maxSteps := 1000000) only [go_sem, List.forall_mem_nil, ↓reduceIte, Nat.reduceEqDiff, Nat.reduceLT, Nat.reduceLeDiff, Nat.reduceAdd, Nat.reduceMul, reduceCtorEq, Try.f58, hn, hsK]
  repeat' (first
    | ((with_reducible refine sl_i ?_ ?_); focus kernel_rfl)
    | ((with_reducible refine ro_i ?_ ?_); focus kernel_rfl)
    | ((with_reducible refine sl_e ?_); kernel_rfl)
    | ((with_reducible refine ro_e ?_); kernel_rfl)
    | ((first | (with_reducible refine gS_d ?_ ?_) | (with_reducible refine gS_dn ?_ ?_) | (with_reducible refine gS_i ?_ ?_)) <;> intro hg <;> (try simp -dsimp (maxSteps := 1000000) only [go_sem, List.forall_mem_nil, ↓reduceIte, Nat.reduceEqDiff, Nat.reduceLT, Nat.reduceLeDiff, Nat.reduceAdd, Nat.reduceMul, reduceCtorEq, Try.f58, hn, hsK, *])))
  refine loop_i (ι := { x : (List Pt × SK l) × Nat // x.1.1.length + x.2 ≤ n }) (fun x => ⟨[(0, some (.c (.ptr 0 0 0 0))), (5, some (.c (.view 1 1 0 x.1.1.1.length))), (6, some (.c (.im (.int .i64 (x.1.2 : Int)))))],
    [(0, some (.box [.t (.im (.sl 1 (rowsB l))), .t (.im (.int .i64 x.1.1.2.1.1)), .t (.im (.int .i64 x.1.1.2.1.2))])), (1, some (.arr 1 (tI (rowsZ x.1.1.1))))], 2⟩) (fun x => x.1.2) ⟨(([], ⟨(a0, g0), b0⟩), K), by simp at k2 ⊢; omega⟩ ⟨[], [0, 1], by ((simp only [ne_eq, eq_self, subF, folds, wk1, subOk, sOk, hOk, nms, reF, rho, mapD, mapC, mapC1, NmD, NmC, NmC1, mapR, mapB, mapTt, NmR, NmB, NmT, MvRb, MvRn, MvRt, lk, ins, Root.get, Root.setT, List.map_cons, List.map_nil, List.nodup_cons, List.nodup_nil, List.not_mem_nil, List.mem_cons, not_false_eq_true, and_self, and_true, true_and, true_or, or_true, false_or, or_false, ↓reduceIte, Nat.reduceEqDiff, Nat.reduceLT, Nat.reduceLeDiff, reduceCtorEq, Option.isSome_some, List.forall_mem_cons, List.forall_mem_nil, implies_true, forall_const, Nat.le_refl, Nat.zero_le, false_implies, List.mem_singleton, MvB_im, MvB_nil, Mv_im, Option.some.injEq, D.c.injEq, C.im.injEq, I.int.injEq, List.getElem?_cons_zero, List.getElem?_cons_succ, List.set_cons_zero, List.set_cons_succ, List.length_cons, List.length_nil, Nat.zero_add, MvR_Z]) <;> (try (simp -dsimp only [ne_eq, eq_self, subF, folds, wk1, subOk, sOk, hOk, nms, reF, rho, mapD, mapC, mapC1, NmD, NmC, NmC1, mapR, mapB, mapTt, NmR, NmB, NmT, MvRb, MvRn, MvRt, lk, ins, Root.get, Root.setT, List.map_cons, List.map_nil, List.nodup_cons, List.nodup_nil, List.not_mem_nil, List.mem_cons, not_false_eq_true, and_self, and_true, true_and, true_or, or_true, false_or, or_false, ↓reduceIte, Nat.reduceEqDiff, Nat.reduceLT, Nat.reduceLeDiff, reduceCtorEq, Option.isSome_some, List.forall_mem_cons, List.forall_mem_nil, implies_true, forall_const, Nat.le_refl, Nat.zero_le, false_implies, List.mem_singleton, MvB_im, MvB_nil, Mv_im, Option.some.injEq, D.c.injEq, C.im.injEq, I.int.injEq, List.getElem?_cons_zero, List.getElem?_cons_succ, List.set_cons_zero, List.set_cons_succ, List.length_cons, List.length_nil, Nat.zero_add, MvR_Z]))) <;> simp [lk, rowsZ, tI]⟩ (fun ⟨⟨⟨zs, ⟨⟨a, g⟩, b⟩⟩, k⟩, hz⟩ => ?_)
  simp only at hz b ⊢
  match k with
  | 0 =>
    have c0 : ((0 : Nat) : Int) = 0 := rfl
    have d0 : ((0 : Int) < 0) = False := by simp
    try simp -dsimp (maxSteps := 1000000) only [go_sem, List.forall_mem_nil, ↓reduceIte, Nat.reduceEqDiff, Nat.reduceLT, Nat.reduceLeDiff, Nat.reduceAdd, Nat.reduceMul, reduceCtorEq, Try.f58, c0, d0, rowsZ_len]
    repeat' (first
      | ((with_reducible refine sl_i ?_ ?_); focus kernel_rfl)
      | ((with_reducible refine ro_i ?_ ?_); focus kernel_rfl)
      | ((with_reducible refine sl_e ?_); kernel_rfl)
      | ((with_reducible refine ro_e ?_); kernel_rfl)
      | ((first | (with_reducible refine gS_d ?_ ?_) | (with_reducible refine gS_dn ?_ ?_) | (with_reducible refine gS_i ?_ ?_)) <;> intro hg <;> (try simp -dsimp (maxSteps := 1000000) only [go_sem, List.forall_mem_nil, ↓reduceIte, Nat.reduceEqDiff, Nat.reduceLT, Nat.reduceLeDiff, Nat.reduceAdd, Nat.reduceMul, reduceCtorEq, Try.f58, c0, d0, rowsZ_len, *])))
    exact ⟨(⟨zs, by omega⟩, ⟨(a, g), b⟩), rfl, [1], by simp, by simp, by simp [rtOk], rfl⟩
  | k + 1 =>
    have d0 : ((0 : Int) < ((k + 1 : Nat) : Int)) = True := eq_true (by omega)
    have hk : IntKind.i64.wrap (((k + 1 : Nat) : Int) - 1) = (k : Int) := by rw [wrap_id (by omega) (by omega)]; omega
    have hby : ((zs.length + 1) * 8 ≤ 140737488355328) = True := bytes_sm (by have : sm = 16777216 := rfl; omega) (by decide)
    try simp -dsimp (maxSteps := 1000000) only [go_sem, List.forall_mem_nil, ↓reduceIte, Nat.reduceEqDiff, Nat.reduceLT, Nat.reduceLeDiff, Nat.reduceAdd, Nat.reduceMul, reduceCtorEq, Try.f58, d0, hk, run_l2Small h1 h2 b.1 b.2, oSmall, hsK, ne_small]
    repeat' (first
      | ((with_reducible refine sl_i ?_ ?_); focus kernel_rfl)
      | ((with_reducible refine ro_i ?_ ?_); focus kernel_rfl)
      | ((with_reducible refine sl_e ?_); kernel_rfl)
      | ((with_reducible refine ro_e ?_); kernel_rfl)
      | ((first | (with_reducible refine gS_d ?_ ?_) | (with_reducible refine gS_dn ?_ ?_) | (with_reducible refine gS_i ?_ ?_)) <;> intro hg <;> (try simp -dsimp (maxSteps := 1000000) only [go_sem, List.forall_mem_nil, ↓reduceIte, Nat.reduceEqDiff, Nat.reduceLT, Nat.reduceLeDiff, Nat.reduceAdd, Nat.reduceMul, reduceCtorEq, Try.f58, d0, hk, run_l2Small h1 h2 b.1 b.2, oSmall, hsK, ne_small, *])))
    rintro ⟨⟨⟨u, v⟩, ⟨⟨a2, g2⟩, b2⟩⟩, u1, u2, v1, v2⟩
    obtain ⟨U, hU⟩ : ∃ x, wI u = x := ⟨_, rfl⟩
    obtain ⟨V, hV⟩ : ∃ x, wI v = x := ⟨_, rfl⟩
    try simp -dsimp (maxSteps := 1000000) only [go_sem, List.forall_mem_nil, ↓reduceIte, Nat.reduceEqDiff, Nat.reduceLT, Nat.reduceLeDiff, Nat.reduceAdd, Nat.reduceMul, reduceCtorEq, Try.f58, d0, hk, hU, hV, hsK, run_l01Once h1 h2 b2.1 b2.2 (n := 15) (by decide) (by decide), oOnce, ne_once]
    repeat' (first
      | ((with_reducible refine sl_i ?_ ?_); focus kernel_rfl)
      | ((with_reducible refine ro_i ?_ ?_); focus kernel_rfl)
      | ((with_reducible refine sl_e ?_); kernel_rfl)
      | ((with_reducible refine ro_e ?_); kernel_rfl)
      | ((first | (with_reducible refine gS_d ?_ ?_) | (with_reducible refine gS_dn ?_ ?_) | (with_reducible refine gS_i ?_ ?_)) <;> intro hg <;> (try simp -dsimp (maxSteps := 1000000) only [go_sem, List.forall_mem_nil, ↓reduceIte, Nat.reduceEqDiff, Nat.reduceLT, Nat.reduceLeDiff, Nat.reduceAdd, Nat.reduceMul, reduceCtorEq, Try.f58, d0, hk, hU, hV, hsK, run_l01Once h1 h2 b2.1 b2.2 (n := 15) (by decide) (by decide), oOnce, ne_once, *])))
    rintro ⟨c, ⟨⟨a3, g3⟩, b3⟩⟩
    cases c with
    | false =>
      try simp -dsimp (maxSteps := 1000000) only [go_sem, List.forall_mem_nil, ↓reduceIte, Nat.reduceEqDiff, Nat.reduceLT, Nat.reduceLeDiff, Nat.reduceAdd, Nat.reduceMul, reduceCtorEq, Try.f58, d0, hk, hsK, hby, tIZ_app, tI_len, rowsZ_len, appendH, srcRows, List.take_succ_cons, List.take_zero, List.all_cons, List.all_nil, okT, Bool.and_true, List.length_append]
      repeat' (first
        | ((with_reducible refine sl_i ?_ ?_); focus kernel_rfl)
        | ((with_reducible refine ro_i ?_ ?_); focus kernel_rfl)
        | ((with_reducible refine sl_e ?_); kernel_rfl)
        | ((with_reducible refine ro_e ?_); kernel_rfl)
        | ((first | (with_reducible refine gS_d ?_ ?_) | (with_reducible refine gS_dn ?_ ?_) | (with_reducible refine gS_i ?_ ?_)) <;> intro hg <;> (try simp -dsimp (maxSteps := 1000000) only [go_sem, List.forall_mem_nil, ↓reduceIte, Nat.reduceEqDiff, Nat.reduceLT, Nat.reduceLeDiff, Nat.reduceAdd, Nat.reduceMul, reduceCtorEq, Try.f58, d0, hk, hsK, hby, tIZ_app, tI_len, rowsZ_len, appendH, srcRows, List.take_succ_cons, List.take_zero, List.all_cons, List.all_nil, okT, Bool.and_true, List.length_append, *])))
      exact ⟨⟨((zs ++ [(U, V)], ⟨(a3, g3), b3⟩), k), by simp; omega⟩, by simp, [], [0, 3], by ((simp only [ne_eq, eq_self, subF, folds, wk1, subOk, sOk, hOk, nms, reF, rho, mapD, mapC, mapC1, NmD, NmC, NmC1, mapR, mapB, mapTt, NmR, NmB, NmT, MvRb, MvRn, MvRt, lk, ins, Root.get, Root.setT, List.map_cons, List.map_nil, List.nodup_cons, List.nodup_nil, List.not_mem_nil, List.mem_cons, not_false_eq_true, and_self, and_true, true_and, true_or, or_true, false_or, or_false, ↓reduceIte, Nat.reduceEqDiff, Nat.reduceLT, Nat.reduceLeDiff, reduceCtorEq, Option.isSome_some, List.forall_mem_cons, List.forall_mem_nil, implies_true, forall_const, Nat.le_refl, Nat.zero_le, false_implies, List.mem_singleton, MvB_im, MvB_nil, Mv_im, Option.some.injEq, D.c.injEq, C.im.injEq, I.int.injEq, List.getElem?_cons_zero, List.getElem?_cons_succ, List.set_cons_zero, List.set_cons_succ, List.length_cons, List.length_nil, Nat.zero_add, MvR_Z]) <;> (try (simp -dsimp only [ne_eq, eq_self, subF, folds, wk1, subOk, sOk, hOk, nms, reF, rho, mapD, mapC, mapC1, NmD, NmC, NmC1, mapR, mapB, mapTt, NmR, NmB, NmT, MvRb, MvRn, MvRt, lk, ins, Root.get, Root.setT, List.map_cons, List.map_nil, List.nodup_cons, List.nodup_nil, List.not_mem_nil, List.mem_cons, not_false_eq_true, and_self, and_true, true_and, true_or, or_true, false_or, or_false, ↓reduceIte, Nat.reduceEqDiff, Nat.reduceLT, Nat.reduceLeDiff, reduceCtorEq, Option.isSome_some, List.forall_mem_cons, List.forall_mem_nil, implies_true, forall_const, Nat.le_refl, Nat.zero_le, false_implies, List.mem_singleton, MvB_im, MvB_nil, Mv_im, Option.some.injEq, D.c.injEq, C.im.injEq, I.int.injEq, List.getElem?_cons_zero, List.getElem?_cons_succ, List.set_cons_zero, List.set_cons_succ, List.length_cons, List.length_nil, Nat.zero_add, MvR_Z]))) <;> simp [lk]⟩
    | true =>
      try simp -dsimp (maxSteps := 1000000) only [go_sem, List.forall_mem_nil, ↓reduceIte, Nat.reduceEqDiff, Nat.reduceLT, Nat.reduceLeDiff, Nat.reduceAdd, Nat.reduceMul, reduceCtorEq, Try.f58, d0, hk, hsK, run_l2Any h1 h2 b3.1 b3.2, oPt, ne_opt]
      repeat' (first
        | ((with_reducible refine sl_i ?_ ?_); focus kernel_rfl)
        | ((with_reducible refine ro_i ?_ ?_); focus kernel_rfl)
        | ((with_reducible refine sl_e ?_); kernel_rfl)
        | ((with_reducible refine ro_e ?_); kernel_rfl)
        | ((first | (with_reducible refine gS_d ?_ ?_) | (with_reducible refine gS_dn ?_ ?_) | (with_reducible refine gS_i ?_ ?_)) <;> intro hg <;> (try simp -dsimp (maxSteps := 1000000) only [go_sem, List.forall_mem_nil, ↓reduceIte, Nat.reduceEqDiff, Nat.reduceLT, Nat.reduceLeDiff, Nat.reduceAdd, Nat.reduceMul, reduceCtorEq, Try.f58, d0, hk, hsK, run_l2Any h1 h2 b3.1 b3.2, oPt, ne_opt, *])))
      rintro ⟨⟨U2, V2⟩, ⟨⟨a4, g4⟩, b4⟩⟩
      try simp -dsimp (maxSteps := 1000000) only [go_sem, List.forall_mem_nil, ↓reduceIte, Nat.reduceEqDiff, Nat.reduceLT, Nat.reduceLeDiff, Nat.reduceAdd, Nat.reduceMul, reduceCtorEq, Try.f58, d0, hk, hsK, hby, tIZ_app, tI_len, rowsZ_len, appendH, srcRows, List.take_succ_cons, List.take_zero, List.all_cons, List.all_nil, okT, Bool.and_true, List.length_append]
      repeat' (first
        | ((with_reducible refine sl_i ?_ ?_); focus kernel_rfl)
        | ((with_reducible refine ro_i ?_ ?_); focus kernel_rfl)
        | ((with_reducible refine sl_e ?_); kernel_rfl)
        | ((with_reducible refine ro_e ?_); kernel_rfl)
        | ((first | (with_reducible refine gS_d ?_ ?_) | (with_reducible refine gS_dn ?_ ?_) | (with_reducible refine gS_i ?_ ?_)) <;> intro hg <;> (try simp -dsimp (maxSteps := 1000000) only [go_sem, List.forall_mem_nil, ↓reduceIte, Nat.reduceEqDiff, Nat.reduceLT, Nat.reduceLeDiff, Nat.reduceAdd, Nat.reduceMul, reduceCtorEq, Try.f58, d0, hk, hsK, hby, tIZ_app, tI_len, rowsZ_len, appendH, srcRows, List.take_succ_cons, List.take_zero, List.all_cons, List.all_nil, okT, Bool.and_true, List.length_append, *])))
      exact ⟨⟨((zs ++ [(U2, V2)], ⟨(a4, g4), b4⟩), k), by simp; omega⟩, by simp, [], [0, 3], by ((simp only [ne_eq, eq_self, subF, folds, wk1, subOk, sOk, hOk, nms, reF, rho, mapD, mapC, mapC1, NmD, NmC, NmC1, mapR, mapB, mapTt, NmR, NmB, NmT, MvRb, MvRn, MvRt, lk, ins, Root.get, Root.setT, List.map_cons, List.map_nil, List.nodup_cons, List.nodup_nil, List.not_mem_nil, List.mem_cons, not_false_eq_true, and_self, and_true, true_and, true_or, or_true, false_or, or_false, ↓reduceIte, Nat.reduceEqDiff, Nat.reduceLT, Nat.reduceLeDiff, reduceCtorEq, Option.isSome_some, List.forall_mem_cons, List.forall_mem_nil, implies_true, forall_const, Nat.le_refl, Nat.zero_le, false_implies, List.mem_singleton, MvB_im, MvB_nil, Mv_im, Option.some.injEq, D.c.injEq, C.im.injEq, I.int.injEq, List.getElem?_cons_zero, List.getElem?_cons_succ, List.set_cons_zero, List.set_cons_succ, List.length_cons, List.length_nil, Nat.zero_add, MvR_Z]) <;> (try (simp -dsimp only [ne_eq, eq_self, subF, folds, wk1, subOk, sOk, hOk, nms, reF, rho, mapD, mapC, mapC1, NmD, NmC, NmC1, mapR, mapB, mapTt, NmR, NmB, NmT, MvRb, MvRn, MvRt, lk, ins, Root.get, Root.setT, List.map_cons, List.map_nil, List.nodup_cons, List.nodup_nil, List.not_mem_nil, List.mem_cons, not_false_eq_true, and_self, and_true, true_and, true_or, or_true, false_or, or_false, ↓reduceIte, Nat.reduceEqDiff, Nat.reduceLT, Nat.reduceLeDiff, reduceCtorEq, Option.isSome_some, List.forall_mem_cons, List.forall_mem_nil, implies_true, forall_const, Nat.le_refl, Nat.zero_le, false_implies, List.mem_singleton, MvB_im, MvB_nil, Mv_im, Option.some.injEq, D.c.injEq, C.im.injEq, I.int.injEq, List.getElem?_cons_zero, List.getElem?_cons_succ, List.set_cons_zero, List.set_cons_succ, List.length_cons, List.length_nil, Nat.zero_add, MvR_Z]))) <;> simp [lk]⟩
def oSams (n : Nat) : Outs := .any (QList n) (fun q => rNew 1 (rowsZ q.1))
noncomputable def ct_MakeSamples : Ct := fam true (fun x : ABw × N100' => ([.c (.im (.sl 1 (rowsB x.1.l))), .c (.im (.int .i64 (x.2.1 : Int)))], [])) (fun x => oSams x.2.1)
theorem run_MakeSamples {l : List Int} (h1 : l.length ≤ 1048576) (h2 : ∀ b ∈ l, 0 ≤ b ∧ b < 256) {n : Nat} (h3 : n ≤ 100) : ct_MakeSamples.run [.c (.im (.sl 1 (rowsB l))), .c (.im (.int .i64 (n : Int)))] [] = some (oSams n) := by
  refine fam_run' (args := fun x : ABw × N100' => ([D.c (.im (.sl 1 (rowsB x.1.l))), .c (.im (.int .i64 (x.2.1 : Int)))], [])) (fun x y h => ?_) (⟨l, h1, h2⟩, ⟨n, h3⟩)
  simp only [Prod.mk.injEq, List.cons.injEq, D.c.injEq, C.im.injEq, I.sl.injEq, I.int.injEq, true_and, and_true] at h
  exact Prod.ext (ABw_ext (rowsB_inj h.1)) (Subtype.ext (by omega))
set_option maxRecDepth 100000 in
set_option maxHeartbeats 4000000 in
theorem law_MakeSamples : Law Try.prog 32 ct_MakeSamples := by
  refine fam_law (Env_cons law_l01New (Env_cons law_l4Samples Env_nil)) hmixA Try.func32 rfl rfl (fun ⟨⟨l, h1, h2⟩, ⟨n, h3⟩⟩ => ⟨okA (fun o => okR_new (sc_rowsZ _)), by simp [Try.f32], ?_⟩)
  simp only [oSams, rNew]
  have hm1 : (100 < (n : Int)) = False := eq_false (by omega)
  have hm2 : (if (n : Int) > 0 then (n : Int) else 0) = (n : Int) := by split <;> omega
  try simp -dsimp (maxSteps := 1000000) only [go_sem, List.forall_mem_nil, ↓reduceIte, Nat.reduceEqDiff, Nat.reduceLT, Nat.reduceLeDiff, Nat.reduceAdd, Nat.reduceMul, reduceCtorEq, Try.f32, hm1, hm2, run_l01New h1 h2, oKNew, ne_int]
  repeat' (first
    | ((with_reducible refine sl_i ?_ ?_); focus kernel_rfl)
    | ((with_reducible refine ro_i ?_ ?_); focus kernel_rfl)
    | ((with_reducible refine sl_e ?_); kernel_rfl)
    | ((with_reducible refine ro_e ?_); kernel_rfl)
    | ((first | (with_reducible refine gS_d ?_ ?_) | (with_reducible refine gS_dn ?_ ?_) | (with_reducible refine gS_i ?_ ?_)) <;> intro hg <;> (try simp -dsimp (maxSteps := 1000000) only [go_sem, List.forall_mem_nil, ↓reduceIte, Nat.reduceEqDiff, Nat.reduceLT, Nat.reduceLeDiff, Nat.reduceAdd, Nat.reduceMul, reduceCtorEq, Try.f32, hm1, hm2, run_l01New h1 h2, oKNew, ne_int, *])))
  intro h
  try simp -dsimp (maxSteps := 1000000) only [go_sem, List.forall_mem_nil, ↓reduceIte, Nat.reduceEqDiff, Nat.reduceLT, Nat.reduceLeDiff, Nat.reduceAdd, Nat.reduceMul, reduceCtorEq, Try.f32, hm1, hm2, run_l4Samples h1 h2 (a := 0) (h := h) (n := n) (by omega) (by omega) h3, oSam, hsK, ne_osam, rowsZ_len]
  repeat' (first
    | ((with_reducible refine sl_i ?_ ?_); focus kernel_rfl)
    | ((with_reducible refine ro_i ?_ ?_); focus kernel_rfl)
    | ((with_reducible refine sl_e ?_); kernel_rfl)
    | ((with_reducible refine ro_e ?_); kernel_rfl)
    | ((first | (with_reducible refine gS_d ?_ ?_) | (with_reducible refine gS_dn ?_ ?_) | (with_reducible refine gS_i ?_ ?_)) <;> intro hg <;> (try simp -dsimp (maxSteps := 1000000) only [go_sem, List.forall_mem_nil, ↓reduceIte, Nat.reduceEqDiff, Nat.reduceLT, Nat.reduceLeDiff, Nat.reduceAdd, Nat.reduceMul, reduceCtorEq, Try.f32, hm1, hm2, run_l4Samples h1 h2 (a := 0) (h := h) (n := n) (by omega) (by omega) h3, oSam, hsK, ne_osam, rowsZ_len, *])))
  rintro ⟨⟨zs, hz⟩, ⟨⟨a1, g1⟩, b1⟩⟩
  try simp -dsimp (maxSteps := 1000000) only [go_sem, List.forall_mem_nil, ↓reduceIte, Nat.reduceEqDiff, Nat.reduceLT, Nat.reduceLeDiff, Nat.reduceAdd, Nat.reduceMul, reduceCtorEq, Try.f32, hm1, hm2, hsK, rowsZ_len]
  repeat' (first
    | ((with_reducible refine sl_i ?_ ?_); focus kernel_rfl)
    | ((with_reducible refine ro_i ?_ ?_); focus kernel_rfl)
    | ((with_reducible refine sl_e ?_); kernel_rfl)
    | ((with_reducible refine ro_e ?_); kernel_rfl)
    | ((first | (with_reducible refine gS_d ?_ ?_) | (with_reducible refine gS_dn ?_ ?_) | (with_reducible refine gS_i ?_ ?_)) <;> intro hg <;> (try simp -dsimp (maxSteps := 1000000) only [go_sem, List.forall_mem_nil, ↓reduceIte, Nat.reduceEqDiff, Nat.reduceLT, Nat.reduceLeDiff, Nat.reduceAdd, Nat.reduceMul, reduceCtorEq, Try.f32, hm1, hm2, hsK, rowsZ_len, *])))
  exact ⟨⟨zs, hz⟩, [1], by simp, by simp, by simp [rtOk], rfl⟩
end Go.SX
