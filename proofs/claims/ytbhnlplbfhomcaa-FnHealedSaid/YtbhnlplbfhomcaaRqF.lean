/-
  Racks and samples are the same as themselves: l5Same, l5SamePoint, l5SameList, MakeSame, SameModules, SameRacks.
  No condition.
-/
import Derived.Test.YtbhnlplbfhomcaaRqE
set_option linter.unusedVariables false
set_option linter.unusedSimpArgs false
namespace Go.SX
open Go Go.Proofs

theorem fcmp_self {a : Nat} (h : fcmp .neq .f32 a a = false) : fcmp .eql .f32 a a = true := by
  simp only [fcmp, bne] at h ⊢
  cases hc : (FloatKind.f32.format.order a a == some Ordering.eq) with
  | true => rfl
  | false => rw [hc] at h; simp at h
noncomputable def ct_l5Same : Ct := fam false (fun x : Nat => ([.c (.im (.flt .f32 x)), .c (.im (.flt .f32 x))], [])) (fun _ => .one { val := .c (.im (.bool true)) })
theorem run_l5Same (x : Nat) : ct_l5Same.run [.c (.im (.flt .f32 x)), .c (.im (.flt .f32 x))] [] = some (.one { val := .c (.im (.bool true)) }) := by
  refine fam_run' (args := fun x : Nat => ([D.c (.im (.flt .f32 x)), .c (.im (.flt .f32 x))], [])) ?_ x
  intro a b h
  simpa using h
set_option maxRecDepth 100000 in
theorem law_l5Same : Law Try.prog 75 ct_l5Same := by
  refine fam_law Env_nil hmixA Try.func75 rfl rfl (fun a => ⟨okO_im rfl, by simp [Try.f75], ?_⟩)
  simp only
  cases hn : fcmp .neq .f32 a a with
  | true =>
    try simp -dsimp (maxSteps := 1000000) only [go_sem, List.forall_mem_nil, ↓reduceIte, Nat.reduceEqDiff, Nat.reduceLT, Nat.reduceLeDiff, Nat.reduceAdd, Nat.reduceMul, reduceCtorEq, Try.f75, hn]
    repeat' (first
      | ((with_reducible refine sl_i ?_ ?_); focus kernel_rfl)
      | ((with_reducible refine ro_i ?_ ?_); focus kernel_rfl)
      | ((with_reducible refine sl_e ?_); kernel_rfl)
      | ((with_reducible refine ro_e ?_); kernel_rfl)
      | ((first | (with_reducible refine gS_d ?_ ?_) | (with_reducible refine gS_dn ?_ ?_) | (with_reducible refine gS_i ?_ ?_)) <;> intro hg <;> (try simp -dsimp (maxSteps := 1000000) only [go_sem, List.forall_mem_nil, ↓reduceIte, Nat.reduceEqDiff, Nat.reduceLT, Nat.reduceLeDiff, Nat.reduceAdd, Nat.reduceMul, reduceCtorEq, Try.f75, hn, *])))
  | false =>
    have he := fcmp_self hn
    cases h0 : fcmp .eql .f32 a 0 with
    | true =>
      try simp -dsimp (maxSteps := 1000000) only [go_sem, List.forall_mem_nil, ↓reduceIte, Nat.reduceEqDiff, Nat.reduceLT, Nat.reduceLeDiff, Nat.reduceAdd, Nat.reduceMul, reduceCtorEq, Try.f75, hn, h0, beq_self_eq_true]
      repeat' (first
        | ((with_reducible refine sl_i ?_ ?_); focus kernel_rfl)
        | ((with_reducible refine ro_i ?_ ?_); focus kernel_rfl)
        | ((with_reducible refine sl_e ?_); kernel_rfl)
        | ((with_reducible refine ro_e ?_); kernel_rfl)
        | ((first | (with_reducible refine gS_d ?_ ?_) | (with_reducible refine gS_dn ?_ ?_) | (with_reducible refine gS_i ?_ ?_)) <;> intro hg <;> (try simp -dsimp (maxSteps := 1000000) only [go_sem, List.forall_mem_nil, ↓reduceIte, Nat.reduceEqDiff, Nat.reduceLT, Nat.reduceLeDiff, Nat.reduceAdd, Nat.reduceMul, reduceCtorEq, Try.f75, hn, h0, beq_self_eq_true, *])))
    | false =>
      try simp -dsimp (maxSteps := 1000000) only [go_sem, List.forall_mem_nil, ↓reduceIte, Nat.reduceEqDiff, Nat.reduceLT, Nat.reduceLeDiff, Nat.reduceAdd, Nat.reduceMul, reduceCtorEq, Try.f75, hn, h0, he]
      repeat' (first
        | ((with_reducible refine sl_i ?_ ?_); focus kernel_rfl)
        | ((with_reducible refine ro_i ?_ ?_); focus kernel_rfl)
        | ((with_reducible refine sl_e ?_); kernel_rfl)
        | ((with_reducible refine ro_e ?_); kernel_rfl)
        | ((first | (with_reducible refine gS_d ?_ ?_) | (with_reducible refine gS_dn ?_ ?_) | (with_reducible refine gS_i ?_ ?_)) <;> intro hg <;> (try simp -dsimp (maxSteps := 1000000) only [go_sem, List.forall_mem_nil, ↓reduceIte, Nat.reduceEqDiff, Nat.reduceLT, Nat.reduceLeDiff, Nat.reduceAdd, Nat.reduceMul, reduceCtorEq, Try.f75, hn, h0, he, *])))
noncomputable def ct_l5SamePoint : Ct := fam false (fun x : Pt => ([.c (.im (.cpx .f32 x.1 x.2)), .c (.im (.cpx .f32 x.1 x.2))], [])) (fun _ => .one { val := .c (.im (.bool true)) })
theorem run_l5SamePoint (x y : Nat) : ct_l5SamePoint.run [.c (.im (.cpx .f32 x y)), .c (.im (.cpx .f32 x y))] [] = some (.one { val := .c (.im (.bool true)) }) := by
  refine fam_run' (args := fun x : Pt => ([D.c (.im (.cpx .f32 x.1 x.2)), .c (.im (.cpx .f32 x.1 x.2))], [])) ?_ (x, y)
  rintro ⟨a, b⟩ ⟨c, d⟩ h
  simp at h
  simp [h]
set_option maxRecDepth 100000 in
theorem law_l5SamePoint : Law Try.prog 74 ct_l5SamePoint := by
  refine fam_law (Env_cons law_l5Same Env_nil) hmixA Try.func74 rfl rfl (fun ⟨a, b⟩ => ⟨okO_im rfl, by simp [Try.f74], ?_⟩)
  simp only
  try simp -dsimp (maxSteps := 1000000) only [go_sem, List.forall_mem_nil, ↓reduceIte, Nat.reduceEqDiff, Nat.reduceLT, Nat.reduceLeDiff, Nat.reduceAdd, Nat.reduceMul, reduceCtorEq, Try.f74, run_l5Same a, run_l5Same b]
  repeat' (first
    | ((with_reducible refine sl_i ?_ ?_); focus kernel_rfl)
    | ((with_reducible refine ro_i ?_ ?_); focus kernel_rfl)
    | ((with_reducible refine sl_e ?_); kernel_rfl)
    | ((with_reducible refine ro_e ?_); kernel_rfl)
    | ((first | (with_reducible refine gS_d ?_ ?_) | (with_reducible refine gS_dn ?_ ?_) | (with_reducible refine gS_i ?_ ?_)) <;> intro hg <;> (try simp -dsimp (maxSteps := 1000000) only [go_sem, List.forall_mem_nil, ↓reduceIte, Nat.reduceEqDiff, Nat.reduceLT, Nat.reduceLeDiff, Nat.reduceAdd, Nat.reduceMul, reduceCtorEq, Try.f74, run_l5Same a, run_l5Same b, *])))
structure AZl where
  l : List Pt
  len : l.length ≤ sm
noncomputable def ct_l5SameList : Ct := fam true (fun x : AZl => ([.c (.im (.sl 1 (rowsZ x.l))), .c (.im (.sl 1 (rowsZ x.l)))], [])) (fun _ => .one { val := .c (.im (.bool true)) })
theorem run_l5SameList {l : List Pt} (h : l.length ≤ sm) : ct_l5SameList.run [.c (.im (.sl 1 (rowsZ l))), .c (.im (.sl 1 (rowsZ l)))] [] = some (.one { val := .c (.im (.bool true)) }) := by
  refine fam_run' (args := fun x : AZl => ([D.c (.im (.sl 1 (rowsZ x.l))), .c (.im (.sl 1 (rowsZ x.l)))], [])) ?_ ⟨l, h⟩
  rintro ⟨a, _⟩ ⟨b, _⟩ h
  simp [rowsZ_eq] at h
  subst h; rfl
theorem sc_l5SameList : (ct_l5SameList.sc = true) = True := by simp [ct_l5SameList, fam]
set_option maxRecDepth 100000 in
theorem law_l5SameList : Law Try.prog 55 ct_l5SameList := by
  refine fam_law (Env_cons law_l5SamePoint Env_nil) hmixA Try.func55 rfl rfl (fun ⟨l, hl⟩ => ⟨okO_im rfl, by simp [Try.f55], ?_⟩)
  simp only
  try simp -dsimp (maxSteps := 1000000) only [go_sem, List.forall_mem_nil, ↓reduceIte, Nat.reduceEqDiff, Nat.reduceLT, Nat.reduceLeDiff, Nat.reduceAdd, Nat.reduceMul, reduceCtorEq, Try.f55, rowsZ_len]
  repeat' (first
    | ((with_reducible refine sl_i ?_ ?_); focus kernel_rfl)
    | ((with_reducible refine ro_i ?_ ?_); focus kernel_rfl)
    | ((with_reducible refine sl_e ?_); kernel_rfl)
    | ((with_reducible refine ro_e ?_); kernel_rfl)
    | ((first | (with_reducible refine gS_d ?_ ?_) | (with_reducible refine gS_dn ?_ ?_) | (with_reducible refine gS_i ?_ ?_)) <;> intro hg <;> (try simp -dsimp (maxSteps := 1000000) only [go_sem, List.forall_mem_nil, ↓reduceIte, Nat.reduceEqDiff, Nat.reduceLT, Nat.reduceLeDiff, Nat.reduceAdd, Nat.reduceMul, reduceCtorEq, Try.f55, rowsZ_len, *])))
  refine loop_i (ι := { k : Nat // k ≤ l.length }) (fun k => ⟨[(0, some (.c (.im (.sl 1 (rowsZ l))))), (1, some (.c (.im (.sl 1 (rowsZ l))))), (12, some (.c (.im (.int .i64 (l.length : Int))))), (13, some (.c (.im (.int .i64 (k.1 : Int)))))], [], 0⟩) (fun k => l.length - k.1) ⟨0, by simp⟩ ⟨[], [], by ((simp only [ne_eq, eq_self, subF, folds, wk1, subOk, sOk, hOk, nms, reF, rho, mapD, mapC, mapC1, NmD, NmC, NmC1, mapR, mapB, mapTt, NmR, NmB, NmT, MvRb, MvRn, MvRt, lk, ins, Root.get, Root.setT, List.map_cons, List.map_nil, List.nodup_cons, List.nodup_nil, List.not_mem_nil, List.mem_cons, not_false_eq_true, and_self, and_true, true_and, true_or, or_true, false_or, or_false, ↓reduceIte, Nat.reduceEqDiff, Nat.reduceLT, Nat.reduceLeDiff, reduceCtorEq, Option.isSome_some, List.forall_mem_cons, List.forall_mem_nil, implies_true, forall_const, Nat.le_refl, Nat.zero_le, false_implies, List.mem_singleton, MvB_im, MvB_nil, Mv_im, Option.some.injEq, D.c.injEq, C.im.injEq, I.int.injEq, List.getElem?_cons_zero, List.getElem?_cons_succ, List.set_cons_zero, List.set_cons_succ, List.length_cons, List.length_nil, Nat.zero_add]) <;> (try (simp -dsimp only [ne_eq, eq_self, subF, folds, wk1, subOk, sOk, hOk, nms, reF, rho, mapD, mapC, mapC1, NmD, NmC, NmC1, mapR, mapB, mapTt, NmR, NmB, NmT, MvRb, MvRn, MvRt, lk, ins, Root.get, Root.setT, List.map_cons, List.map_nil, List.nodup_cons, List.nodup_nil, List.not_mem_nil, List.mem_cons, not_false_eq_true, and_self, and_true, true_and, true_or, or_true, false_or, or_false, ↓reduceIte, Nat.reduceEqDiff, Nat.reduceLT, Nat.reduceLeDiff, reduceCtorEq, Option.isSome_some, List.forall_mem_cons, List.forall_mem_nil, implies_true, forall_const, Nat.le_refl, Nat.zero_le, false_implies, List.mem_singleton, MvB_im, MvB_nil, Mv_im, Option.some.injEq, D.c.injEq, C.im.injEq, I.int.injEq, List.getElem?_cons_zero, List.getElem?_cons_succ, List.set_cons_zero, List.set_cons_succ, List.length_cons, List.length_nil, Nat.zero_add]))) <;> simp⟩ (fun ⟨k, hk⟩ => ?_)
  simp only
  by_cases hlt : k < l.length
  · obtain ⟨p, hp⟩ : ∃ p, l[k]? = some p := ⟨_, List.getElem?_eq_getElem hlt⟩
    have hrow := rowsZ_at hp
    have hI : ((k : Int) < (l.length : Int)) = True := by simp; omega
    have h0 : (0 ≤ (k : Int)) = True := by simp
    have hwr := lt_sm hl hlt
    try simp -dsimp (maxSteps := 1000000) only [go_sem, List.forall_mem_nil, ↓reduceIte, Nat.reduceEqDiff, Nat.reduceLT, Nat.reduceLeDiff, Nat.reduceAdd, Nat.reduceMul, reduceCtorEq, Try.f55, hI, h0, Int.toNat_natCast, hrow, hwr, run_l5SamePoint, rowsZ_len]
    repeat' (first
      | ((with_reducible refine sl_i ?_ ?_); focus kernel_rfl)
      | ((with_reducible refine ro_i ?_ ?_); focus kernel_rfl)
      | ((with_reducible refine sl_e ?_); kernel_rfl)
      | ((with_reducible refine ro_e ?_); kernel_rfl)
      | ((first | (with_reducible refine gS_d ?_ ?_) | (with_reducible refine gS_dn ?_ ?_) | (with_reducible refine gS_i ?_ ?_)) <;> intro hg <;> (try simp -dsimp (maxSteps := 1000000) only [go_sem, List.forall_mem_nil, ↓reduceIte, Nat.reduceEqDiff, Nat.reduceLT, Nat.reduceLeDiff, Nat.reduceAdd, Nat.reduceMul, reduceCtorEq, Try.f55, hI, h0, Int.toNat_natCast, hrow, hwr, run_l5SamePoint, rowsZ_len, *])))
    exact ⟨⟨k + 1, by omega⟩, by simp only []; omega, [], [], by ((simp only [ne_eq, eq_self, subF, folds, wk1, subOk, sOk, hOk, nms, reF, rho, mapD, mapC, mapC1, NmD, NmC, NmC1, mapR, mapB, mapTt, NmR, NmB, NmT, MvRb, MvRn, MvRt, lk, ins, Root.get, Root.setT, List.map_cons, List.map_nil, List.nodup_cons, List.nodup_nil, List.not_mem_nil, List.mem_cons, not_false_eq_true, and_self, and_true, true_and, true_or, or_true, false_or, or_false, ↓reduceIte, Nat.reduceEqDiff, Nat.reduceLT, Nat.reduceLeDiff, reduceCtorEq, Option.isSome_some, List.forall_mem_cons, List.forall_mem_nil, implies_true, forall_const, Nat.le_refl, Nat.zero_le, false_implies, List.mem_singleton, MvB_im, MvB_nil, Mv_im, Option.some.injEq, D.c.injEq, C.im.injEq, I.int.injEq, List.getElem?_cons_zero, List.getElem?_cons_succ, List.set_cons_zero, List.set_cons_succ, List.length_cons, List.length_nil, Nat.zero_add]) <;> (try (simp -dsimp only [ne_eq, eq_self, subF, folds, wk1, subOk, sOk, hOk, nms, reF, rho, mapD, mapC, mapC1, NmD, NmC, NmC1, mapR, mapB, mapTt, NmR, NmB, NmT, MvRb, MvRn, MvRt, lk, ins, Root.get, Root.setT, List.map_cons, List.map_nil, List.nodup_cons, List.nodup_nil, List.not_mem_nil, List.mem_cons, not_false_eq_true, and_self, and_true, true_and, true_or, or_true, false_or, or_false, ↓reduceIte, Nat.reduceEqDiff, Nat.reduceLT, Nat.reduceLeDiff, reduceCtorEq, Option.isSome_some, List.forall_mem_cons, List.forall_mem_nil, implies_true, forall_const, Nat.le_refl, Nat.zero_le, false_implies, List.mem_singleton, MvB_im, MvB_nil, Mv_im, Option.some.injEq, D.c.injEq, C.im.injEq, I.int.injEq, List.getElem?_cons_zero, List.getElem?_cons_succ, List.set_cons_zero, List.set_cons_succ, List.length_cons, List.length_nil, Nat.zero_add]))) <;> simp⟩
  · have hI : ((k : Int) < (l.length : Int)) = False := by simp; omega
    try simp -dsimp (maxSteps := 1000000) only [go_sem, List.forall_mem_nil, ↓reduceIte, Nat.reduceEqDiff, Nat.reduceLT, Nat.reduceLeDiff, Nat.reduceAdd, Nat.reduceMul, reduceCtorEq, Try.f55, hI, rowsZ_len]
    repeat' (first
      | ((with_reducible refine sl_i ?_ ?_); focus kernel_rfl)
      | ((with_reducible refine ro_i ?_ ?_); focus kernel_rfl)
      | ((with_reducible refine sl_e ?_); kernel_rfl)
      | ((with_reducible refine ro_e ?_); kernel_rfl)
      | ((first | (with_reducible refine gS_d ?_ ?_) | (with_reducible refine gS_dn ?_ ?_) | (with_reducible refine gS_i ?_ ?_)) <;> intro hg <;> (try simp -dsimp (maxSteps := 1000000) only [go_sem, List.forall_mem_nil, ↓reduceIte, Nat.reduceEqDiff, Nat.reduceLT, Nat.reduceLeDiff, Nat.reduceAdd, Nat.reduceMul, reduceCtorEq, Try.f55, hI, rowsZ_len, *])))
noncomputable def ct_MakeSame : Ct := fam true (fun x : AZl => ([.c (.im (.sl 1 (rowsZ x.l))), .c (.im (.sl 1 (rowsZ x.l)))], [])) (fun _ => .one { val := .c (.im (.bool true)) })
theorem run_MakeSame {l : List Pt} (h : l.length ≤ sm) : ct_MakeSame.run [.c (.im (.sl 1 (rowsZ l))), .c (.im (.sl 1 (rowsZ l)))] [] = some (.one { val := .c (.im (.bool true)) }) := run_l5SameList h
theorem sc_MakeSame : (ct_MakeSame.sc = true) = True := by simp [ct_MakeSame, fam]
set_option maxRecDepth 100000 in
theorem law_MakeSame : Law Try.prog 30 ct_MakeSame := by
  refine fam_law (Env_cons law_l5SameList Env_nil) hmixA Try.func30 rfl rfl (fun ⟨l, hl⟩ => ⟨okO_im rfl, by simp [Try.f30], ?_⟩)
  simp only
  try simp -dsimp (maxSteps := 1000000) only [go_sem, List.forall_mem_nil, ↓reduceIte, Nat.reduceEqDiff, Nat.reduceLT, Nat.reduceLeDiff, Nat.reduceAdd, Nat.reduceMul, reduceCtorEq, Try.f30, run_l5SameList hl]
  repeat' (first
    | ((with_reducible refine sl_i ?_ ?_); focus kernel_rfl)
    | ((with_reducible refine ro_i ?_ ?_); focus kernel_rfl)
    | ((with_reducible refine sl_e ?_); kernel_rfl)
    | ((with_reducible refine ro_e ?_); kernel_rfl)
    | ((first | (with_reducible refine gS_d ?_ ?_) | (with_reducible refine gS_dn ?_ ?_) | (with_reducible refine gS_i ?_ ?_)) <;> intro hg <;> (try simp -dsimp (maxSteps := 1000000) only [go_sem, List.forall_mem_nil, ↓reduceIte, Nat.reduceEqDiff, Nat.reduceLT, Nat.reduceLeDiff, Nat.reduceAdd, Nat.reduceMul, reduceCtorEq, Try.f30, run_l5SameList hl, *])))

noncomputable def ct_SameModules : Ct := fam true (fun x : MdA => ([.agg (modC x.1), .agg (modC x.1)], [])) (fun _ => .one { val := .c (.im (.bool true)) })
theorem run_SameModules {m : Mod} (h : OkM m) : ct_SameModules.run [.agg (modC m), .agg (modC m)] [] = some (.one { val := .c (.im (.bool true)) }) := by
  refine fam_run' (args := fun x : MdA => ([D.agg (modC x.1), .agg (modC x.1)], [])) ?_ ⟨m, h⟩
  rintro ⟨a, _⟩ ⟨b, _⟩ h
  simp at h ⊢
  exact modC_inj h
theorem sc_SameModules : (ct_SameModules.sc = true) = True := by simp [ct_SameModules, fam]
set_option maxRecDepth 100000 in
set_option maxHeartbeats 8000000 in
theorem law_SameModules : Law Try.prog 54 ct_SameModules := by
  refine fam_law (Env_cons law_l5Same (Env_cons law_l5SamePoint (Env_cons law_l5SameList Env_nil))) hmixA Try.func54 rfl rfl (fun ⟨⟨k, ⟨t1, t2⟩, ⟨s1, s2⟩, lv, st, ra, rc, pts, lab, c, l⟩, ⟨q1, q2, q3⟩⟩ => ⟨okO_im rfl, by simp [Try.f54], ?_⟩)
  simp only at q1 q2 q3
  simp only [modC]
  try simp -dsimp (maxSteps := 1000000) only [go_sem, List.forall_mem_nil, ↓reduceIte, Nat.reduceEqDiff, Nat.reduceLT, Nat.reduceLeDiff, Nat.reduceAdd, Nat.reduceMul, reduceCtorEq, Try.f54, rowsN_len, ne_eq, not_true_eq_false, decide_false]
  repeat' (first
    | ((with_reducible refine sl_i ?_ ?_); focus kernel_rfl)
    | ((with_reducible refine ro_i ?_ ?_); focus kernel_rfl)
    | ((with_reducible refine sl_e ?_); kernel_rfl)
    | ((with_reducible refine ro_e ?_); kernel_rfl)
    | ((first | (with_reducible refine gS_d ?_ ?_) | (with_reducible refine gS_dn ?_ ?_) | (with_reducible refine gS_i ?_ ?_)) <;> intro hg <;> (try simp -dsimp (maxSteps := 1000000) only [go_sem, List.forall_mem_nil, ↓reduceIte, Nat.reduceEqDiff, Nat.reduceLT, Nat.reduceLeDiff, Nat.reduceAdd, Nat.reduceMul, reduceCtorEq, Try.f54, rowsN_len, ne_eq, not_true_eq_false, decide_false, *])))
  refine loop_i (ι := { k : Nat // k ≤ lab.length }) (fun j => ⟨[(2, some (.c (.ptr 0 0 0 0))), (3, some (.c (.ptr 1 0 0 0))), (57, some (.c (.im (.sl 1 (rowsN lab))))), (58, some (.c (.im (.int .i64 (lab.length : Int))))), (59, some (.c (.im (.int .i64 (j.1 : Int)))))],
    [(0, some (.box [.t (.im (.int .i64 k)), .t (.im (.cpx .f32 t1 t2)), .t (.im (.cpx .f32 s1 s2)), .t (.im (.flt .f32 lv)), .t (.im (.sl 1 (rowsZ st))), .t (.im (.int .i64 ra)), .t (.im (.int .i64 rc)), .t (.im (.sl 1 (rowsZ pts))), .t (.im (.sl 1 (rowsN lab))), .t (.im (.int .i64 c)), .t (.im (.int .i64 l))])), (1, some (.box [.t (.im (.int .i64 k)), .t (.im (.cpx .f32 t1 t2)), .t (.im (.cpx .f32 s1 s2)), .t (.im (.flt .f32 lv)), .t (.im (.sl 1 (rowsZ st))), .t (.im (.int .i64 ra)), .t (.im (.int .i64 rc)), .t (.im (.sl 1 (rowsZ pts))), .t (.im (.sl 1 (rowsN lab))), .t (.im (.int .i64 c)), .t (.im (.int .i64 l))]))], 2⟩) (fun j => lab.length - j.1) ⟨0, by simp⟩ ⟨[], [0, 1], by ((simp only [ne_eq, eq_self, subF, folds, wk1, subOk, sOk, hOk, nms, reF, rho, mapD, mapC, mapC1, NmD, NmC, NmC1, mapR, mapB, mapTt, NmR, NmB, NmT, MvRb, MvRn, MvRt, lk, ins, Root.get, Root.setT, List.map_cons, List.map_nil, List.nodup_cons, List.nodup_nil, List.not_mem_nil, List.mem_cons, not_false_eq_true, and_self, and_true, true_and, true_or, or_true, false_or, or_false, ↓reduceIte, Nat.reduceEqDiff, Nat.reduceLT, Nat.reduceLeDiff, reduceCtorEq, Option.isSome_some, List.forall_mem_cons, List.forall_mem_nil, implies_true, forall_const, Nat.le_refl, Nat.zero_le, false_implies, List.mem_singleton, MvB_im, MvB_nil, Mv_im, Option.some.injEq, D.c.injEq, C.im.injEq, I.int.injEq, List.getElem?_cons_zero, List.getElem?_cons_succ, List.set_cons_zero, List.set_cons_succ, List.length_cons, List.length_nil, Nat.zero_add]) <;> (try (simp -dsimp only [ne_eq, eq_self, subF, folds, wk1, subOk, sOk, hOk, nms, reF, rho, mapD, mapC, mapC1, NmD, NmC, NmC1, mapR, mapB, mapTt, NmR, NmB, NmT, MvRb, MvRn, MvRt, lk, ins, Root.get, Root.setT, List.map_cons, List.map_nil, List.nodup_cons, List.nodup_nil, List.not_mem_nil, List.mem_cons, not_false_eq_true, and_self, and_true, true_and, true_or, or_true, false_or, or_false, ↓reduceIte, Nat.reduceEqDiff, Nat.reduceLT, Nat.reduceLeDiff, reduceCtorEq, Option.isSome_some, List.forall_mem_cons, List.forall_mem_nil, implies_true, forall_const, Nat.le_refl, Nat.zero_le, false_implies, List.mem_singleton, MvB_im, MvB_nil, Mv_im, Option.some.injEq, D.c.injEq, C.im.injEq, I.int.injEq, List.getElem?_cons_zero, List.getElem?_cons_succ, List.set_cons_zero, List.set_cons_succ, List.length_cons, List.length_nil, Nat.zero_add]))) <;> simp [lk, MvB_im]⟩ (fun ⟨j, hj⟩ => ?_)
  simp only
  by_cases hlt : j < lab.length
  · obtain ⟨p, hp⟩ : ∃ p, lab[j]? = some p := ⟨_, List.getElem?_eq_getElem hlt⟩
    have hrow := rowsN_at hp
    have hI : ((j : Int) < (lab.length : Int)) = True := by simp; omega
    have h0 : (0 ≤ (j : Int)) = True := by simp
    have hwr := lt_sm q3 hlt
    try simp -dsimp (maxSteps := 1000000) only [go_sem, List.forall_mem_nil, ↓reduceIte, Nat.reduceEqDiff, Nat.reduceLT, Nat.reduceLeDiff, Nat.reduceAdd, Nat.reduceMul, reduceCtorEq, Try.f54, hI, h0, Int.toNat_natCast, hrow, hwr, rowsN_len, ne_eq, not_true_eq_false, decide_false]
    repeat' (first
      | ((with_reducible refine sl_i ?_ ?_); focus kernel_rfl)
      | ((with_reducible refine ro_i ?_ ?_); focus kernel_rfl)
      | ((with_reducible refine sl_e ?_); kernel_rfl)
      | ((with_reducible refine ro_e ?_); kernel_rfl)
      | ((first | (with_reducible refine gS_d ?_ ?_) | (with_reducible refine gS_dn ?_ ?_) | (with_reducible refine gS_i ?_ ?_)) <;> intro hg <;> (try simp -dsimp (maxSteps := 1000000) only [go_sem, List.forall_mem_nil, ↓reduceIte, Nat.reduceEqDiff, Nat.reduceLT, Nat.reduceLeDiff, Nat.reduceAdd, Nat.reduceMul, reduceCtorEq, Try.f54, hI, h0, Int.toNat_natCast, hrow, hwr, rowsN_len, ne_eq, not_true_eq_false, decide_false, *])))
    exact ⟨⟨j + 1, by omega⟩, by simp only []; omega, [], [0, 1], by ((simp only [ne_eq, eq_self, subF, folds, wk1, subOk, sOk, hOk, nms, reF, rho, mapD, mapC, mapC1, NmD, NmC, NmC1, mapR, mapB, mapTt, NmR, NmB, NmT, MvRb, MvRn, MvRt, lk, ins, Root.get, Root.setT, List.map_cons, List.map_nil, List.nodup_cons, List.nodup_nil, List.not_mem_nil, List.mem_cons, not_false_eq_true, and_self, and_true, true_and, true_or, or_true, false_or, or_false, ↓reduceIte, Nat.reduceEqDiff, Nat.reduceLT, Nat.reduceLeDiff, reduceCtorEq, Option.isSome_some, List.forall_mem_cons, List.forall_mem_nil, implies_true, forall_const, Nat.le_refl, Nat.zero_le, false_implies, List.mem_singleton, MvB_im, MvB_nil, Mv_im, Option.some.injEq, D.c.injEq, C.im.injEq, I.int.injEq, List.getElem?_cons_zero, List.getElem?_cons_succ, List.set_cons_zero, List.set_cons_succ, List.length_cons, List.length_nil, Nat.zero_add]) <;> (try (simp -dsimp only [ne_eq, eq_self, subF, folds, wk1, subOk, sOk, hOk, nms, reF, rho, mapD, mapC, mapC1, NmD, NmC, NmC1, mapR, mapB, mapTt, NmR, NmB, NmT, MvRb, MvRn, MvRt, lk, ins, Root.get, Root.setT, List.map_cons, List.map_nil, List.nodup_cons, List.nodup_nil, List.not_mem_nil, List.mem_cons, not_false_eq_true, and_self, and_true, true_and, true_or, or_true, false_or, or_false, ↓reduceIte, Nat.reduceEqDiff, Nat.reduceLT, Nat.reduceLeDiff, reduceCtorEq, Option.isSome_some, List.forall_mem_cons, List.forall_mem_nil, implies_true, forall_const, Nat.le_refl, Nat.zero_le, false_implies, List.mem_singleton, MvB_im, MvB_nil, Mv_im, Option.some.injEq, D.c.injEq, C.im.injEq, I.int.injEq, List.getElem?_cons_zero, List.getElem?_cons_succ, List.set_cons_zero, List.set_cons_succ, List.length_cons, List.length_nil, Nat.zero_add]))) <;> simp [lk, MvB_im]⟩
  · have hI : ((j : Int) < (lab.length : Int)) = False := by simp; omega
    try simp -dsimp (maxSteps := 1000000) only [go_sem, List.forall_mem_nil, ↓reduceIte, Nat.reduceEqDiff, Nat.reduceLT, Nat.reduceLeDiff, Nat.reduceAdd, Nat.reduceMul, reduceCtorEq, Try.f54, hI, run_l5SamePoint, run_l5Same, run_l5SameList q1, run_l5SameList q2, sc_l5SameList, rowsN_len]
    repeat' (first
      | ((with_reducible refine sl_i ?_ ?_); focus kernel_rfl)
      | ((with_reducible refine ro_i ?_ ?_); focus kernel_rfl)
      | ((with_reducible refine sl_e ?_); kernel_rfl)
      | ((with_reducible refine ro_e ?_); kernel_rfl)
      | ((first | (with_reducible refine gS_d ?_ ?_) | (with_reducible refine gS_dn ?_ ?_) | (with_reducible refine gS_i ?_ ?_)) <;> intro hg <;> (try simp -dsimp (maxSteps := 1000000) only [go_sem, List.forall_mem_nil, ↓reduceIte, Nat.reduceEqDiff, Nat.reduceLT, Nat.reduceLeDiff, Nat.reduceAdd, Nat.reduceMul, reduceCtorEq, Try.f54, hI, run_l5SamePoint, run_l5Same, run_l5SameList q1, run_l5SameList q2, sc_l5SameList, rowsN_len, *])))

structure ARk2 where
  ms : List Mod
  cs : List Cbl
  ml : ms.length ≤ sm
  cl : cs.length ≤ sm
  ok : ∀ m ∈ ms, OkM m
noncomputable def ct_SameRacks : Ct := fam true (fun x : ARk2 => ([.agg [.im (.sl 11 (rowsM x.ms)), .im (.sl 2 (rowsC x.cs))], .agg [.im (.sl 11 (rowsM x.ms)), .im (.sl 2 (rowsC x.cs))]], [])) (fun _ => .one { val := .c (.im (.bool true)) })
theorem run_SameRacks {ms : List Mod} {cs : List Cbl} (h1 : ms.length ≤ sm) (h2 : cs.length ≤ sm) (h5 : ∀ m ∈ ms, OkM m) : ct_SameRacks.run [.agg [.im (.sl 11 (rowsM ms)), .im (.sl 2 (rowsC cs))], .agg [.im (.sl 11 (rowsM ms)), .im (.sl 2 (rowsC cs))]] [] = some (.one { val := .c (.im (.bool true)) }) := by
  refine fam_run' (args := fun x : ARk2 => ([D.agg [.im (.sl 11 (rowsM x.ms)), .im (.sl 2 (rowsC x.cs))], .agg [.im (.sl 11 (rowsM x.ms)), .im (.sl 2 (rowsC x.cs))]], [])) ?_ ⟨ms, cs, h1, h2, h5⟩
  rintro ⟨a, b, _, _, _⟩ ⟨a', b', _, _, _⟩ h
  simp only [Prod.mk.injEq, List.cons.injEq, D.agg.injEq, C.im.injEq, I.sl.injEq, true_and, and_true, rowsM_eq, rowsC_eq] at h
  obtain ⟨⟨rfl, rfl⟩, _⟩ := h
  rfl
theorem sc_SameRacks : (ct_SameRacks.sc = true) = True := by simp [ct_SameRacks, fam]
end Go.SX
