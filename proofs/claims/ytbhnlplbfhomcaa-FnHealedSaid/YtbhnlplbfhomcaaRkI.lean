/-
  IsModule, copyModule.
  No condition.
-/
import Derived.Test.YtbhnlplbfhomcaaRkH
set_option linter.unusedVariables false
set_option linter.unusedSimpArgs false
namespace Go.SX
open Go Go.Proofs

def isModuleF (m : Mod) : Bool :=
  if m.kind = 1 then bareF { m with turn := (0, 0), state := (0, 0) }
  else if m.kind = 2 then bareF { m with turn := (0, 0), state := (0, 0) }
  else if m.kind = 3 then bareF { m with level := 0 }
  else if m.kind = 4 then (isRingF m.store m.rat m.rcnt && decide (m.rcnt = (m.store.length : Int))) && bareF { m with store := [], rat := 0, rcnt := 0 }
  else if m.kind = 5 then bareF m
  else if m.kind = 6 then isTableF m.pts m.lab && bareF { m with pts := [], lab := [], count := 0 }
  else if m.kind = 7 then (nz m.level || fcmp .gtr .f32 m.level 0) && bareF { m with level := 0 }
  else if m.kind = 8 then (decide (1 ≤ m.count) && (decide (m.count ≤ 100) && (decide (0 ≤ m.left) && decide (m.left < m.count)))) && bareF { m with state := (0, 0), count := 0, left := 0 }
  else false
abbrev MdA := { m : Mod // OkM m }
noncomputable def ct_IsModule : Ct := fam true (fun x : MdA => ([.agg (modC x.1)], [])) (fun x => .one { val := .c (.im (.bool (isModuleF x.1))) })
theorem run_IsModule {k : Int} {t1 t2 s1 s2 lv : Nat} {st : List Pt} {ra rc : Int} {pts : List Pt} {lab : List Int} {c l : Int} (hst : st.length ≤ sm) (hp : pts.length ≤ sm) (hl : lab.length ≤ sm) :
    ct_IsModule.run [.agg [.im (.int .i64 k), .im (.cpx .f32 t1 t2), .im (.cpx .f32 s1 s2), .im (.flt .f32 lv), .im (.sl 1 (rowsZ st)), .im (.int .i64 ra), .im (.int .i64 rc), .im (.sl 1 (rowsZ pts)), .im (.sl 1 (rowsN lab)), .im (.int .i64 c), .im (.int .i64 l)]] [] =
      some (.one { val := .c (.im (.bool (isModuleF ⟨k, (t1, t2), (s1, s2), lv, st, ra, rc, pts, lab, c, l⟩))) }) := by
  refine fam_run' (args := fun x : MdA => ([D.agg (modC x.1)], [])) ?_ ⟨⟨k, (t1, t2), (s1, s2), lv, st, ra, rc, pts, lab, c, l⟩, ⟨hst, hp, hl⟩⟩
  rintro ⟨a, _⟩ ⟨b, _⟩ h
  simp at h ⊢
  exact modC_inj h
set_option maxRecDepth 100000 in
set_option maxHeartbeats 8000000 in
theorem law_IsModule : Law Try.prog 60 ct_IsModule := by
  refine fam_law (Env_cons law_isBare (Env_cons law_IsRing (Env_cons law_IsTable (Env_cons law_isNought Env_nil)))) hmixA Try.func60 rfl rfl (fun ⟨⟨k, ⟨t1, t2⟩, ⟨s1, s2⟩, lv, st, ra, rc, pts, lab, c, l⟩, ⟨q1, q2, q3⟩⟩ => ⟨okO_im rfl, by simp [Try.f60], ?_⟩)
  simp only at q1 q2 q3
  simp only [modC]
  by_cases k1 : k = 1
  · subst k1
    try simp -dsimp (maxSteps := 1000000) only [go_sem, List.forall_mem_nil, ↓reduceIte, Nat.reduceEqDiff, Nat.reduceLT, Nat.reduceLeDiff, Nat.reduceAdd, Nat.reduceMul, reduceCtorEq, Try.f60, run_isBare q1 q2 q3, isModuleF]
    repeat' (first
      | ((with_reducible refine sl_i ?_ ?_); focus kernel_rfl)
      | ((with_reducible refine ro_i ?_ ?_); focus kernel_rfl)
      | ((with_reducible refine sl_e ?_); kernel_rfl)
      | ((with_reducible refine ro_e ?_); kernel_rfl)
      | ((first | (with_reducible refine gS_d ?_ ?_) | (with_reducible refine gS_dn ?_ ?_) | (with_reducible refine gS_i ?_ ?_)) <;> intro hg <;> (try simp -dsimp (maxSteps := 1000000) only [go_sem, List.forall_mem_nil, ↓reduceIte, Nat.reduceEqDiff, Nat.reduceLT, Nat.reduceLeDiff, Nat.reduceAdd, Nat.reduceMul, reduceCtorEq, Try.f60, run_isBare q1 q2 q3, isModuleF, *])))
  by_cases k2 : k = 2
  · subst k2
    try simp -dsimp (maxSteps := 1000000) only [go_sem, List.forall_mem_nil, ↓reduceIte, Nat.reduceEqDiff, Nat.reduceLT, Nat.reduceLeDiff, Nat.reduceAdd, Nat.reduceMul, reduceCtorEq, Try.f60, run_isBare q1 q2 q3, isModuleF, Int.reduceEq]
    repeat' (first
      | ((with_reducible refine sl_i ?_ ?_); focus kernel_rfl)
      | ((with_reducible refine ro_i ?_ ?_); focus kernel_rfl)
      | ((with_reducible refine sl_e ?_); kernel_rfl)
      | ((with_reducible refine ro_e ?_); kernel_rfl)
      | ((first | (with_reducible refine gS_d ?_ ?_) | (with_reducible refine gS_dn ?_ ?_) | (with_reducible refine gS_i ?_ ?_)) <;> intro hg <;> (try simp -dsimp (maxSteps := 1000000) only [go_sem, List.forall_mem_nil, ↓reduceIte, Nat.reduceEqDiff, Nat.reduceLT, Nat.reduceLeDiff, Nat.reduceAdd, Nat.reduceMul, reduceCtorEq, Try.f60, run_isBare q1 q2 q3, isModuleF, Int.reduceEq, *])))
  by_cases k3 : k = 3
  · subst k3
    try simp -dsimp (maxSteps := 1000000) only [go_sem, List.forall_mem_nil, ↓reduceIte, Nat.reduceEqDiff, Nat.reduceLT, Nat.reduceLeDiff, Nat.reduceAdd, Nat.reduceMul, reduceCtorEq, Try.f60, run_isBare q1 q2 q3, isModuleF, Int.reduceEq]
    repeat' (first
      | ((with_reducible refine sl_i ?_ ?_); focus kernel_rfl)
      | ((with_reducible refine ro_i ?_ ?_); focus kernel_rfl)
      | ((with_reducible refine sl_e ?_); kernel_rfl)
      | ((with_reducible refine ro_e ?_); kernel_rfl)
      | ((first | (with_reducible refine gS_d ?_ ?_) | (with_reducible refine gS_dn ?_ ?_) | (with_reducible refine gS_i ?_ ?_)) <;> intro hg <;> (try simp -dsimp (maxSteps := 1000000) only [go_sem, List.forall_mem_nil, ↓reduceIte, Nat.reduceEqDiff, Nat.reduceLT, Nat.reduceLeDiff, Nat.reduceAdd, Nat.reduceMul, reduceCtorEq, Try.f60, run_isBare q1 q2 q3, isModuleF, Int.reduceEq, *])))
  by_cases k4 : k = 4
  · subst k4
    cases h1 : isRingF st ra rc with
    | false =>
      try simp -dsimp (maxSteps := 1000000) only [go_sem, List.forall_mem_nil, ↓reduceIte, Nat.reduceEqDiff, Nat.reduceLT, Nat.reduceLeDiff, Nat.reduceAdd, Nat.reduceMul, reduceCtorEq, Try.f60, run_isBare1 q2 q3, run_IsRing q1, h1, isModuleF, Int.reduceEq, Bool.false_and]
      repeat' (first
        | ((with_reducible refine sl_i ?_ ?_); focus kernel_rfl)
        | ((with_reducible refine ro_i ?_ ?_); focus kernel_rfl)
        | ((with_reducible refine sl_e ?_); kernel_rfl)
        | ((with_reducible refine ro_e ?_); kernel_rfl)
        | ((first | (with_reducible refine gS_d ?_ ?_) | (with_reducible refine gS_dn ?_ ?_) | (with_reducible refine gS_i ?_ ?_)) <;> intro hg <;> (try simp -dsimp (maxSteps := 1000000) only [go_sem, List.forall_mem_nil, ↓reduceIte, Nat.reduceEqDiff, Nat.reduceLT, Nat.reduceLeDiff, Nat.reduceAdd, Nat.reduceMul, reduceCtorEq, Try.f60, run_isBare1 q2 q3, run_IsRing q1, h1, isModuleF, Int.reduceEq, Bool.false_and, *])))
    | true =>
      by_cases h2 : rc = (st.length : Int)
      · have h2' := eq_true h2
        clear h2
        try simp -dsimp (maxSteps := 1000000) only [go_sem, List.forall_mem_nil, ↓reduceIte, Nat.reduceEqDiff, Nat.reduceLT, Nat.reduceLeDiff, Nat.reduceAdd, Nat.reduceMul, reduceCtorEq, Try.f60, run_isBare1 q2 q3, run_IsRing q1, h1, h2', rowsZ_len, isModuleF, Int.reduceEq, Bool.true_and]
        repeat' (first
          | ((with_reducible refine sl_i ?_ ?_); focus kernel_rfl)
          | ((with_reducible refine ro_i ?_ ?_); focus kernel_rfl)
          | ((with_reducible refine sl_e ?_); kernel_rfl)
          | ((with_reducible refine ro_e ?_); kernel_rfl)
          | ((first | (with_reducible refine gS_d ?_ ?_) | (with_reducible refine gS_dn ?_ ?_) | (with_reducible refine gS_i ?_ ?_)) <;> intro hg <;> (try simp -dsimp (maxSteps := 1000000) only [go_sem, List.forall_mem_nil, ↓reduceIte, Nat.reduceEqDiff, Nat.reduceLT, Nat.reduceLeDiff, Nat.reduceAdd, Nat.reduceMul, reduceCtorEq, Try.f60, run_isBare1 q2 q3, run_IsRing q1, h1, h2', rowsZ_len, isModuleF, Int.reduceEq, Bool.true_and, *])))
      · have h2' := eq_false h2
        clear h2
        try simp -dsimp (maxSteps := 1000000) only [go_sem, List.forall_mem_nil, ↓reduceIte, Nat.reduceEqDiff, Nat.reduceLT, Nat.reduceLeDiff, Nat.reduceAdd, Nat.reduceMul, reduceCtorEq, Try.f60, run_isBare1 q2 q3, run_IsRing q1, h1, h2', rowsZ_len, isModuleF, Int.reduceEq, Bool.true_and, Bool.false_and]
        repeat' (first
          | ((with_reducible refine sl_i ?_ ?_); focus kernel_rfl)
          | ((with_reducible refine ro_i ?_ ?_); focus kernel_rfl)
          | ((with_reducible refine sl_e ?_); kernel_rfl)
          | ((with_reducible refine ro_e ?_); kernel_rfl)
          | ((first | (with_reducible refine gS_d ?_ ?_) | (with_reducible refine gS_dn ?_ ?_) | (with_reducible refine gS_i ?_ ?_)) <;> intro hg <;> (try simp -dsimp (maxSteps := 1000000) only [go_sem, List.forall_mem_nil, ↓reduceIte, Nat.reduceEqDiff, Nat.reduceLT, Nat.reduceLeDiff, Nat.reduceAdd, Nat.reduceMul, reduceCtorEq, Try.f60, run_isBare1 q2 q3, run_IsRing q1, h1, h2', rowsZ_len, isModuleF, Int.reduceEq, Bool.true_and, Bool.false_and, *])))
  by_cases k5 : k = 5
  · subst k5
    try simp -dsimp (maxSteps := 1000000) only [go_sem, List.forall_mem_nil, ↓reduceIte, Nat.reduceEqDiff, Nat.reduceLT, Nat.reduceLeDiff, Nat.reduceAdd, Nat.reduceMul, reduceCtorEq, Try.f60, run_isBare q1 q2 q3, isModuleF, Int.reduceEq]
    repeat' (first
      | ((with_reducible refine sl_i ?_ ?_); focus kernel_rfl)
      | ((with_reducible refine ro_i ?_ ?_); focus kernel_rfl)
      | ((with_reducible refine sl_e ?_); kernel_rfl)
      | ((with_reducible refine ro_e ?_); kernel_rfl)
      | ((first | (with_reducible refine gS_d ?_ ?_) | (with_reducible refine gS_dn ?_ ?_) | (with_reducible refine gS_i ?_ ?_)) <;> intro hg <;> (try simp -dsimp (maxSteps := 1000000) only [go_sem, List.forall_mem_nil, ↓reduceIte, Nat.reduceEqDiff, Nat.reduceLT, Nat.reduceLeDiff, Nat.reduceAdd, Nat.reduceMul, reduceCtorEq, Try.f60, run_isBare q1 q2 q3, isModuleF, Int.reduceEq, *])))
  by_cases k6 : k = 6
  · subst k6
    cases h1 : isTableF pts lab with
    | false =>
      try simp -dsimp (maxSteps := 1000000) only [go_sem, List.forall_mem_nil, ↓reduceIte, Nat.reduceEqDiff, Nat.reduceLT, Nat.reduceLeDiff, Nat.reduceAdd, Nat.reduceMul, reduceCtorEq, Try.f60, run_isBare2 q1, run_IsTable q2 q3, h1, isModuleF, Int.reduceEq, Bool.false_and]
      repeat' (first
        | ((with_reducible refine sl_i ?_ ?_); focus kernel_rfl)
        | ((with_reducible refine ro_i ?_ ?_); focus kernel_rfl)
        | ((with_reducible refine sl_e ?_); kernel_rfl)
        | ((with_reducible refine ro_e ?_); kernel_rfl)
        | ((first | (with_reducible refine gS_d ?_ ?_) | (with_reducible refine gS_dn ?_ ?_) | (with_reducible refine gS_i ?_ ?_)) <;> intro hg <;> (try simp -dsimp (maxSteps := 1000000) only [go_sem, List.forall_mem_nil, ↓reduceIte, Nat.reduceEqDiff, Nat.reduceLT, Nat.reduceLeDiff, Nat.reduceAdd, Nat.reduceMul, reduceCtorEq, Try.f60, run_isBare2 q1, run_IsTable q2 q3, h1, isModuleF, Int.reduceEq, Bool.false_and, *])))
    | true =>
      try simp -dsimp (maxSteps := 1000000) only [go_sem, List.forall_mem_nil, ↓reduceIte, Nat.reduceEqDiff, Nat.reduceLT, Nat.reduceLeDiff, Nat.reduceAdd, Nat.reduceMul, reduceCtorEq, Try.f60, run_isBare2 q1, run_IsTable q2 q3, h1, isModuleF, Int.reduceEq, Bool.true_and]
      repeat' (first
        | ((with_reducible refine sl_i ?_ ?_); focus kernel_rfl)
        | ((with_reducible refine ro_i ?_ ?_); focus kernel_rfl)
        | ((with_reducible refine sl_e ?_); kernel_rfl)
        | ((with_reducible refine ro_e ?_); kernel_rfl)
        | ((first | (with_reducible refine gS_d ?_ ?_) | (with_reducible refine gS_dn ?_ ?_) | (with_reducible refine gS_i ?_ ?_)) <;> intro hg <;> (try simp -dsimp (maxSteps := 1000000) only [go_sem, List.forall_mem_nil, ↓reduceIte, Nat.reduceEqDiff, Nat.reduceLT, Nat.reduceLeDiff, Nat.reduceAdd, Nat.reduceMul, reduceCtorEq, Try.f60, run_isBare2 q1, run_IsTable q2 q3, h1, isModuleF, Int.reduceEq, Bool.true_and, *])))
  by_cases k7 : k = 7
  · subst k7
    by_cases h1 : (lv : Int) = 0
    · have h1' := eq_true h1
      clear h1
      try simp -dsimp (maxSteps := 1000000) only [go_sem, List.forall_mem_nil, ↓reduceIte, Nat.reduceEqDiff, Nat.reduceLT, Nat.reduceLeDiff, Nat.reduceAdd, Nat.reduceMul, reduceCtorEq, Try.f60, run_isBare q1 q2 q3, run_isNought, h1', nz, isModuleF, Int.reduceEq, Bool.true_or, Bool.true_and]
      repeat' (first
        | ((with_reducible refine sl_i ?_ ?_); focus kernel_rfl)
        | ((with_reducible refine ro_i ?_ ?_); focus kernel_rfl)
        | ((with_reducible refine sl_e ?_); kernel_rfl)
        | ((with_reducible refine ro_e ?_); kernel_rfl)
        | ((first | (with_reducible refine gS_d ?_ ?_) | (with_reducible refine gS_dn ?_ ?_) | (with_reducible refine gS_i ?_ ?_)) <;> intro hg <;> (try simp -dsimp (maxSteps := 1000000) only [go_sem, List.forall_mem_nil, ↓reduceIte, Nat.reduceEqDiff, Nat.reduceLT, Nat.reduceLeDiff, Nat.reduceAdd, Nat.reduceMul, reduceCtorEq, Try.f60, run_isBare q1 q2 q3, run_isNought, h1', nz, isModuleF, Int.reduceEq, Bool.true_or, Bool.true_and, *])))
    · have h1' := eq_false h1
      clear h1
      cases h2 : fcmp .gtr .f32 lv 0 with
      | false =>
        try simp -dsimp (maxSteps := 1000000) only [go_sem, List.forall_mem_nil, ↓reduceIte, Nat.reduceEqDiff, Nat.reduceLT, Nat.reduceLeDiff, Nat.reduceAdd, Nat.reduceMul, reduceCtorEq, Try.f60, run_isBare q1 q2 q3, run_isNought, h1', h2, nz, isModuleF, Int.reduceEq, Bool.false_or, Bool.false_and]
        repeat' (first
          | ((with_reducible refine sl_i ?_ ?_); focus kernel_rfl)
          | ((with_reducible refine ro_i ?_ ?_); focus kernel_rfl)
          | ((with_reducible refine sl_e ?_); kernel_rfl)
          | ((with_reducible refine ro_e ?_); kernel_rfl)
          | ((first | (with_reducible refine gS_d ?_ ?_) | (with_reducible refine gS_dn ?_ ?_) | (with_reducible refine gS_i ?_ ?_)) <;> intro hg <;> (try simp -dsimp (maxSteps := 1000000) only [go_sem, List.forall_mem_nil, ↓reduceIte, Nat.reduceEqDiff, Nat.reduceLT, Nat.reduceLeDiff, Nat.reduceAdd, Nat.reduceMul, reduceCtorEq, Try.f60, run_isBare q1 q2 q3, run_isNought, h1', h2, nz, isModuleF, Int.reduceEq, Bool.false_or, Bool.false_and, *])))
      | true =>
        try simp -dsimp (maxSteps := 1000000) only [go_sem, List.forall_mem_nil, ↓reduceIte, Nat.reduceEqDiff, Nat.reduceLT, Nat.reduceLeDiff, Nat.reduceAdd, Nat.reduceMul, reduceCtorEq, Try.f60, run_isBare q1 q2 q3, run_isNought, h1', h2, nz, isModuleF, Int.reduceEq, Bool.false_or, Bool.true_and]
        repeat' (first
          | ((with_reducible refine sl_i ?_ ?_); focus kernel_rfl)
          | ((with_reducible refine ro_i ?_ ?_); focus kernel_rfl)
          | ((with_reducible refine sl_e ?_); kernel_rfl)
          | ((with_reducible refine ro_e ?_); kernel_rfl)
          | ((first | (with_reducible refine gS_d ?_ ?_) | (with_reducible refine gS_dn ?_ ?_) | (with_reducible refine gS_i ?_ ?_)) <;> intro hg <;> (try simp -dsimp (maxSteps := 1000000) only [go_sem, List.forall_mem_nil, ↓reduceIte, Nat.reduceEqDiff, Nat.reduceLT, Nat.reduceLeDiff, Nat.reduceAdd, Nat.reduceMul, reduceCtorEq, Try.f60, run_isBare q1 q2 q3, run_isNought, h1', h2, nz, isModuleF, Int.reduceEq, Bool.false_or, Bool.true_and, *])))
  by_cases k8 : k = 8
  · subst k8
    by_cases p1 : (1 : Int) ≤ c
    rotate_left
    · have e1 := eq_false p1
      clear p1
      try simp -dsimp (maxSteps := 1000000) only [go_sem, List.forall_mem_nil, ↓reduceIte, Nat.reduceEqDiff, Nat.reduceLT, Nat.reduceLeDiff, Nat.reduceAdd, Nat.reduceMul, reduceCtorEq, Try.f60, run_isBare q1 q2 q3, isModuleF, Int.reduceEq, Bool.false_and, Bool.true_and, Bool.and_false, e1]
      repeat' (first
        | ((with_reducible refine sl_i ?_ ?_); focus kernel_rfl)
        | ((with_reducible refine ro_i ?_ ?_); focus kernel_rfl)
        | ((with_reducible refine sl_e ?_); kernel_rfl)
        | ((with_reducible refine ro_e ?_); kernel_rfl)
        | ((first | (with_reducible refine gS_d ?_ ?_) | (with_reducible refine gS_dn ?_ ?_) | (with_reducible refine gS_i ?_ ?_)) <;> intro hg <;> (try simp -dsimp (maxSteps := 1000000) only [go_sem, List.forall_mem_nil, ↓reduceIte, Nat.reduceEqDiff, Nat.reduceLT, Nat.reduceLeDiff, Nat.reduceAdd, Nat.reduceMul, reduceCtorEq, Try.f60, run_isBare q1 q2 q3, isModuleF, Int.reduceEq, Bool.false_and, Bool.true_and, Bool.and_false, e1, *])))
    have e1 := eq_true p1
    by_cases p2 : c ≤ 100
    rotate_left
    · have e2 := eq_false p2
      clear p2
      try simp -dsimp (maxSteps := 1000000) only [go_sem, List.forall_mem_nil, ↓reduceIte, Nat.reduceEqDiff, Nat.reduceLT, Nat.reduceLeDiff, Nat.reduceAdd, Nat.reduceMul, reduceCtorEq, Try.f60, run_isBare q1 q2 q3, isModuleF, Int.reduceEq, Bool.false_and, Bool.true_and, Bool.and_false, e1, e2]
      repeat' (first
        | ((with_reducible refine sl_i ?_ ?_); focus kernel_rfl)
        | ((with_reducible refine ro_i ?_ ?_); focus kernel_rfl)
        | ((with_reducible refine sl_e ?_); kernel_rfl)
        | ((with_reducible refine ro_e ?_); kernel_rfl)
        | ((first | (with_reducible refine gS_d ?_ ?_) | (with_reducible refine gS_dn ?_ ?_) | (with_reducible refine gS_i ?_ ?_)) <;> intro hg <;> (try simp -dsimp (maxSteps := 1000000) only [go_sem, List.forall_mem_nil, ↓reduceIte, Nat.reduceEqDiff, Nat.reduceLT, Nat.reduceLeDiff, Nat.reduceAdd, Nat.reduceMul, reduceCtorEq, Try.f60, run_isBare q1 q2 q3, isModuleF, Int.reduceEq, Bool.false_and, Bool.true_and, Bool.and_false, e1, e2, *])))
    have e2 := eq_true p2
    by_cases p3 : (0 : Int) ≤ l
    rotate_left
    · have e3 := eq_false p3
      clear p3
      try simp -dsimp (maxSteps := 1000000) only [go_sem, List.forall_mem_nil, ↓reduceIte, Nat.reduceEqDiff, Nat.reduceLT, Nat.reduceLeDiff, Nat.reduceAdd, Nat.reduceMul, reduceCtorEq, Try.f60, run_isBare q1 q2 q3, isModuleF, Int.reduceEq, Bool.false_and, Bool.true_and, Bool.and_false, e1, e2, e3]
      repeat' (first
        | ((with_reducible refine sl_i ?_ ?_); focus kernel_rfl)
        | ((with_reducible refine ro_i ?_ ?_); focus kernel_rfl)
        | ((with_reducible refine sl_e ?_); kernel_rfl)
        | ((with_reducible refine ro_e ?_); kernel_rfl)
        | ((first | (with_reducible refine gS_d ?_ ?_) | (with_reducible refine gS_dn ?_ ?_) | (with_reducible refine gS_i ?_ ?_)) <;> intro hg <;> (try simp -dsimp (maxSteps := 1000000) only [go_sem, List.forall_mem_nil, ↓reduceIte, Nat.reduceEqDiff, Nat.reduceLT, Nat.reduceLeDiff, Nat.reduceAdd, Nat.reduceMul, reduceCtorEq, Try.f60, run_isBare q1 q2 q3, isModuleF, Int.reduceEq, Bool.false_and, Bool.true_and, Bool.and_false, e1, e2, e3, *])))
    have e3 := eq_true p3
    by_cases p4 : l < c
    rotate_left
    · have e4 := eq_false p4
      clear p4
      try simp -dsimp (maxSteps := 1000000) only [go_sem, List.forall_mem_nil, ↓reduceIte, Nat.reduceEqDiff, Nat.reduceLT, Nat.reduceLeDiff, Nat.reduceAdd, Nat.reduceMul, reduceCtorEq, Try.f60, run_isBare q1 q2 q3, isModuleF, Int.reduceEq, Bool.false_and, Bool.true_and, Bool.and_false, e1, e2, e3, e4]
      repeat' (first
        | ((with_reducible refine sl_i ?_ ?_); focus kernel_rfl)
        | ((with_reducible refine ro_i ?_ ?_); focus kernel_rfl)
        | ((with_reducible refine sl_e ?_); kernel_rfl)
        | ((with_reducible refine ro_e ?_); kernel_rfl)
        | ((first | (with_reducible refine gS_d ?_ ?_) | (with_reducible refine gS_dn ?_ ?_) | (with_reducible refine gS_i ?_ ?_)) <;> intro hg <;> (try simp -dsimp (maxSteps := 1000000) only [go_sem, List.forall_mem_nil, ↓reduceIte, Nat.reduceEqDiff, Nat.reduceLT, Nat.reduceLeDiff, Nat.reduceAdd, Nat.reduceMul, reduceCtorEq, Try.f60, run_isBare q1 q2 q3, isModuleF, Int.reduceEq, Bool.false_and, Bool.true_and, Bool.and_false, e1, e2, e3, e4, *])))
    have e4 := eq_true p4
    clear p1 p2 p3 p4
    try simp -dsimp (maxSteps := 1000000) only [go_sem, List.forall_mem_nil, ↓reduceIte, Nat.reduceEqDiff, Nat.reduceLT, Nat.reduceLeDiff, Nat.reduceAdd, Nat.reduceMul, reduceCtorEq, Try.f60, run_isBare q1 q2 q3, e1, e2, e3, e4, isModuleF, Int.reduceEq, Bool.true_and]
    repeat' (first
      | ((with_reducible refine sl_i ?_ ?_); focus kernel_rfl)
      | ((with_reducible refine ro_i ?_ ?_); focus kernel_rfl)
      | ((with_reducible refine sl_e ?_); kernel_rfl)
      | ((with_reducible refine ro_e ?_); kernel_rfl)
      | ((first | (with_reducible refine gS_d ?_ ?_) | (with_reducible refine gS_dn ?_ ?_) | (with_reducible refine gS_i ?_ ?_)) <;> intro hg <;> (try simp -dsimp (maxSteps := 1000000) only [go_sem, List.forall_mem_nil, ↓reduceIte, Nat.reduceEqDiff, Nat.reduceLT, Nat.reduceLeDiff, Nat.reduceAdd, Nat.reduceMul, reduceCtorEq, Try.f60, run_isBare q1 q2 q3, e1, e2, e3, e4, isModuleF, Int.reduceEq, Bool.true_and, *])))
  have k1' := eq_false k1
  have k2' := eq_false k2
  have k3' := eq_false k3
  have k4' := eq_false k4
  have k5' := eq_false k5
  have k6' := eq_false k6
  have k7' := eq_false k7
  have k8' := eq_false k8
  clear k1 k2 k3 k4 k5 k6 k7 k8
  try simp -dsimp (maxSteps := 1000000) only [go_sem, List.forall_mem_nil, ↓reduceIte, Nat.reduceEqDiff, Nat.reduceLT, Nat.reduceLeDiff, Nat.reduceAdd, Nat.reduceMul, reduceCtorEq, Try.f60, k1', k2', k3', k4', k5', k6', k7', k8', isModuleF]
  repeat' (first
    | ((with_reducible refine sl_i ?_ ?_); focus kernel_rfl)
    | ((with_reducible refine ro_i ?_ ?_); focus kernel_rfl)
    | ((with_reducible refine sl_e ?_); kernel_rfl)
    | ((with_reducible refine ro_e ?_); kernel_rfl)
    | ((first | (with_reducible refine gS_d ?_ ?_) | (with_reducible refine gS_dn ?_ ?_) | (with_reducible refine gS_i ?_ ?_)) <;> intro hg <;> (try simp -dsimp (maxSteps := 1000000) only [go_sem, List.forall_mem_nil, ↓reduceIte, Nat.reduceEqDiff, Nat.reduceLT, Nat.reduceLeDiff, Nat.reduceAdd, Nat.reduceMul, reduceCtorEq, Try.f60, k1', k2', k3', k4', k5', k6', k7', k8', isModuleF, *])))

/-- A module's cells in memory of one's own. -/
def modT (m : Mod) : List T := [.im (.int .i64 m.kind), .im (.cpx .f32 m.turn.1 m.turn.2), .im (.cpx .f32 m.state.1 m.state.2), .im (.flt .f32 m.level), .own 1 (tI (rowsZ m.store)), .im (.int .i64 m.rat), .im (.int .i64 m.rcnt), .own 1 (tI (rowsZ m.pts)), .own 1 (tI (rowsN m.lab)), .im (.int .i64 m.count), .im (.int .i64 m.left)]
def rMod (m : Mod) : Res := { val := .agg [.im (.int .i64 m.kind), .im (.cpx .f32 m.turn.1 m.turn.2), .im (.cpx .f32 m.state.1 m.state.2), .im (.flt .f32 m.level), .view 0 1 0 m.store.length, .im (.int .i64 m.rat), .im (.int .i64 m.rcnt), .view 1 1 0 m.pts.length, .view 2 1 0 m.lab.length, .im (.int .i64 m.count), .im (.int .i64 m.left)], roots := [.arr 1 (tI (rowsZ m.store)), .arr 1 (tI (rowsZ m.pts)), .arr 1 (tI (rowsN m.lab))] }
theorem okR_mod {sc : Bool} {m : Mod} : OkR sc (rMod m) := by
  refine ⟨.agg _ (fun x hx => ?_), fun r hr => ?_, by simp [rMod]⟩
  · simp only [rMod, List.mem_cons, List.not_mem_nil, or_false] at hx
    rcases hx with rfl | rfl | rfl | rfl | rfl | rfl | rfl | rfl | rfl | rfl | rfl <;> first | exact okC_sc rfl | exact .view _ _ _ _ (by simp [rMod])
  · simp only [rMod, List.mem_cons, List.not_mem_nil, or_false] at hr
    rcases hr with rfl | rfl | rfl <;> first | exact mvR_tI (sc_rowsZ _) | exact mvR_tI (sc_rowsN _)
noncomputable def ct_copyModule : Ct := fam true (fun x : MdA => ([.agg (modC x.1)], [])) (fun x => .one (rMod x.1))
theorem run_copyModule {k : Int} {t1 t2 s1 s2 lv : Nat} {st : List Pt} {ra rc : Int} {pts : List Pt} {lab : List Int} {c l : Int} (hst : st.length ≤ sm) (hp : pts.length ≤ sm) (hl : lab.length ≤ sm) :
    ct_copyModule.run [.agg [.im (.int .i64 k), .im (.cpx .f32 t1 t2), .im (.cpx .f32 s1 s2), .im (.flt .f32 lv), .im (.sl 1 (rowsZ st)), .im (.int .i64 ra), .im (.int .i64 rc), .im (.sl 1 (rowsZ pts)), .im (.sl 1 (rowsN lab)), .im (.int .i64 c), .im (.int .i64 l)]] [] =
      some (.one (rMod ⟨k, (t1, t2), (s1, s2), lv, st, ra, rc, pts, lab, c, l⟩)) := by
  refine fam_run' (args := fun x : MdA => ([D.agg (modC x.1)], [])) ?_ ⟨⟨k, (t1, t2), (s1, s2), lv, st, ra, rc, pts, lab, c, l⟩, ⟨hst, hp, hl⟩⟩
  rintro ⟨a, _⟩ ⟨b, _⟩ h
  simp at h ⊢
  exact modC_inj h
set_option maxRecDepth 100000 in
set_option maxHeartbeats 8000000 in
theorem law_copyModule : Law Try.prog 61 ct_copyModule := by
  refine fam_law (Env_cons law_copyRing (Env_cons law_copyTable Env_nil)) hmixA Try.func61 rfl rfl (fun ⟨⟨k, ⟨t1, t2⟩, ⟨s1, s2⟩, lv, st, ra, rc, pts, lab, c, l⟩, ⟨q1, q2, q3⟩⟩ => ⟨okO okR_mod, by simp [Try.f61], ?_⟩)
  simp only at q1 q2 q3
  simp only [modC, rMod]
  try simp -dsimp (maxSteps := 1000000) only [go_sem, List.forall_mem_nil, ↓reduceIte, Nat.reduceEqDiff, Nat.reduceLT, Nat.reduceLeDiff, Nat.reduceAdd, Nat.reduceMul, reduceCtorEq, Try.f61, run_copyRing q1, run_copyTable q2 q3, rTb]
  repeat' (first
    | ((with_reducible refine sl_i ?_ ?_); focus kernel_rfl)
    | ((with_reducible refine ro_i ?_ ?_); focus kernel_rfl)
    | ((with_reducible refine sl_e ?_); kernel_rfl)
    | ((with_reducible refine ro_e ?_); kernel_rfl)
    | ((first | (with_reducible refine gS_d ?_ ?_) | (with_reducible refine gS_dn ?_ ?_) | (with_reducible refine gS_i ?_ ?_)) <;> intro hg <;> (try simp -dsimp (maxSteps := 1000000) only [go_sem, List.forall_mem_nil, ↓reduceIte, Nat.reduceEqDiff, Nat.reduceLT, Nat.reduceLeDiff, Nat.reduceAdd, Nat.reduceMul, reduceCtorEq, Try.f61, run_copyRing q1, run_copyTable q2 q3, rTb, *])))
  refine ⟨[_, _, _], ?_, ?_, ?_, rfl, rfl, rfl⟩ <;> simp [rtOk]
end Go.SX
