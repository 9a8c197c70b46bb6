/-
  isBare.
  No condition.
-/
import Derived.Test.YtbhnlplbfhomcaaRkG
set_option linter.unusedVariables false
set_option linter.unusedSimpArgs false
namespace Go.SX
open Go Go.Proofs

def bareF (m : Mod) : Bool := nzP m.turn && (nzP m.state && (nz m.level && (decide ((m.store.length : Int) = 0) && (decide (m.rat = 0) && (decide (m.rcnt = 0) && (decide ((m.pts.length : Int) = 0) && (decide ((m.lab.length : Int) = 0) && (decide (m.count = 0) && decide (m.left = 0)))))))))
/-- A module's cells; v = 1: the ring's store is nil, v = 2: the table's slices are. -/
def modV (v : Nat) (m : Mod) : List C := [.im (.int .i64 m.kind), .im (.cpx .f32 m.turn.1 m.turn.2), .im (.cpx .f32 m.state.1 m.state.2), .im (.flt .f32 m.level), (if v = 1 then .nil else .im (.sl 1 (rowsZ m.store))), .im (.int .i64 m.rat), .im (.int .i64 m.rcnt),
  (if v = 2 then .nil else .im (.sl 1 (rowsZ m.pts))), (if v = 2 then .nil else .im (.sl 1 (rowsN m.lab))), .im (.int .i64 m.count), .im (.int .i64 m.left)]
abbrev MdV := { x : Mod × Nat // OkM x.1 ∧ (x.2 = 0 ∨ (x.2 = 1 ∧ x.1.store = []) ∨ (x.2 = 2 ∧ x.1.pts = [] ∧ x.1.lab = [])) }
noncomputable def ct_isBare : Ct := fam true (fun x : MdV => ([.agg (modV x.1.2 x.1.1)], [])) (fun x => .one { val := .c (.im (.bool (bareF x.1.1))) })
theorem isBare_inj : ∀ a b : MdV, ([D.agg (modV a.1.2 a.1.1)], ([] : List (List B))) = ([D.agg (modV b.1.2 b.1.1)], []) → Outs.one { val := .c (.im (.bool (bareF a.1.1))) } = Outs.one { val := .c (.im (.bool (bareF b.1.1))) } := by
  rintro ⟨⟨⟨k, ⟨t1, t2⟩, ⟨s1, s2⟩, l, st, r1, r2, p, la, c, le⟩, v⟩, _, hv⟩ ⟨⟨⟨k', ⟨t1', t2'⟩, ⟨s1', s2'⟩, l', st', r1', r2', p', la', c', le'⟩, v'⟩, _, hv'⟩ h
  simp only [Prod.mk.injEq, List.cons.injEq, D.agg.injEq, modV, C.im.injEq, I.cpx.injEq, I.flt.injEq, I.int.injEq, true_and, and_true] at h
  obtain ⟨rfl, ⟨rfl, rfl⟩, ⟨rfl, rfl⟩, rfl, h1, rfl, rfl, h2, h3, rfl, rfl⟩ := h
  have e1 : st = st' ∧ p = p' ∧ la = la' := by
    simp only at hv hv'
    rcases hv with rfl | ⟨rfl, rfl⟩ | ⟨rfl, rfl, rfl⟩ <;> rcases hv' with rfl | ⟨rfl, rfl⟩ | ⟨rfl, rfl, rfl⟩ <;> simp_all [rowsZ_eq, rowsN_eq]
  obtain ⟨rfl, rfl, rfl⟩ := e1
  rfl
theorem run_isBare {k : Int} {t1 t2 s1 s2 lv : Nat} {ra rc c l : Int} {st : List Pt} {pts : List Pt} {lab : List Int} (hst : st.length ≤ sm) (hp : pts.length ≤ sm) (hl : lab.length ≤ sm) :
    ct_isBare.run [.agg [.im (.int .i64 k), .im (.cpx .f32 t1 t2), .im (.cpx .f32 s1 s2), .im (.flt .f32 lv), .im (.sl 1 (rowsZ st)), .im (.int .i64 ra), .im (.int .i64 rc), .im (.sl 1 (rowsZ pts)), .im (.sl 1 (rowsN lab)), .im (.int .i64 c), .im (.int .i64 l)]] [] =
      some (.one { val := .c (.im (.bool (bareF ⟨k, (t1, t2), (s1, s2), lv, st, ra, rc, pts, lab, c, l⟩))) }) :=
  fam_run (args := fun x : MdV => ([D.agg (modV x.1.2 x.1.1)], [])) isBare_inj ⟨(⟨k, (t1, t2), (s1, s2), lv, st, ra, rc, pts, lab, c, l⟩, 0), ⟨hst, hp, hl⟩, .inl rfl⟩
theorem run_isBare1 {k : Int} {t1 t2 s1 s2 lv : Nat} {ra rc c l : Int} {pts : List Pt} {lab : List Int} (hp : pts.length ≤ sm) (hl : lab.length ≤ sm) :
    ct_isBare.run [.agg [.im (.int .i64 k), .im (.cpx .f32 t1 t2), .im (.cpx .f32 s1 s2), .im (.flt .f32 lv), .nil, .im (.int .i64 ra), .im (.int .i64 rc), .im (.sl 1 (rowsZ pts)), .im (.sl 1 (rowsN lab)), .im (.int .i64 c), .im (.int .i64 l)]] [] =
      some (.one { val := .c (.im (.bool (bareF ⟨k, (t1, t2), (s1, s2), lv, [], ra, rc, pts, lab, c, l⟩))) }) :=
  fam_run (args := fun x : MdV => ([D.agg (modV x.1.2 x.1.1)], [])) isBare_inj ⟨(⟨k, (t1, t2), (s1, s2), lv, [], ra, rc, pts, lab, c, l⟩, 1), ⟨(by simp [sm]), hp, hl⟩, .inr (.inl ⟨rfl, rfl⟩)⟩
theorem run_isBare2 {k : Int} {t1 t2 s1 s2 lv : Nat} {ra rc c l : Int} {st : List Pt} (hst : st.length ≤ sm) :
    ct_isBare.run [.agg [.im (.int .i64 k), .im (.cpx .f32 t1 t2), .im (.cpx .f32 s1 s2), .im (.flt .f32 lv), .im (.sl 1 (rowsZ st)), .im (.int .i64 ra), .im (.int .i64 rc), .nil, .nil, .im (.int .i64 c), .im (.int .i64 l)]] [] =
      some (.one { val := .c (.im (.bool (bareF ⟨k, (t1, t2), (s1, s2), lv, st, ra, rc, [], [], c, l⟩))) }) :=
  fam_run (args := fun x : MdV => ([D.agg (modV x.1.2 x.1.1)], [])) isBare_inj ⟨(⟨k, (t1, t2), (s1, s2), lv, st, ra, rc, [], [], c, l⟩, 2), ⟨hst, (by simp [sm]), (by simp [sm])⟩, .inr (.inr ⟨rfl, rfl, rfl⟩)⟩
set_option maxRecDepth 100000 in
set_option maxHeartbeats 8000000 in
theorem law_isBare : Law Try.prog 82 ct_isBare := by
  refine fam_law (Env_cons law_isNoughts (Env_cons law_isNought Env_nil)) hmixA Try.func82 rfl rfl (fun ⟨⟨⟨k, ⟨t1, t2⟩, ⟨s1, s2⟩, lv, st, ra, rc, pts, lab, c, l⟩, v⟩, hm, hv⟩ => ⟨okO_im rfl, by simp [Try.f82], ?_⟩)

  simp only at hv
  rcases hv with rfl | ⟨rfl, rfl⟩ | ⟨rfl, rfl, rfl⟩
  · simp only [modV, Nat.reduceEqDiff, if_true, if_false, ↓reduceIte, (eq_false (by decide) : ((0 : Nat) = 1) = False), (eq_false (by decide) : ((0 : Nat) = 2) = False), (eq_false (by decide) : ((1 : Nat) = 2) = False), (eq_false (by decide) : ((2 : Nat) = 1) = False)]
    cases h1 : nzP (t1, t2) with
    | false =>
      try simp -dsimp (maxSteps := 1000000) only [go_sem, List.forall_mem_nil, ↓reduceIte, Nat.reduceEqDiff, Nat.reduceLT, Nat.reduceLeDiff, Nat.reduceAdd, Nat.reduceMul, reduceCtorEq, Try.f82, run_isNoughts, h1, rowsZ_len, rowsN_len]
      repeat' (first
        | ((with_reducible refine sl_i ?_ ?_); focus kernel_rfl)
        | ((with_reducible refine ro_i ?_ ?_); focus kernel_rfl)
        | ((with_reducible refine sl_e ?_); kernel_rfl)
        | ((with_reducible refine ro_e ?_); kernel_rfl)
        | ((first | (with_reducible refine gS_d ?_ ?_) | (with_reducible refine gS_dn ?_ ?_) | (with_reducible refine gS_i ?_ ?_)) <;> intro hg <;> (try simp -dsimp (maxSteps := 1000000) only [go_sem, List.forall_mem_nil, ↓reduceIte, Nat.reduceEqDiff, Nat.reduceLT, Nat.reduceLeDiff, Nat.reduceAdd, Nat.reduceMul, reduceCtorEq, Try.f82, run_isNoughts, h1, rowsZ_len, rowsN_len, *])))
      simp [bareF, h1]
    | true =>
      cases h2 : nzP (s1, s2) with
      | false =>
        try simp -dsimp (maxSteps := 1000000) only [go_sem, List.forall_mem_nil, ↓reduceIte, Nat.reduceEqDiff, Nat.reduceLT, Nat.reduceLeDiff, Nat.reduceAdd, Nat.reduceMul, reduceCtorEq, Try.f82, run_isNoughts, h1, h2, rowsZ_len, rowsN_len]
        repeat' (first
          | ((with_reducible refine sl_i ?_ ?_); focus kernel_rfl)
          | ((with_reducible refine ro_i ?_ ?_); focus kernel_rfl)
          | ((with_reducible refine sl_e ?_); kernel_rfl)
          | ((with_reducible refine ro_e ?_); kernel_rfl)
          | ((first | (with_reducible refine gS_d ?_ ?_) | (with_reducible refine gS_dn ?_ ?_) | (with_reducible refine gS_i ?_ ?_)) <;> intro hg <;> (try simp -dsimp (maxSteps := 1000000) only [go_sem, List.forall_mem_nil, ↓reduceIte, Nat.reduceEqDiff, Nat.reduceLT, Nat.reduceLeDiff, Nat.reduceAdd, Nat.reduceMul, reduceCtorEq, Try.f82, run_isNoughts, h1, h2, rowsZ_len, rowsN_len, *])))
        simp [bareF, h1, h2]
      | true =>
        by_cases p1 : (lv : Int) = 0
        rotate_left
        · have e1 := eq_false p1
          clear p1
          try simp -dsimp (maxSteps := 1000000) only [go_sem, List.forall_mem_nil, ↓reduceIte, Nat.reduceEqDiff, Nat.reduceLT, Nat.reduceLeDiff, Nat.reduceAdd, Nat.reduceMul, reduceCtorEq, Try.f82, run_isNoughts, run_isNought, h1, h2, rowsZ_len, rowsN_len, e1]
          repeat' (first
            | ((with_reducible refine sl_i ?_ ?_); focus kernel_rfl)
            | ((with_reducible refine ro_i ?_ ?_); focus kernel_rfl)
            | ((with_reducible refine sl_e ?_); kernel_rfl)
            | ((with_reducible refine ro_e ?_); kernel_rfl)
            | ((first | (with_reducible refine gS_d ?_ ?_) | (with_reducible refine gS_dn ?_ ?_) | (with_reducible refine gS_i ?_ ?_)) <;> intro hg <;> (try simp -dsimp (maxSteps := 1000000) only [go_sem, List.forall_mem_nil, ↓reduceIte, Nat.reduceEqDiff, Nat.reduceLT, Nat.reduceLeDiff, Nat.reduceAdd, Nat.reduceMul, reduceCtorEq, Try.f82, run_isNoughts, run_isNought, h1, h2, rowsZ_len, rowsN_len, e1, *])))
          all_goals (simp only [bareF, nz, h1, h2, *, decide_false, decide_true, Bool.false_and, Bool.true_and, Bool.and_false, List.length_nil, Int.ofNat_zero, Int.natCast_zero])
        have e1 := eq_true p1
        by_cases p2 : (st.length : Int) = 0
        rotate_left
        · have e2 := eq_false p2
          clear p2
          try simp -dsimp (maxSteps := 1000000) only [go_sem, List.forall_mem_nil, ↓reduceIte, Nat.reduceEqDiff, Nat.reduceLT, Nat.reduceLeDiff, Nat.reduceAdd, Nat.reduceMul, reduceCtorEq, Try.f82, run_isNoughts, run_isNought, h1, h2, rowsZ_len, rowsN_len, e1, e2]
          repeat' (first
            | ((with_reducible refine sl_i ?_ ?_); focus kernel_rfl)
            | ((with_reducible refine ro_i ?_ ?_); focus kernel_rfl)
            | ((with_reducible refine sl_e ?_); kernel_rfl)
            | ((with_reducible refine ro_e ?_); kernel_rfl)
            | ((first | (with_reducible refine gS_d ?_ ?_) | (with_reducible refine gS_dn ?_ ?_) | (with_reducible refine gS_i ?_ ?_)) <;> intro hg <;> (try simp -dsimp (maxSteps := 1000000) only [go_sem, List.forall_mem_nil, ↓reduceIte, Nat.reduceEqDiff, Nat.reduceLT, Nat.reduceLeDiff, Nat.reduceAdd, Nat.reduceMul, reduceCtorEq, Try.f82, run_isNoughts, run_isNought, h1, h2, rowsZ_len, rowsN_len, e1, e2, *])))
          all_goals (simp only [bareF, nz, h1, h2, *, decide_false, decide_true, Bool.false_and, Bool.true_and, Bool.and_false, List.length_nil, Int.ofNat_zero, Int.natCast_zero])
        have e2 := eq_true p2
        by_cases p3 : ra = 0
        rotate_left
        · have e3 := eq_false p3
          clear p3
          try simp -dsimp (maxSteps := 1000000) only [go_sem, List.forall_mem_nil, ↓reduceIte, Nat.reduceEqDiff, Nat.reduceLT, Nat.reduceLeDiff, Nat.reduceAdd, Nat.reduceMul, reduceCtorEq, Try.f82, run_isNoughts, run_isNought, h1, h2, rowsZ_len, rowsN_len, e1, e2, e3]
          repeat' (first
            | ((with_reducible refine sl_i ?_ ?_); focus kernel_rfl)
            | ((with_reducible refine ro_i ?_ ?_); focus kernel_rfl)
            | ((with_reducible refine sl_e ?_); kernel_rfl)
            | ((with_reducible refine ro_e ?_); kernel_rfl)
            | ((first | (with_reducible refine gS_d ?_ ?_) | (with_reducible refine gS_dn ?_ ?_) | (with_reducible refine gS_i ?_ ?_)) <;> intro hg <;> (try simp -dsimp (maxSteps := 1000000) only [go_sem, List.forall_mem_nil, ↓reduceIte, Nat.reduceEqDiff, Nat.reduceLT, Nat.reduceLeDiff, Nat.reduceAdd, Nat.reduceMul, reduceCtorEq, Try.f82, run_isNoughts, run_isNought, h1, h2, rowsZ_len, rowsN_len, e1, e2, e3, *])))
          all_goals (simp only [bareF, nz, h1, h2, *, decide_false, decide_true, Bool.false_and, Bool.true_and, Bool.and_false, List.length_nil, Int.ofNat_zero, Int.natCast_zero])
        have e3 := eq_true p3
        by_cases p4 : rc = 0
        rotate_left
        · have e4 := eq_false p4
          clear p4
          try simp -dsimp (maxSteps := 1000000) only [go_sem, List.forall_mem_nil, ↓reduceIte, Nat.reduceEqDiff, Nat.reduceLT, Nat.reduceLeDiff, Nat.reduceAdd, Nat.reduceMul, reduceCtorEq, Try.f82, run_isNoughts, run_isNought, h1, h2, rowsZ_len, rowsN_len, e1, e2, e3, e4]
          repeat' (first
            | ((with_reducible refine sl_i ?_ ?_); focus kernel_rfl)
            | ((with_reducible refine ro_i ?_ ?_); focus kernel_rfl)
            | ((with_reducible refine sl_e ?_); kernel_rfl)
            | ((with_reducible refine ro_e ?_); kernel_rfl)
            | ((first | (with_reducible refine gS_d ?_ ?_) | (with_reducible refine gS_dn ?_ ?_) | (with_reducible refine gS_i ?_ ?_)) <;> intro hg <;> (try simp -dsimp (maxSteps := 1000000) only [go_sem, List.forall_mem_nil, ↓reduceIte, Nat.reduceEqDiff, Nat.reduceLT, Nat.reduceLeDiff, Nat.reduceAdd, Nat.reduceMul, reduceCtorEq, Try.f82, run_isNoughts, run_isNought, h1, h2, rowsZ_len, rowsN_len, e1, e2, e3, e4, *])))
          all_goals (simp only [bareF, nz, h1, h2, *, decide_false, decide_true, Bool.false_and, Bool.true_and, Bool.and_false, List.length_nil, Int.ofNat_zero, Int.natCast_zero])
        have e4 := eq_true p4
        by_cases p5 : (pts.length : Int) = 0
        rotate_left
        · have e5 := eq_false p5
          clear p5
          try simp -dsimp (maxSteps := 1000000) only [go_sem, List.forall_mem_nil, ↓reduceIte, Nat.reduceEqDiff, Nat.reduceLT, Nat.reduceLeDiff, Nat.reduceAdd, Nat.reduceMul, reduceCtorEq, Try.f82, run_isNoughts, run_isNought, h1, h2, rowsZ_len, rowsN_len, e1, e2, e3, e4, e5]
          repeat' (first
            | ((with_reducible refine sl_i ?_ ?_); focus kernel_rfl)
            | ((with_reducible refine ro_i ?_ ?_); focus kernel_rfl)
            | ((with_reducible refine sl_e ?_); kernel_rfl)
            | ((with_reducible refine ro_e ?_); kernel_rfl)
            | ((first | (with_reducible refine gS_d ?_ ?_) | (with_reducible refine gS_dn ?_ ?_) | (with_reducible refine gS_i ?_ ?_)) <;> intro hg <;> (try simp -dsimp (maxSteps := 1000000) only [go_sem, List.forall_mem_nil, ↓reduceIte, Nat.reduceEqDiff, Nat.reduceLT, Nat.reduceLeDiff, Nat.reduceAdd, Nat.reduceMul, reduceCtorEq, Try.f82, run_isNoughts, run_isNought, h1, h2, rowsZ_len, rowsN_len, e1, e2, e3, e4, e5, *])))
          all_goals (simp only [bareF, nz, h1, h2, *, decide_false, decide_true, Bool.false_and, Bool.true_and, Bool.and_false, List.length_nil, Int.ofNat_zero, Int.natCast_zero])
        have e5 := eq_true p5
        by_cases p6 : (lab.length : Int) = 0
        rotate_left
        · have e6 := eq_false p6
          clear p6
          try simp -dsimp (maxSteps := 1000000) only [go_sem, List.forall_mem_nil, ↓reduceIte, Nat.reduceEqDiff, Nat.reduceLT, Nat.reduceLeDiff, Nat.reduceAdd, Nat.reduceMul, reduceCtorEq, Try.f82, run_isNoughts, run_isNought, h1, h2, rowsZ_len, rowsN_len, e1, e2, e3, e4, e5, e6]
          repeat' (first
            | ((with_reducible refine sl_i ?_ ?_); focus kernel_rfl)
            | ((with_reducible refine ro_i ?_ ?_); focus kernel_rfl)
            | ((with_reducible refine sl_e ?_); kernel_rfl)
            | ((with_reducible refine ro_e ?_); kernel_rfl)
            | ((first | (with_reducible refine gS_d ?_ ?_) | (with_reducible refine gS_dn ?_ ?_) | (with_reducible refine gS_i ?_ ?_)) <;> intro hg <;> (try simp -dsimp (maxSteps := 1000000) only [go_sem, List.forall_mem_nil, ↓reduceIte, Nat.reduceEqDiff, Nat.reduceLT, Nat.reduceLeDiff, Nat.reduceAdd, Nat.reduceMul, reduceCtorEq, Try.f82, run_isNoughts, run_isNought, h1, h2, rowsZ_len, rowsN_len, e1, e2, e3, e4, e5, e6, *])))
          all_goals (simp only [bareF, nz, h1, h2, *, decide_false, decide_true, Bool.false_and, Bool.true_and, Bool.and_false, List.length_nil, Int.ofNat_zero, Int.natCast_zero])
        have e6 := eq_true p6
        by_cases p7 : c = 0
        rotate_left
        · have e7 := eq_false p7
          clear p7
          try simp -dsimp (maxSteps := 1000000) only [go_sem, List.forall_mem_nil, ↓reduceIte, Nat.reduceEqDiff, Nat.reduceLT, Nat.reduceLeDiff, Nat.reduceAdd, Nat.reduceMul, reduceCtorEq, Try.f82, run_isNoughts, run_isNought, h1, h2, rowsZ_len, rowsN_len, e1, e2, e3, e4, e5, e6, e7]
          repeat' (first
            | ((with_reducible refine sl_i ?_ ?_); focus kernel_rfl)
            | ((with_reducible refine ro_i ?_ ?_); focus kernel_rfl)
            | ((with_reducible refine sl_e ?_); kernel_rfl)
            | ((with_reducible refine ro_e ?_); kernel_rfl)
            | ((first | (with_reducible refine gS_d ?_ ?_) | (with_reducible refine gS_dn ?_ ?_) | (with_reducible refine gS_i ?_ ?_)) <;> intro hg <;> (try simp -dsimp (maxSteps := 1000000) only [go_sem, List.forall_mem_nil, ↓reduceIte, Nat.reduceEqDiff, Nat.reduceLT, Nat.reduceLeDiff, Nat.reduceAdd, Nat.reduceMul, reduceCtorEq, Try.f82, run_isNoughts, run_isNought, h1, h2, rowsZ_len, rowsN_len, e1, e2, e3, e4, e5, e6, e7, *])))
          all_goals (simp only [bareF, nz, h1, h2, *, decide_false, decide_true, Bool.false_and, Bool.true_and, Bool.and_false, List.length_nil, Int.ofNat_zero, Int.natCast_zero])
        have e7 := eq_true p7
        by_cases p8 : l = 0
        rotate_left
        · have e8 := eq_false p8
          clear p8
          try simp -dsimp (maxSteps := 1000000) only [go_sem, List.forall_mem_nil, ↓reduceIte, Nat.reduceEqDiff, Nat.reduceLT, Nat.reduceLeDiff, Nat.reduceAdd, Nat.reduceMul, reduceCtorEq, Try.f82, run_isNoughts, run_isNought, h1, h2, rowsZ_len, rowsN_len, e1, e2, e3, e4, e5, e6, e7, e8]
          repeat' (first
            | ((with_reducible refine sl_i ?_ ?_); focus kernel_rfl)
            | ((with_reducible refine ro_i ?_ ?_); focus kernel_rfl)
            | ((with_reducible refine sl_e ?_); kernel_rfl)
            | ((with_reducible refine ro_e ?_); kernel_rfl)
            | ((first | (with_reducible refine gS_d ?_ ?_) | (with_reducible refine gS_dn ?_ ?_) | (with_reducible refine gS_i ?_ ?_)) <;> intro hg <;> (try simp -dsimp (maxSteps := 1000000) only [go_sem, List.forall_mem_nil, ↓reduceIte, Nat.reduceEqDiff, Nat.reduceLT, Nat.reduceLeDiff, Nat.reduceAdd, Nat.reduceMul, reduceCtorEq, Try.f82, run_isNoughts, run_isNought, h1, h2, rowsZ_len, rowsN_len, e1, e2, e3, e4, e5, e6, e7, e8, *])))
          all_goals (simp only [bareF, nz, h1, h2, *, decide_false, decide_true, Bool.false_and, Bool.true_and, Bool.and_false, List.length_nil, Int.ofNat_zero, Int.natCast_zero])
        have e8 := eq_true p8
        clear p1 p2 p3 p4 p5 p6 p7 p8
        try simp -dsimp (maxSteps := 1000000) only [go_sem, List.forall_mem_nil, ↓reduceIte, Nat.reduceEqDiff, Nat.reduceLT, Nat.reduceLeDiff, Nat.reduceAdd, Nat.reduceMul, reduceCtorEq, Try.f82, run_isNoughts, run_isNought, h1, h2, rowsZ_len, rowsN_len, e1, e2, e3, e4, e5, e6, e7, e8]
        repeat' (first
          | ((with_reducible refine sl_i ?_ ?_); focus kernel_rfl)
          | ((with_reducible refine ro_i ?_ ?_); focus kernel_rfl)
          | ((with_reducible refine sl_e ?_); kernel_rfl)
          | ((with_reducible refine ro_e ?_); kernel_rfl)
          | ((first | (with_reducible refine gS_d ?_ ?_) | (with_reducible refine gS_dn ?_ ?_) | (with_reducible refine gS_i ?_ ?_)) <;> intro hg <;> (try simp -dsimp (maxSteps := 1000000) only [go_sem, List.forall_mem_nil, ↓reduceIte, Nat.reduceEqDiff, Nat.reduceLT, Nat.reduceLeDiff, Nat.reduceAdd, Nat.reduceMul, reduceCtorEq, Try.f82, run_isNoughts, run_isNought, h1, h2, rowsZ_len, rowsN_len, e1, e2, e3, e4, e5, e6, e7, e8, *])))
        simp only [bareF, nz, h1, h2, *, decide_false, decide_true, Bool.false_and, Bool.true_and, Bool.and_false, List.length_nil, Int.ofNat_zero, Int.natCast_zero]
  · simp only [modV, Nat.reduceEqDiff, if_true, if_false, ↓reduceIte, (eq_false (by decide) : ((0 : Nat) = 1) = False), (eq_false (by decide) : ((0 : Nat) = 2) = False), (eq_false (by decide) : ((1 : Nat) = 2) = False), (eq_false (by decide) : ((2 : Nat) = 1) = False)]
    cases h1 : nzP (t1, t2) with
    | false =>
      try simp -dsimp (maxSteps := 1000000) only [go_sem, List.forall_mem_nil, ↓reduceIte, Nat.reduceEqDiff, Nat.reduceLT, Nat.reduceLeDiff, Nat.reduceAdd, Nat.reduceMul, reduceCtorEq, Try.f82, run_isNoughts, h1, rowsZ_len, rowsN_len]
      repeat' (first
        | ((with_reducible refine sl_i ?_ ?_); focus kernel_rfl)
        | ((with_reducible refine ro_i ?_ ?_); focus kernel_rfl)
        | ((with_reducible refine sl_e ?_); kernel_rfl)
        | ((with_reducible refine ro_e ?_); kernel_rfl)
        | ((first | (with_reducible refine gS_d ?_ ?_) | (with_reducible refine gS_dn ?_ ?_) | (with_reducible refine gS_i ?_ ?_)) <;> intro hg <;> (try simp -dsimp (maxSteps := 1000000) only [go_sem, List.forall_mem_nil, ↓reduceIte, Nat.reduceEqDiff, Nat.reduceLT, Nat.reduceLeDiff, Nat.reduceAdd, Nat.reduceMul, reduceCtorEq, Try.f82, run_isNoughts, h1, rowsZ_len, rowsN_len, *])))
      simp [bareF, h1]
    | true =>
      cases h2 : nzP (s1, s2) with
      | false =>
        try simp -dsimp (maxSteps := 1000000) only [go_sem, List.forall_mem_nil, ↓reduceIte, Nat.reduceEqDiff, Nat.reduceLT, Nat.reduceLeDiff, Nat.reduceAdd, Nat.reduceMul, reduceCtorEq, Try.f82, run_isNoughts, h1, h2, rowsZ_len, rowsN_len]
        repeat' (first
          | ((with_reducible refine sl_i ?_ ?_); focus kernel_rfl)
          | ((with_reducible refine ro_i ?_ ?_); focus kernel_rfl)
          | ((with_reducible refine sl_e ?_); kernel_rfl)
          | ((with_reducible refine ro_e ?_); kernel_rfl)
          | ((first | (with_reducible refine gS_d ?_ ?_) | (with_reducible refine gS_dn ?_ ?_) | (with_reducible refine gS_i ?_ ?_)) <;> intro hg <;> (try simp -dsimp (maxSteps := 1000000) only [go_sem, List.forall_mem_nil, ↓reduceIte, Nat.reduceEqDiff, Nat.reduceLT, Nat.reduceLeDiff, Nat.reduceAdd, Nat.reduceMul, reduceCtorEq, Try.f82, run_isNoughts, h1, h2, rowsZ_len, rowsN_len, *])))
        simp [bareF, h1, h2]
      | true =>
        by_cases p1 : (lv : Int) = 0
        rotate_left
        · have e1 := eq_false p1
          clear p1
          try simp -dsimp (maxSteps := 1000000) only [go_sem, List.forall_mem_nil, ↓reduceIte, Nat.reduceEqDiff, Nat.reduceLT, Nat.reduceLeDiff, Nat.reduceAdd, Nat.reduceMul, reduceCtorEq, Try.f82, run_isNoughts, run_isNought, h1, h2, rowsZ_len, rowsN_len, e1]
          repeat' (first
            | ((with_reducible refine sl_i ?_ ?_); focus kernel_rfl)
            | ((with_reducible refine ro_i ?_ ?_); focus kernel_rfl)
            | ((with_reducible refine sl_e ?_); kernel_rfl)
            | ((with_reducible refine ro_e ?_); kernel_rfl)
            | ((first | (with_reducible refine gS_d ?_ ?_) | (with_reducible refine gS_dn ?_ ?_) | (with_reducible refine gS_i ?_ ?_)) <;> intro hg <;> (try simp -dsimp (maxSteps := 1000000) only [go_sem, List.forall_mem_nil, ↓reduceIte, Nat.reduceEqDiff, Nat.reduceLT, Nat.reduceLeDiff, Nat.reduceAdd, Nat.reduceMul, reduceCtorEq, Try.f82, run_isNoughts, run_isNought, h1, h2, rowsZ_len, rowsN_len, e1, *])))
          all_goals (simp only [bareF, nz, h1, h2, *, decide_false, decide_true, Bool.false_and, Bool.true_and, Bool.and_false, List.length_nil, Int.ofNat_zero, Int.natCast_zero])
        have e1 := eq_true p1
        by_cases p2 : ra = 0
        rotate_left
        · have e2 := eq_false p2
          clear p2
          try simp -dsimp (maxSteps := 1000000) only [go_sem, List.forall_mem_nil, ↓reduceIte, Nat.reduceEqDiff, Nat.reduceLT, Nat.reduceLeDiff, Nat.reduceAdd, Nat.reduceMul, reduceCtorEq, Try.f82, run_isNoughts, run_isNought, h1, h2, rowsZ_len, rowsN_len, e1, e2]
          repeat' (first
            | ((with_reducible refine sl_i ?_ ?_); focus kernel_rfl)
            | ((with_reducible refine ro_i ?_ ?_); focus kernel_rfl)
            | ((with_reducible refine sl_e ?_); kernel_rfl)
            | ((with_reducible refine ro_e ?_); kernel_rfl)
            | ((first | (with_reducible refine gS_d ?_ ?_) | (with_reducible refine gS_dn ?_ ?_) | (with_reducible refine gS_i ?_ ?_)) <;> intro hg <;> (try simp -dsimp (maxSteps := 1000000) only [go_sem, List.forall_mem_nil, ↓reduceIte, Nat.reduceEqDiff, Nat.reduceLT, Nat.reduceLeDiff, Nat.reduceAdd, Nat.reduceMul, reduceCtorEq, Try.f82, run_isNoughts, run_isNought, h1, h2, rowsZ_len, rowsN_len, e1, e2, *])))
          all_goals (simp only [bareF, nz, h1, h2, *, decide_false, decide_true, Bool.false_and, Bool.true_and, Bool.and_false, List.length_nil, Int.ofNat_zero, Int.natCast_zero])
        have e2 := eq_true p2
        by_cases p3 : rc = 0
        rotate_left
        · have e3 := eq_false p3
          clear p3
          try simp -dsimp (maxSteps := 1000000) only [go_sem, List.forall_mem_nil, ↓reduceIte, Nat.reduceEqDiff, Nat.reduceLT, Nat.reduceLeDiff, Nat.reduceAdd, Nat.reduceMul, reduceCtorEq, Try.f82, run_isNoughts, run_isNought, h1, h2, rowsZ_len, rowsN_len, e1, e2, e3]
          repeat' (first
            | ((with_reducible refine sl_i ?_ ?_); focus kernel_rfl)
            | ((with_reducible refine ro_i ?_ ?_); focus kernel_rfl)
            | ((with_reducible refine sl_e ?_); kernel_rfl)
            | ((with_reducible refine ro_e ?_); kernel_rfl)
            | ((first | (with_reducible refine gS_d ?_ ?_) | (with_reducible refine gS_dn ?_ ?_) | (with_reducible refine gS_i ?_ ?_)) <;> intro hg <;> (try simp -dsimp (maxSteps := 1000000) only [go_sem, List.forall_mem_nil, ↓reduceIte, Nat.reduceEqDiff, Nat.reduceLT, Nat.reduceLeDiff, Nat.reduceAdd, Nat.reduceMul, reduceCtorEq, Try.f82, run_isNoughts, run_isNought, h1, h2, rowsZ_len, rowsN_len, e1, e2, e3, *])))
          all_goals (simp only [bareF, nz, h1, h2, *, decide_false, decide_true, Bool.false_and, Bool.true_and, Bool.and_false, List.length_nil, Int.ofNat_zero, Int.natCast_zero])
        have e3 := eq_true p3
        by_cases p4 : (pts.length : Int) = 0
        rotate_left
        · have e4 := eq_false p4
          clear p4
          try simp -dsimp (maxSteps := 1000000) only [go_sem, List.forall_mem_nil, ↓reduceIte, Nat.reduceEqDiff, Nat.reduceLT, Nat.reduceLeDiff, Nat.reduceAdd, Nat.reduceMul, reduceCtorEq, Try.f82, run_isNoughts, run_isNought, h1, h2, rowsZ_len, rowsN_len, e1, e2, e3, e4]
          repeat' (first
            | ((with_reducible refine sl_i ?_ ?_); focus kernel_rfl)
            | ((with_reducible refine ro_i ?_ ?_); focus kernel_rfl)
            | ((with_reducible refine sl_e ?_); kernel_rfl)
            | ((with_reducible refine ro_e ?_); kernel_rfl)
            | ((first | (with_reducible refine gS_d ?_ ?_) | (with_reducible refine gS_dn ?_ ?_) | (with_reducible refine gS_i ?_ ?_)) <;> intro hg <;> (try simp -dsimp (maxSteps := 1000000) only [go_sem, List.forall_mem_nil, ↓reduceIte, Nat.reduceEqDiff, Nat.reduceLT, Nat.reduceLeDiff, Nat.reduceAdd, Nat.reduceMul, reduceCtorEq, Try.f82, run_isNoughts, run_isNought, h1, h2, rowsZ_len, rowsN_len, e1, e2, e3, e4, *])))
          all_goals (simp only [bareF, nz, h1, h2, *, decide_false, decide_true, Bool.false_and, Bool.true_and, Bool.and_false, List.length_nil, Int.ofNat_zero, Int.natCast_zero])
        have e4 := eq_true p4
        by_cases p5 : (lab.length : Int) = 0
        rotate_left
        · have e5 := eq_false p5
          clear p5
          try simp -dsimp (maxSteps := 1000000) only [go_sem, List.forall_mem_nil, ↓reduceIte, Nat.reduceEqDiff, Nat.reduceLT, Nat.reduceLeDiff, Nat.reduceAdd, Nat.reduceMul, reduceCtorEq, Try.f82, run_isNoughts, run_isNought, h1, h2, rowsZ_len, rowsN_len, e1, e2, e3, e4, e5]
          repeat' (first
            | ((with_reducible refine sl_i ?_ ?_); focus kernel_rfl)
            | ((with_reducible refine ro_i ?_ ?_); focus kernel_rfl)
            | ((with_reducible refine sl_e ?_); kernel_rfl)
            | ((with_reducible refine ro_e ?_); kernel_rfl)
            | ((first | (with_reducible refine gS_d ?_ ?_) | (with_reducible refine gS_dn ?_ ?_) | (with_reducible refine gS_i ?_ ?_)) <;> intro hg <;> (try simp -dsimp (maxSteps := 1000000) only [go_sem, List.forall_mem_nil, ↓reduceIte, Nat.reduceEqDiff, Nat.reduceLT, Nat.reduceLeDiff, Nat.reduceAdd, Nat.reduceMul, reduceCtorEq, Try.f82, run_isNoughts, run_isNought, h1, h2, rowsZ_len, rowsN_len, e1, e2, e3, e4, e5, *])))
          all_goals (simp only [bareF, nz, h1, h2, *, decide_false, decide_true, Bool.false_and, Bool.true_and, Bool.and_false, List.length_nil, Int.ofNat_zero, Int.natCast_zero])
        have e5 := eq_true p5
        by_cases p6 : c = 0
        rotate_left
        · have e6 := eq_false p6
          clear p6
          try simp -dsimp (maxSteps := 1000000) only [go_sem, List.forall_mem_nil, ↓reduceIte, Nat.reduceEqDiff, Nat.reduceLT, Nat.reduceLeDiff, Nat.reduceAdd, Nat.reduceMul, reduceCtorEq, Try.f82, run_isNoughts, run_isNought, h1, h2, rowsZ_len, rowsN_len, e1, e2, e3, e4, e5, e6]
          repeat' (first
            | ((with_reducible refine sl_i ?_ ?_); focus kernel_rfl)
            | ((with_reducible refine ro_i ?_ ?_); focus kernel_rfl)
            | ((with_reducible refine sl_e ?_); kernel_rfl)
            | ((with_reducible refine ro_e ?_); kernel_rfl)
            | ((first | (with_reducible refine gS_d ?_ ?_) | (with_reducible refine gS_dn ?_ ?_) | (with_reducible refine gS_i ?_ ?_)) <;> intro hg <;> (try simp -dsimp (maxSteps := 1000000) only [go_sem, List.forall_mem_nil, ↓reduceIte, Nat.reduceEqDiff, Nat.reduceLT, Nat.reduceLeDiff, Nat.reduceAdd, Nat.reduceMul, reduceCtorEq, Try.f82, run_isNoughts, run_isNought, h1, h2, rowsZ_len, rowsN_len, e1, e2, e3, e4, e5, e6, *])))
          all_goals (simp only [bareF, nz, h1, h2, *, decide_false, decide_true, Bool.false_and, Bool.true_and, Bool.and_false, List.length_nil, Int.ofNat_zero, Int.natCast_zero])
        have e6 := eq_true p6
        by_cases p7 : l = 0
        rotate_left
        · have e7 := eq_false p7
          clear p7
          try simp -dsimp (maxSteps := 1000000) only [go_sem, List.forall_mem_nil, ↓reduceIte, Nat.reduceEqDiff, Nat.reduceLT, Nat.reduceLeDiff, Nat.reduceAdd, Nat.reduceMul, reduceCtorEq, Try.f82, run_isNoughts, run_isNought, h1, h2, rowsZ_len, rowsN_len, e1, e2, e3, e4, e5, e6, e7]
          repeat' (first
            | ((with_reducible refine sl_i ?_ ?_); focus kernel_rfl)
            | ((with_reducible refine ro_i ?_ ?_); focus kernel_rfl)
            | ((with_reducible refine sl_e ?_); kernel_rfl)
            | ((with_reducible refine ro_e ?_); kernel_rfl)
            | ((first | (with_reducible refine gS_d ?_ ?_) | (with_reducible refine gS_dn ?_ ?_) | (with_reducible refine gS_i ?_ ?_)) <;> intro hg <;> (try simp -dsimp (maxSteps := 1000000) only [go_sem, List.forall_mem_nil, ↓reduceIte, Nat.reduceEqDiff, Nat.reduceLT, Nat.reduceLeDiff, Nat.reduceAdd, Nat.reduceMul, reduceCtorEq, Try.f82, run_isNoughts, run_isNought, h1, h2, rowsZ_len, rowsN_len, e1, e2, e3, e4, e5, e6, e7, *])))
          all_goals (simp only [bareF, nz, h1, h2, *, decide_false, decide_true, Bool.false_and, Bool.true_and, Bool.and_false, List.length_nil, Int.ofNat_zero, Int.natCast_zero])
        have e7 := eq_true p7
        clear p1 p2 p3 p4 p5 p6 p7
        try simp -dsimp (maxSteps := 1000000) only [go_sem, List.forall_mem_nil, ↓reduceIte, Nat.reduceEqDiff, Nat.reduceLT, Nat.reduceLeDiff, Nat.reduceAdd, Nat.reduceMul, reduceCtorEq, Try.f82, run_isNoughts, run_isNought, h1, h2, rowsZ_len, rowsN_len, e1, e2, e3, e4, e5, e6, e7]
        repeat' (first
          | ((with_reducible refine sl_i ?_ ?_); focus kernel_rfl)
          | ((with_reducible refine ro_i ?_ ?_); focus kernel_rfl)
          | ((with_reducible refine sl_e ?_); kernel_rfl)
          | ((with_reducible refine ro_e ?_); kernel_rfl)
          | ((first | (with_reducible refine gS_d ?_ ?_) | (with_reducible refine gS_dn ?_ ?_) | (with_reducible refine gS_i ?_ ?_)) <;> intro hg <;> (try simp -dsimp (maxSteps := 1000000) only [go_sem, List.forall_mem_nil, ↓reduceIte, Nat.reduceEqDiff, Nat.reduceLT, Nat.reduceLeDiff, Nat.reduceAdd, Nat.reduceMul, reduceCtorEq, Try.f82, run_isNoughts, run_isNought, h1, h2, rowsZ_len, rowsN_len, e1, e2, e3, e4, e5, e6, e7, *])))
        simp only [bareF, nz, h1, h2, *, decide_false, decide_true, Bool.false_and, Bool.true_and, Bool.and_false, List.length_nil, Int.ofNat_zero, Int.natCast_zero]
  · simp only [modV, Nat.reduceEqDiff, if_true, if_false, ↓reduceIte, (eq_false (by decide) : ((0 : Nat) = 1) = False), (eq_false (by decide) : ((0 : Nat) = 2) = False), (eq_false (by decide) : ((1 : Nat) = 2) = False), (eq_false (by decide) : ((2 : Nat) = 1) = False)]
    cases h1 : nzP (t1, t2) with
    | false =>
      try simp -dsimp (maxSteps := 1000000) only [go_sem, List.forall_mem_nil, ↓reduceIte, Nat.reduceEqDiff, Nat.reduceLT, Nat.reduceLeDiff, Nat.reduceAdd, Nat.reduceMul, reduceCtorEq, Try.f82, run_isNoughts, h1, rowsZ_len, rowsN_len]
      repeat' (first
        | ((with_reducible refine sl_i ?_ ?_); focus kernel_rfl)
        | ((with_reducible refine ro_i ?_ ?_); focus kernel_rfl)
        | ((with_reducible refine sl_e ?_); kernel_rfl)
        | ((with_reducible refine ro_e ?_); kernel_rfl)
        | ((first | (with_reducible refine gS_d ?_ ?_) | (with_reducible refine gS_dn ?_ ?_) | (with_reducible refine gS_i ?_ ?_)) <;> intro hg <;> (try simp -dsimp (maxSteps := 1000000) only [go_sem, List.forall_mem_nil, ↓reduceIte, Nat.reduceEqDiff, Nat.reduceLT, Nat.reduceLeDiff, Nat.reduceAdd, Nat.reduceMul, reduceCtorEq, Try.f82, run_isNoughts, h1, rowsZ_len, rowsN_len, *])))
      simp [bareF, h1]
    | true =>
      cases h2 : nzP (s1, s2) with
      | false =>
        try simp -dsimp (maxSteps := 1000000) only [go_sem, List.forall_mem_nil, ↓reduceIte, Nat.reduceEqDiff, Nat.reduceLT, Nat.reduceLeDiff, Nat.reduceAdd, Nat.reduceMul, reduceCtorEq, Try.f82, run_isNoughts, h1, h2, rowsZ_len, rowsN_len]
        repeat' (first
          | ((with_reducible refine sl_i ?_ ?_); focus kernel_rfl)
          | ((with_reducible refine ro_i ?_ ?_); focus kernel_rfl)
          | ((with_reducible refine sl_e ?_); kernel_rfl)
          | ((with_reducible refine ro_e ?_); kernel_rfl)
          | ((first | (with_reducible refine gS_d ?_ ?_) | (with_reducible refine gS_dn ?_ ?_) | (with_reducible refine gS_i ?_ ?_)) <;> intro hg <;> (try simp -dsimp (maxSteps := 1000000) only [go_sem, List.forall_mem_nil, ↓reduceIte, Nat.reduceEqDiff, Nat.reduceLT, Nat.reduceLeDiff, Nat.reduceAdd, Nat.reduceMul, reduceCtorEq, Try.f82, run_isNoughts, h1, h2, rowsZ_len, rowsN_len, *])))
        simp [bareF, h1, h2]
      | true =>
        by_cases p1 : (lv : Int) = 0
        rotate_left
        · have e1 := eq_false p1
          clear p1
          try simp -dsimp (maxSteps := 1000000) only [go_sem, List.forall_mem_nil, ↓reduceIte, Nat.reduceEqDiff, Nat.reduceLT, Nat.reduceLeDiff, Nat.reduceAdd, Nat.reduceMul, reduceCtorEq, Try.f82, run_isNoughts, run_isNought, h1, h2, rowsZ_len, rowsN_len, e1]
          repeat' (first
            | ((with_reducible refine sl_i ?_ ?_); focus kernel_rfl)
            | ((with_reducible refine ro_i ?_ ?_); focus kernel_rfl)
            | ((with_reducible refine sl_e ?_); kernel_rfl)
            | ((with_reducible refine ro_e ?_); kernel_rfl)
            | ((first | (with_reducible refine gS_d ?_ ?_) | (with_reducible refine gS_dn ?_ ?_) | (with_reducible refine gS_i ?_ ?_)) <;> intro hg <;> (try simp -dsimp (maxSteps := 1000000) only [go_sem, List.forall_mem_nil, ↓reduceIte, Nat.reduceEqDiff, Nat.reduceLT, Nat.reduceLeDiff, Nat.reduceAdd, Nat.reduceMul, reduceCtorEq, Try.f82, run_isNoughts, run_isNought, h1, h2, rowsZ_len, rowsN_len, e1, *])))
          all_goals (simp only [bareF, nz, h1, h2, *, decide_false, decide_true, Bool.false_and, Bool.true_and, Bool.and_false, List.length_nil, Int.ofNat_zero, Int.natCast_zero])
        have e1 := eq_true p1
        by_cases p2 : (st.length : Int) = 0
        rotate_left
        · have e2 := eq_false p2
          clear p2
          try simp -dsimp (maxSteps := 1000000) only [go_sem, List.forall_mem_nil, ↓reduceIte, Nat.reduceEqDiff, Nat.reduceLT, Nat.reduceLeDiff, Nat.reduceAdd, Nat.reduceMul, reduceCtorEq, Try.f82, run_isNoughts, run_isNought, h1, h2, rowsZ_len, rowsN_len, e1, e2]
          repeat' (first
            | ((with_reducible refine sl_i ?_ ?_); focus kernel_rfl)
            | ((with_reducible refine ro_i ?_ ?_); focus kernel_rfl)
            | ((with_reducible refine sl_e ?_); kernel_rfl)
            | ((with_reducible refine ro_e ?_); kernel_rfl)
            | ((first | (with_reducible refine gS_d ?_ ?_) | (with_reducible refine gS_dn ?_ ?_) | (with_reducible refine gS_i ?_ ?_)) <;> intro hg <;> (try simp -dsimp (maxSteps := 1000000) only [go_sem, List.forall_mem_nil, ↓reduceIte, Nat.reduceEqDiff, Nat.reduceLT, Nat.reduceLeDiff, Nat.reduceAdd, Nat.reduceMul, reduceCtorEq, Try.f82, run_isNoughts, run_isNought, h1, h2, rowsZ_len, rowsN_len, e1, e2, *])))
          all_goals (simp only [bareF, nz, h1, h2, *, decide_false, decide_true, Bool.false_and, Bool.true_and, Bool.and_false, List.length_nil, Int.ofNat_zero, Int.natCast_zero])
        have e2 := eq_true p2
        by_cases p3 : ra = 0
        rotate_left
        · have e3 := eq_false p3
          clear p3
          try simp -dsimp (maxSteps := 1000000) only [go_sem, List.forall_mem_nil, ↓reduceIte, Nat.reduceEqDiff, Nat.reduceLT, Nat.reduceLeDiff, Nat.reduceAdd, Nat.reduceMul, reduceCtorEq, Try.f82, run_isNoughts, run_isNought, h1, h2, rowsZ_len, rowsN_len, e1, e2, e3]
          repeat' (first
            | ((with_reducible refine sl_i ?_ ?_); focus kernel_rfl)
            | ((with_reducible refine ro_i ?_ ?_); focus kernel_rfl)
            | ((with_reducible refine sl_e ?_); kernel_rfl)
            | ((with_reducible refine ro_e ?_); kernel_rfl)
            | ((first | (with_reducible refine gS_d ?_ ?_) | (with_reducible refine gS_dn ?_ ?_) | (with_reducible refine gS_i ?_ ?_)) <;> intro hg <;> (try simp -dsimp (maxSteps := 1000000) only [go_sem, List.forall_mem_nil, ↓reduceIte, Nat.reduceEqDiff, Nat.reduceLT, Nat.reduceLeDiff, Nat.reduceAdd, Nat.reduceMul, reduceCtorEq, Try.f82, run_isNoughts, run_isNought, h1, h2, rowsZ_len, rowsN_len, e1, e2, e3, *])))
          all_goals (simp only [bareF, nz, h1, h2, *, decide_false, decide_true, Bool.false_and, Bool.true_and, Bool.and_false, List.length_nil, Int.ofNat_zero, Int.natCast_zero])
        have e3 := eq_true p3
        by_cases p4 : rc = 0
        rotate_left
        · have e4 := eq_false p4
          clear p4
          try simp -dsimp (maxSteps := 1000000) only [go_sem, List.forall_mem_nil, ↓reduceIte, Nat.reduceEqDiff, Nat.reduceLT, Nat.reduceLeDiff, Nat.reduceAdd, Nat.reduceMul, reduceCtorEq, Try.f82, run_isNoughts, run_isNought, h1, h2, rowsZ_len, rowsN_len, e1, e2, e3, e4]
          repeat' (first
            | ((with_reducible refine sl_i ?_ ?_); focus kernel_rfl)
            | ((with_reducible refine ro_i ?_ ?_); focus kernel_rfl)
            | ((with_reducible refine sl_e ?_); kernel_rfl)
            | ((with_reducible refine ro_e ?_); kernel_rfl)
            | ((first | (with_reducible refine gS_d ?_ ?_) | (with_reducible refine gS_dn ?_ ?_) | (with_reducible refine gS_i ?_ ?_)) <;> intro hg <;> (try simp -dsimp (maxSteps := 1000000) only [go_sem, List.forall_mem_nil, ↓reduceIte, Nat.reduceEqDiff, Nat.reduceLT, Nat.reduceLeDiff, Nat.reduceAdd, Nat.reduceMul, reduceCtorEq, Try.f82, run_isNoughts, run_isNought, h1, h2, rowsZ_len, rowsN_len, e1, e2, e3, e4, *])))
          all_goals (simp only [bareF, nz, h1, h2, *, decide_false, decide_true, Bool.false_and, Bool.true_and, Bool.and_false, List.length_nil, Int.ofNat_zero, Int.natCast_zero])
        have e4 := eq_true p4
        by_cases p5 : c = 0
        rotate_left
        · have e5 := eq_false p5
          clear p5
          try simp -dsimp (maxSteps := 1000000) only [go_sem, List.forall_mem_nil, ↓reduceIte, Nat.reduceEqDiff, Nat.reduceLT, Nat.reduceLeDiff, Nat.reduceAdd, Nat.reduceMul, reduceCtorEq, Try.f82, run_isNoughts, run_isNought, h1, h2, rowsZ_len, rowsN_len, e1, e2, e3, e4, e5]
          repeat' (first
            | ((with_reducible refine sl_i ?_ ?_); focus kernel_rfl)
            | ((with_reducible refine ro_i ?_ ?_); focus kernel_rfl)
            | ((with_reducible refine sl_e ?_); kernel_rfl)
            | ((with_reducible refine ro_e ?_); kernel_rfl)
            | ((first | (with_reducible refine gS_d ?_ ?_) | (with_reducible refine gS_dn ?_ ?_) | (with_reducible refine gS_i ?_ ?_)) <;> intro hg <;> (try simp -dsimp (maxSteps := 1000000) only [go_sem, List.forall_mem_nil, ↓reduceIte, Nat.reduceEqDiff, Nat.reduceLT, Nat.reduceLeDiff, Nat.reduceAdd, Nat.reduceMul, reduceCtorEq, Try.f82, run_isNoughts, run_isNought, h1, h2, rowsZ_len, rowsN_len, e1, e2, e3, e4, e5, *])))
          all_goals (simp only [bareF, nz, h1, h2, *, decide_false, decide_true, Bool.false_and, Bool.true_and, Bool.and_false, List.length_nil, Int.ofNat_zero, Int.natCast_zero])
        have e5 := eq_true p5
        by_cases p6 : l = 0
        rotate_left
        · have e6 := eq_false p6
          clear p6
          try simp -dsimp (maxSteps := 1000000) only [go_sem, List.forall_mem_nil, ↓reduceIte, Nat.reduceEqDiff, Nat.reduceLT, Nat.reduceLeDiff, Nat.reduceAdd, Nat.reduceMul, reduceCtorEq, Try.f82, run_isNoughts, run_isNought, h1, h2, rowsZ_len, rowsN_len, e1, e2, e3, e4, e5, e6]
          repeat' (first
            | ((with_reducible refine sl_i ?_ ?_); focus kernel_rfl)
            | ((with_reducible refine ro_i ?_ ?_); focus kernel_rfl)
            | ((with_reducible refine sl_e ?_); kernel_rfl)
            | ((with_reducible refine ro_e ?_); kernel_rfl)
            | ((first | (with_reducible refine gS_d ?_ ?_) | (with_reducible refine gS_dn ?_ ?_) | (with_reducible refine gS_i ?_ ?_)) <;> intro hg <;> (try simp -dsimp (maxSteps := 1000000) only [go_sem, List.forall_mem_nil, ↓reduceIte, Nat.reduceEqDiff, Nat.reduceLT, Nat.reduceLeDiff, Nat.reduceAdd, Nat.reduceMul, reduceCtorEq, Try.f82, run_isNoughts, run_isNought, h1, h2, rowsZ_len, rowsN_len, e1, e2, e3, e4, e5, e6, *])))
          all_goals (simp only [bareF, nz, h1, h2, *, decide_false, decide_true, Bool.false_and, Bool.true_and, Bool.and_false, List.length_nil, Int.ofNat_zero, Int.natCast_zero])
        have e6 := eq_true p6
        clear p1 p2 p3 p4 p5 p6
        try simp -dsimp (maxSteps := 1000000) only [go_sem, List.forall_mem_nil, ↓reduceIte, Nat.reduceEqDiff, Nat.reduceLT, Nat.reduceLeDiff, Nat.reduceAdd, Nat.reduceMul, reduceCtorEq, Try.f82, run_isNoughts, run_isNought, h1, h2, rowsZ_len, rowsN_len, e1, e2, e3, e4, e5, e6]
        repeat' (first
          | ((with_reducible refine sl_i ?_ ?_); focus kernel_rfl)
          | ((with_reducible refine ro_i ?_ ?_); focus kernel_rfl)
          | ((with_reducible refine sl_e ?_); kernel_rfl)
          | ((with_reducible refine ro_e ?_); kernel_rfl)
          | ((first | (with_reducible refine gS_d ?_ ?_) | (with_reducible refine gS_dn ?_ ?_) | (with_reducible refine gS_i ?_ ?_)) <;> intro hg <;> (try simp -dsimp (maxSteps := 1000000) only [go_sem, List.forall_mem_nil, ↓reduceIte, Nat.reduceEqDiff, Nat.reduceLT, Nat.reduceLeDiff, Nat.reduceAdd, Nat.reduceMul, reduceCtorEq, Try.f82, run_isNoughts, run_isNought, h1, h2, rowsZ_len, rowsN_len, e1, e2, e3, e4, e5, e6, *])))
        simp only [bareF, nz, h1, h2, *, decide_false, decide_true, Bool.false_and, Bool.true_and, Bool.and_false, List.length_nil, Int.ofNat_zero, Int.natCast_zero]
end Go.SX
