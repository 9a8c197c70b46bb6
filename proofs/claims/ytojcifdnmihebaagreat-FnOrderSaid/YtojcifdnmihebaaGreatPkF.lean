/-
  isBare.
  IsModule, copyModule.
  slices.Contains, slices.ContainsFunc, the order of a rack.
  The order of a rack.
  The order of a rack, its end.
  IsRack.
  feeds, copyRack.
  copyRack.
  A step of a module.
  asItIs, sample, isPlug; the pure step of a rack.
  stepRack.
  stepRack: the walk.
  isPlug, canRun.
  RunRack.
  NewRing, checked, NewDelay, NewHold.
  laws.at, laws.equal.
  TraceRack: the walk.
  Plain words: a line of delay, and what FnDelayed asks of the rack's rows.
  laws.FnDelayed: the walk.
  Whole numbers as numbers of single precision: below 2^24 their sums and products are exact.
  Draws: l01New, l01Byte, l01Below, l2Small, MakeWhole. Of what is drawn only its range is told.
  No condition.
-/
import Derived.Test.YtojcifdnmihebaaGreatPkE
set_option linter.unusedVariables false
set_option linter.unusedSimpArgs false
namespace Go.SX
open Go Go.Proofs
def bareF (m : Mod) : Bool := nzP m.turn && (nzP m.state && (nz m.level && (decide ((m.store.length : Int) = 0) && (decide (m.rat = 0) && (decide (m.rcnt = 0) && (decide ((m.pts.length : Int) = 0) && (decide ((m.lab.length : Int) = 0) && (decide (m.count = 0) && decide (m.left = 0)))))))))
def modV (v : Nat) (m : Mod) : List C := [.im (.int .i64 m.kind), .im (.cpx .f32 m.turn.1 m.turn.2), .im (.cpx .f32 m.state.1 m.state.2), .im (.flt .f32 m.level), (if v = 1 then .nil else .im (.sl 1 (rowsZ m.store))), .im (.int .i64 m.rat), .im (.int .i64 m.rcnt),
  (if v = 2 then .nil else .im (.sl 1 (rowsZ m.pts))), (if v = 2 then .nil else .im (.sl 1 (rowsN m.lab))), .im (.int .i64 m.count), .im (.int .i64 m.left)]
abbrev MdV := { x : Mod × Nat // OkM x.1 ∧ (x.2 = 0 ∨ (x.2 = 1 ∧ x.1.store = []) ∨ (x.2 = 2 ∧ x.1.pts = [] ∧ x.1.lab = [])) }
noncomputable def ct_isBare : Ct := fam true (fun x : MdV => ([.agg (modV x.1.2 x.1.1)], [])) (fun x => .one { val := .c (.im (.bool (bareF x.1.1))) })
theorem isBare_inj : ∀ a b : MdV, ([D.agg (modV a.1.2 a.1.1)], ([] : List (List B))) = ([D.agg (modV b.1.2 b.1.1)], []) → Outs.one { val := .c (.im (.bool (bareF a.1.1))) } = Outs.one { val := .c (.im (.bool (bareF b.1.1))) } := by
  rintro ⟨⟨⟨k, ⟨t1, t2⟩, ⟨s1, s2⟩, l, st, r1, r2, p, la, c, le⟩, v⟩, _, hv⟩ ⟨⟨⟨k', ⟨t1', t2'⟩, ⟨s1', s2'⟩, l', st', r1', r2', p', la', c', le'⟩, v'⟩, _, hv'⟩ h
  simp only [Prod.mk.injEq, List.cons.injEq, D.agg.injEq, modV, C.im.injEq, I.cpx.injEq, I.flt.injEq, I.int.injEq, true_and, and_true] at h
  obtain ⟨rfl, ⟨rfl, rfl⟩, ⟨rfl, rfl⟩, rfl, h1, rfl, rfl, h2, h3, rfl, rfl⟩ := h
  have e1 : st = st' ∧ p = p' ∧ la = la' := by
    simp only at hv hv'
    rcases hv with rfl | ⟨rfl, rfl⟩ | ⟨rfl, rfl, rfl⟩ <;> rcases hv' with rfl | ⟨rfl, rfl⟩ | ⟨rfl, rfl, rfl⟩ <;> simp_all [rowsZ_eq, rowsN_eq]
  obtain ⟨rfl, rfl, rfl⟩ := e1
  rfl
theorem run_isBare {k : Int} {t1 t2 s1 s2 lv : Nat} {ra rc c l : Int} {st : List Pt} {pts : List Pt} {lab : List Int} (hst : st.length ≤ sm) (hp : pts.length ≤ sm) (hl : lab.length ≤ sm) :
    ct_isBare.run [.agg [.im (.int .i64 k), .im (.cpx .f32 t1 t2), .im (.cpx .f32 s1 s2), .im (.flt .f32 lv), .im (.sl 1 (rowsZ st)), .im (.int .i64 ra), .im (.int .i64 rc), .im (.sl 1 (rowsZ pts)), .im (.sl 1 (rowsN lab)), .im (.int .i64 c), .im (.int .i64 l)]] [] =
      some (.one { val := .c (.im (.bool (bareF ⟨k, (t1, t2), (s1, s2), lv, st, ra, rc, pts, lab, c, l⟩))) }) :=
  fam_run (args := fun x : MdV => ([D.agg (modV x.1.2 x.1.1)], [])) isBare_inj ⟨(⟨k, (t1, t2), (s1, s2), lv, st, ra, rc, pts, lab, c, l⟩, 0), ⟨hst, hp, hl⟩, .inl rfl⟩
theorem run_isBare1 {k : Int} {t1 t2 s1 s2 lv : Nat} {ra rc c l : Int} {pts : List Pt} {lab : List Int} (hp : pts.length ≤ sm) (hl : lab.length ≤ sm) :
    ct_isBare.run [.agg [.im (.int .i64 k), .im (.cpx .f32 t1 t2), .im (.cpx .f32 s1 s2), .im (.flt .f32 lv), .nil, .im (.int .i64 ra), .im (.int .i64 rc), .im (.sl 1 (rowsZ pts)), .im (.sl 1 (rowsN lab)), .im (.int .i64 c), .im (.int .i64 l)]] [] =
      some (.one { val := .c (.im (.bool (bareF ⟨k, (t1, t2), (s1, s2), lv, [], ra, rc, pts, lab, c, l⟩))) }) :=
  fam_run (args := fun x : MdV => ([D.agg (modV x.1.2 x.1.1)], [])) isBare_inj ⟨(⟨k, (t1, t2), (s1, s2), lv, [], ra, rc, pts, lab, c, l⟩, 1), ⟨(by simp [sm]), hp, hl⟩, .inr (.inl ⟨rfl, rfl⟩)⟩
theorem run_isBare2 {k : Int} {t1 t2 s1 s2 lv : Nat} {ra rc c l : Int} {st : List Pt} (hst : st.length ≤ sm) :
    ct_isBare.run [.agg [.im (.int .i64 k), .im (.cpx .f32 t1 t2), .im (.cpx .f32 s1 s2), .im (.flt .f32 lv), .im (.sl 1 (rowsZ st)), .im (.int .i64 ra), .im (.int .i64 rc), .nil, .nil, .im (.int .i64 c), .im (.int .i64 l)]] [] =
      some (.one { val := .c (.im (.bool (bareF ⟨k, (t1, t2), (s1, s2), lv, st, ra, rc, [], [], c, l⟩))) }) :=
  fam_run (args := fun x : MdV => ([D.agg (modV x.1.2 x.1.1)], [])) isBare_inj ⟨(⟨k, (t1, t2), (s1, s2), lv, st, ra, rc, [], [], c, l⟩, 2), ⟨hst, (by simp [sm]), (by simp [sm])⟩, .inr (.inr ⟨rfl, rfl, rfl⟩)⟩
set_option maxRecDepth 100000 in
set_option maxHeartbeats 8000000 in
theorem law_isBare : Law Tryz.prog 121 ct_isBare := by
  refine fam_law (Env_cons law_isNoughts (Env_cons law_isNought Env_nil)) hmixA Tryz.func121 rfl rfl (fun ⟨⟨⟨k, ⟨t1, t2⟩, ⟨s1, s2⟩, lv, st, ra, rc, pts, lab, c, l⟩, v⟩, hm, hv⟩ => ⟨okO_im rfl, by simp [Tryz.f121], ?_⟩)
  simp only at hv
  rcases hv with rfl | ⟨rfl, rfl⟩ | ⟨rfl, rfl, rfl⟩
  · simp only [modV, Nat.reduceEqDiff, if_true, if_false, ↓reduceIte, (eq_false (by decide) : ((0 : Nat) = 1) = False), (eq_false (by decide) : ((0 : Nat) = 2) = False), (eq_false (by decide) : ((1 : Nat) = 2) = False), (eq_false (by decide) : ((2 : Nat) = 1) = False)]
    cases h1 : nzP (t1, t2) with
    | false =>
      try simp -dsimp (maxSteps := 1000000) only [go_sem, List.forall_mem_nil, ↓reduceIte, Nat.reduceEqDiff, Nat.reduceLT, Nat.reduceLeDiff, Nat.reduceAdd, Nat.reduceMul, reduceCtorEq, Tryz.f121, run_isNoughts, h1, rowsZ_len, rowsN_len]
      simp [bareF, h1]
    | true =>
      cases h2 : nzP (s1, s2) with
      | false =>
        try simp -dsimp (maxSteps := 1000000) only [go_sem, List.forall_mem_nil, ↓reduceIte, Nat.reduceEqDiff, Nat.reduceLT, Nat.reduceLeDiff, Nat.reduceAdd, Nat.reduceMul, reduceCtorEq, Tryz.f121, run_isNoughts, h1, h2, rowsZ_len, rowsN_len]
        simp [bareF, h1, h2]
      | true =>
        by_cases p1 : (lv : Int) = 0
        rotate_left
        · have e1 := eq_false p1
          clear p1
          try simp -dsimp (maxSteps := 1000000) only [go_sem, List.forall_mem_nil, ↓reduceIte, Nat.reduceEqDiff, Nat.reduceLT, Nat.reduceLeDiff, Nat.reduceAdd, Nat.reduceMul, reduceCtorEq, Tryz.f121, run_isNoughts, run_isNought, h1, h2, rowsZ_len, rowsN_len, e1]
          all_goals (simp only [bareF, nz, h1, h2, *, decide_false, decide_true, Bool.false_and, Bool.true_and, Bool.and_false, List.length_nil, Int.ofNat_zero, Int.natCast_zero])
        have e1 := eq_true p1
        by_cases p2 : (st.length : Int) = 0
        rotate_left
        · have e2 := eq_false p2
          clear p2
          try simp -dsimp (maxSteps := 1000000) only [go_sem, List.forall_mem_nil, ↓reduceIte, Nat.reduceEqDiff, Nat.reduceLT, Nat.reduceLeDiff, Nat.reduceAdd, Nat.reduceMul, reduceCtorEq, Tryz.f121, run_isNoughts, run_isNought, h1, h2, rowsZ_len, rowsN_len, e1, e2]
          all_goals (simp only [bareF, nz, h1, h2, *, decide_false, decide_true, Bool.false_and, Bool.true_and, Bool.and_false, List.length_nil, Int.ofNat_zero, Int.natCast_zero])
        have e2 := eq_true p2
        by_cases p3 : ra = 0
        rotate_left
        · have e3 := eq_false p3
          clear p3
          try simp -dsimp (maxSteps := 1000000) only [go_sem, List.forall_mem_nil, ↓reduceIte, Nat.reduceEqDiff, Nat.reduceLT, Nat.reduceLeDiff, Nat.reduceAdd, Nat.reduceMul, reduceCtorEq, Tryz.f121, run_isNoughts, run_isNought, h1, h2, rowsZ_len, rowsN_len, e1, e2, e3]
          all_goals (simp only [bareF, nz, h1, h2, *, decide_false, decide_true, Bool.false_and, Bool.true_and, Bool.and_false, List.length_nil, Int.ofNat_zero, Int.natCast_zero])
        have e3 := eq_true p3
        by_cases p4 : rc = 0
        rotate_left
        · have e4 := eq_false p4
          clear p4
          try simp -dsimp (maxSteps := 1000000) only [go_sem, List.forall_mem_nil, ↓reduceIte, Nat.reduceEqDiff, Nat.reduceLT, Nat.reduceLeDiff, Nat.reduceAdd, Nat.reduceMul, reduceCtorEq, Tryz.f121, run_isNoughts, run_isNought, h1, h2, rowsZ_len, rowsN_len, e1, e2, e3, e4]
          all_goals (simp only [bareF, nz, h1, h2, *, decide_false, decide_true, Bool.false_and, Bool.true_and, Bool.and_false, List.length_nil, Int.ofNat_zero, Int.natCast_zero])
        have e4 := eq_true p4
        by_cases p5 : (pts.length : Int) = 0
        rotate_left
        · have e5 := eq_false p5
          clear p5
          try simp -dsimp (maxSteps := 1000000) only [go_sem, List.forall_mem_nil, ↓reduceIte, Nat.reduceEqDiff, Nat.reduceLT, Nat.reduceLeDiff, Nat.reduceAdd, Nat.reduceMul, reduceCtorEq, Tryz.f121, run_isNoughts, run_isNought, h1, h2, rowsZ_len, rowsN_len, e1, e2, e3, e4, e5]
          all_goals (simp only [bareF, nz, h1, h2, *, decide_false, decide_true, Bool.false_and, Bool.true_and, Bool.and_false, List.length_nil, Int.ofNat_zero, Int.natCast_zero])
        have e5 := eq_true p5
        by_cases p6 : (lab.length : Int) = 0
        rotate_left
        · have e6 := eq_false p6
          clear p6
          try simp -dsimp (maxSteps := 1000000) only [go_sem, List.forall_mem_nil, ↓reduceIte, Nat.reduceEqDiff, Nat.reduceLT, Nat.reduceLeDiff, Nat.reduceAdd, Nat.reduceMul, reduceCtorEq, Tryz.f121, run_isNoughts, run_isNought, h1, h2, rowsZ_len, rowsN_len, e1, e2, e3, e4, e5, e6]
          all_goals (simp only [bareF, nz, h1, h2, *, decide_false, decide_true, Bool.false_and, Bool.true_and, Bool.and_false, List.length_nil, Int.ofNat_zero, Int.natCast_zero])
        have e6 := eq_true p6
        by_cases p7 : c = 0
        rotate_left
        · have e7 := eq_false p7
          clear p7
          try simp -dsimp (maxSteps := 1000000) only [go_sem, List.forall_mem_nil, ↓reduceIte, Nat.reduceEqDiff, Nat.reduceLT, Nat.reduceLeDiff, Nat.reduceAdd, Nat.reduceMul, reduceCtorEq, Tryz.f121, run_isNoughts, run_isNought, h1, h2, rowsZ_len, rowsN_len, e1, e2, e3, e4, e5, e6, e7]
          all_goals (simp only [bareF, nz, h1, h2, *, decide_false, decide_true, Bool.false_and, Bool.true_and, Bool.and_false, List.length_nil, Int.ofNat_zero, Int.natCast_zero])
        have e7 := eq_true p7
        by_cases p8 : l = 0
        rotate_left
        · have e8 := eq_false p8
          clear p8
          try simp -dsimp (maxSteps := 1000000) only [go_sem, List.forall_mem_nil, ↓reduceIte, Nat.reduceEqDiff, Nat.reduceLT, Nat.reduceLeDiff, Nat.reduceAdd, Nat.reduceMul, reduceCtorEq, Tryz.f121, run_isNoughts, run_isNought, h1, h2, rowsZ_len, rowsN_len, e1, e2, e3, e4, e5, e6, e7, e8]
          all_goals (simp only [bareF, nz, h1, h2, *, decide_false, decide_true, Bool.false_and, Bool.true_and, Bool.and_false, List.length_nil, Int.ofNat_zero, Int.natCast_zero])
        have e8 := eq_true p8
        clear p1 p2 p3 p4 p5 p6 p7 p8
        try simp -dsimp (maxSteps := 1000000) only [go_sem, List.forall_mem_nil, ↓reduceIte, Nat.reduceEqDiff, Nat.reduceLT, Nat.reduceLeDiff, Nat.reduceAdd, Nat.reduceMul, reduceCtorEq, Tryz.f121, run_isNoughts, run_isNought, h1, h2, rowsZ_len, rowsN_len, e1, e2, e3, e4, e5, e6, e7, e8]
        simp only [bareF, nz, h1, h2, *, decide_false, decide_true, Bool.false_and, Bool.true_and, Bool.and_false, List.length_nil, Int.ofNat_zero, Int.natCast_zero]
  · simp only [modV, Nat.reduceEqDiff, if_true, if_false, ↓reduceIte, (eq_false (by decide) : ((0 : Nat) = 1) = False), (eq_false (by decide) : ((0 : Nat) = 2) = False), (eq_false (by decide) : ((1 : Nat) = 2) = False), (eq_false (by decide) : ((2 : Nat) = 1) = False)]
    cases h1 : nzP (t1, t2) with
    | false =>
      try simp -dsimp (maxSteps := 1000000) only [go_sem, List.forall_mem_nil, ↓reduceIte, Nat.reduceEqDiff, Nat.reduceLT, Nat.reduceLeDiff, Nat.reduceAdd, Nat.reduceMul, reduceCtorEq, Tryz.f121, run_isNoughts, h1, rowsZ_len, rowsN_len]
      simp [bareF, h1]
    | true =>
      cases h2 : nzP (s1, s2) with
      | false =>
        try simp -dsimp (maxSteps := 1000000) only [go_sem, List.forall_mem_nil, ↓reduceIte, Nat.reduceEqDiff, Nat.reduceLT, Nat.reduceLeDiff, Nat.reduceAdd, Nat.reduceMul, reduceCtorEq, Tryz.f121, run_isNoughts, h1, h2, rowsZ_len, rowsN_len]
        simp [bareF, h1, h2]
      | true =>
        by_cases p1 : (lv : Int) = 0
        rotate_left
        · have e1 := eq_false p1
          clear p1
          try simp -dsimp (maxSteps := 1000000) only [go_sem, List.forall_mem_nil, ↓reduceIte, Nat.reduceEqDiff, Nat.reduceLT, Nat.reduceLeDiff, Nat.reduceAdd, Nat.reduceMul, reduceCtorEq, Tryz.f121, run_isNoughts, run_isNought, h1, h2, rowsZ_len, rowsN_len, e1]
          all_goals (simp only [bareF, nz, h1, h2, *, decide_false, decide_true, Bool.false_and, Bool.true_and, Bool.and_false, List.length_nil, Int.ofNat_zero, Int.natCast_zero])
        have e1 := eq_true p1
        by_cases p2 : ra = 0
        rotate_left
        · have e2 := eq_false p2
          clear p2
          try simp -dsimp (maxSteps := 1000000) only [go_sem, List.forall_mem_nil, ↓reduceIte, Nat.reduceEqDiff, Nat.reduceLT, Nat.reduceLeDiff, Nat.reduceAdd, Nat.reduceMul, reduceCtorEq, Tryz.f121, run_isNoughts, run_isNought, h1, h2, rowsZ_len, rowsN_len, e1, e2]
          all_goals (simp only [bareF, nz, h1, h2, *, decide_false, decide_true, Bool.false_and, Bool.true_and, Bool.and_false, List.length_nil, Int.ofNat_zero, Int.natCast_zero])
        have e2 := eq_true p2
        by_cases p3 : rc = 0
        rotate_left
        · have e3 := eq_false p3
          clear p3
          try simp -dsimp (maxSteps := 1000000) only [go_sem, List.forall_mem_nil, ↓reduceIte, Nat.reduceEqDiff, Nat.reduceLT, Nat.reduceLeDiff, Nat.reduceAdd, Nat.reduceMul, reduceCtorEq, Tryz.f121, run_isNoughts, run_isNought, h1, h2, rowsZ_len, rowsN_len, e1, e2, e3]
          all_goals (simp only [bareF, nz, h1, h2, *, decide_false, decide_true, Bool.false_and, Bool.true_and, Bool.and_false, List.length_nil, Int.ofNat_zero, Int.natCast_zero])
        have e3 := eq_true p3
        by_cases p4 : (pts.length : Int) = 0
        rotate_left
        · have e4 := eq_false p4
          clear p4
          try simp -dsimp (maxSteps := 1000000) only [go_sem, List.forall_mem_nil, ↓reduceIte, Nat.reduceEqDiff, Nat.reduceLT, Nat.reduceLeDiff, Nat.reduceAdd, Nat.reduceMul, reduceCtorEq, Tryz.f121, run_isNoughts, run_isNought, h1, h2, rowsZ_len, rowsN_len, e1, e2, e3, e4]
          all_goals (simp only [bareF, nz, h1, h2, *, decide_false, decide_true, Bool.false_and, Bool.true_and, Bool.and_false, List.length_nil, Int.ofNat_zero, Int.natCast_zero])
        have e4 := eq_true p4
        by_cases p5 : (lab.length : Int) = 0
        rotate_left
        · have e5 := eq_false p5
          clear p5
          try simp -dsimp (maxSteps := 1000000) only [go_sem, List.forall_mem_nil, ↓reduceIte, Nat.reduceEqDiff, Nat.reduceLT, Nat.reduceLeDiff, Nat.reduceAdd, Nat.reduceMul, reduceCtorEq, Tryz.f121, run_isNoughts, run_isNought, h1, h2, rowsZ_len, rowsN_len, e1, e2, e3, e4, e5]
          all_goals (simp only [bareF, nz, h1, h2, *, decide_false, decide_true, Bool.false_and, Bool.true_and, Bool.and_false, List.length_nil, Int.ofNat_zero, Int.natCast_zero])
        have e5 := eq_true p5
        by_cases p6 : c = 0
        rotate_left
        · have e6 := eq_false p6
          clear p6
          try simp -dsimp (maxSteps := 1000000) only [go_sem, List.forall_mem_nil, ↓reduceIte, Nat.reduceEqDiff, Nat.reduceLT, Nat.reduceLeDiff, Nat.reduceAdd, Nat.reduceMul, reduceCtorEq, Tryz.f121, run_isNoughts, run_isNought, h1, h2, rowsZ_len, rowsN_len, e1, e2, e3, e4, e5, e6]
          all_goals (simp only [bareF, nz, h1, h2, *, decide_false, decide_true, Bool.false_and, Bool.true_and, Bool.and_false, List.length_nil, Int.ofNat_zero, Int.natCast_zero])
        have e6 := eq_true p6
        by_cases p7 : l = 0
        rotate_left
        · have e7 := eq_false p7
          clear p7
          try simp -dsimp (maxSteps := 1000000) only [go_sem, List.forall_mem_nil, ↓reduceIte, Nat.reduceEqDiff, Nat.reduceLT, Nat.reduceLeDiff, Nat.reduceAdd, Nat.reduceMul, reduceCtorEq, Tryz.f121, run_isNoughts, run_isNought, h1, h2, rowsZ_len, rowsN_len, e1, e2, e3, e4, e5, e6, e7]
          all_goals (simp only [bareF, nz, h1, h2, *, decide_false, decide_true, Bool.false_and, Bool.true_and, Bool.and_false, List.length_nil, Int.ofNat_zero, Int.natCast_zero])
        have e7 := eq_true p7
        clear p1 p2 p3 p4 p5 p6 p7
        try simp -dsimp (maxSteps := 1000000) only [go_sem, List.forall_mem_nil, ↓reduceIte, Nat.reduceEqDiff, Nat.reduceLT, Nat.reduceLeDiff, Nat.reduceAdd, Nat.reduceMul, reduceCtorEq, Tryz.f121, run_isNoughts, run_isNought, h1, h2, rowsZ_len, rowsN_len, e1, e2, e3, e4, e5, e6, e7]
        simp only [bareF, nz, h1, h2, *, decide_false, decide_true, Bool.false_and, Bool.true_and, Bool.and_false, List.length_nil, Int.ofNat_zero, Int.natCast_zero]
  · simp only [modV, Nat.reduceEqDiff, if_true, if_false, ↓reduceIte, (eq_false (by decide) : ((0 : Nat) = 1) = False), (eq_false (by decide) : ((0 : Nat) = 2) = False), (eq_false (by decide) : ((1 : Nat) = 2) = False), (eq_false (by decide) : ((2 : Nat) = 1) = False)]
    cases h1 : nzP (t1, t2) with
    | false =>
      try simp -dsimp (maxSteps := 1000000) only [go_sem, List.forall_mem_nil, ↓reduceIte, Nat.reduceEqDiff, Nat.reduceLT, Nat.reduceLeDiff, Nat.reduceAdd, Nat.reduceMul, reduceCtorEq, Tryz.f121, run_isNoughts, h1, rowsZ_len, rowsN_len]
      simp [bareF, h1]
    | true =>
      cases h2 : nzP (s1, s2) with
      | false =>
        try simp -dsimp (maxSteps := 1000000) only [go_sem, List.forall_mem_nil, ↓reduceIte, Nat.reduceEqDiff, Nat.reduceLT, Nat.reduceLeDiff, Nat.reduceAdd, Nat.reduceMul, reduceCtorEq, Tryz.f121, run_isNoughts, h1, h2, rowsZ_len, rowsN_len]
        simp [bareF, h1, h2]
      | true =>
        by_cases p1 : (lv : Int) = 0
        rotate_left
        · have e1 := eq_false p1
          clear p1
          try simp -dsimp (maxSteps := 1000000) only [go_sem, List.forall_mem_nil, ↓reduceIte, Nat.reduceEqDiff, Nat.reduceLT, Nat.reduceLeDiff, Nat.reduceAdd, Nat.reduceMul, reduceCtorEq, Tryz.f121, run_isNoughts, run_isNought, h1, h2, rowsZ_len, rowsN_len, e1]
          all_goals (simp only [bareF, nz, h1, h2, *, decide_false, decide_true, Bool.false_and, Bool.true_and, Bool.and_false, List.length_nil, Int.ofNat_zero, Int.natCast_zero])
        have e1 := eq_true p1
        by_cases p2 : (st.length : Int) = 0
        rotate_left
        · have e2 := eq_false p2
          clear p2
          try simp -dsimp (maxSteps := 1000000) only [go_sem, List.forall_mem_nil, ↓reduceIte, Nat.reduceEqDiff, Nat.reduceLT, Nat.reduceLeDiff, Nat.reduceAdd, Nat.reduceMul, reduceCtorEq, Tryz.f121, run_isNoughts, run_isNought, h1, h2, rowsZ_len, rowsN_len, e1, e2]
          all_goals (simp only [bareF, nz, h1, h2, *, decide_false, decide_true, Bool.false_and, Bool.true_and, Bool.and_false, List.length_nil, Int.ofNat_zero, Int.natCast_zero])
        have e2 := eq_true p2
        by_cases p3 : ra = 0
        rotate_left
        · have e3 := eq_false p3
          clear p3
          try simp -dsimp (maxSteps := 1000000) only [go_sem, List.forall_mem_nil, ↓reduceIte, Nat.reduceEqDiff, Nat.reduceLT, Nat.reduceLeDiff, Nat.reduceAdd, Nat.reduceMul, reduceCtorEq, Tryz.f121, run_isNoughts, run_isNought, h1, h2, rowsZ_len, rowsN_len, e1, e2, e3]
          all_goals (simp only [bareF, nz, h1, h2, *, decide_false, decide_true, Bool.false_and, Bool.true_and, Bool.and_false, List.length_nil, Int.ofNat_zero, Int.natCast_zero])
        have e3 := eq_true p3
        by_cases p4 : rc = 0
        rotate_left
        · have e4 := eq_false p4
          clear p4
          try simp -dsimp (maxSteps := 1000000) only [go_sem, List.forall_mem_nil, ↓reduceIte, Nat.reduceEqDiff, Nat.reduceLT, Nat.reduceLeDiff, Nat.reduceAdd, Nat.reduceMul, reduceCtorEq, Tryz.f121, run_isNoughts, run_isNought, h1, h2, rowsZ_len, rowsN_len, e1, e2, e3, e4]
          all_goals (simp only [bareF, nz, h1, h2, *, decide_false, decide_true, Bool.false_and, Bool.true_and, Bool.and_false, List.length_nil, Int.ofNat_zero, Int.natCast_zero])
        have e4 := eq_true p4
        by_cases p5 : c = 0
        rotate_left
        · have e5 := eq_false p5
          clear p5
          try simp -dsimp (maxSteps := 1000000) only [go_sem, List.forall_mem_nil, ↓reduceIte, Nat.reduceEqDiff, Nat.reduceLT, Nat.reduceLeDiff, Nat.reduceAdd, Nat.reduceMul, reduceCtorEq, Tryz.f121, run_isNoughts, run_isNought, h1, h2, rowsZ_len, rowsN_len, e1, e2, e3, e4, e5]
          all_goals (simp only [bareF, nz, h1, h2, *, decide_false, decide_true, Bool.false_and, Bool.true_and, Bool.and_false, List.length_nil, Int.ofNat_zero, Int.natCast_zero])
        have e5 := eq_true p5
        by_cases p6 : l = 0
        rotate_left
        · have e6 := eq_false p6
          clear p6
          try simp -dsimp (maxSteps := 1000000) only [go_sem, List.forall_mem_nil, ↓reduceIte, Nat.reduceEqDiff, Nat.reduceLT, Nat.reduceLeDiff, Nat.reduceAdd, Nat.reduceMul, reduceCtorEq, Tryz.f121, run_isNoughts, run_isNought, h1, h2, rowsZ_len, rowsN_len, e1, e2, e3, e4, e5, e6]
          all_goals (simp only [bareF, nz, h1, h2, *, decide_false, decide_true, Bool.false_and, Bool.true_and, Bool.and_false, List.length_nil, Int.ofNat_zero, Int.natCast_zero])
        have e6 := eq_true p6
        clear p1 p2 p3 p4 p5 p6
        try simp -dsimp (maxSteps := 1000000) only [go_sem, List.forall_mem_nil, ↓reduceIte, Nat.reduceEqDiff, Nat.reduceLT, Nat.reduceLeDiff, Nat.reduceAdd, Nat.reduceMul, reduceCtorEq, Tryz.f121, run_isNoughts, run_isNought, h1, h2, rowsZ_len, rowsN_len, e1, e2, e3, e4, e5, e6]
        simp only [bareF, nz, h1, h2, *, decide_false, decide_true, Bool.false_and, Bool.true_and, Bool.and_false, List.length_nil, Int.ofNat_zero, Int.natCast_zero]
end Go.SX
set_option linter.unusedVariables false
set_option linter.unusedSimpArgs false
namespace Go.SX
open Go Go.Proofs
def isModuleF (m : Mod) : Bool :=
  if m.kind = 1 then bareF { m with turn := (0, 0), state := (0, 0) }
  else if m.kind = 2 then bareF { m with turn := (0, 0), state := (0, 0) }
  else if m.kind = 3 then bareF { m with level := 0 }
  else if m.kind = 4 then (isRingF m.store m.rat m.rcnt && decide (m.rcnt = (m.store.length : Int))) && bareF { m with store := [], rat := 0, rcnt := 0 }
  else if m.kind = 5 then bareF m
  else if m.kind = 6 then isTableF m.pts m.lab && bareF { m with pts := [], lab := [], count := 0 }
  else if m.kind = 7 then (nz m.level || fcmp .gtr .f32 m.level 0) && bareF { m with level := 0 }
  else if m.kind = 8 then (decide (1 ≤ m.count) && (decide (m.count ≤ 100) && (decide (0 ≤ m.left) && decide (m.left < m.count)))) && bareF { m with state := (0, 0), count := 0, left := 0 }
  else false
abbrev MdA := { m : Mod // OkM m }
noncomputable def ct_IsModule : Ct := fam true (fun x : MdA => ([.agg (modC x.1)], [])) (fun x => .one { val := .c (.im (.bool (isModuleF x.1))) })
theorem run_IsModule {k : Int} {t1 t2 s1 s2 lv : Nat} {st : List Pt} {ra rc : Int} {pts : List Pt} {lab : List Int} {c l : Int} (hst : st.length ≤ sm) (hp : pts.length ≤ sm) (hl : lab.length ≤ sm) :
    ct_IsModule.run [.agg [.im (.int .i64 k), .im (.cpx .f32 t1 t2), .im (.cpx .f32 s1 s2), .im (.flt .f32 lv), .im (.sl 1 (rowsZ st)), .im (.int .i64 ra), .im (.int .i64 rc), .im (.sl 1 (rowsZ pts)), .im (.sl 1 (rowsN lab)), .im (.int .i64 c), .im (.int .i64 l)]] [] =
      some (.one { val := .c (.im (.bool (isModuleF ⟨k, (t1, t2), (s1, s2), lv, st, ra, rc, pts, lab, c, l⟩))) }) := by
  refine fam_run' (args := fun x : MdA => ([D.agg (modC x.1)], [])) ?_ ⟨⟨k, (t1, t2), (s1, s2), lv, st, ra, rc, pts, lab, c, l⟩, ⟨hst, hp, hl⟩⟩
  rintro ⟨a, _⟩ ⟨b, _⟩ h
  simp at h ⊢
  exact modC_inj h
set_option maxRecDepth 100000 in
set_option maxHeartbeats 8000000 in
theorem law_IsModule : Law Tryz.prog 73 ct_IsModule := by
  refine fam_law (Env_cons law_isBare (Env_cons law_IsRing (Env_cons law_IsTable (Env_cons law_isNought Env_nil)))) hmixA Tryz.func73 rfl rfl (fun ⟨⟨k, ⟨t1, t2⟩, ⟨s1, s2⟩, lv, st, ra, rc, pts, lab, c, l⟩, ⟨q1, q2, q3⟩⟩ => ⟨okO_im rfl, by simp [Tryz.f73], ?_⟩)
  simp only at q1 q2 q3
  simp only [modC]
  by_cases k1 : k = 1
  · subst k1
    try simp -dsimp (maxSteps := 1000000) only [go_sem, List.forall_mem_nil, ↓reduceIte, Nat.reduceEqDiff, Nat.reduceLT, Nat.reduceLeDiff, Nat.reduceAdd, Nat.reduceMul, reduceCtorEq, Tryz.f73, run_isBare q1 q2 q3, isModuleF]
  by_cases k2 : k = 2
  · subst k2
    try simp -dsimp (maxSteps := 1000000) only [go_sem, List.forall_mem_nil, ↓reduceIte, Nat.reduceEqDiff, Nat.reduceLT, Nat.reduceLeDiff, Nat.reduceAdd, Nat.reduceMul, reduceCtorEq, Tryz.f73, run_isBare q1 q2 q3, isModuleF, Int.reduceEq]
  by_cases k3 : k = 3
  · subst k3
    try simp -dsimp (maxSteps := 1000000) only [go_sem, List.forall_mem_nil, ↓reduceIte, Nat.reduceEqDiff, Nat.reduceLT, Nat.reduceLeDiff, Nat.reduceAdd, Nat.reduceMul, reduceCtorEq, Tryz.f73, run_isBare q1 q2 q3, isModuleF, Int.reduceEq]
  by_cases k4 : k = 4
  · subst k4
    cases h1 : isRingF st ra rc with
    | false =>
      try simp -dsimp (maxSteps := 1000000) only [go_sem, List.forall_mem_nil, ↓reduceIte, Nat.reduceEqDiff, Nat.reduceLT, Nat.reduceLeDiff, Nat.reduceAdd, Nat.reduceMul, reduceCtorEq, Tryz.f73, run_isBare1 q2 q3, run_IsRing q1, h1, isModuleF, Int.reduceEq, Bool.false_and]
      repeat' (first
        | ((with_reducible refine sl_i ?_ ?_); focus kernel_rfl)
        | ((with_reducible refine ro_e ?_); kernel_rfl))
    | true =>
      by_cases h2 : rc = (st.length : Int)
      · have h2' := eq_true h2
        clear h2
        try simp -dsimp (maxSteps := 1000000) only [go_sem, List.forall_mem_nil, ↓reduceIte, Nat.reduceEqDiff, Nat.reduceLT, Nat.reduceLeDiff, Nat.reduceAdd, Nat.reduceMul, reduceCtorEq, Tryz.f73, run_isBare1 q2 q3, run_IsRing q1, h1, h2', rowsZ_len, isModuleF, Int.reduceEq, Bool.true_and]
        repeat' (first
          | ((with_reducible refine sl_i ?_ ?_); focus kernel_rfl)
          | ((with_reducible refine ro_e ?_); kernel_rfl))
      · have h2' := eq_false h2
        clear h2
        try simp -dsimp (maxSteps := 1000000) only [go_sem, List.forall_mem_nil, ↓reduceIte, Nat.reduceEqDiff, Nat.reduceLT, Nat.reduceLeDiff, Nat.reduceAdd, Nat.reduceMul, reduceCtorEq, Tryz.f73, run_isBare1 q2 q3, run_IsRing q1, h1, h2', rowsZ_len, isModuleF, Int.reduceEq, Bool.true_and, Bool.false_and]
        repeat' (first
          | ((with_reducible refine sl_i ?_ ?_); focus kernel_rfl)
          | ((with_reducible refine ro_e ?_); kernel_rfl))
  by_cases k5 : k = 5
  · subst k5
    try simp -dsimp (maxSteps := 1000000) only [go_sem, List.forall_mem_nil, ↓reduceIte, Nat.reduceEqDiff, Nat.reduceLT, Nat.reduceLeDiff, Nat.reduceAdd, Nat.reduceMul, reduceCtorEq, Tryz.f73, run_isBare q1 q2 q3, isModuleF, Int.reduceEq]
  by_cases k6 : k = 6
  · subst k6
    cases h1 : isTableF pts lab with
    | false =>
      try simp -dsimp (maxSteps := 1000000) only [go_sem, List.forall_mem_nil, ↓reduceIte, Nat.reduceEqDiff, Nat.reduceLT, Nat.reduceLeDiff, Nat.reduceAdd, Nat.reduceMul, reduceCtorEq, Tryz.f73, run_isBare2 q1, run_IsTable q2 q3, h1, isModuleF, Int.reduceEq, Bool.false_and]
    | true =>
      try simp -dsimp (maxSteps := 1000000) only [go_sem, List.forall_mem_nil, ↓reduceIte, Nat.reduceEqDiff, Nat.reduceLT, Nat.reduceLeDiff, Nat.reduceAdd, Nat.reduceMul, reduceCtorEq, Tryz.f73, run_isBare2 q1, run_IsTable q2 q3, h1, isModuleF, Int.reduceEq, Bool.true_and]
  by_cases k7 : k = 7
  · subst k7
    by_cases h1 : (lv : Int) = 0
    · have h1' := eq_true h1
      clear h1
      try simp -dsimp (maxSteps := 1000000) only [go_sem, List.forall_mem_nil, ↓reduceIte, Nat.reduceEqDiff, Nat.reduceLT, Nat.reduceLeDiff, Nat.reduceAdd, Nat.reduceMul, reduceCtorEq, Tryz.f73, run_isBare q1 q2 q3, run_isNought, h1', nz, isModuleF, Int.reduceEq, Bool.true_or, Bool.true_and]
      repeat' (first
        | ((with_reducible refine sl_i ?_ ?_); focus kernel_rfl)
        | ((with_reducible refine ro_e ?_); kernel_rfl))
    · have h1' := eq_false h1
      clear h1
      cases h2 : fcmp .gtr .f32 lv 0 with
      | false =>
        try simp -dsimp (maxSteps := 1000000) only [go_sem, List.forall_mem_nil, ↓reduceIte, Nat.reduceEqDiff, Nat.reduceLT, Nat.reduceLeDiff, Nat.reduceAdd, Nat.reduceMul, reduceCtorEq, Tryz.f73, run_isBare q1 q2 q3, run_isNought, h1', h2, nz, isModuleF, Int.reduceEq, Bool.false_or, Bool.false_and]
        repeat' (first
          | ((with_reducible refine sl_i ?_ ?_); focus kernel_rfl)
          | ((with_reducible refine ro_e ?_); kernel_rfl))
      | true =>
        try simp -dsimp (maxSteps := 1000000) only [go_sem, List.forall_mem_nil, ↓reduceIte, Nat.reduceEqDiff, Nat.reduceLT, Nat.reduceLeDiff, Nat.reduceAdd, Nat.reduceMul, reduceCtorEq, Tryz.f73, run_isBare q1 q2 q3, run_isNought, h1', h2, nz, isModuleF, Int.reduceEq, Bool.false_or, Bool.true_and]
        repeat' (first
          | ((with_reducible refine sl_i ?_ ?_); focus kernel_rfl)
          | ((with_reducible refine ro_e ?_); kernel_rfl))
  by_cases k8 : k = 8
  · subst k8
    by_cases p1 : (1 : Int) ≤ c
    rotate_left
    · have e1 := eq_false p1
      clear p1
      try simp -dsimp (maxSteps := 1000000) only [go_sem, List.forall_mem_nil, ↓reduceIte, Nat.reduceEqDiff, Nat.reduceLT, Nat.reduceLeDiff, Nat.reduceAdd, Nat.reduceMul, reduceCtorEq, Tryz.f73, run_isBare q1 q2 q3, isModuleF, Int.reduceEq, Bool.false_and, Bool.true_and, Bool.and_false, e1]
    have e1 := eq_true p1
    by_cases p2 : c ≤ 100
    rotate_left
    · have e2 := eq_false p2
      clear p2
      try simp -dsimp (maxSteps := 1000000) only [go_sem, List.forall_mem_nil, ↓reduceIte, Nat.reduceEqDiff, Nat.reduceLT, Nat.reduceLeDiff, Nat.reduceAdd, Nat.reduceMul, reduceCtorEq, Tryz.f73, run_isBare q1 q2 q3, isModuleF, Int.reduceEq, Bool.false_and, Bool.true_and, Bool.and_false, e1, e2]
    have e2 := eq_true p2
    by_cases p3 : (0 : Int) ≤ l
    rotate_left
    · have e3 := eq_false p3
      clear p3
      try simp -dsimp (maxSteps := 1000000) only [go_sem, List.forall_mem_nil, ↓reduceIte, Nat.reduceEqDiff, Nat.reduceLT, Nat.reduceLeDiff, Nat.reduceAdd, Nat.reduceMul, reduceCtorEq, Tryz.f73, run_isBare q1 q2 q3, isModuleF, Int.reduceEq, Bool.false_and, Bool.true_and, Bool.and_false, e1, e2, e3]
    have e3 := eq_true p3
    by_cases p4 : l < c
    rotate_left
    · have e4 := eq_false p4
      clear p4
      try simp -dsimp (maxSteps := 1000000) only [go_sem, List.forall_mem_nil, ↓reduceIte, Nat.reduceEqDiff, Nat.reduceLT, Nat.reduceLeDiff, Nat.reduceAdd, Nat.reduceMul, reduceCtorEq, Tryz.f73, run_isBare q1 q2 q3, isModuleF, Int.reduceEq, Bool.false_and, Bool.true_and, Bool.and_false, e1, e2, e3, e4]
    have e4 := eq_true p4
    clear p1 p2 p3 p4
    try simp -dsimp (maxSteps := 1000000) only [go_sem, List.forall_mem_nil, ↓reduceIte, Nat.reduceEqDiff, Nat.reduceLT, Nat.reduceLeDiff, Nat.reduceAdd, Nat.reduceMul, reduceCtorEq, Tryz.f73, run_isBare q1 q2 q3, e1, e2, e3, e4, isModuleF, Int.reduceEq, Bool.true_and]
  have k1' := eq_false k1
  have k2' := eq_false k2
  have k3' := eq_false k3
  have k4' := eq_false k4
  have k5' := eq_false k5
  have k6' := eq_false k6
  have k7' := eq_false k7
  have k8' := eq_false k8
  clear k1 k2 k3 k4 k5 k6 k7 k8
  try simp -dsimp (maxSteps := 1000000) only [go_sem, List.forall_mem_nil, ↓reduceIte, Nat.reduceEqDiff, Nat.reduceLT, Nat.reduceLeDiff, Nat.reduceAdd, Nat.reduceMul, reduceCtorEq, Tryz.f73, k1', k2', k3', k4', k5', k6', k7', k8', isModuleF]
def modT (m : Mod) : List T := [.im (.int .i64 m.kind), .im (.cpx .f32 m.turn.1 m.turn.2), .im (.cpx .f32 m.state.1 m.state.2), .im (.flt .f32 m.level), .own 1 (tI (rowsZ m.store)), .im (.int .i64 m.rat), .im (.int .i64 m.rcnt), .own 1 (tI (rowsZ m.pts)), .own 1 (tI (rowsN m.lab)), .im (.int .i64 m.count), .im (.int .i64 m.left)]
end Go.SX
set_option linter.unusedVariables false
set_option linter.unusedSimpArgs false
namespace Go.SX
open Go Go.Proofs
def rowsM (ms : List Mod) : List (List I) := ms.map modI
theorem rowsM_len (l : List Mod) : (rowsM l).length = l.length := by simp [rowsM]
theorem rowsM_at {l : List Mod} {k : Nat} {m : Mod} (h : l[k]? = some m) : (rowsM l)[k]? = some [.int .i64 m.kind, .cpx .f32 m.turn.1 m.turn.2, .cpx .f32 m.state.1 m.state.2, .flt .f32 m.level, .sl 1 (rowsZ m.store), .int .i64 m.rat, .int .i64 m.rcnt, .sl 1 (rowsZ m.pts), .sl 1 (rowsN m.lab), .int .i64 m.count, .int .i64 m.left] := by
  simp [rowsM, h, modI]
theorem modI_inj {a b : Mod} (h : modI a = modI b) : a = b := by
  obtain ⟨k, ⟨t1, t2⟩, ⟨s1, s2⟩, l, st, r1, r2, p, la, c, le⟩ := a
  obtain ⟨k', ⟨t1', t2'⟩, ⟨s1', s2'⟩, l', st', r1', r2', p', la', c', le'⟩ := b
  simp [modI, rowsZ_eq, rowsN_eq] at h
  simp [h]
theorem rowsM_eq {l m : List Mod} : (rowsM l = rowsM m) = (l = m) := by
  refine propext ⟨fun h => ?_, fun h => by rw [h]⟩
  induction l generalizing m with
  | nil => cases m with | nil => rfl | cons => simp [rowsM] at h
  | cons p l ih =>
    cases m with
    | nil => simp [rowsM] at h
    | cons q m =>
      simp only [rowsM, List.map_cons, List.cons.injEq] at h
      rw [ih h.2, modI_inj h.1]
theorem sc_false (rows : List (List I)) : ∀ (sz : Nat), MvR false (.arr sz (tI rows)) := by
  intro sz r hr t ht
  simp only [tI, List.mem_map] at hr
  obtain ⟨r0, hr0, rfl⟩ := hr
  simp only [List.mem_map] at ht
  obtain ⟨i, hi, rfl⟩ := ht
  exact .im _ (.inl rfl)
noncomputable def ct_Index_int : Ct := fam true (fun x : { l : List Int // l.length ≤ sm } × Int => ([.c (.im (.sl 1 (rowsN x.1.1))), .c (.im (.int .i64 x.2))], [])) (fun x => .one { val := .c (.im (.int .i64 (idxF (fun y => decide (x.2 = y)) x.1.1 0))) })
theorem run_Index_int {l : List Int} (hl : l.length ≤ sm) (v : Int) : ct_Index_int.run [.c (.im (.sl 1 (rowsN l))), .c (.im (.int .i64 v))] [] = some (.one { val := .c (.im (.int .i64 (idxF (fun y => decide (v = y)) l 0))) }) := by
  refine fam_run' (args := fun x : { l : List Int // l.length ≤ sm } × Int => ([D.c (.im (.sl 1 (rowsN x.1.1))), .c (.im (.int .i64 x.2))], [])) ?_ (⟨l, hl⟩, v)
  rintro ⟨⟨a, b⟩, c⟩ ⟨⟨a', b'⟩, c'⟩ h
  simp [rowsN_eq] at h ⊢
  simp [h]
set_option maxRecDepth 100000 in
theorem law_Index_int : Law Tryz.prog 100 ct_Index_int := by
  refine fam_law Env_nil hmixA Tryz.func100 rfl rfl (fun ⟨⟨l, hl⟩, v⟩ => ⟨okO_im rfl, by simp [Tryz.f100], ?_⟩)
  try simp -dsimp (maxSteps := 1000000) only [go_sem, List.forall_mem_nil, ↓reduceIte, Nat.reduceEqDiff, Nat.reduceLT, Nat.reduceLeDiff, Nat.reduceAdd, Nat.reduceMul, reduceCtorEq, Tryz.f100, rowsN_len]
  refine loop_i (ι := { k : Nat // k ≤ l.length ∧ idxF (fun y => decide (v = y)) l 0 = idxF (fun y => decide (v = y)) (l.drop k) k }) (fun k => ⟨[(0, some (.c (.im (.sl 1 (rowsN l))))), (1, some (.c (.im (.int .i64 v)))), (7, some (.c (.im (.int .i64 (l.length : Int))))), (8, some (.c (.im (.int .i64 (k.1 : Int)))))],
    [], 0⟩) (fun k => l.length - k.1) ⟨0, by simp⟩ ⟨[], [], by ((simp only [go_sem, eq_self, MvRb, MvRn, MvRt, List.nodup_cons, List.nodup_nil, ↓reduceIte, Nat.reduceEqDiff, Nat.reduceLT, Nat.reduceLeDiff, reduceCtorEq, List.forall_mem_nil, Nat.zero_le, false_implies, List.mem_singleton]) <;> (try (simp -dsimp only [go_sem, eq_self, MvRb, MvRn, MvRt, List.nodup_cons, List.nodup_nil, ↓reduceIte, Nat.reduceEqDiff, Nat.reduceLT, Nat.reduceLeDiff, reduceCtorEq, List.forall_mem_nil, Nat.zero_le, false_implies, List.mem_singleton]))) <;> simp⟩ (fun ⟨k, hk, hinv⟩ => ?_)
  by_cases hlt : k < l.length
  · obtain ⟨p, hp⟩ : ∃ p, l[k]? = some p := ⟨_, List.getElem?_eq_getElem hlt⟩
    have hrow := rowsN_at hp
    have hI : ((k : Int) < (l.length : Int)) = True := by simp; omega
    have h0 : (0 ≤ (k : Int)) = True := by simp
    have hidx := idxF_drop (f := (fun y => decide (v = y))) hp
    have hwr := lt_sm hl hlt
    by_cases hq : v = p
    · have hq' := eq_true hq
      simp only [hq', decide_true, if_true] at hidx
      rw [hidx] at hinv
      clear hidx hq
      try simp -dsimp (maxSteps := 1000000) only [go_sem, List.forall_mem_nil, ↓reduceIte, Nat.reduceEqDiff, Nat.reduceLT, Nat.reduceLeDiff, Nat.reduceAdd, Nat.reduceMul, reduceCtorEq, Tryz.f100, hI, h0, Int.toNat_natCast, hrow, hq', hinv, rowsN_len]
    · have hq' := eq_false hq
      simp only [hq', decide_false, if_false, Bool.false_eq_true] at hidx
      rw [hidx] at hinv
      clear hidx hq
      try simp -dsimp (maxSteps := 1000000) only [go_sem, List.forall_mem_nil, ↓reduceIte, Nat.reduceEqDiff, Nat.reduceLT, Nat.reduceLeDiff, Nat.reduceAdd, Nat.reduceMul, reduceCtorEq, Tryz.f100, hI, h0, Int.toNat_natCast, hrow, hq', hwr, rowsN_len]
      exact ⟨⟨k + 1, by omega, hinv⟩, by simp only []; omega, [], [], by (simp only [go_sem, eq_self, MvRb, MvRn, MvRt, List.nodup_cons, List.nodup_nil, ↓reduceIte, Nat.reduceEqDiff, Nat.reduceLT, Nat.reduceLeDiff, reduceCtorEq, List.forall_mem_nil, Nat.zero_le, false_implies, List.mem_singleton]) <;> simp⟩
  · have hI : ((k : Int) < (l.length : Int)) = False := by simp; omega
    have hkl : k = l.length := by omega
    subst hkl
    rw [List.drop_length] at hinv
    try simp -dsimp (maxSteps := 1000000) only [go_sem, List.forall_mem_nil, ↓reduceIte, Nat.reduceEqDiff, Nat.reduceLT, Nat.reduceLeDiff, Nat.reduceAdd, Nat.reduceMul, reduceCtorEq, Tryz.f100, hI, hinv, idxF, rowsN_len]
def hasF (l : List Int) (v : Int) : Bool := decide (0 ≤ idxF (fun y => decide (v = y)) l 0)
noncomputable def ct_Contains_int : Ct := fam true (fun x : { l : List Int // l.length ≤ sm } × Int => ([.c (.im (.sl 1 (rowsN x.1.1))), .c (.im (.int .i64 x.2))], [])) (fun x => .one { val := .c (.im (.bool (hasF x.1.1 x.2))) })
theorem sc_Contains_int : (ct_Contains_int.sc = true) = True := by simp [ct_Contains_int, fam]
theorem run_Contains_int {l : List Int} (hl : l.length ≤ sm) (v : Int) : ct_Contains_int.run [.c (.im (.sl 1 (rowsN l))), .c (.im (.int .i64 v))] [] = some (.one { val := .c (.im (.bool (hasF l v))) }) := by
  refine fam_run' (args := fun x : { l : List Int // l.length ≤ sm } × Int => ([D.c (.im (.sl 1 (rowsN x.1.1))), .c (.im (.int .i64 x.2))], [])) ?_ (⟨l, hl⟩, v)
  rintro ⟨⟨a, b⟩, c⟩ ⟨⟨a', b'⟩, c'⟩ h
  simp [rowsN_eq] at h ⊢
  simp [h]
set_option maxRecDepth 100000 in
theorem law_Contains_int : Law Tryz.prog 56 ct_Contains_int := by
  refine fam_law (Env_cons law_Index_int Env_nil) hmixA Tryz.func56 rfl rfl (fun ⟨⟨l, hl⟩, v⟩ => ⟨okO_im rfl, by simp [Tryz.f56], ?_⟩)
  simp only [hasF]
  try simp -dsimp (maxSteps := 1000000) only [go_sem, List.forall_mem_nil, ↓reduceIte, Nat.reduceEqDiff, Nat.reduceLT, Nat.reduceLeDiff, Nat.reduceAdd, Nat.reduceMul, reduceCtorEq, Tryz.f56, run_Index_int hl]
structure OkR2 (ms : List Mod) (cs : List Cbl) : Prop where
  ml : ms.length ≤ sm
  cl : cs.length ≤ sm
def kindOf (ms : List Mod) (i : Int) : Int := match ms[i.toNat]? with
  | some m => m.kind
  | none => 0
def blocks (ms : List Mod) (out : List Int) (i : Int) (c : Cbl) : Bool := decide (c.2 = i) && (!(decide (kindOf ms c.1 = 4)) && !(hasF out c.1))
def hsO (i : Int) (ms : List Mod) (cs : List Cbl) (out : List Int) : List (List B) := [[.t (.im (.int .i64 i))], [.t (.im (.sl 11 (rowsM ms))), .t (.im (.sl 2 (rowsC cs)))], [.t (.own 1 (tI (rowsN out)))]]
theorem mvB_hsO {i : Int} {ms : List Mod} {cs : List Cbl} {out : List Int} : ∀ c ∈ hsO i ms cs out, ∀ x ∈ c, MvB false x := by
  intro c hc x hx
  simp only [hsO, List.mem_cons, List.not_mem_nil, or_false] at hc
  rcases hc with rfl | rfl | rfl
  · simp at hx; subst hx; exact .t _ (.im _ (.inl rfl))
  · simp at hx; rcases hx with rfl | rfl <;> exact .t _ (.im _ (.inl rfl))
  · simp at hx; subst hx
    exact .t _ (.own _ _ (sc_false _ 1))
structure AO where
  i : Int
  ms : List Mod
  cs : List Cbl
  out : List Int
  ml : ms.length ≤ sm
  cl : cs.length ≤ sm
  ol : out.length ≤ sm
theorem hsO_inj {a b : AO} (h : hsO a.i a.ms a.cs a.out = hsO b.i b.ms b.cs b.out) : a = b := by
  obtain ⟨i, ms, cs, out, _, _, _⟩ := a
  obtain ⟨i', ms', cs', out', _, _, _⟩ := b
  simp [hsO, rowsM_eq, rowsC_eq] at h
  obtain ⟨rfl, ⟨rfl, rfl⟩, h3⟩ := h
  have : out = out' := by
    have h4 := congrArg (mapO (mapO (toI [] (fun _ => none) 0))) h3
    rw [tI_toI, tI_toI] at h4
    simp [rowsN_eq] at h4
    exact h4
  subst this
  rfl
theorem take_N (l : List Int) : (tI (rowsN l)).take l.length = tI (rowsN l) := by rw [List.take_of_length_le]; simp [tI_len, rowsN_len]
theorem okR_hsO {i : Int} {ms : List Mod} {cs : List Cbl} {out : List Int} {b : Bool} : OkR false { val := .c (.im (.bool b)), places := hsO i ms cs out } := ⟨okD_im rfl, by simp, mvB_hsO⟩
noncomputable def ct_order_1_1 : Ct := fam false (fun x : { x : AO × Cbl // 0 ≤ x.2.1 ∧ x.2.1 < x.1.ms.length } => ([.agg [.im (.int .i64 x.1.2.1), .im (.int .i64 x.1.2.2)], .c (.ptr 0 0 0 0), .c (.ptr 1 0 0 0), .c (.ptr 2 0 0 0)], hsO x.1.1.i x.1.1.ms x.1.1.cs x.1.1.out))
  (fun x => .one { val := .c (.im (.bool (blocks x.1.1.ms x.1.1.out x.1.1.i x.1.2))), places := hsO x.1.1.i x.1.1.ms x.1.1.cs x.1.1.out })
theorem run_order_1_1 {i : Int} {ms : List Mod} {cs : List Cbl} {out : List Int} (h1 : ms.length ≤ sm) (h2 : cs.length ≤ sm) (h3 : out.length ≤ sm) {a b : Int} (h4 : 0 ≤ a) (h5 : a < ms.length) :
    ct_order_1_1.run [.agg [.im (.int .i64 a), .im (.int .i64 b)], .c (.ptr 0 0 0 0), .c (.ptr 1 0 0 0), .c (.ptr 2 0 0 0)] [[.t (.im (.int .i64 i))], [.t (.im (.sl 11 (rowsM ms))), .t (.im (.sl 2 (rowsC cs)))], [.t (.own 1 (tI (rowsN out)))]] =
      some (.one { val := .c (.im (.bool (blocks ms out i (a, b)))), places := hsO i ms cs out }) := by
  refine fam_run' (args := fun x : { x : AO × Cbl // 0 ≤ x.2.1 ∧ x.2.1 < x.1.ms.length } => ([D.agg [.im (.int .i64 x.1.2.1), .im (.int .i64 x.1.2.2)], .c (.ptr 0 0 0 0), .c (.ptr 1 0 0 0), .c (.ptr 2 0 0 0)], hsO x.1.1.i x.1.1.ms x.1.1.cs x.1.1.out)) ?_ ⟨(⟨i, ms, cs, out, h1, h2, h3⟩, (a, b)), h4, h5⟩
  rintro ⟨⟨a, b⟩, c⟩ ⟨⟨a', b'⟩, c'⟩ h
  simp only [Prod.mk.injEq, List.cons.injEq, D.agg.injEq, C.im.injEq, I.int.injEq, true_and, and_true] at h
  have := hsO_inj h.2
  subst this
  simp [Prod.ext_iff, h.1]
set_option maxRecDepth 100000 in
set_option maxHeartbeats 4000000 in
theorem law_order_1_1 : Law Tryz.prog 99 ct_order_1_1 := by
  refine fam_lawF (Env_cons law_Contains_int Env_nil) hmixA Tryz.func99 rfl rfl (fun ⟨⟨⟨i, ms, cs, out, h1, h2, h3⟩, ⟨a, b⟩⟩, h4, h5⟩ => ⟨okO okR_hsO, by simp [Tryz.f99], ?_⟩)
  simp only at h4 h5
  simp only [hsO]
  by_cases hb : b = i
  rotate_left
  · have hb' := eq_false hb
    clear hb
    try simp -dsimp (maxSteps := 1000000) only [go_sem, List.forall_mem_nil, ↓reduceIte, Nat.reduceEqDiff, Nat.reduceLT, Nat.reduceLeDiff, Nat.reduceAdd, Nat.reduceMul, reduceCtorEq, Tryz.f99, hb', blocks, Bool.false_and]
    refine finF_i [] ?_
    simp -dsimp (maxSteps := 1000000) only [go_sem, List.forall_mem_nil, ↓reduceIte, Nat.reduceEqDiff, Nat.reduceLT, Nat.reduceLeDiff, Nat.reduceAdd, Nat.reduceMul, reduceCtorEq, hb', blocks, Bool.false_and]
  have hb' := eq_true hb
  clear hb
  obtain ⟨n, rfl⟩ : ∃ n : Nat, a = n := ⟨a.toNat, by omega⟩
  have hlt : n < ms.length := by omega
  obtain ⟨m, hm⟩ : ∃ m, ms[n]? = some m := ⟨_, List.getElem?_eq_getElem hlt⟩
  have hrow := rowsM_at hm
  have hk : kindOf ms (n : Int) = m.kind := by simp [kindOf, hm]
  have h0 : (0 ≤ (n : Int)) = True := by simp
  by_cases hq : m.kind = 4
  · have hq' := eq_true hq
    clear hq
    try simp -dsimp (maxSteps := 1000000) only [go_sem, List.forall_mem_nil, ↓reduceIte, Nat.reduceEqDiff, Nat.reduceLT, Nat.reduceLeDiff, Nat.reduceAdd, Nat.reduceMul, reduceCtorEq, Tryz.f99, hb', blocks, hk, hq', h0, hrow, Int.toNat_natCast, Bool.true_and, Bool.false_and]
    refine finF_i [] ?_
    simp -dsimp (maxSteps := 1000000) only [go_sem, List.forall_mem_nil, ↓reduceIte, Nat.reduceEqDiff, Nat.reduceLT, Nat.reduceLeDiff, Nat.reduceAdd, Nat.reduceMul, reduceCtorEq, hb', blocks, hk, hq', Bool.true_and, Bool.false_and]
  · have hq' := eq_false hq
    clear hq
    try simp -dsimp (maxSteps := 1000000) only [go_sem, List.forall_mem_nil, ↓reduceIte, Nat.reduceEqDiff, Nat.reduceLT, Nat.reduceLeDiff, Nat.reduceAdd, Nat.reduceMul, reduceCtorEq, Tryz.f99, hb', blocks, hk, hq', h0, hrow, Int.toNat_natCast, Bool.true_and, tI_len, rowsN_len, take_N, Nat.le_refl, tI_toI, sc_Contains_int, run_Contains_int h3]
    refine finF_i [.fold 2 0 0] ?_
    simp -dsimp (maxSteps := 1000000) only [go_sem, List.forall_mem_nil, ↓reduceIte, Nat.reduceEqDiff, Nat.reduceLT, Nat.reduceLeDiff, Nat.reduceAdd, Nat.reduceMul, reduceCtorEq, hb', blocks, hk, hq', Bool.true_and, tI_len, rowsN_len]
end Go.SX
set_option linter.unusedVariables false
set_option linter.unusedSimpArgs false
namespace Go.SX
open Go Go.Proofs
abbrev AI := { x : AO × List Cbl // x.2.length ≤ sm ∧ ∀ c ∈ x.2, 0 ≤ c.1 ∧ c.1 < x.1.ms.length }
noncomputable def ct_IndexFunc_Cable : Ct := fam false (fun x : AI => ([.c (.im (.sl 2 (rowsC x.1.2))), .c (.fn (.func 99) [.ptr 0 0 0 0, .ptr 1 0 0 0, .ptr 2 0 0 0])], hsO x.1.1.i x.1.1.ms x.1.1.cs x.1.1.out))
  (fun x => .one { val := .c (.im (.int .i64 (idxF (blocks x.1.1.ms x.1.1.out x.1.1.i) x.1.2 0))), places := hsO x.1.1.i x.1.1.ms x.1.1.cs x.1.1.out })
theorem AI_inj : ∀ a b : AI, ([D.c (.im (.sl 2 (rowsC a.1.2))), .c (.fn (.func 99) [.ptr 0 0 0 0, .ptr 1 0 0 0, .ptr 2 0 0 0])], hsO a.1.1.i a.1.1.ms a.1.1.cs a.1.1.out) = ([D.c (.im (.sl 2 (rowsC b.1.2))), .c (.fn (.func 99) [.ptr 0 0 0 0, .ptr 1 0 0 0, .ptr 2 0 0 0])], hsO b.1.1.i b.1.1.ms b.1.1.cs b.1.1.out) → a = b := by
  rintro ⟨⟨a, b⟩, c⟩ ⟨⟨a', b'⟩, c'⟩ h
  simp only [Prod.mk.injEq, List.cons.injEq, D.c.injEq, C.im.injEq, I.sl.injEq, true_and, and_true, rowsC_eq] at h
  have := hsO_inj h.2
  subst this
  simp [h.1]
theorem run_IndexFunc_Cable {i : Int} {ms : List Mod} {cs ds : List Cbl} {out : List Int} (h1 : ms.length ≤ sm) (h2 : cs.length ≤ sm) (h3 : out.length ≤ sm) (h4 : ds.length ≤ sm) (h5 : ∀ c ∈ ds, 0 ≤ c.1 ∧ c.1 < ms.length) :
    ct_IndexFunc_Cable.run [.c (.im (.sl 2 (rowsC ds))), .c (.fn (.func 99) [.ptr 0 0 0 0, .ptr 1 0 0 0, .ptr 2 0 0 0])] [[.t (.im (.int .i64 i))], [.t (.im (.sl 11 (rowsM ms))), .t (.im (.sl 2 (rowsC cs)))], [.t (.own 1 (tI (rowsN out)))]] =
      some (.one { val := .c (.im (.int .i64 (idxF (blocks ms out i) ds 0))), places := hsO i ms cs out }) :=
  fam_run' AI_inj ⟨(⟨i, ms, cs, out, h1, h2, h3⟩, ds), h4, h5⟩
theorem okR_hsOi {i : Int} {ms : List Mod} {cs : List Cbl} {out : List Int} {z : Int} : OkR false { val := .c (.im (.int .i64 z)), places := hsO i ms cs out } := ⟨okD_im rfl, by simp, mvB_hsO⟩
set_option maxRecDepth 100000 in
set_option maxHeartbeats 4000000 in
theorem law_IndexFunc_Cable : Law Tryz.prog 134 ct_IndexFunc_Cable := by
  refine fam_law (Env_cons law_order_1_1 Env_nil) hmixA Tryz.func134 rfl rfl (fun ⟨⟨⟨i, ms, cs, out, h1, h2, h3⟩, l⟩, hl, h5⟩ => ⟨okO okR_hsOi, by simp [Tryz.f134], ?_⟩)
  simp only at hl h5
  simp only [hsO]
  have hm1 : ∀ x, MvB false (.t (.im x)) = True := MvB_im
  have hm2 : MvB false (.t (.own 1 (tI (rowsN out)))) = True := eq_true (.t _ (.own _ _ (sc_false _ 1)))
  try simp -dsimp (maxSteps := 1000000) only [go_sem, List.forall_mem_nil, ↓reduceIte, Nat.reduceEqDiff, Nat.reduceLT, Nat.reduceLeDiff, Nat.reduceAdd, Nat.reduceMul, reduceCtorEq, Tryz.f134, rowsC_len]
  refine loop_i (ι := { k : Nat // k ≤ l.length ∧ idxF (blocks ms out i) l 0 = idxF (blocks ms out i) (l.drop k) k }) (fun k => ⟨[(0, some (.c (.im (.sl 2 (rowsC l))))), (1, some (.c (.fn (.func 99) [.ptr 0 0 0 0, .ptr 1 0 0 0, .ptr 2 0 0 0]))), (7, some (.c (.im (.int .i64 (l.length : Int))))), (8, some (.c (.im (.int .i64 (k.1 : Int)))))],
    [(0, some (.box [.t (.im (.int .i64 i))])), (1, some (.box [.t (.im (.sl 11 (rowsM ms))), .t (.im (.sl 2 (rowsC cs)))])), (2, some (.box [.t (.own 1 (tI (rowsN out)))]))], 3⟩) (fun k => l.length - k.1) ⟨0, by simp⟩ ⟨[], [], by ((simp only [go_sem, eq_self, MvRb, MvRn, MvRt, List.nodup_cons, List.nodup_nil, ↓reduceIte, Nat.reduceEqDiff, Nat.reduceLT, Nat.reduceLeDiff, reduceCtorEq, List.forall_mem_nil, Nat.zero_le, false_implies, List.mem_singleton, hm2]) <;> (try (simp -dsimp only [go_sem, eq_self, MvRb, MvRn, MvRt, List.nodup_cons, List.nodup_nil, ↓reduceIte, Nat.reduceEqDiff, Nat.reduceLT, Nat.reduceLeDiff, reduceCtorEq, List.forall_mem_nil, Nat.zero_le, false_implies, List.mem_singleton, hm2]))) <;> simp [hm2]⟩ (fun ⟨k, hk, hinv⟩ => ?_)
  by_cases hlt : k < l.length
  · obtain ⟨p, hp⟩ : ∃ p, l[k]? = some p := ⟨_, List.getElem?_eq_getElem hlt⟩
    have hrow := rowsC_at hp
    have hI : ((k : Int) < (l.length : Int)) = True := by simp; omega
    have h0 : (0 ≤ (k : Int)) = True := by simp
    have hidx := idxF_drop (f := blocks ms out i) hp
    have hwr := lt_sm hl hlt
    obtain ⟨q1, q2⟩ := h5 p (List.mem_of_getElem? hp)
    obtain ⟨a, b⟩ := p
    simp only at q1 q2
    cases hq : blocks ms out i (a, b) with
    | true =>
      simp only [hq, if_true] at hidx
      rw [hidx] at hinv
      clear hidx
      try simp -dsimp (maxSteps := 1000000) only [go_sem, List.forall_mem_nil, ↓reduceIte, Nat.reduceEqDiff, Nat.reduceLT, Nat.reduceLeDiff, Nat.reduceAdd, Nat.reduceMul, reduceCtorEq, Tryz.f134, hI, h0, Int.toNat_natCast, hrow, run_order_1_1 h1 h2 h3 q1 q2, hm2, hq, hinv, hsO, rowsC_len]
    | false =>
      simp only [hq, if_false, Bool.false_eq_true] at hidx
      rw [hidx] at hinv
      clear hidx
      try simp -dsimp (maxSteps := 1000000) only [go_sem, List.forall_mem_nil, ↓reduceIte, Nat.reduceEqDiff, Nat.reduceLT, Nat.reduceLeDiff, Nat.reduceAdd, Nat.reduceMul, reduceCtorEq, Tryz.f134, hI, h0, Int.toNat_natCast, hrow, run_order_1_1 h1 h2 h3 q1 q2, hm2, hq, hwr, hsO, rowsC_len]
      exact ⟨⟨k + 1, by omega, hinv⟩, by simp only []; omega, [], [], by (simp only [go_sem, eq_self, MvRb, MvRn, MvRt, List.nodup_cons, List.nodup_nil, ↓reduceIte, Nat.reduceEqDiff, Nat.reduceLT, Nat.reduceLeDiff, reduceCtorEq, List.forall_mem_nil, Nat.zero_le, false_implies, List.mem_singleton, hm2]) <;> simp [hm2]⟩
  · have hI : ((k : Int) < (l.length : Int)) = False := by simp; omega
    have hkl : k = l.length := by omega
    subst hkl
    rw [List.drop_length] at hinv
    try simp -dsimp (maxSteps := 1000000) only [go_sem, List.forall_mem_nil, ↓reduceIte, Nat.reduceEqDiff, Nat.reduceLT, Nat.reduceLeDiff, Nat.reduceAdd, Nat.reduceMul, reduceCtorEq, Tryz.f134, hI, hinv, idxF, rowsC_len]
end Go.SX
set_option linter.unusedVariables false
set_option linter.unusedSimpArgs false
namespace Go.SX
open Go Go.Proofs
def anyF (ms : List Mod) (out : List Int) (i : Int) (cs : List Cbl) : Bool := decide (0 ≤ idxF (blocks ms out i) cs 0)
noncomputable def ct_ContainsFunc_Cable : Ct := fam false (fun x : AI => ([.c (.im (.sl 2 (rowsC x.1.2))), .c (.fn (.func 99) [.ptr 0 0 0 0, .ptr 1 0 0 0, .ptr 2 0 0 0])], hsO x.1.1.i x.1.1.ms x.1.1.cs x.1.1.out))
  (fun x => .one { val := .c (.im (.bool (anyF x.1.1.ms x.1.1.out x.1.1.i x.1.2))), places := hsO x.1.1.i x.1.1.ms x.1.1.cs x.1.1.out })
theorem run_ContainsFunc_Cable {i : Int} {ms : List Mod} {cs ds : List Cbl} {out : List Int} (h1 : ms.length ≤ sm) (h2 : cs.length ≤ sm) (h3 : out.length ≤ sm) (h4 : ds.length ≤ sm) (h5 : ∀ c ∈ ds, 0 ≤ c.1 ∧ c.1 < ms.length) :
    ct_ContainsFunc_Cable.run [.c (.im (.sl 2 (rowsC ds))), .c (.fn (.func 99) [.ptr 0 0 0 0, .ptr 1 0 0 0, .ptr 2 0 0 0])] [[.t (.im (.int .i64 i))], [.t (.im (.sl 11 (rowsM ms))), .t (.im (.sl 2 (rowsC cs)))], [.t (.own 1 (tI (rowsN out)))]] =
      some (.one { val := .c (.im (.bool (anyF ms out i ds))), places := hsO i ms cs out }) :=
  fam_run' AI_inj ⟨(⟨i, ms, cs, out, h1, h2, h3⟩, ds), h4, h5⟩
set_option maxRecDepth 100000 in
set_option maxHeartbeats 4000000 in
theorem law_ContainsFunc_Cable : Law Tryz.prog 98 ct_ContainsFunc_Cable := by
  refine fam_law (Env_cons law_IndexFunc_Cable Env_nil) hmixA Tryz.func98 rfl rfl (fun ⟨⟨⟨i, ms, cs, out, h1, h2, h3⟩, l⟩, hl, h5⟩ => ⟨okO okR_hsO, by simp [Tryz.f98], ?_⟩)
  simp only at hl h5
  simp only [hsO, anyF]
  have hm2 : MvB false (.t (.own 1 (tI (rowsN out)))) = True := eq_true (.t _ (.own _ _ (sc_false _ 1)))
  try simp -dsimp (maxSteps := 1000000) only [go_sem, List.forall_mem_nil, ↓reduceIte, Nat.reduceEqDiff, Nat.reduceLT, Nat.reduceLeDiff, Nat.reduceAdd, Nat.reduceMul, reduceCtorEq, Tryz.f98, run_IndexFunc_Cable h1 h2 h3 hl h5, hm2, hsO]
def hsR (ms : List Mod) (cs : List Cbl) (out : List Int) : List (List B) := [[.t (.own 1 (tI (rowsN out)))], [.t (.im (.sl 11 (rowsM ms))), .t (.im (.sl 2 (rowsC cs)))]]
def readyF (ms : List Mod) (cs : List Cbl) (out : List Int) (i : Int) : Bool := !(hasF out i) && !(anyF ms out i cs)
abbrev AR := { x : AO // ∀ c ∈ x.cs, 0 ≤ c.1 ∧ c.1 < x.ms.length }
noncomputable def ct_order_1 : Ct := fam false (fun x : AR => ([.c (.im (.int .i64 x.1.i)), .c (.ptr 0 0 0 0), .c (.ptr 1 0 0 0)], hsR x.1.ms x.1.cs x.1.out))
  (fun x => .one { val := .c (.im (.bool (readyF x.1.ms x.1.cs x.1.out x.1.i))), places := hsR x.1.ms x.1.cs x.1.out })
theorem run_order_1 {i : Int} {ms : List Mod} {cs : List Cbl} {out : List Int} (h1 : ms.length ≤ sm) (h2 : cs.length ≤ sm) (h3 : out.length ≤ sm) (h5 : ∀ c ∈ cs, 0 ≤ c.1 ∧ c.1 < ms.length) :
    ct_order_1.run [.c (.im (.int .i64 i)), .c (.ptr 0 0 0 0), .c (.ptr 1 0 0 0)] [[.t (.own 1 (tI (rowsN out)))], [.t (.im (.sl 11 (rowsM ms))), .t (.im (.sl 2 (rowsC cs)))]] =
      some (.one { val := .c (.im (.bool (readyF ms cs out i))), places := hsR ms cs out }) := by
  refine fam_run' (args := fun x : AR => ([D.c (.im (.int .i64 x.1.i)), .c (.ptr 0 0 0 0), .c (.ptr 1 0 0 0)], hsR x.1.ms x.1.cs x.1.out)) ?_ ⟨⟨i, ms, cs, out, h1, h2, h3⟩, h5⟩
  rintro ⟨a, c⟩ ⟨a', c'⟩ h
  simp only [Prod.mk.injEq, List.cons.injEq, D.c.injEq, C.im.injEq, I.int.injEq, true_and, and_true] at h
  have : a = a' := hsO_inj (by have h2 := h.2; simp only [hsR, List.cons.injEq, and_true] at h2; simp only [hsO]; rw [h.1, h2.1, h2.2.1, h2.2.2])
  exact Subtype.ext this
theorem okR_hsR {ms : List Mod} {cs : List Cbl} {out : List Int} {b : Bool} : OkR false { val := .c (.im (.bool b)), places := hsR ms cs out } := by
  refine ⟨okD_im rfl, by simp, fun c hc x hx => ?_⟩
  simp only [hsR, List.mem_cons, List.not_mem_nil, or_false] at hc
  rcases hc with rfl | rfl
  · simp at hx; subst hx; exact .t _ (.own _ _ (sc_false _ 1))
  · simp at hx; rcases hx with rfl | rfl <;> exact .t _ (.im _ (.inl rfl))
set_option maxRecDepth 100000 in
set_option maxHeartbeats 4000000 in
theorem law_order_1 : Law Tryz.prog 97 ct_order_1 := by
  refine fam_lawF (Env_cons law_ContainsFunc_Cable (Env_cons law_Contains_int Env_nil)) hmixA Tryz.func97 rfl rfl (fun ⟨⟨i, ms, cs, out, h1, h2, h3⟩, h5⟩ => ⟨okO okR_hsR, by simp [Tryz.f97], ?_⟩)
  simp only at h5
  simp only [hsR]
  have hm2 : MvB false (.t (.own 1 (tI (rowsN out)))) = True := eq_true (.t _ (.own _ _ (sc_false _ 1)))
  cases hq : hasF out i with
  | true =>
    try simp -dsimp (maxSteps := 1000000) only [go_sem, List.forall_mem_nil, ↓reduceIte, Nat.reduceEqDiff, Nat.reduceLT, Nat.reduceLeDiff, Nat.reduceAdd, Nat.reduceMul, reduceCtorEq, Tryz.f97, tI_len, rowsN_len, take_N, tI_toI, sc_Contains_int, run_Contains_int h3, hq, readyF, Bool.false_and]
    refine finF_i [.fold 0 0 0] ?_
    simp -dsimp (maxSteps := 1000000) only [go_sem, List.forall_mem_nil, ↓reduceIte, Nat.reduceEqDiff, Nat.reduceLT, Nat.reduceLeDiff, Nat.reduceAdd, Nat.reduceMul, reduceCtorEq, readyF, hq, Bool.false_and, tI_len, rowsN_len]
  | false =>
    try simp -dsimp (maxSteps := 1000000) only [go_sem, List.forall_mem_nil, ↓reduceIte, Nat.reduceEqDiff, Nat.reduceLT, Nat.reduceLeDiff, Nat.reduceAdd, Nat.reduceMul, reduceCtorEq, Tryz.f97, tI_len, rowsN_len, take_N, tI_toI, sc_Contains_int, run_Contains_int h3, hq, run_ContainsFunc_Cable h1 h2 h3 h2 h5, hm2, hsO, readyF, Bool.true_and]
    refine finF_i [] ?_
    simp -dsimp (maxSteps := 1000000) only [go_sem, List.forall_mem_nil, ↓reduceIte, Nat.reduceEqDiff, Nat.reduceLT, Nat.reduceLeDiff, Nat.reduceAdd, Nat.reduceMul, reduceCtorEq, readyF, hq, Bool.true_and, tI_len, rowsN_len]
def readyIdx (ms : List Mod) (cs : List Cbl) (out : List Int) : Nat → Nat → Nat
  | 0, i => i
  | f + 1, i => if readyF ms cs out i = true then i else readyIdx ms cs out f (i + 1)
def orderGo (ms : List Mod) (cs : List Cbl) : Nat → List Int → Option (List Int)
  | 0, out => some out
  | f + 1, out => if readyIdx ms cs out ms.length 0 = ms.length then none else orderGo ms cs f (out ++ [(readyIdx ms cs out ms.length 0 : Int)])
def orderF (ms : List Mod) (cs : List Cbl) : Option (List Int) := orderGo ms cs ms.length []
theorem readyIdx_le (ms : List Mod) (cs : List Cbl) (out : List Int) : ∀ f i, readyIdx ms cs out f i ≤ i + f
  | 0, i => Nat.le_refl _
  | f + 1, i => by
    simp only [readyIdx]
    split
    · omega
    · have := readyIdx_le ms cs out f (i + 1); omega
def oOrder : Option (List Int) → Outs
  | some l => .one { val := .tup [.c (.view 0 1 0 l.length), .c (.im (.bool true))], roots := [.arr 1 (tI (rowsN l))] }
  | none => .one { val := .tup [.c .nil, .c (.im (.bool false))] }
theorem okO_order {sc : Bool} (o : Option (List Int)) : ∀ res, (oOrder o).mem res → OkR sc res := by
  cases o with
  | none => exact okO ⟨.tup _ (by intro d hd; simp at hd; rcases hd with rfl | rfl; exact .inl ⟨_, rfl, .nil⟩; exact .inl ⟨_, rfl, okC_sc rfl⟩), by simp, by simp⟩
  | some l => exact okO ⟨.tup _ (by intro d hd; simp at hd; rcases hd with rfl | rfl; exact .inl ⟨_, rfl, .view _ _ _ _ (by simp)⟩; exact .inl ⟨_, rfl, okC_sc rfl⟩), by intro r hr; simp at hr; subst hr; exact mvR_tI (sc_rowsN _), by simp⟩
structure ARk where
  ms : List Mod
  cs : List Cbl
  ml : ms.length ≤ 16
  cl : cs.length ≤ sm
  ok : ∀ c ∈ cs, 0 ≤ c.1 ∧ c.1 < ms.length
noncomputable def ct_order : Ct := fam true (fun x : ARk => ([.agg [.im (.sl 11 (rowsM x.ms)), .im (.sl 2 (rowsC x.cs))]], [])) (fun x => oOrder (orderF x.ms x.cs))
theorem run_order {ms : List Mod} {cs : List Cbl} (h1 : ms.length ≤ 16) (h2 : cs.length ≤ sm) (h5 : ∀ c ∈ cs, 0 ≤ c.1 ∧ c.1 < ms.length) : ct_order.run [.agg [.im (.sl 11 (rowsM ms)), .im (.sl 2 (rowsC cs))]] [] = some (oOrder (orderF ms cs)) := by
  refine fam_run' (args := fun x : ARk => ([D.agg [.im (.sl 11 (rowsM x.ms)), .im (.sl 2 (rowsC x.cs))]], [])) ?_ ⟨ms, cs, h1, h2, h5⟩
  rintro ⟨a, b, _, _, _⟩ ⟨a', b', _, _, _⟩ h
  simp [rowsM_eq, rowsC_eq] at h ⊢
  exact h
theorem sc_order : (ct_order.sc = true) = True := by simp [ct_order, fam]
theorem tIN_app (l : List Int) (i : Int) : tI (rowsN l) ++ [[T.im (.int .i64 i)]] = tI (rowsN (l ++ [i])) := by simp [tI, rowsN]
set_option maxRecDepth 100000 in
set_option maxHeartbeats 8000000 in
theorem law_order : Law Tryz.prog 51 ct_order := by
  refine fam_lawF (Env_cons law_order_1 Env_nil) hmixA Tryz.func51 rfl rfl (fun ⟨ms, cs, h1, h2, h5⟩ => ⟨okO_order _, by simp [Tryz.f51], ?_⟩)
  have hsm : sm = 16777216 := rfl
  have h1' : ms.length ≤ sm := by omega
  simp only [orderF]
  try simp -dsimp (maxSteps := 1000000) only [go_sem, List.forall_mem_nil, ↓reduceIte, Nat.reduceEqDiff, Nat.reduceLT, Nat.reduceLeDiff, Nat.reduceAdd, Nat.reduceMul, reduceCtorEq, Tryz.f51, rowsM_len, rowsC_len]
  refine loop_i (ι := { x : List Int // x.length ≤ ms.length ∧ orderGo ms cs ms.length [] = orderGo ms cs (ms.length - x.length) x }) (fun x => ⟨[(1, some (.c (.ptr 0 0 0 0))), (4, some (.c (.ptr 2 0 0 0))), (5, some (.c (.fn (.func 97) [.ptr 2 0 0 0, .ptr 0 0 0 0])))],
    [(0, some (.box [.t (.im (.sl 11 (rowsM ms))), .t (.im (.sl 2 (rowsC cs)))])), (2, some (.box [.t (.own 1 (tI (rowsN x.1)))]))], 3⟩) (fun x => ms.length - x.1.length) ⟨[], by simp⟩ ⟨[.fold 2 0 0], [], by (simp only [go_sem, eq_self, MvRb, MvRn, MvRt, List.nodup_cons, List.nodup_nil, ↓reduceIte, Nat.reduceEqDiff, Nat.reduceLT, Nat.reduceLeDiff, reduceCtorEq, List.forall_mem_nil, Nat.zero_le, false_implies, List.mem_singleton, tI, rowsN]) <;> simp [lk, MvB_im]⟩ (fun ⟨out, hk, hinv⟩ => ?_)
  have hm2 : MvB false (.t (.own 1 (tI (rowsN out)))) = True := eq_true (.t _ (.own _ _ (sc_false _ 1)))
  have h3 : out.length ≤ sm := by omega
  by_cases hlt : out.length < ms.length
  rotate_left
  · have hI : ((out.length : Int) < (ms.length : Int)) = False := by simp; omega
    rw [show ms.length - out.length = 0 by omega] at hinv
    simp only [orderGo] at hinv
    try simp -dsimp (maxSteps := 1000000) only [go_sem, List.forall_mem_nil, ↓reduceIte, Nat.reduceEqDiff, Nat.reduceLT, Nat.reduceLeDiff, Nat.reduceAdd, Nat.reduceMul, reduceCtorEq, Tryz.f51, hI, tI_len, rowsN_len, rowsM_len, hinv, oOrder]
    refine finF_i [] ?_
    simp -dsimp (maxSteps := 1000000) only [go_sem, List.forall_mem_nil, ↓reduceIte, Nat.reduceEqDiff, Nat.reduceLT, Nat.reduceLeDiff, Nat.reduceAdd, Nat.reduceMul, reduceCtorEq, hinv, oOrder, tI_len, rowsN_len]
    refine ⟨[_], ?_, ?_, ?_, rfl⟩ <;> simp [rtOk]
  have hI : ((out.length : Int) < (ms.length : Int)) = True := by simp; omega
  try simp -dsimp (maxSteps := 1000000) only [go_sem, List.forall_mem_nil, ↓reduceIte, Nat.reduceEqDiff, Nat.reduceLT, Nat.reduceLeDiff, Nat.reduceAdd, Nat.reduceMul, reduceCtorEq, Tryz.f51, hI, tI_len, rowsN_len, rowsM_len]
  refine loop_i (ι := { i : Nat // i ≤ ms.length ∧ readyIdx ms cs out ms.length 0 = readyIdx ms cs out (ms.length - i) i }) (fun i => ⟨[(1, some (.c (.ptr 0 0 0 0))), (4, some (.c (.ptr 2 0 0 0))), (5, some (.c (.fn (.func 97) [.ptr 2 0 0 0, .ptr 0 0 0 0]))), (6, some (.c (.im (.int .i64 (i.1 : Int)))))],
    [(0, some (.box [.t (.im (.sl 11 (rowsM ms))), .t (.im (.sl 2 (rowsC cs)))])), (2, some (.box [.t (.own 1 (tI (rowsN out)))]))], 3⟩) (fun i => ms.length - i.1) ⟨0, by simp⟩ ⟨[.fold 2 0 0], [], by ((simp only [go_sem, eq_self, MvRb, MvRn, MvRt, List.nodup_cons, List.nodup_nil, ↓reduceIte, Nat.reduceEqDiff, Nat.reduceLT, Nat.reduceLeDiff, reduceCtorEq, List.forall_mem_nil, Nat.zero_le, false_implies, List.mem_singleton, tI_len, rowsN_len, hm2]) <;> (try (simp -dsimp only [go_sem, eq_self, MvRb, MvRn, MvRt, List.nodup_cons, List.nodup_nil, ↓reduceIte, Nat.reduceEqDiff, Nat.reduceLT, Nat.reduceLeDiff, reduceCtorEq, List.forall_mem_nil, Nat.zero_le, false_implies, List.mem_singleton, tI_len, rowsN_len, hm2]))) <;> simp [lk, MvB_im, hm2]⟩ (fun ⟨i, hi, hri⟩ => ?_)
  rw [show ms.length - out.length = (ms.length - (out.length + 1)) + 1 by omega] at hinv
  simp only [orderGo] at hinv
  by_cases hil : i < ms.length
  · have hI2 : ((i : Int) < (ms.length : Int)) = True := by simp; omega
    have hI3 : ((i : Int) = (ms.length : Int)) = False := eq_false (by omega)
    have hwr := lt_sm h1' hil
    rw [show ms.length - i = (ms.length - (i + 1)) + 1 by omega] at hri
    simp only [readyIdx] at hri
    cases hr : readyF ms cs out (i : Int) with
    | false =>
      simp only [hr, Bool.false_eq_true, if_false] at hri
      clear hinv
      try simp -dsimp (maxSteps := 1000000) only [go_sem, List.forall_mem_nil, ↓reduceIte, Nat.reduceEqDiff, Nat.reduceLT, Nat.reduceLeDiff, Nat.reduceAdd, Nat.reduceMul, reduceCtorEq, Tryz.f51, hI2, hwr, run_order_1 h1' h2 h3 h5, hr, hsR, hm2, rowsM_len]
      exact ⟨⟨i + 1, by omega, hri⟩, by simp only []; omega, [], [], by (simp only [go_sem, eq_self, MvRb, MvRn, MvRt, List.nodup_cons, List.nodup_nil, ↓reduceIte, Nat.reduceEqDiff, Nat.reduceLT, Nat.reduceLeDiff, reduceCtorEq, List.forall_mem_nil, Nat.zero_le, false_implies, List.mem_singleton, hm2]) <;> simp [lk, MvB_im, hm2]⟩
    | true =>
      simp only [hr, if_true] at hri
      rw [hri, if_neg (by omega)] at hinv
      have hb : ((out ++ [(i : Int)]).length * 8 ≤ 140737488355328) = True := bytes_sm (by simp; omega) (by decide)
      have hm3 : MvB false (.t (.own 1 (tI (rowsN (out ++ [(i : Int)]))))) = True := eq_true (.t _ (.own _ _ (sc_false _ 1)))
      try simp -dsimp (maxSteps := 1000000) only [go_sem, List.forall_mem_nil, ↓reduceIte, Nat.reduceEqDiff, Nat.reduceLT, Nat.reduceLeDiff, Nat.reduceAdd, Nat.reduceMul, reduceCtorEq, Tryz.f51, hI2, hI3, run_order_1 h1' h2 h3 h5, hr, hsR, hm2, hb, rowsM_len, tI_len, rowsN_len, appendH, srcRows, List.take_succ_cons, List.take_zero, List.all_cons, List.all_nil, okT, Bool.and_true, tIN_app]
      exact ⟨⟨out ++ [(i : Int)], by simp; omega, by rw [List.length_append]; exact hinv⟩, by simp only [List.length_append, List.length_cons, List.length_nil]; omega, [.fold 2 0 0], [], by (simp only [go_sem, eq_self, MvRb, MvRn, MvRt, List.nodup_cons, List.nodup_nil, ↓reduceIte, Nat.reduceEqDiff, Nat.reduceLT, Nat.reduceLeDiff, reduceCtorEq, List.forall_mem_nil, Nat.zero_le, false_implies, List.mem_singleton, hm3, tI_len, rowsN_len]) <;> simp [lk, MvB_im, hm3]⟩
  · have hI2 : ((i : Int) < (ms.length : Int)) = False := by simp; omega
    have hie : i = ms.length := by omega
    subst hie
    rw [Nat.sub_self] at hri
    simp only [readyIdx] at hri
    rw [if_pos hri] at hinv
    try simp -dsimp (maxSteps := 1000000) only [go_sem, List.forall_mem_nil, ↓reduceIte, Nat.reduceEqDiff, Nat.reduceLT, Nat.reduceLeDiff, Nat.reduceAdd, Nat.reduceMul, reduceCtorEq, Tryz.f51, hI2, rowsM_len, hinv, oOrder]
    refine finF_i [] ?_
    simp -dsimp (maxSteps := 1000000) only [go_sem, List.forall_mem_nil, ↓reduceIte, Nat.reduceEqDiff, Nat.reduceLT, Nat.reduceLeDiff, Nat.reduceAdd, Nat.reduceMul, reduceCtorEq, hinv, oOrder]
end Go.SX
set_option linter.unusedVariables false
set_option linter.unusedSimpArgs false
namespace Go.SX
open Go Go.Proofs
def cabF (n : Nat) (c : Cbl) : Bool := decide (0 ≤ c.1) && (decide (c.1 < n) && (decide (0 ≤ c.2) && decide (c.2 < n)))
def isRackF (ms : List Mod) (cs : List Cbl) : Bool := decide (ms.length ≤ 16) && (decide (cs.length ≤ 40) && (ms.all isModuleF && (cs.all (cabF ms.length) && (orderF ms cs).isSome)))
theorem all_drop {α : Type} {f : α → Bool} {l : List α} {k : Nat} {p : α} (h : l[k]? = some p) : (l.drop k).all f = (f p && (l.drop (k + 1)).all f) := by
  have hlt : k < l.length := (List.getElem?_eq_some_iff.1 h).1
  have hp : l[k] = p := by rw [List.getElem?_eq_getElem hlt] at h; injection h
  rw [List.drop_eq_getElem_cons hlt, hp, List.all_cons]
structure ARo where
  ms : List Mod
  cs : List Cbl
  ml : ms.length ≤ sm
  cl : cs.length ≤ sm
  ok : ∀ m ∈ ms, OkM m
noncomputable def ct_IsRack : Ct := fam true (fun x : ARo => ([.agg [.im (.sl 11 (rowsM x.ms)), .im (.sl 2 (rowsC x.cs))]], [])) (fun x => .one { val := .c (.im (.bool (isRackF x.ms x.cs))) })
theorem run_IsRack {ms : List Mod} {cs : List Cbl} (h1 : ms.length ≤ sm) (h2 : cs.length ≤ sm) (h5 : ∀ m ∈ ms, OkM m) : ct_IsRack.run [.agg [.im (.sl 11 (rowsM ms)), .im (.sl 2 (rowsC cs))]] [] = some (.one { val := .c (.im (.bool (isRackF ms cs))) }) := by
  refine fam_run' (args := fun x : ARo => ([D.agg [.im (.sl 11 (rowsM x.ms)), .im (.sl 2 (rowsC x.cs))]], [])) ?_ ⟨ms, cs, h1, h2, h5⟩
  rintro ⟨a, b, _, _, _⟩ ⟨a', b', _, _, _⟩ h
  simp [rowsM_eq, rowsC_eq] at h ⊢
  exact h
theorem Mod_eta (m : Mod) : (⟨m.kind, (m.turn.1, m.turn.2), (m.state.1, m.state.2), m.level, m.store, m.rat, m.rcnt, m.pts, m.lab, m.count, m.left⟩ : Mod) = m := rfl
set_option maxRecDepth 100000 in
set_option maxHeartbeats 8000000 in
theorem law_IsRack : Law Tryz.prog 32 ct_IsRack := by
  refine fam_law (Env_cons law_IsModule (Env_cons law_order Env_nil)) hmixA Tryz.func32 rfl rfl (fun ⟨ms, cs, h1, h2, h5⟩ => ⟨okO_im rfl, by simp [Tryz.f32], ?_⟩)
  by_cases hm : ms.length ≤ 16
  rotate_left
  · have e1 : ((16 : Int) < (ms.length : Int)) = True := by simp; omega
    have hF : isRackF ms cs = false := by simp only [isRackF, decide_eq_false hm, Bool.false_and]
    clear hm
    try simp -dsimp (maxSteps := 1000000) only [go_sem, List.forall_mem_nil, ↓reduceIte, Nat.reduceEqDiff, Nat.reduceLT, Nat.reduceLeDiff, Nat.reduceAdd, Nat.reduceMul, reduceCtorEq, Tryz.f32, rowsM_len, rowsC_len, e1, hF]
  have e1 : ((16 : Int) < (ms.length : Int)) = False := by simp; omega
  by_cases hc : cs.length ≤ 40
  rotate_left
  · have e2 : ((40 : Int) < (cs.length : Int)) = True := by simp; omega
    have hF : isRackF ms cs = false := by simp only [isRackF, decide_eq_false hc, Bool.false_and, Bool.and_false]
    clear hc
    try simp -dsimp (maxSteps := 1000000) only [go_sem, List.forall_mem_nil, ↓reduceIte, Nat.reduceEqDiff, Nat.reduceLT, Nat.reduceLeDiff, Nat.reduceAdd, Nat.reduceMul, reduceCtorEq, Tryz.f32, rowsM_len, rowsC_len, e1, e2, hF]
  have e2 : ((40 : Int) < (cs.length : Int)) = False := by simp; omega
  have hF : isRackF ms cs = (ms.all isModuleF && (cs.all (cabF ms.length) && (orderF ms cs).isSome)) := by simp only [isRackF, decide_eq_true hm, decide_eq_true hc, Bool.true_and]
  rw [hF]
  clear hF
  try simp -dsimp (maxSteps := 1000000) only [go_sem, List.forall_mem_nil, ↓reduceIte, Nat.reduceEqDiff, Nat.reduceLT, Nat.reduceLeDiff, Nat.reduceAdd, Nat.reduceMul, reduceCtorEq, Tryz.f32, rowsM_len, rowsC_len, e1, e2]
  refine loop_i (ι := { k : Nat // k ≤ ms.length ∧ ms.all isModuleF = (ms.drop k).all isModuleF }) (fun k => ⟨[(1, some (.c (.ptr 0 0 0 0))), (20, some (.c (.im (.sl 11 (rowsM ms))))), (21, some (.c (.im (.int .i64 (ms.length : Int))))), (22, some (.c (.im (.int .i64 (k.1 : Int)))))],
    [(0, some (.box [.t (.im (.sl 11 (rowsM ms))), .t (.im (.sl 2 (rowsC cs)))]))], 1⟩) (fun k => ms.length - k.1) ⟨0, by simp⟩ ⟨[], [], by ((simp only [go_sem, eq_self, MvRb, MvRn, MvRt, List.nodup_cons, List.nodup_nil, ↓reduceIte, Nat.reduceEqDiff, Nat.reduceLT, Nat.reduceLeDiff, reduceCtorEq, List.forall_mem_nil, Nat.zero_le, false_implies, List.mem_singleton]) <;> (try (simp -dsimp only [go_sem, eq_self, MvRb, MvRn, MvRt, List.nodup_cons, List.nodup_nil, ↓reduceIte, Nat.reduceEqDiff, Nat.reduceLT, Nat.reduceLeDiff, reduceCtorEq, List.forall_mem_nil, Nat.zero_le, false_implies, List.mem_singleton]))) <;> simp [lk, MvB_im]⟩ (fun ⟨k, hk, hinv⟩ => ?_)
  by_cases hlt : k < ms.length
  · obtain ⟨m, hp⟩ : ∃ p, ms[k]? = some p := ⟨_, List.getElem?_eq_getElem hlt⟩
    have hrow := rowsM_at hp
    have hI : ((k : Int) < (ms.length : Int)) = True := by simp; omega
    have h0 : (0 ≤ (k : Int)) = True := by simp
    have hidx := all_drop (f := isModuleF) hp
    have hwr := lt_sm h1 hlt
    obtain ⟨q1, q2, q3⟩ := h5 m (List.mem_of_getElem? hp)
    rw [hidx] at hinv
    clear hidx
    cases hq : isModuleF m with
    | false =>
      simp only [hq, Bool.false_and] at hinv
      try simp -dsimp (maxSteps := 1000000) only [go_sem, List.forall_mem_nil, ↓reduceIte, Nat.reduceEqDiff, Nat.reduceLT, Nat.reduceLeDiff, Nat.reduceAdd, Nat.reduceMul, reduceCtorEq, Tryz.f32, hI, h0, Int.toNat_natCast, hrow, run_IsModule q1 q2 q3, Mod_eta, hq, hinv, Bool.false_and]
    | true =>
      simp only [hq, Bool.true_and] at hinv
      try simp -dsimp (maxSteps := 1000000) only [go_sem, List.forall_mem_nil, ↓reduceIte, Nat.reduceEqDiff, Nat.reduceLT, Nat.reduceLeDiff, Nat.reduceAdd, Nat.reduceMul, reduceCtorEq, Tryz.f32, hI, h0, Int.toNat_natCast, hrow, run_IsModule q1 q2 q3, Mod_eta, hq, hwr]
      exact ⟨⟨k + 1, by omega, hinv⟩, by simp only []; omega, [], [], by (simp only [go_sem, eq_self, MvRb, MvRn, MvRt, List.nodup_cons, List.nodup_nil, ↓reduceIte, Nat.reduceEqDiff, Nat.reduceLT, Nat.reduceLeDiff, reduceCtorEq, List.forall_mem_nil, Nat.zero_le, false_implies, List.mem_singleton]) <;> simp [lk, MvB_im]⟩
  have hI : ((k : Int) < (ms.length : Int)) = False := by simp; omega
  have hkl : k = ms.length := by omega
  subst hkl
  rw [List.drop_length, List.all_nil] at hinv
  clear hlt
  try simp -dsimp (maxSteps := 1000000) only [go_sem, List.forall_mem_nil, ↓reduceIte, Nat.reduceEqDiff, Nat.reduceLT, Nat.reduceLeDiff, Nat.reduceAdd, Nat.reduceMul, reduceCtorEq, Tryz.f32, hI, rowsM_len, rowsC_len]
  refine loop_i (ι := { k : Nat // k ≤ cs.length ∧ cs.all (cabF ms.length) = (cs.drop k).all (cabF ms.length) }) (fun k => ⟨[(1, some (.c (.ptr 0 0 0 0))), (31, some (.c (.im (.sl 2 (rowsC cs))))), (32, some (.c (.im (.int .i64 (cs.length : Int))))), (33, some (.c (.im (.int .i64 (k.1 : Int)))))],
    [(0, some (.box [.t (.im (.sl 11 (rowsM ms))), .t (.im (.sl 2 (rowsC cs)))]))], 1⟩) (fun k => cs.length - k.1) ⟨0, by simp⟩ ⟨[], [], by ((simp only [go_sem, eq_self, MvRb, MvRn, MvRt, List.nodup_cons, List.nodup_nil, ↓reduceIte, Nat.reduceEqDiff, Nat.reduceLT, Nat.reduceLeDiff, reduceCtorEq, List.forall_mem_nil, Nat.zero_le, false_implies, List.mem_singleton]) <;> (try (simp -dsimp only [go_sem, eq_self, MvRb, MvRn, MvRt, List.nodup_cons, List.nodup_nil, ↓reduceIte, Nat.reduceEqDiff, Nat.reduceLT, Nat.reduceLeDiff, reduceCtorEq, List.forall_mem_nil, Nat.zero_le, false_implies, List.mem_singleton]))) <;> simp [lk, MvB_im]⟩ (fun ⟨k, hk, hinv2⟩ => ?_)
  by_cases hlt : k < cs.length
  · obtain ⟨⟨a, b⟩, hp⟩ : ∃ p, cs[k]? = some p := ⟨_, List.getElem?_eq_getElem hlt⟩
    have hrow := rowsC_at hp
    have hI : ((k : Int) < (cs.length : Int)) = True := by simp; omega
    have h0 : (0 ≤ (k : Int)) = True := by simp
    have hidx := all_drop (f := cabF ms.length) hp
    have hwr := lt_sm h2 hlt
    rw [hidx] at hinv2
    clear hidx
    by_cases hq : 0 ≤ a ∧ a < ms.length ∧ 0 ≤ b ∧ b < ms.length
    · obtain ⟨k1, k2, k3, k4⟩ := hq
      have g1 : (a < 0) = False := eq_false (by omega)
      have g2 : ((ms.length : Int) ≤ a) = False := eq_false (by omega)
      have g3 : (b < 0) = False := eq_false (by omega)
      have g4 : ((ms.length : Int) ≤ b) = False := eq_false (by omega)
      have hcab : cabF ms.length (a, b) = true := by simp [cabF, k1, k2, k3, k4]
      rw [hcab, Bool.true_and] at hinv2
      clear k1 k2 k3 k4 hcab
      try simp -dsimp (maxSteps := 1000000) only [go_sem, List.forall_mem_nil, ↓reduceIte, Nat.reduceEqDiff, Nat.reduceLT, Nat.reduceLeDiff, Nat.reduceAdd, Nat.reduceMul, reduceCtorEq, Tryz.f32, hI, h0, Int.toNat_natCast, hrow, rowsM_len, g1, g2, g3, g4, hwr]
      exact ⟨⟨k + 1, by omega, hinv2⟩, by simp only []; omega, [], [], by (simp only [go_sem, eq_self, MvRb, MvRn, MvRt, List.nodup_cons, List.nodup_nil, ↓reduceIte, Nat.reduceEqDiff, Nat.reduceLT, Nat.reduceLeDiff, reduceCtorEq, List.forall_mem_nil, Nat.zero_le, false_implies, List.mem_singleton]) <;> simp [lk, MvB_im]⟩
    · have hcab : cabF ms.length (a, b) = false := by
        cases hcb : cabF ms.length (a, b) with
        | false => rfl
        | true => simp [cabF] at hcb; exact absurd hcb hq
      rw [hcab, Bool.false_and] at hinv2
      clear hcab
      by_cases p1 : a < 0
      · have e1 := eq_true p1
        clear p1
        try simp -dsimp (maxSteps := 1000000) only [go_sem, List.forall_mem_nil, ↓reduceIte, Nat.reduceEqDiff, Nat.reduceLT, Nat.reduceLeDiff, Nat.reduceAdd, Nat.reduceMul, reduceCtorEq, Tryz.f32, hI, h0, Int.toNat_natCast, hrow, rowsM_len, hinv, hinv2, Bool.true_and, Bool.false_and, e1]
      have e1 := eq_false p1
      by_cases p2 : (ms.length : Int) ≤ a
      · have e2 := eq_true p2
        clear p2
        try simp -dsimp (maxSteps := 1000000) only [go_sem, List.forall_mem_nil, ↓reduceIte, Nat.reduceEqDiff, Nat.reduceLT, Nat.reduceLeDiff, Nat.reduceAdd, Nat.reduceMul, reduceCtorEq, Tryz.f32, hI, h0, Int.toNat_natCast, hrow, rowsM_len, hinv, hinv2, Bool.true_and, Bool.false_and, e1, e2]
      have e2 := eq_false p2
      by_cases p3 : b < 0
      · have e3 := eq_true p3
        clear p3
        try simp -dsimp (maxSteps := 1000000) only [go_sem, List.forall_mem_nil, ↓reduceIte, Nat.reduceEqDiff, Nat.reduceLT, Nat.reduceLeDiff, Nat.reduceAdd, Nat.reduceMul, reduceCtorEq, Tryz.f32, hI, h0, Int.toNat_natCast, hrow, rowsM_len, hinv, hinv2, Bool.true_and, Bool.false_and, e1, e2, e3]
      have e3 := eq_false p3
      by_cases p4 : (ms.length : Int) ≤ b
      · have e4 := eq_true p4
        clear p4
        try simp -dsimp (maxSteps := 1000000) only [go_sem, List.forall_mem_nil, ↓reduceIte, Nat.reduceEqDiff, Nat.reduceLT, Nat.reduceLeDiff, Nat.reduceAdd, Nat.reduceMul, reduceCtorEq, Tryz.f32, hI, h0, Int.toNat_natCast, hrow, rowsM_len, hinv, hinv2, Bool.true_and, Bool.false_and, e1, e2, e3, e4]
      have e4 := eq_false p4
      exfalso; apply hq; omega
  have hI2 : ((k : Int) < (cs.length : Int)) = False := by simp; omega
  have hkl : k = cs.length := by omega
  subst hkl
  rw [List.drop_length, List.all_nil] at hinv2
  have h6 : ∀ c ∈ cs, 0 ≤ c.1 ∧ c.1 < ms.length := by
    intro c hc2
    have := List.all_eq_true.1 hinv2 c hc2
    simp [cabF] at this
    exact ⟨this.1, this.2.1⟩
  cases ho : orderF ms cs with
  | none =>
    try simp -dsimp (maxSteps := 1000000) only [go_sem, List.forall_mem_nil, ↓reduceIte, Nat.reduceEqDiff, Nat.reduceLT, Nat.reduceLeDiff, Nat.reduceAdd, Nat.reduceMul, reduceCtorEq, Tryz.f32, hI2, sc_order, run_order hm h2 h6, ho, oOrder, hinv, hinv2, Bool.true_and, Option.isSome_none]
  | some l =>
    try simp -dsimp (maxSteps := 1000000) only [go_sem, List.forall_mem_nil, ↓reduceIte, Nat.reduceEqDiff, Nat.reduceLT, Nat.reduceLeDiff, Nat.reduceAdd, Nat.reduceMul, reduceCtorEq, Tryz.f32, hI2, sc_order, run_order hm h2 h6, ho, oOrder, hinv, hinv2, Bool.true_and]
end Go.SX
set_option linter.unusedVariables false
set_option linter.unusedSimpArgs false
namespace Go.SX
open Go Go.Proofs
def feedsF (cs : List Cbl) (i : Int) : List Int := (cs.filter fun c => decide (c.2 = i)).map (·.1)
theorem feeds_le (cs : List Cbl) (i : Int) : (feedsF cs i).length ≤ cs.length := by simp [feedsF, List.length_filter_le]
theorem take_snoc {α : Type} {l : List α} {k : Nat} {p : α} (h : l[k]? = some p) : l.take (k + 1) = l.take k ++ [p] := by
  have hlt : k < l.length := (List.getElem?_eq_some_iff.1 h).1
  have hp : l[k] = p := by rw [List.getElem?_eq_getElem hlt] at h; injection h
  rw [List.take_succ_eq_append_getElem hlt, hp]
theorem feeds_snoc_t {cs : List Cbl} {k : Nat} {a b i : Int} (h : cs[k]? = some (a, b)) (hb : b = i) : feedsF (cs.take (k + 1)) i = feedsF (cs.take k) i ++ [a] := by
  rw [take_snoc h]; simp [feedsF, hb]
theorem feeds_snoc_f {cs : List Cbl} {k : Nat} {a b i : Int} (h : cs[k]? = some (a, b)) (hb : ¬ b = i) : feedsF (cs.take (k + 1)) i = feedsF (cs.take k) i := by
  rw [take_snoc h]; simp [feedsF, hb]
noncomputable def ct_feeds : Ct := fam true (fun x : { x : List Mod × List Cbl // x.2.length ≤ sm } × Int => ([.agg [.im (.sl 11 (rowsM x.1.1.1)), .im (.sl 2 (rowsC x.1.1.2))], .c (.im (.int .i64 x.2))], [])) (fun x => .one (rNew 1 (rowsN (feedsF x.1.1.2 x.2))))
theorem run_feeds {ms : List Mod} {cs : List Cbl} (h2 : cs.length ≤ sm) (i : Int) : ct_feeds.run [.agg [.im (.sl 11 (rowsM ms)), .im (.sl 2 (rowsC cs))], .c (.im (.int .i64 i))] [] = some (.one (rNew 1 (rowsN (feedsF cs i)))) := by
  refine fam_run' (args := fun x : { x : List Mod × List Cbl // x.2.length ≤ sm } × Int => ([D.agg [.im (.sl 11 (rowsM x.1.1.1)), .im (.sl 2 (rowsC x.1.1.2))], .c (.im (.int .i64 x.2))], [])) ?_ (⟨(ms, cs), h2⟩, i)
  rintro ⟨⟨⟨a, b⟩, _⟩, c⟩ ⟨⟨⟨a', b'⟩, _⟩, c'⟩ h
  simp [rowsM_eq, rowsC_eq] at h ⊢
  simp [h]
set_option maxRecDepth 100000 in
set_option maxHeartbeats 4000000 in
theorem law_feeds : Law Tryz.prog 55 ct_feeds := by
  refine fam_law Env_nil hmixA Tryz.func55 rfl rfl (fun ⟨⟨⟨ms, cs⟩, h2⟩, i⟩ => ⟨okO (okR_new (sc_rowsN _)), by simp [Tryz.f55], ?_⟩)
  simp only at h2
  simp only [rNew]
  try simp -dsimp (maxSteps := 1000000) only [go_sem, List.forall_mem_nil, ↓reduceIte, Nat.reduceEqDiff, Nat.reduceLT, Nat.reduceLeDiff, Nat.reduceAdd, Nat.reduceMul, reduceCtorEq, Tryz.f55, rowsC_len]
  refine loop_i (ι := { k : Nat // k ≤ cs.length }) (fun k => ⟨[(1, some (.c (.im (.int .i64 i)))), (5, some (.c (.view 1 1 0 (feedsF (cs.take k.1) i).length))), (10, some (.c (.im (.sl 2 (rowsC cs))))), (11, some (.c (.im (.int .i64 (cs.length : Int))))), (12, some (.c (.im (.int .i64 (k.1 : Int)))))],
    [(1, some (.arr 1 (tI (rowsN (feedsF (cs.take k.1) i)))))], 2⟩) (fun k => cs.length - k.1) ⟨0, by simp⟩ ⟨[], [], by ((simp only [go_sem, eq_self, MvRb, MvRn, MvRt, List.nodup_cons, List.nodup_nil, ↓reduceIte, Nat.reduceEqDiff, Nat.reduceLT, Nat.reduceLeDiff, reduceCtorEq, List.forall_mem_nil, Nat.zero_le, false_implies, List.mem_singleton, tI, rowsN, feedsF, List.take_zero, List.filter_nil]) <;> (try (simp -dsimp only [go_sem, eq_self, MvRb, MvRn, MvRt, List.nodup_cons, List.nodup_nil, ↓reduceIte, Nat.reduceEqDiff, Nat.reduceLT, Nat.reduceLeDiff, reduceCtorEq, List.forall_mem_nil, Nat.zero_le, false_implies, List.mem_singleton, tI, rowsN, feedsF, List.take_zero, List.filter_nil]))) <;> simp [lk, MvB_im]⟩ (fun ⟨k, hk⟩ => ?_)
  have hfl : (feedsF (cs.take k) i).length ≤ k := Nat.le_trans (feeds_le _ _) (List.length_take_le _ _)
  by_cases hlt : k < cs.length
  · obtain ⟨⟨a, b⟩, hp⟩ : ∃ p, cs[k]? = some p := ⟨_, List.getElem?_eq_getElem hlt⟩
    have hrow := rowsC_at hp
    have hI : ((k : Int) < (cs.length : Int)) = True := by simp; omega
    have h0 : (0 ≤ (k : Int)) = True := by simp
    have hwr := lt_sm h2 hlt
    by_cases hb : b = i
    · have hf := feeds_snoc_t hp hb
      have hb' := eq_true hb
      clear hb
      have hby : ((feedsF (cs.take k) i ++ [a]).length * 8 ≤ 140737488355328) = True := bytes_sm (by simp; omega) (by decide)
      try simp -dsimp (maxSteps := 1000000) only [go_sem, List.forall_mem_nil, ↓reduceIte, Nat.reduceEqDiff, Nat.reduceLT, Nat.reduceLeDiff, Nat.reduceAdd, Nat.reduceMul, reduceCtorEq, Tryz.f55, hI, h0, Int.toNat_natCast, hrow, hb', hwr, hby, tI_len, rowsN_len, appendH, srcRows, List.take_succ_cons, List.take_zero, List.all_cons, List.all_nil, okT, Bool.and_true, tIN_app]
      exact ⟨⟨k + 1, by omega⟩, by simp only []; omega, [], [4], by (simp only [go_sem, eq_self, MvRb, MvRn, MvRt, List.nodup_cons, List.nodup_nil, ↓reduceIte, Nat.reduceEqDiff, Nat.reduceLT, Nat.reduceLeDiff, reduceCtorEq, List.forall_mem_nil, Nat.zero_le, false_implies, List.mem_singleton, hf]) <;> simp [lk, MvB_im]⟩
    · have hf := feeds_snoc_f hp hb
      have hb' := eq_false hb
      clear hb
      try simp -dsimp (maxSteps := 1000000) only [go_sem, List.forall_mem_nil, ↓reduceIte, Nat.reduceEqDiff, Nat.reduceLT, Nat.reduceLeDiff, Nat.reduceAdd, Nat.reduceMul, reduceCtorEq, Tryz.f55, hI, h0, Int.toNat_natCast, hrow, hb', hwr]
      exact ⟨⟨k + 1, by omega⟩, by simp only []; omega, [], [], by (simp only [go_sem, eq_self, MvRb, MvRn, MvRt, List.nodup_cons, List.nodup_nil, ↓reduceIte, Nat.reduceEqDiff, Nat.reduceLT, Nat.reduceLeDiff, reduceCtorEq, List.forall_mem_nil, Nat.zero_le, false_implies, List.mem_singleton, hf]) <;> simp [lk, MvB_im]⟩
  have hI : ((k : Int) < (cs.length : Int)) = False := by simp; omega
  have hkl : k = cs.length := by omega
  subst hkl
  rw [List.take_length]
  try simp -dsimp (maxSteps := 1000000) only [go_sem, List.forall_mem_nil, ↓reduceIte, Nat.reduceEqDiff, Nat.reduceLT, Nat.reduceLeDiff, Nat.reduceAdd, Nat.reduceMul, reduceCtorEq, Tryz.f55, hI, rowsN_len]
  refine ⟨[_], ?_, ?_, ?_, rfl⟩ <;> simp [rtOk]
end Go.SX
set_option linter.unusedVariables false
set_option linter.unusedSimpArgs false
namespace Go.SX
open Go Go.Proofs
def tM (ms : List Mod) : List (List T) := ms.map modT
theorem lentR_tM (ms : List Mod) {sz : Nat} : lentR (.arr sz (tM ms)) = [] := by
  simp only [lentR, tM, List.flatMap_eq_nil_iff, List.mem_map]
  rintro r ⟨m, _, rfl⟩ t ht
  simp only [modT, List.mem_cons, List.not_mem_nil, or_false] at ht
  rcases ht with rfl | rfl | rfl | rfl | rfl | rfl | rfl | rfl | rfl | rfl | rfl <;> rfl
attribute [go_sem] lentR_tM
theorem mv_own {sc : Bool} {sz : Nat} {rows : List (List I)} (h : ∀ r ∈ rows, ∀ i ∈ r, scI i = true) : Mv sc (.own sz (tI rows)) := .own _ _ (mvR_tI (sz := sz) h)
theorem bytes_big {n k : Nat} (h : n ≤ sm + 1) (hk : k ≤ 4096) : (n * k ≤ 140737488355328) = True := by
  have : sm = 16777216 := rfl
  simp only [eq_iff_iff, iff_true]
  calc n * k ≤ 16777217 * 4096 := Nat.mul_le_mul (by omega) hk
    _ ≤ _ := by decide
end Go.SX
set_option linter.unusedVariables false
set_option linter.unusedSimpArgs false
namespace Go.SX
open Go Go.Proofs
abbrev Or := (Nat × Nat) × (Nat × Nat)
structure OkS (m : Mod) : Prop where
  ok : OkM m
  ring : m.kind = 4 → 0 ≤ m.rat ∧ m.rat < m.store.length
  hold : m.kind = 8 → 1 ≤ m.count ∧ m.count ≤ 100 ∧ 0 ≤ m.left ∧ m.left < m.count
theorem nearGo_lt (z : Pt) (n : Nat) : ∀ (l : List Pt) (k : Nat) (b : Int) (m : Nat), b < n → k + l.length = n → nearGo z l k b m < n
  | [], k, b, m, hb, hk => hb
  | p :: l, k, b, m, hb, hk => by
    simp only [nearGo]
    simp at hk
    split
    · exact nearGo_lt z n l (k + 1) k _ (by omega) (by omega)
    · exact nearGo_lt z n l (k + 1) b m hb (by omega)
end Go.SX
set_option linter.unusedVariables false
set_option linter.unusedSimpArgs false
namespace Go.SX
open Go Go.Proofs
def ordL (ms : List Mod) (cs : List Cbl) : List Int := (orderF ms cs).getD []
theorem readyIdx_lt {ms : List Mod} {cs : List Cbl} {out : List Int} {n : Nat} (h : readyIdx ms cs out ms.length 0 = n) (hn : n ≠ ms.length) : n < ms.length := by
  have := readyIdx_le ms cs out ms.length 0; omega
theorem orderGo_lt {ms : List Mod} {cs : List Cbl} : ∀ (f : Nat) (out l : List Int), (∀ i ∈ out, 0 ≤ i ∧ i < ms.length) → orderGo ms cs f out = some l → ∀ i ∈ l, 0 ≤ i ∧ i < ms.length
  | 0, out, l, ho, h => by simp only [orderGo, Option.some.injEq] at h; subst h; exact ho
  | f + 1, out, l, ho, h => by
    simp only [orderGo] at h
    split at h
    · cases h
    · rename_i hn
      refine orderGo_lt f _ l (fun i hi => ?_) h
      rcases List.mem_append.1 hi with hi | hi
      · exact ho i hi
      · simp at hi; subst hi
        have := readyIdx_lt rfl hn
        omega
theorem orderGo_len {ms : List Mod} {cs : List Cbl} : ∀ (f : Nat) (out l : List Int), orderGo ms cs f out = some l → l.length = out.length + f
  | 0, out, l, h => by simp only [orderGo, Option.some.injEq] at h; subst h; rfl
  | f + 1, out, l, h => by
    simp only [orderGo] at h
    split at h
    · cases h
    · have := orderGo_len f _ l h
      simp at this; omega
end Go.SX
set_option linter.unusedVariables false
set_option linter.unusedSimpArgs false
namespace Go.SX
open Go Go.Proofs
structure ASt where
  ms : List Mod
  cs : List Cbl
  inn : Int
  z : Pt
  ml : ms.length ≤ 16
  cl : cs.length ≤ sm
  ok : ∀ m ∈ ms, OkS m
  cr : ∀ c ∈ cs, 0 ≤ c.1 ∧ c.1 < ms.length
end Go.SX
set_option linter.unusedVariables false
set_option linter.unusedSimpArgs false
namespace Go.SX
open Go Go.Proofs
theorem MvB_Z (l : List Pt) : MvB false (.t (.own 1 (tI (rowsZ l)))) = True := eq_true (.t _ (mv_own (sc_rowsZ _)))
theorem MvB_N (l : List Int) : MvB false (.t (.own 1 (tI (rowsN l)))) = True := eq_true (.t _ (mv_own (sc_rowsN _)))
end Go.SX
set_option linter.unusedVariables false
set_option linter.unusedSimpArgs false
namespace Go.SX
open Go Go.Proofs
structure RackOk (ms : List Mod) (cs : List Cbl) : Prop where
  ml : ms.length ≤ 16
  cl : cs.length ≤ 40
  ok : ∀ m ∈ ms, OkS m
  cr : ∀ c ∈ cs, 0 ≤ c.1 ∧ c.1 < ms.length ∧ 0 ≤ c.2 ∧ c.2 < ms.length
structure APl where
  ms : List Mod
  cs : List Cbl
  a : Int
  b : Int
structure ACr where
  ms : List Mod
  cs : List Cbl
  a : Int
  b : Int
  n : Int
  ml : ms.length ≤ sm
  cl : cs.length ≤ sm
  ok : ∀ m ∈ ms, OkM m
end Go.SX
set_option linter.unusedVariables false
set_option linter.unusedSimpArgs false
namespace Go.SX
open Go Go.Proofs
structure ARun where
  ms : List Mod
  cs : List Cbl
  a : Int
  b : Int
  xs : List Pt
  n : Int
  ml : ms.length ≤ sm
  cl : cs.length ≤ sm
  xl : xs.length ≤ sm
  ok : ∀ m ∈ ms, OkM m
end Go.SX
set_option linter.unusedVariables false
set_option linter.unusedSimpArgs false
namespace Go.SX
open Go Go.Proofs
structure ACk where
  m : Mod
  b : Bool
  ok : OkM m
  p : m.pts = []
  l : m.lab = []
  s : b = false → m.store = []
  v : isModuleF m = true
def zs (n : Nat) : List Pt := List.replicate n (0, 0)
end Go.SX
set_option linter.unusedVariables false
set_option linter.unusedSimpArgs false
namespace Go.SX
open Go Go.Proofs
def rowsB (l : List Int) : List (List I) := l.map fun b => [.int .u8 b]
theorem rowsB_len (l : List Int) : (rowsB l).length = l.length := by simp [rowsB]
theorem rowsB_at {l : List Int} {k : Nat} {b : Int} (h : l[k]? = some b) : (rowsB l)[k]? = some [.int .u8 b] := by simp [rowsB, h]
theorem rowsB_inj {a b : List Int} (h : rowsB a = rowsB b) : a = b := by
  induction a generalizing b with
  | nil => cases b with
    | nil => rfl
    | cons y b => simp [rowsB] at h
  | cons x a ih => cases b with
    | nil => simp [rowsB] at h
    | cons y b =>
      simp only [rowsB, List.map_cons, List.cons.injEq, I.int.injEq, true_and, and_true] at h
      rw [h.1, ih h.2]
structure ABy where
  l : List Int
  len : l.length ≤ 1048576
  by_ : ∀ b ∈ l, 0 ≤ b ∧ b < 256
def atF (l : List Int) (i : Nat) : Int := match l[i]? with
  | some b => b
  | none => ((i : Int) * 37 + l.length * 11) % 256
noncomputable def ct_at : Ct := fam true (fun x : ABy × { i : Nat // i ≤ 1000 } => ([.c (.im (.sl 1 (rowsB x.1.l))), .c (.im (.int .i64 (x.2.1 : Int)))], [])) (fun x => .one { val := .c (.im (.int .i64 (atF x.1.l x.2.1))) })
theorem run_at {l : List Int} (h1 : l.length ≤ 1048576) (h2 : ∀ b ∈ l, 0 ≤ b ∧ b < 256) {i : Nat} (hi : i ≤ 1000) : ct_at.run [.c (.im (.sl 1 (rowsB l))), .c (.im (.int .i64 (i : Int)))] [] = some (.one { val := .c (.im (.int .i64 (atF l i))) }) := by
  refine fam_run' (args := fun x : ABy × { i : Nat // i ≤ 1000 } => ([D.c (.im (.sl 1 (rowsB x.1.l))), .c (.im (.int .i64 (x.2.1 : Int)))], [])) ?_ (⟨l, h1, h2⟩, ⟨i, hi⟩)
  rintro ⟨⟨a, _, _⟩, ⟨i, _⟩⟩ ⟨⟨a', _, _⟩, ⟨i', _⟩⟩ h
  simp only [Prod.mk.injEq, List.cons.injEq, D.c.injEq, C.im.injEq, I.sl.injEq, I.int.injEq, true_and, and_true] at h
  obtain ⟨h, h'⟩ := h
  have h := rowsB_inj h
  have : i = i' := by omega
  subst this; subst h; rfl
set_option maxRecDepth 100000 in
theorem law_at : Law Tryz.prog 10 ct_at := by
  refine fam_law Env_nil hmixA Tryz.func10 rfl rfl (fun ⟨⟨l, h1, h2⟩, ⟨k, hk⟩⟩ => ⟨okO_im rfl, by simp [Tryz.f10], ?_⟩)
  simp only
  have h0 : (0 ≤ (k : Int)) = True := by simp
  by_cases hlt : k < l.length
  · obtain ⟨b, hb⟩ : ∃ b, l[k]? = some b := ⟨_, List.getElem?_eq_getElem hlt⟩
    have hrow := rowsB_at hb
    have hI : ((k : Int) < (l.length : Int)) = True := by simp; omega
    have hat : atF l k = b := by simp [atF, hb]
    obtain ⟨r1, r2⟩ := h2 b (List.mem_of_getElem? hb)
    have hw : IntKind.i64.wrap b = b := wrap_id (by omega) (by omega)
    try simp -dsimp (maxSteps := 1000000) only [go_sem, List.forall_mem_nil, ↓reduceIte, Nat.reduceEqDiff, Nat.reduceLT, Nat.reduceLeDiff, Nat.reduceAdd, Nat.reduceMul, reduceCtorEq, Tryz.f10, rowsB_len, h0, hI, Int.toNat_natCast, hrow, hat, hw]
  · have hI : ((k : Int) < (l.length : Int)) = False := by simp; omega
    have hat : atF l k = ((k : Int) * 37 + (l.length : Int) * 11) % 256 := by simp [atF, List.getElem?_eq_none (show l.length ≤ k by omega)]
    have w1 : IntKind.i64.wrap ((k : Int) * 37) = (k : Int) * 37 := wrap_id (by omega) (by omega)
    have w2 : IntKind.i64.wrap ((l.length : Int) * 11) = (l.length : Int) * 11 := wrap_id (by omega) (by omega)
    have w3 : IntKind.i64.wrap ((k : Int) * 37 + (l.length : Int) * 11) = (k : Int) * 37 + (l.length : Int) * 11 := wrap_id (by omega) (by omega)
    have w4 : ((k : Int) * 37 + (l.length : Int) * 11).tmod 256 = ((k : Int) * 37 + (l.length : Int) * 11) % 256 := Int.tmod_eq_emod_of_nonneg (by omega)
    have h256 : ((256 : Int) = 0) = False := by simp
    try simp -dsimp (maxSteps := 1000000) only [go_sem, List.forall_mem_nil, ↓reduceIte, Nat.reduceEqDiff, Nat.reduceLT, Nat.reduceLeDiff, Nat.reduceAdd, Nat.reduceMul, reduceCtorEq, Tryz.f10, rowsB_len, h0, hI, Int.toNat_natCast, hat, w1, w2, w3, w4, h256]
structure AEq where
  l : List Pt
  m : List Pt
  ll : l.length ≤ sm
  ml : m.length ≤ sm
end Go.SX
set_option linter.unusedVariables false
set_option linter.unusedSimpArgs false
namespace Go.SX
open Go Go.Proofs
structure ATr where
  ms : List Mod
  cs : List Cbl
  n : Int
  ml : ms.length ≤ sm
  cl : cs.length ≤ sm
  ok : ∀ m ∈ ms, OkM m
end Go.SX
set_option linter.unusedVariables false
set_option linter.unusedSimpArgs false
namespace Go.SX
open Go Go.Proofs
def dst (n : Nat) (x : Nat → Pt) : Nat → List Pt
  | 0 => List.replicate n (0, 0)
  | k + 1 => (dst n x k).set (k % n) (x k)
def g2 (d : Pt) : Pt := scaleF (addPt (0, 0) d) 1073741824
def g3 (d : Pt) : Pt := scaleF (addPt (0, 0) (g2 d)) 1056964608
end Go.SX
set_option linter.unusedVariables false
set_option linter.unusedSimpArgs false
namespace Go.SX
open Go Go.Proofs
abbrev LB := { l : List Int // ∀ b ∈ l, 0 ≤ b ∧ b < 256 }
theorem at_rng {l : List Int} (h : ∀ b ∈ l, 0 ≤ b ∧ b < 256) (i : Nat) : 0 ≤ atF l i ∧ atF l i < 256 := by
  unfold atF
  split
  · rename_i b hb
    exact h b (List.mem_of_getElem? hb)
  · omega
theorem at_mod {l : List Int} (h : ∀ b ∈ l, 0 ≤ b ∧ b < 256) (i m : Nat) (hm : 0 < m) : ∃ q : Nat, (atF l i).tmod (m : Int) = (q : Int) ∧ q < m := by
  obtain ⟨h1, _⟩ := at_rng h i
  refine ⟨((atF l i) % (m : Int)).toNat, ?_, ?_⟩
  · rw [Int.tmod_eq_emod_of_nonneg h1]
    have := Int.emod_nonneg (atF l i) (b := (m : Int)) (by omega)
    omega
  · have h2 := Int.emod_nonneg (atF l i) (b := (m : Int)) (by omega)
    have h3 := Int.emod_lt_of_pos (atF l i) (b := (m : Int)) (by omega)
    omega
noncomputable def ctLaw : Ct := fam true (fun x : LB => ([.c (.im (.sl 1 (rowsB x.1)))], [])) (fun _ => .one { val := .c (.im (.bool true)) })
theorem rowsZ_nil : rowsZ [] = [] := rfl
theorem rowsN_nil : rowsN [] = [] := rfl
end Go.SX
set_option linter.unusedVariables false
set_option linter.unusedSimpArgs false
namespace Go.SX
open Go Ieee
theorem log2_lt {m : Nat} (h : m < 16777216) : m.log2 ≤ 23 := by
  by_cases h0 : m = 0
  · subst h0; decide
  · have := (Nat.log2_lt h0 (k := 24)).2 (by omega)
    omega
def wI (n : Int) : Nat := FloatKind.f32.nearest n
end Go.SX
set_option linter.unusedVariables false
set_option linter.unusedSimpArgs false
namespace Go.SX
open Go Go.Proofs
theorem and255 (x : Int) : 0 ≤ bitsI .and .i64 x 255 ∧ bitsI .and .i64 x 255 < 256 := by
  have h : (BitVec.ofInt 64 x &&& BitVec.ofInt 64 255).toNat ≤ 255 := by
    rw [BitVec.toNat_and]
    have e2 : (BitVec.ofInt 64 255).toNat = 255 := by decide
    rw [e2]; exact Nat.and_le_right
  simp only [bitsI]
  rw [show (IntKind.i64.bits) = 64 from rfl, wrap_id (by omega) (by omega)]
  omega
def hsK (l : List Int) (a h : Int) : List (List B) := [[.t (.im (.sl 1 (rowsB l))), .t (.im (.int .i64 a)), .t (.im (.int .i64 h))]]
abbrev SK (l : List Int) := { q : Int × Int // 0 ≤ q.1 ∧ q.1 ≤ l.length }
structure AKn where
  l : List Int
  len : l.length ≤ 1048576
  by_ : ∀ b ∈ l, 0 ≤ b ∧ b < 256
  a : Int
  h : Int
  a0 : 0 ≤ a
  a1 : a ≤ l.length
theorem hsK_inj {l m : List Int} {a b h k : Int} (e : hsK l a h = hsK m b k) : l = m ∧ a = b ∧ h = k := by
  simp only [hsK, List.cons.injEq, B.t.injEq, T.im.injEq, I.sl.injEq, I.int.injEq, true_and, and_true] at e
  exact ⟨rowsB_inj e.1, e.2⟩
theorem AKn_ext {x y : AKn} (h : x.l = y.l ∧ x.a = y.a ∧ x.h = y.h) : x = y := by
  obtain ⟨l, _, _, a, h1, _, _⟩ := x
  obtain ⟨m, _, _, b, k, _, _⟩ := y
  obtain ⟨rfl, rfl, rfl⟩ := h
  rfl
theorem okK {v : D} {l : List Int} {a h : Int} {n : Nat} (hv : OkD false 0 v) : OkR false { val := v, places := hsK l a h } := by
  refine ⟨hv, by simp, fun c hc x hx => ?_⟩
  simp only [hsK, List.mem_cons, List.not_mem_nil, or_false] at hc
  subst hc
  simp only [List.mem_cons, List.not_mem_nil, or_false] at hx
  rcases hx with rfl | rfl | rfl <;> exact .t _ (.im _ (.inl rfl))
theorem okDi {i : I} : OkD false 0 (.c (.im i)) := .c _ (.im _ (.inl rfl))
abbrev QByte (l : List Int) := { q : Int × SK l // 0 ≤ q.1 ∧ q.1 < 256 }
def oByte (l : List Int) : Outs := .any (QByte l) (fun q => { val := .c (.im (.int .i64 q.1.1)), places := hsK l q.1.2.1.1 q.1.2.1.2 })
noncomputable def ct_l01Byte : Ct := fam false (fun x : AKn => ([.c (.ptr 0 0 0 0)], hsK x.l x.a x.h)) (fun x => oByte x.l)
theorem run_l01Byte {l : List Int} {a h : Int} (h1 : l.length ≤ 1048576) (h2 : ∀ b ∈ l, 0 ≤ b ∧ b < 256) (h3 : 0 ≤ a) (h4 : a ≤ l.length) : ct_l01Byte.run [.c (.ptr 0 0 0 0)] [[.t (.im (.sl 1 (rowsB l))), .t (.im (.int .i64 a)), .t (.im (.int .i64 h))]] = some (oByte l) := by
  refine fam_run' (args := fun x : AKn => ([D.c (.ptr 0 0 0 0)], hsK x.l x.a x.h)) (fun x y h => ?_) ⟨l, h1, h2, a, h, h3, h4⟩
  simp only [Prod.mk.injEq, true_and] at h
  exact AKn_ext (hsK_inj h)
theorem ne_byte (l : List Int) : Nonempty (QByte l) = True := by simp only [eq_iff_iff, iff_true]; exact ⟨⟨(0, ⟨(0, 0), by simp⟩), by simp⟩⟩
set_option maxRecDepth 100000 in
set_option maxHeartbeats 4000000 in
theorem law_l01Byte : Law Tryz.prog 103 ct_l01Byte := by
  refine fam_law Env_nil hmixA Tryz.func103 rfl rfl (fun ⟨l, h1, h2, a, h, h3, h4⟩ => ⟨okA (fun o => okK (n := 0) okDi), by simp [Tryz.f103], ?_⟩)
  simp only [oByte, hsK]
  have ha0 : (0 ≤ a) = True := eq_true h3
  obtain ⟨X1, hX1⟩ : ∃ x, IntKind.i64.wrap (h * 6364136223846793005) = x := ⟨_, rfl⟩
  obtain ⟨X2, hX2⟩ : ∃ x, IntKind.i64.wrap (X1 + 1442695040888963407) = x := ⟨_, rfl⟩
  obtain ⟨Y1, hY1⟩ : ∃ x, X2.fdiv (2 ^ min (Int.toNat 33) 64) = x := ⟨_, rfl⟩
  obtain ⟨Y2, hY2⟩ : ∃ x, X2.fdiv (2 ^ min (Int.toNat 45) 64) = x := ⟨_, rfl⟩
  obtain ⟨Z, hZ⟩ : ∃ x, bitsI .xor .i64 Y1 Y2 = x := ⟨_, rfl⟩
  obtain ⟨z1, z2⟩ := and255 Z
  by_cases hlt : a < l.length
  · have hI : (a < (l.length : Int)) = True := eq_true hlt
    obtain ⟨b, hb⟩ : ∃ b, l[a.toNat]? = some b := ⟨_, List.getElem?_eq_getElem (by omega)⟩
    have hrow := rowsB_at hb
    obtain ⟨r1, r2⟩ := h2 b (List.mem_of_getElem? hb)
    have hw : IntKind.i64.wrap b = b := wrap_id (by omega) (by omega)
    obtain ⟨V, hV⟩ : ∃ x, bitsI .and .i64 Z 255 = x := ⟨_, rfl⟩
    obtain ⟨U, hU⟩ : ∃ x, IntKind.i64.wrap (V + b) = x := ⟨_, rfl⟩
    obtain ⟨u1, u2⟩ := and255 U
    have hw1 : IntKind.i64.wrap (a + 1) = a + 1 := wrap_id (by omega) (by omega)
    try simp -dsimp (maxSteps := 1000000) only [go_sem, List.forall_mem_nil, ↓reduceIte, Nat.reduceEqDiff, Nat.reduceLT, Nat.reduceLeDiff, Nat.reduceAdd, Nat.reduceMul, reduceCtorEq, Tryz.f103, hX1, hX2, hY1, hY2, hZ, hV, hU, rowsB_len, ha0, hI, hrow, hw, hw1, Int.reduceLT, Int.reduceLE]
    repeat' (first
      | ((with_reducible refine sl_i ?_ ?_); focus kernel_rfl)
      | ((with_reducible refine ro_i ?_ ?_); focus kernel_rfl))
    exact ⟨⟨(_, ⟨(a + 1, X2), by omega⟩), u1, u2⟩, rfl, rfl⟩
  · have hI : (a < (l.length : Int)) = False := eq_false hlt
    try simp -dsimp (maxSteps := 1000000) only [go_sem, List.forall_mem_nil, ↓reduceIte, Nat.reduceEqDiff, Nat.reduceLT, Nat.reduceLeDiff, Nat.reduceAdd, Nat.reduceMul, reduceCtorEq, Tryz.f103, hX1, hX2, hY1, hY2, hZ, rowsB_len, ha0, hI, Int.reduceLT, Int.reduceLE]
    repeat' (first
      | ((with_reducible refine sl_i ?_ ?_); focus kernel_rfl)
      | ((with_reducible refine ro_i ?_ ?_); focus kernel_rfl))
    exact ⟨⟨(_, ⟨(a, X2), by omega⟩), z1, z2⟩, rfl, rfl⟩
theorem ne_int : Nonempty Int = True := by simp only [eq_iff_iff, iff_true]; exact ⟨0⟩
structure ABw where
  l : List Int
  len : l.length ≤ 1048576
  by_ : ∀ b ∈ l, 0 ≤ b ∧ b < 256
def oKNew (l : List Int) : Outs := .any Int (fun h => { val := .c (.ptr 0 0 0 0), roots := [.box [.t (.im (.sl 1 (rowsB l))), .t (.im (.int .i64 0)), .t (.im (.int .i64 h))]] })
noncomputable def ct_l01New : Ct := fam false (fun x : ABw => ([.c (.im (.sl 1 (rowsB x.l)))], [])) (fun x => oKNew x.l)
theorem ABw_ext {x y : ABw} (h : x.l = y.l) : x = y := by
  obtain ⟨l, _, _⟩ := x
  obtain ⟨m, _, _⟩ := y
  obtain rfl := h
  rfl
theorem run_l01New {l : List Int} (h1 : l.length ≤ 1048576) (h2 : ∀ b ∈ l, 0 ≤ b ∧ b < 256) : ct_l01New.run [.c (.im (.sl 1 (rowsB l)))] [] = some (oKNew l) := by
  refine fam_run' (args := fun x : ABw => ([D.c (.im (.sl 1 (rowsB x.l)))], [])) (fun x y h => ?_) ⟨l, h1, h2⟩
  simp only [Prod.mk.injEq, List.cons.injEq, D.c.injEq, C.im.injEq, I.sl.injEq, true_and, and_true] at h
  exact ABw_ext (rowsB_inj h)
theorem okKNew {l : List Int} {h : Int} : OkR false { val := .c (.ptr 0 0 0 0), roots := [.box [.t (.im (.sl 1 (rowsB l))), .t (.im (.int .i64 0)), .t (.im (.int .i64 h))]] } := by
  refine ⟨.c _ (.ptr _ _ _ _ (by simp)), fun r hr => ?_, by simp⟩
  simp only [List.mem_cons, List.not_mem_nil, or_false] at hr
  subst hr
  intro x hx
  simp only [List.mem_cons, List.not_mem_nil, or_false] at hx
  rcases hx with rfl | rfl | rfl <;> exact .t _ (.im _ (.inl rfl))
set_option maxRecDepth 100000 in
set_option maxHeartbeats 4000000 in
theorem law_l01New : Law Tryz.prog 29 ct_l01New := by
  refine fam_law Env_nil hmixA Tryz.func29 rfl rfl (fun ⟨l, h1, h2⟩ => ⟨okA (fun o => okKNew), by simp [Tryz.f29], ?_⟩)
  simp only [oKNew]
  obtain ⟨H, hH⟩ : ∃ x, IntKind.i64.wrap (3223 + (l.length : Int)) = x := ⟨_, rfl⟩
  try simp -dsimp (maxSteps := 1000000) only [go_sem, List.forall_mem_nil, ↓reduceIte, Nat.reduceEqDiff, Nat.reduceLT, Nat.reduceLeDiff, Nat.reduceAdd, Nat.reduceMul, reduceCtorEq, Tryz.f29, rowsB_len, hH]
  refine loop_i (ι := { k : Nat // k ≤ l.length } × Int) (fun x => ⟨[(0, some (.c (.im (.sl 1 (rowsB l))))), (3, some (.c (.im (.int .i64 x.2)))), (4, some (.c (.im (.int .i64 (x.1.1 : Int)))))], [], 0⟩) (fun x => l.length - x.1.1) (⟨0, by simp⟩, H) ⟨[], [], by ((simp only [go_sem, eq_self, MvRb, MvRn, MvRt, List.nodup_cons, List.nodup_nil, ↓reduceIte, Nat.reduceEqDiff, Nat.reduceLT, Nat.reduceLeDiff, reduceCtorEq, List.forall_mem_nil, Nat.zero_le, false_implies, List.mem_singleton]) <;> (try (simp -dsimp only [go_sem, eq_self, MvRb, MvRn, MvRt, List.nodup_cons, List.nodup_nil, ↓reduceIte, Nat.reduceEqDiff, Nat.reduceLT, Nat.reduceLeDiff, reduceCtorEq, List.forall_mem_nil, Nat.zero_le, false_implies, List.mem_singleton]))) <;> simp⟩ (fun ⟨⟨k, hk⟩, h⟩ => ?_)
  simp only
  by_cases hlt : k < l.length
  · have hI : ((k : Int) < (l.length : Int)) = True := eq_true (by omega)
    by_cases h4 : k < 4000
    · have h4' : ((k : Int) < 4000) = True := eq_true (by omega)
      obtain ⟨b, hb⟩ : ∃ b, l[k]? = some b := ⟨_, List.getElem?_eq_getElem (by omega)⟩
      have hrow := rowsB_at hb
      have h0 : (0 ≤ (k : Int)) = True := by simp
      have hwr : IntKind.i64.wrap ((k : Int) + 1) = (k : Int) + 1 := wrap_id (by omega) (by omega)
      obtain ⟨U, hU⟩ : ∃ x, IntKind.i64.wrap (h * 1103) = x := ⟨_, rfl⟩
      obtain ⟨U2, hU2⟩ : ∃ x, IntKind.i64.wrap (U + IntKind.i64.wrap b) = x := ⟨_, rfl⟩
      obtain ⟨U3, hU3⟩ : ∃ x, IntKind.i64.wrap (U2 + 7) = x := ⟨_, rfl⟩
      obtain ⟨U4, hU4⟩ : ∃ x, bitsI .and .i64 U3 1073741823 = x := ⟨_, rfl⟩
      try simp -dsimp (maxSteps := 1000000) only [go_sem, List.forall_mem_nil, ↓reduceIte, Nat.reduceEqDiff, Nat.reduceLT, Nat.reduceLeDiff, Nat.reduceAdd, Nat.reduceMul, reduceCtorEq, Tryz.f29, rowsB_len, hI, h4', hrow, h0, hwr, hU, hU2, hU3, hU4, Int.toNat_natCast]
      exact ⟨(⟨k + 1, by omega⟩, U4), by simp only []; omega, [], [], by ((simp only [go_sem, eq_self, MvRb, MvRn, MvRt, List.nodup_cons, List.nodup_nil, ↓reduceIte, Nat.reduceEqDiff, Nat.reduceLT, Nat.reduceLeDiff, reduceCtorEq, List.forall_mem_nil, Nat.zero_le, false_implies, List.mem_singleton]) <;> (try (simp -dsimp only [go_sem, eq_self, MvRb, MvRn, MvRt, List.nodup_cons, List.nodup_nil, ↓reduceIte, Nat.reduceEqDiff, Nat.reduceLT, Nat.reduceLeDiff, reduceCtorEq, List.forall_mem_nil, Nat.zero_le, false_implies, List.mem_singleton]))) <;> simp⟩
    · have h4' : ((k : Int) < 4000) = False := eq_false (by omega)
      try simp -dsimp (maxSteps := 1000000) only [go_sem, List.forall_mem_nil, ↓reduceIte, Nat.reduceEqDiff, Nat.reduceLT, Nat.reduceLeDiff, Nat.reduceAdd, Nat.reduceMul, reduceCtorEq, Tryz.f29, rowsB_len, hI, h4']
      exact ⟨h, [0], by simp, by simp, by simp [rtOk], rfl⟩
  · have hI : ((k : Int) < (l.length : Int)) = False := eq_false (by omega)
    try simp -dsimp (maxSteps := 1000000) only [go_sem, List.forall_mem_nil, ↓reduceIte, Nat.reduceEqDiff, Nat.reduceLT, Nat.reduceLeDiff, Nat.reduceAdd, Nat.reduceMul, reduceCtorEq, Tryz.f29, rowsB_len, hI]
    exact ⟨h, [0], by simp, by simp, by simp [rtOk], rfl⟩
abbrev QBelow (l : List Int) (n : Int) := { q : Int × SK l // 0 ≤ q.1 ∧ q.1 < n }
def oBelow (l : List Int) (n : Int) : Outs := .any (QBelow l n) (fun q => { val := .c (.im (.int .i64 q.1.1)), places := hsK l q.1.2.1.1 q.1.2.1.2 })
abbrev NB := { n : Int // 1 ≤ n ∧ n ≤ 2147483648 }
noncomputable def ct_l01Below : Ct := fam false (fun x : AKn × NB => ([.c (.ptr 0 0 0 0), .c (.im (.int .i64 x.2.1))], hsK x.1.l x.1.a x.1.h)) (fun x => oBelow x.1.l x.2.1)
theorem run_l01Below {l : List Int} {a h n : Int} (h1 : l.length ≤ 1048576) (h2 : ∀ b ∈ l, 0 ≤ b ∧ b < 256) (h3 : 0 ≤ a) (h4 : a ≤ l.length) (h5 : 1 ≤ n) (h6 : n ≤ 2147483648) : ct_l01Below.run [.c (.ptr 0 0 0 0), .c (.im (.int .i64 n))] [[.t (.im (.sl 1 (rowsB l))), .t (.im (.int .i64 a)), .t (.im (.int .i64 h))]] = some (oBelow l n) := by
  refine fam_run' (args := fun x : AKn × NB => ([D.c (.ptr 0 0 0 0), .c (.im (.int .i64 x.2.1))], hsK x.1.l x.1.a x.1.h)) (fun x y h => ?_) (⟨l, h1, h2, a, h, h3, h4⟩, ⟨n, h5, h6⟩)
  simp only [Prod.mk.injEq, List.cons.injEq, D.c.injEq, C.im.injEq, I.int.injEq, true_and, and_true] at h
  exact Prod.ext (AKn_ext (hsK_inj h.2)) (Subtype.ext h.1)
theorem ne_below (l : List Int) {n : Int} (h : 1 ≤ n) : Nonempty (QBelow l n) = True := by simp only [eq_iff_iff, iff_true]; exact ⟨⟨(0, ⟨(0, 0), by simp⟩), by simp only []; omega⟩⟩
set_option maxRecDepth 100000 in
set_option maxHeartbeats 4000000 in
theorem law_l01Below : Law Tryz.prog 58 ct_l01Below := by
  refine fam_law (Env_cons law_l01Byte Env_nil) hmixA Tryz.func58 rfl rfl (fun ⟨⟨l, h1, h2, a, h, h3, h4⟩, ⟨n, n1, n2⟩⟩ => ⟨okA (fun o => okK (n := 0) okDi), by simp [Tryz.f58], ?_⟩)
  simp only [oBelow, hsK]
  have e0 : (n ≤ 0) = False := eq_false (by omega)
  have e00 : (n = 0) = False := eq_false (by omega)
  by_cases hn : n ≤ 256
  · have e1 : (n ≤ 256) = True := eq_true hn
    try simp -dsimp (maxSteps := 1000000) only [go_sem, List.forall_mem_nil, ↓reduceIte, Nat.reduceEqDiff, Nat.reduceLT, Nat.reduceLeDiff, Nat.reduceAdd, Nat.reduceMul, reduceCtorEq, Tryz.f58, e0, e1, e00, run_l01Byte h1 h2 h3 h4, oByte, hsK, ne_byte]
    rintro ⟨⟨v, ⟨⟨a1, k1⟩, b1⟩⟩, v1, v2⟩
    try simp -dsimp (maxSteps := 1000000) only [go_sem, List.forall_mem_nil, ↓reduceIte, Nat.reduceEqDiff, Nat.reduceLT, Nat.reduceLeDiff, Nat.reduceAdd, Nat.reduceMul, reduceCtorEq, Tryz.f58, e0, e1, e00, hsK]
    exact ⟨⟨(_, ⟨(a1, k1), b1⟩), Int.tmod_nonneg _ v1, Int.tmod_lt_of_pos _ (by omega)⟩, rfl, rfl⟩
  · have e1 : (n ≤ 256) = False := eq_false hn
    try simp -dsimp (maxSteps := 1000000) only [go_sem, List.forall_mem_nil, ↓reduceIte, Nat.reduceEqDiff, Nat.reduceLT, Nat.reduceLeDiff, Nat.reduceAdd, Nat.reduceMul, reduceCtorEq, Tryz.f58, e0, e1, e00, run_l01Byte h1 h2 h3 h4, oByte, hsK, ne_byte]
    rintro ⟨⟨x, ⟨⟨a1, k1⟩, b1⟩⟩, x1, x2⟩
    try simp -dsimp (maxSteps := 1000000) only [go_sem, List.forall_mem_nil, ↓reduceIte, Nat.reduceEqDiff, Nat.reduceLT, Nat.reduceLeDiff, Nat.reduceAdd, Nat.reduceMul, reduceCtorEq, Tryz.f58, e00, run_l01Byte h1 h2 b1.1 b1.2, oByte, hsK, ne_byte]
    rintro ⟨⟨y, ⟨⟨a2, k2⟩, b2⟩⟩, y1, y2⟩
    try simp -dsimp (maxSteps := 1000000) only [go_sem, List.forall_mem_nil, ↓reduceIte, Nat.reduceEqDiff, Nat.reduceLT, Nat.reduceLeDiff, Nat.reduceAdd, Nat.reduceMul, reduceCtorEq, Tryz.f58, e00, run_l01Byte h1 h2 b2.1 b2.2, oByte, hsK, ne_byte]
    rintro ⟨⟨z, ⟨⟨a3, k3⟩, b3⟩⟩, z1, z2⟩
    try simp -dsimp (maxSteps := 1000000) only [go_sem, List.forall_mem_nil, ↓reduceIte, Nat.reduceEqDiff, Nat.reduceLT, Nat.reduceLeDiff, Nat.reduceAdd, Nat.reduceMul, reduceCtorEq, Tryz.f58, e00, run_l01Byte h1 h2 b3.1 b3.2, oByte, hsK, ne_byte]
    rintro ⟨⟨w, ⟨⟨a4, k4⟩, b4⟩⟩, w1, w2⟩
    simp only at x1 x2 y1 y2 z1 z2 w1 w2 b4
    have q1 : IntKind.i64.wrap (x * 16777216) = x * 16777216 := wrap_id (by omega) (by omega)
    have q2 : IntKind.i64.wrap (y * 65536) = y * 65536 := wrap_id (by omega) (by omega)
    have q3 : IntKind.i64.wrap (z * 256) = z * 256 := wrap_id (by omega) (by omega)
    have q4 : IntKind.i64.wrap (x * 16777216 + y * 65536) = x * 16777216 + y * 65536 := wrap_id (by omega) (by omega)
    have q5 : IntKind.i64.wrap (x * 16777216 + y * 65536 + z * 256) = x * 16777216 + y * 65536 + z * 256 := wrap_id (by omega) (by omega)
    obtain ⟨s, hs⟩ : ∃ s, IntKind.i64.wrap (x * 16777216 + y * 65536 + z * 256 + w) = s := ⟨_, rfl⟩
    have s1 : 0 ≤ s := by rw [← hs, wrap_id (by omega) (by omega)]; omega
    try simp -dsimp (maxSteps := 1000000) only [go_sem, List.forall_mem_nil, ↓reduceIte, Nat.reduceEqDiff, Nat.reduceLT, Nat.reduceLeDiff, Nat.reduceAdd, Nat.reduceMul, reduceCtorEq, Tryz.f58, e00, hsK, q1, q2, q3, q4, q5, hs]
    exact ⟨⟨(_, ⟨(a4, k4), b4⟩), Int.tmod_nonneg _ s1, Int.tmod_lt_of_pos _ (by omega)⟩, rfl, rfl⟩
abbrev QSmall (l : List Int) := { q : (Int × Int) × SK l // -3 ≤ q.1.1 ∧ q.1.1 ≤ 3 ∧ -3 ≤ q.1.2 ∧ q.1.2 ≤ 3 }
def oSmall (l : List Int) : Outs := .any (QSmall l) (fun q => { val := .c (.im (.cpx .f32 (wI q.1.1.1) (wI q.1.1.2))), places := hsK l q.1.2.1.1 q.1.2.1.2 })
noncomputable def ct_l2Small : Ct := fam false (fun x : AKn => ([.c (.ptr 0 0 0 0)], hsK x.l x.a x.h)) (fun x => oSmall x.l)
theorem run_l2Small {l : List Int} {a h : Int} (h1 : l.length ≤ 1048576) (h2 : ∀ b ∈ l, 0 ≤ b ∧ b < 256) (h3 : 0 ≤ a) (h4 : a ≤ l.length) : ct_l2Small.run [.c (.ptr 0 0 0 0)] [[.t (.im (.sl 1 (rowsB l))), .t (.im (.int .i64 a)), .t (.im (.int .i64 h))]] = some (oSmall l) := by
  refine fam_run' (args := fun x : AKn => ([D.c (.ptr 0 0 0 0)], hsK x.l x.a x.h)) (fun x y h => ?_) ⟨l, h1, h2, a, h, h3, h4⟩
  simp only [Prod.mk.injEq, true_and] at h
  exact AKn_ext (hsK_inj h)
theorem ne_small (l : List Int) : Nonempty (QSmall l) = True := by simp only [eq_iff_iff, iff_true]; exact ⟨⟨((0, 0), ⟨(0, 0), by simp⟩), by simp⟩⟩
set_option maxRecDepth 100000 in
set_option maxHeartbeats 4000000 in
theorem law_l2Small : Law Tryz.prog 62 ct_l2Small := by
  refine fam_law (Env_cons law_l01Below Env_nil) hmixA Tryz.func62 rfl rfl (fun ⟨l, h1, h2, a, h, h3, h4⟩ => ⟨okA (fun o => okK (n := 0) okDi), by simp [Tryz.f62], ?_⟩)
  simp only [oSmall, hsK]
  try simp -dsimp (maxSteps := 1000000) only [go_sem, List.forall_mem_nil, ↓reduceIte, Nat.reduceEqDiff, Nat.reduceLT, Nat.reduceLeDiff, Nat.reduceAdd, Nat.reduceMul, reduceCtorEq, Tryz.f62, run_l01Below h1 h2 h3 h4 (n := 7) (by decide) (by decide), oBelow, hsK, ne_below l (n := 7) (by decide)]
  rintro ⟨⟨u, ⟨⟨a1, k1⟩, b1⟩⟩, u1, u2⟩
  have hu : IntKind.i64.wrap (u - 3) = u - 3 := wrap_id (by simp only at u1; omega) (by simp only at u2; omega)
  try simp -dsimp (maxSteps := 1000000) only [go_sem, List.forall_mem_nil, ↓reduceIte, Nat.reduceEqDiff, Nat.reduceLT, Nat.reduceLeDiff, Nat.reduceAdd, Nat.reduceMul, reduceCtorEq, Tryz.f62, hu, run_l01Below h1 h2 b1.1 b1.2 (n := 7) (by decide) (by decide), oBelow, hsK, ne_below l (n := 7) (by decide)]
  rintro ⟨⟨v, ⟨⟨a2, k2⟩, b2⟩⟩, v1, v2⟩
  have hv : IntKind.i64.wrap (v - 3) = v - 3 := wrap_id (by simp only at v1; omega) (by simp only at v2; omega)
  try simp -dsimp (maxSteps := 1000000) only [go_sem, List.forall_mem_nil, ↓reduceIte, Nat.reduceEqDiff, Nat.reduceLT, Nat.reduceLeDiff, Nat.reduceAdd, Nat.reduceMul, reduceCtorEq, Tryz.f62, hu, hv, hsK]
  exact ⟨⟨((u - 3, v - 3), ⟨(a2, k2), b2⟩), by simp only at u1 u2 v1 v2 ⊢; omega⟩, rfl, rfl, rfl⟩
end Go.SX
