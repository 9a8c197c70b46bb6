/-
  spec: l5Step, l5Module.
  spec: l1Number (whole numbers), FormatSingle (at the levels that are drawn), l4Zero, l5Uses, l5Unused, IsRing, IsModule.
  spec: l5Unused, IsRing, IsModule: of modules that are drawn.
  spec: IsRing, IsModule: of modules that are drawn.
  Sums and products of whole numbers; the order of a rack whose cables lead onwards.
  spec: l6Has, l6Ready, l6Order: the order is the program's.
  spec: IsRack, l6Copy, AddCable: of racks whose modules are drawn.
  No condition.
-/
import Derived.Laws.Strings
import Derived.Test.YtojcifdnmihebaaGreatPkF
set_option linter.unusedVariables false
set_option linter.unusedSimpArgs false
namespace Go.SX
open Go Go.Proofs
structure AStp where
  m : Mod
  z : Pt
  d : Drawn m
  s1 : lvlB (absS z.1) = true
  s2 : lvlB (absS z.2) = true
abbrev QStp := { q : Mod × Pt // Drawn q.1 }
theorem drawn_mixS (t s : Pt) : Drawn ⟨2, t, s, 0, [], 0, 0, [], [], 0, 0⟩ := ⟨⟨by simp [sm], by simp [sm], by simp [sm]⟩, by simp [isModuleF, bareF_iff], by simp⟩
def mz11 : List B := [.t (.im (.int .i64 0)), .t (.im (.cpx .f32 0 0)), .t (.im (.cpx .f32 0 0)), .t (.im (.flt .f32 0)), .t .nil, .t (.im (.int .i64 0)), .t (.im (.int .i64 0)), .t .nil, .t .nil, .t (.im (.int .i64 0)), .t (.im (.int .i64 0))]
def oStp : Outs := .any QStp (fun q => { val := .tup [.agg (modC q.1.1), .c (.im (.cpx .f32 q.1.2.1 q.1.2.2))] })
theorem ne_stp : Nonempty QStp = True := by simp only [eq_iff_iff, iff_true]; exact ⟨⟨(mSum', (0, 0)), drawn_sum⟩⟩
noncomputable def ct_l5Step : Ct := fam false (fun x : AStp => ([.agg (modC x.m), .c (.im (.cpx .f32 x.z.1 x.z.2))], [])) (fun _ => oStp)
theorem run_l5Step {m : Mod} (h : Drawn m) {u v : Nat} (h1 : lvlB (absS u) = true) (h2 : lvlB (absS v) = true) : ct_l5Step.run [.agg (modC m), .c (.im (.cpx .f32 u v))] [] = some oStp :=
  fam_run (args := fun x : AStp => ([D.agg (modC x.m), .c (.im (.cpx .f32 x.z.1 x.z.2))], [])) (fun _ _ _ => rfl) ⟨m, (u, v), h, h1, h2⟩
set_option maxRecDepth 100000 in
set_option maxHeartbeats 16000000 in
theorem law_l5Step : Law Tryz.prog 71 ct_l5Step := by
  refine fam_lawF (Env_cons law_sMul (Env_cons law_sFlush (Env_cons law_l4Push (Env_cons law_l5Slice (Env_cons law_l1Abs Env_nil))))) hmixA Tryz.func71 rfl rfl (fun ⟨m, ⟨u, v⟩, hD, hu, hv⟩ => ⟨okA (fun o => okR_Mz), by simp [Tryz.f71], ?_⟩)
  simp only at hu hv
  simp only [oStp]
  rcases hD.forms with ⟨⟨t1, t2⟩, ⟨s1, s2⟩, rfl⟩ | ⟨⟨t1, t2⟩, ⟨s1, s2⟩, rfl⟩ | ⟨lv, rfl⟩ | ⟨st, a, rfl, q1, q2, q3, q4⟩ | rfl | ⟨pts, lab, c, rfl, hT⟩ | ⟨lv, rfl, hl⟩ | ⟨⟨s1, s2⟩, c, l, rfl, q1, q2, q3, q4⟩
  · simp only [modC, mSrc', rowsZ_nil, rowsN_nil]
    try simp -dsimp (maxSteps := 1000000) only [go_sem, List.forall_mem_nil, ↓reduceIte, Nat.reduceEqDiff, Nat.reduceLT, Nat.reduceLeDiff, Nat.reduceAdd, Nat.reduceMul, reduceCtorEq, Tryz.f71, run_MultiplyPoints, oMul, ne_nn]
    intro o
    try simp -dsimp (maxSteps := 1000000) only [go_sem, List.forall_mem_nil, ↓reduceIte, Nat.reduceEqDiff, Nat.reduceLT, Nat.reduceLeDiff, Nat.reduceAdd, Nat.reduceMul, reduceCtorEq, Tryz.f71]
    refine finF_i [] ?_
    simp -dsimp (maxSteps := 1000000) only [go_sem, List.forall_mem_nil, ↓reduceIte, Nat.reduceEqDiff, Nat.reduceLT, Nat.reduceLeDiff, Nat.reduceAdd, Nat.reduceMul, reduceCtorEq]
    exact ⟨⟨(mSrc' (t1, t2) (mulPt o (s1, s2) (t1, t2)), (s1, s2)), drawn_src _ _⟩, by simp [mSrc', rowsZ, rowsN]⟩
  · simp only [modC, rowsZ_nil, rowsN_nil]
    try simp -dsimp (maxSteps := 1000000) only [go_sem, List.forall_mem_nil, ↓reduceIte, Nat.reduceEqDiff, Nat.reduceLT, Nat.reduceLeDiff, Nat.reduceAdd, Nat.reduceMul, reduceCtorEq, Tryz.f71, Int.reduceEq, run_MultiplyPoints, oMul, ne_nn]
    intro o
    try simp -dsimp (maxSteps := 1000000) only [go_sem, List.forall_mem_nil, ↓reduceIte, Nat.reduceEqDiff, Nat.reduceLT, Nat.reduceLeDiff, Nat.reduceAdd, Nat.reduceMul, reduceCtorEq, Tryz.f71, run_MultiplyPoints, oMul, ne_nn]
    intro o2
    try simp -dsimp (maxSteps := 1000000) only [go_sem, List.forall_mem_nil, ↓reduceIte, Nat.reduceEqDiff, Nat.reduceLT, Nat.reduceLeDiff, Nat.reduceAdd, Nat.reduceMul, reduceCtorEq, Tryz.f71]
    refine finF_i [] ?_
    simp -dsimp (maxSteps := 1000000) only [go_sem, List.forall_mem_nil, ↓reduceIte, Nat.reduceEqDiff, Nat.reduceLT, Nat.reduceLeDiff, Nat.reduceAdd, Nat.reduceMul, reduceCtorEq]
    exact ⟨⟨(⟨2, (t1, t2), mulPt o2 (s1, s2) (t1, t2), 0, [], 0, 0, [], [], 0, 0⟩, mulPt o (u, v) (s1, s2)), drawn_mixS _ _⟩, by simp [rowsZ, rowsN]⟩
  · simp only [modC, mGain', rowsZ_nil, rowsN_nil]
    try simp -dsimp (maxSteps := 1000000) only [go_sem, List.forall_mem_nil, ↓reduceIte, Nat.reduceEqDiff, Nat.reduceLT, Nat.reduceLeDiff, Nat.reduceAdd, Nat.reduceMul, reduceCtorEq, Tryz.f71, Int.reduceEq, run_sFlush]
    repeat' (first
      | ((with_reducible refine sl_i ?_ ?_); focus kernel_rfl)
      | ((with_reducible refine ro_i ?_ ?_); focus kernel_rfl))
    refine finF_i [] ?_
    simp -dsimp (maxSteps := 1000000) only [go_sem, List.forall_mem_nil, ↓reduceIte, Nat.reduceEqDiff, Nat.reduceLT, Nat.reduceLeDiff, Nat.reduceAdd, Nat.reduceMul, reduceCtorEq]
    exact ⟨⟨(mGain' lv, (flushS (fop .mul .f32 u lv), flushS (fop .mul .f32 v lv))), drawn_gain _⟩, by simp [mGain', rowsZ, rowsN]⟩
  · obtain ⟨A, rfl⟩ := Int.eq_ofNat_of_zero_le q3
    have q4' : A < st.length := by omega
    simp only [modC, mDelay', rowsZ_nil, rowsN_nil]
    try simp -dsimp (maxSteps := 1000000) only [go_sem, List.forall_mem_nil, ↓reduceIte, Nat.reduceEqDiff, Nat.reduceLT, Nat.reduceLeDiff, Nat.reduceAdd, Nat.reduceMul, reduceCtorEq, Tryz.f71, Int.reduceEq, run_l4Push q1 q2 q4']
    refine finF_i [] ?_
    simp -dsimp (maxSteps := 1000000) only [go_sem, List.forall_mem_nil, ↓reduceIte, Nat.reduceEqDiff, Nat.reduceLT, Nat.reduceLeDiff, Nat.reduceAdd, Nat.reduceMul, reduceCtorEq]
    exact ⟨⟨(mDelay' (st.set A (u, v)) (((A + 1) % st.length : Nat) : Int), st.getD A (0, 0)), drawn_delay (by simp; omega) (by simp; omega) (by omega) (by have := Nat.mod_lt (A + 1) (show 0 < st.length by omega); simp only [List.length_set]; omega)⟩, by simp [mDelay', rowsZ, rowsN]⟩
  · simp only [modC, mSum', rowsZ_nil, rowsN_nil]
    try simp -dsimp (maxSteps := 1000000) only [go_sem, List.forall_mem_nil, ↓reduceIte, Nat.reduceEqDiff, Nat.reduceLT, Nat.reduceLeDiff, Nat.reduceAdd, Nat.reduceMul, reduceCtorEq, Tryz.f71, Int.reduceEq]
    refine finF_i [] ?_
    simp -dsimp (maxSteps := 1000000) only [go_sem, List.forall_mem_nil, ↓reduceIte, Nat.reduceEqDiff, Nat.reduceLT, Nat.reduceLeDiff, Nat.reduceAdd, Nat.reduceMul, reduceCtorEq]
    exact ⟨⟨(mSum', (u, v)), drawn_sum⟩, by simp [mSum', rowsZ, rowsN]⟩
  · simp only [modC, mSlicer', rowsZ_nil]
    try simp -dsimp (maxSteps := 1000000) only [go_sem, List.forall_mem_nil, ↓reduceIte, Nat.reduceEqDiff, Nat.reduceLT, Nat.reduceLeDiff, Nat.reduceAdd, Nat.reduceMul, reduceCtorEq, Tryz.f71, Int.reduceEq, run_l5Slice hT, oSl, ne_ipt, modC, mSlicer', rowsZ_nil]
    rintro ⟨c', ⟨x, y⟩⟩
    try simp -dsimp (maxSteps := 1000000) only [go_sem, List.forall_mem_nil, ↓reduceIte, Nat.reduceEqDiff, Nat.reduceLT, Nat.reduceLeDiff, Nat.reduceAdd, Nat.reduceMul, reduceCtorEq, Tryz.f71, modC, mSlicer', rowsZ_nil]
    refine finF_i [] ?_
    simp -dsimp (maxSteps := 1000000) only [go_sem, List.forall_mem_nil, ↓reduceIte, Nat.reduceEqDiff, Nat.reduceLT, Nat.reduceLeDiff, Nat.reduceAdd, Nat.reduceMul, reduceCtorEq]
    exact ⟨⟨(mSlicer' pts lab c', (x, y)), drawn_slicer hT⟩, by simp [mSlicer', rowsZ]⟩
  · simp only [modC, mMeterL, rowsZ_nil, rowsN_nil]
    try simp -dsimp (maxSteps := 1000000) only [go_sem, List.forall_mem_nil, ↓reduceIte, Nat.reduceEqDiff, Nat.reduceLT, Nat.reduceLeDiff, Nat.reduceAdd, Nat.reduceMul, reduceCtorEq, Tryz.f71, Int.reduceEq]
    refine loop_i (ι := { k : Nat // k ≤ 2 } × { l : Nat // lvlB l = true }) (fun x => ⟨[(1, some (.c (.im (.cpx .f32 u v)))), (2, some (.c (.ptr 0 0 0 0))), (4, some (.c (.ptr 1 0 0 0))), (82, some (.c (.view 2 1 0 2))), (83, some (.c (.im (.int .i64 2)))), (84, some (.c (.im (.int .i64 (x.1.1 : Int)))))],
      [(0, some (.box [.t (.im (.int .i64 7)), .t (.im (.cpx .f32 0 0)), .t (.im (.cpx .f32 0 0)), .t (.im (.flt .f32 x.2.1)), .t (.im (.sl 1 [])), .t (.im (.int .i64 0)), .t (.im (.int .i64 0)), .t (.im (.sl 1 [])), .t (.im (.sl 1 [])), .t (.im (.int .i64 0)), .t (.im (.int .i64 0))])),
       (1, some (.box mz11)), (2, some (.arr 1 [[.im (.flt .f32 u)], [.im (.flt .f32 v)]]))], 3⟩) (fun x => 2 - x.1.1) (⟨0, by omega⟩, ⟨lv, hl⟩) ⟨[], [0, 1, 2], by ((simp only [go_sem, eq_self, MvRb, MvRn, MvRt, List.nodup_cons, List.nodup_nil, ↓reduceIte, Nat.reduceEqDiff, Nat.reduceLT, Nat.reduceLeDiff, reduceCtorEq, List.forall_mem_nil, Nat.zero_le, false_implies, List.mem_singleton, mz11]) <;> (try (simp -dsimp only [go_sem, eq_self, MvRb, MvRn, MvRt, List.nodup_cons, List.nodup_nil, ↓reduceIte, Nat.reduceEqDiff, Nat.reduceLT, Nat.reduceLeDiff, reduceCtorEq, List.forall_mem_nil, Nat.zero_le, false_implies, List.mem_singleton, mz11]))) <;> simp [lk, MvB_im, MvRt]⟩ (fun ⟨⟨k, hk⟩, ⟨lv, hl⟩⟩ => ?_)
    have hk3 : k = 0 ∨ k = 1 ∨ k = 2 := by omega
    simp only [mz11]
    have c2 : ((2 : Nat) : Int) = 2 := rfl
    have c1 : ((1 : Nat) : Int) = 1 := rfl
    have c0 : ((0 : Nat) : Int) = 0 := rfl
    have w1 : IntKind.i64.wrap 1 = 1 := rfl
    have w2 : IntKind.i64.wrap 2 = 2 := rfl
    rcases hk3 with rfl | rfl | rfl
    · cases hc : fcmp .gtr .f32 (absS u) lv with
      | true =>
        try simp -dsimp (maxSteps := 1000000) only [go_sem, List.forall_mem_nil, ↓reduceIte, Nat.reduceEqDiff, Nat.reduceLT, Nat.reduceLeDiff, Nat.reduceAdd, Nat.reduceMul, reduceCtorEq, Tryz.f71, c0, c2, w1, hc, run_l1Abs, Int.reduceLT, Int.reduceLE, Int.reduceToNat, Int.reduceAdd, Int.toNat_zero]
        repeat' (first
          | ((with_reducible refine sl_i ?_ ?_); focus kernel_rfl)
          | ((with_reducible refine ro_i ?_ ?_); focus kernel_rfl))
        exact ⟨(⟨1, by omega⟩, ⟨absS u, hu⟩), by simp, [], [0, 1, 2], by ((simp only [go_sem, eq_self, MvRb, MvRn, MvRt, List.nodup_cons, List.nodup_nil, ↓reduceIte, Nat.reduceEqDiff, Nat.reduceLT, Nat.reduceLeDiff, reduceCtorEq, List.forall_mem_nil, Nat.zero_le, false_implies, List.mem_singleton, mz11]) <;> (try (simp -dsimp only [go_sem, eq_self, MvRb, MvRn, MvRt, List.nodup_cons, List.nodup_nil, ↓reduceIte, Nat.reduceEqDiff, Nat.reduceLT, Nat.reduceLeDiff, reduceCtorEq, List.forall_mem_nil, Nat.zero_le, false_implies, List.mem_singleton, mz11]))) <;> simp [lk, MvB_im, MvRt]⟩
      | false =>
        try simp -dsimp (maxSteps := 1000000) only [go_sem, List.forall_mem_nil, ↓reduceIte, Nat.reduceEqDiff, Nat.reduceLT, Nat.reduceLeDiff, Nat.reduceAdd, Nat.reduceMul, reduceCtorEq, Tryz.f71, c0, c2, w1, hc, run_l1Abs, Int.reduceLT, Int.reduceLE, Int.reduceToNat, Int.reduceAdd, Int.toNat_zero]
        repeat' (first
          | ((with_reducible refine sl_i ?_ ?_); focus kernel_rfl)
          | ((with_reducible refine ro_i ?_ ?_); focus kernel_rfl))
        exact ⟨(⟨1, by omega⟩, ⟨lv, hl⟩), by simp, [], [0, 1, 2], by ((simp only [go_sem, eq_self, MvRb, MvRn, MvRt, List.nodup_cons, List.nodup_nil, ↓reduceIte, Nat.reduceEqDiff, Nat.reduceLT, Nat.reduceLeDiff, reduceCtorEq, List.forall_mem_nil, Nat.zero_le, false_implies, List.mem_singleton, mz11]) <;> (try (simp -dsimp only [go_sem, eq_self, MvRb, MvRn, MvRt, List.nodup_cons, List.nodup_nil, ↓reduceIte, Nat.reduceEqDiff, Nat.reduceLT, Nat.reduceLeDiff, reduceCtorEq, List.forall_mem_nil, Nat.zero_le, false_implies, List.mem_singleton, mz11]))) <;> simp [lk, MvB_im, MvRt]⟩
    · cases hc : fcmp .gtr .f32 (absS v) lv with
      | true =>
        try simp -dsimp (maxSteps := 1000000) only [go_sem, List.forall_mem_nil, ↓reduceIte, Nat.reduceEqDiff, Nat.reduceLT, Nat.reduceLeDiff, Nat.reduceAdd, Nat.reduceMul, reduceCtorEq, Tryz.f71, c1, c2, w2, hc, run_l1Abs, Int.reduceLT, Int.reduceLE, Int.reduceToNat, Int.reduceAdd, Int.toNat_zero]
        repeat' (first
          | ((with_reducible refine sl_i ?_ ?_); focus kernel_rfl)
          | ((with_reducible refine ro_i ?_ ?_); focus kernel_rfl))
        exact ⟨(⟨2, by omega⟩, ⟨absS v, hv⟩), by simp, [], [0, 1, 2], by ((simp only [go_sem, eq_self, MvRb, MvRn, MvRt, List.nodup_cons, List.nodup_nil, ↓reduceIte, Nat.reduceEqDiff, Nat.reduceLT, Nat.reduceLeDiff, reduceCtorEq, List.forall_mem_nil, Nat.zero_le, false_implies, List.mem_singleton, mz11]) <;> (try (simp -dsimp only [go_sem, eq_self, MvRb, MvRn, MvRt, List.nodup_cons, List.nodup_nil, ↓reduceIte, Nat.reduceEqDiff, Nat.reduceLT, Nat.reduceLeDiff, reduceCtorEq, List.forall_mem_nil, Nat.zero_le, false_implies, List.mem_singleton, mz11]))) <;> simp [lk, MvB_im, MvRt]⟩
      | false =>
        try simp -dsimp (maxSteps := 1000000) only [go_sem, List.forall_mem_nil, ↓reduceIte, Nat.reduceEqDiff, Nat.reduceLT, Nat.reduceLeDiff, Nat.reduceAdd, Nat.reduceMul, reduceCtorEq, Tryz.f71, c1, c2, w2, hc, run_l1Abs, Int.reduceLT, Int.reduceLE, Int.reduceToNat, Int.reduceAdd, Int.toNat_zero]
        repeat' (first
          | ((with_reducible refine sl_i ?_ ?_); focus kernel_rfl)
          | ((with_reducible refine ro_i ?_ ?_); focus kernel_rfl))
        exact ⟨(⟨2, by omega⟩, ⟨lv, hl⟩), by simp, [], [0, 1, 2], by ((simp only [go_sem, eq_self, MvRb, MvRn, MvRt, List.nodup_cons, List.nodup_nil, ↓reduceIte, Nat.reduceEqDiff, Nat.reduceLT, Nat.reduceLeDiff, reduceCtorEq, List.forall_mem_nil, Nat.zero_le, false_implies, List.mem_singleton, mz11]) <;> (try (simp -dsimp only [go_sem, eq_self, MvRb, MvRn, MvRt, List.nodup_cons, List.nodup_nil, ↓reduceIte, Nat.reduceEqDiff, Nat.reduceLT, Nat.reduceLeDiff, reduceCtorEq, List.forall_mem_nil, Nat.zero_le, false_implies, List.mem_singleton, mz11]))) <;> simp [lk, MvB_im, MvRt]⟩
    · skip
      try simp -dsimp (maxSteps := 1000000) only [go_sem, List.forall_mem_nil, ↓reduceIte, Nat.reduceEqDiff, Nat.reduceLT, Nat.reduceLeDiff, Nat.reduceAdd, Nat.reduceMul, reduceCtorEq, Tryz.f71, c2, Int.reduceLT]
      refine finF_i [] ?_
      simp -dsimp (maxSteps := 1000000) only [go_sem, List.forall_mem_nil, ↓reduceIte, Nat.reduceEqDiff, Nat.reduceLT, Nat.reduceLeDiff, Nat.reduceAdd, Nat.reduceMul, reduceCtorEq]
      exact ⟨⟨(mMeterL lv, (u, v)), drawn_meterL hl⟩, by simp [mMeterL, rowsZ, rowsN]⟩
  · simp only [modC, mHold', rowsZ_nil, rowsN_nil]
    by_cases hl0 : l = 0
    · have hl' := eq_true hl0
      have hw : IntKind.i64.wrap (c - 1) = c - 1 := wrap_id (by omega) (by omega)
      try simp -dsimp (maxSteps := 1000000) only [go_sem, List.forall_mem_nil, ↓reduceIte, Nat.reduceEqDiff, Nat.reduceLT, Nat.reduceLeDiff, Nat.reduceAdd, Nat.reduceMul, reduceCtorEq, Tryz.f71, Int.reduceEq, hl', hw]
      repeat' (first
        | ((with_reducible refine sl_i ?_ ?_); focus kernel_rfl)
        | ((with_reducible refine ro_i ?_ ?_); focus kernel_rfl))
      refine finF_i [] ?_
      simp -dsimp (maxSteps := 1000000) only [go_sem, List.forall_mem_nil, ↓reduceIte, Nat.reduceEqDiff, Nat.reduceLT, Nat.reduceLeDiff, Nat.reduceAdd, Nat.reduceMul, reduceCtorEq]
      exact ⟨⟨(mHold' (u, v) c (c - 1), (u, v)), drawn_hold q1 q2 (by omega) (by omega)⟩, by simp [mHold', rowsZ, rowsN]⟩
    · have hl' := eq_false hl0
      have hw : IntKind.i64.wrap (l - 1) = l - 1 := wrap_id (by omega) (by omega)
      try simp -dsimp (maxSteps := 1000000) only [go_sem, List.forall_mem_nil, ↓reduceIte, Nat.reduceEqDiff, Nat.reduceLT, Nat.reduceLeDiff, Nat.reduceAdd, Nat.reduceMul, reduceCtorEq, Tryz.f71, Int.reduceEq, hl', hw]
      repeat' (first
        | ((with_reducible refine sl_i ?_ ?_); focus kernel_rfl)
        | ((with_reducible refine ro_i ?_ ?_); focus kernel_rfl))
      refine finF_i [] ?_
      simp -dsimp (maxSteps := 1000000) only [go_sem, List.forall_mem_nil, ↓reduceIte, Nat.reduceEqDiff, Nat.reduceLT, Nat.reduceLeDiff, Nat.reduceAdd, Nat.reduceMul, reduceCtorEq]
      exact ⟨⟨(mHold' (s1, s2) c (l - 1), (s1, s2)), drawn_hold q1 q2 (by omega) (by omega)⟩, by simp [mHold', rowsZ, rowsN]⟩
theorem drawn_zrs {X : Nat} (h : X < 5) : Drawn (mDelay' (zrs (X + 1)) 0) := by
  have hl : (zrs (X + 1)).length = X + 1 := by simp
  exact drawn_delay (by omega) (by omega) (by omega) (by omega)
def modIB (m : Mod) : List B := [.t (.im (.int .i64 m.kind)), .t (.im (.cpx .f32 m.turn.1 m.turn.2)), .t (.im (.cpx .f32 m.state.1 m.state.2)), .t (.im (.flt .f32 m.level)), .t (.im (.sl 1 (rowsZ m.store))), .t (.im (.int .i64 m.rat)), .t (.im (.int .i64 m.rcnt)), .t (.im (.sl 1 (rowsZ m.pts))), .t (.im (.sl 1 (rowsN m.lab))), .t (.im (.int .i64 m.count)), .t (.im (.int .i64 m.left))]
abbrev QMod := { m : Mod // Drawn m }
def oMod (l : List Int) : Outs := .any (QMod × SK l) (fun q => { val := .agg (modC q.1.1), places := hsK l q.2.1.1 q.2.1.2 })
theorem ne_mod (l : List Int) : Nonempty (QMod × SK l) = True := by simp only [eq_iff_iff, iff_true]; exact ⟨(⟨mSum', drawn_sum⟩, ⟨(0, 0), by simp⟩)⟩
theorem okD_mod {m : Mod} : OkD false 0 (.agg (modC m)) := .agg _ (fun x hx => by
  simp only [modC, List.mem_cons, List.not_mem_nil, or_false] at hx
  rcases hx with rfl | rfl | rfl | rfl | rfl | rfl | rfl | rfl | rfl | rfl | rfl <;> exact .im _ (.inl rfl))
noncomputable def ct_l5Module : Ct := fam false (fun x : AKn => ([.c (.ptr 0 0 0 0)], hsK x.l x.a x.h)) (fun x => oMod x.l)
theorem run_l5Module {l : List Int} {a h : Int} (h1 : l.length ≤ 1048576) (h2 : ∀ b ∈ l, 0 ≤ b ∧ b < 256) (h3 : 0 ≤ a) (h4 : a ≤ l.length) : ct_l5Module.run [.c (.ptr 0 0 0 0)] [[.t (.im (.sl 1 (rowsB l))), .t (.im (.int .i64 a)), .t (.im (.int .i64 h))]] = some (oMod l) := by
  refine fam_run' (args := fun x : AKn => ([D.c (.ptr 0 0 0 0)], hsK x.l x.a x.h)) (fun x y h => ?_) ⟨l, h1, h2, a, h, h3, h4⟩
  simp only [Prod.mk.injEq, true_and] at h
  exact AKn_ext (hsK_inj h)
theorem cases8 {p : Prop} {v : Int} (h1 : 0 ≤ v) (h2 : v < 8) (h0 : v = 0 → p) (h1' : v = 1 → p) (h2' : v = 2 → p) (h3 : v = 3 → p) (h4 : v = 4 → p) (h5 : v = 5 → p) (h6 : v = 6 → p) (h7 : v = 7 → p) : p := by
  have : v = 0 ∨ v = 1 ∨ v = 2 ∨ v = 3 ∨ v = 4 ∨ v = 5 ∨ v = 6 ∨ v = 7 := by omega
  rcases this with h | h | h | h | h | h | h | h
  · exact h0 h
  · exact h1' h
  · exact h2' h
  · exact h3 h
  · exact h4 h
  · exact h5 h
  · exact h6 h
  · exact h7 h
set_option maxRecDepth 100000 in
set_option maxHeartbeats 32000000 in
theorem law_l5Module : Law Tryz.prog 31 ct_l5Module := by
  refine fam_lawF (Env_cons law_sSum (Env_cons law_l01Below (Env_cons law_l5Turn (Env_cons law_l2Small (Env_cons law_sSource (Env_cons law_sMixer (Env_cons law_l1Any (Env_cons law_sGain (Env_cons law_sDelay (Env_cons law_l2Table (Env_cons law_NewSlicer (Env_cons law_sMeter (Env_cons law_sHold (Env_cons law_l5Copy (Env_cons law_l5Step Env_nil)))))))))))))))
    hmixA Tryz.func31 rfl rfl (fun ⟨l, h1, h2, a, h, h3, h4⟩ => ⟨okA (fun o => okK (n := 0) okD_mod), by simp [Tryz.f31], ?_⟩)
  simp only [oMod, hsK]
  have h8 : ∀ (a h : Int), 0 ≤ a → a ≤ l.length → ct_l01Below.run [.c (.ptr 0 0 0 0), .c (.im (.int .i64 8))] [[.t (.im (.sl 1 (rowsB l))), .t (.im (.int .i64 a)), .t (.im (.int .i64 h))]] = some (oBelow l 8) := fun a h q1 q2 => run_l01Below h1 h2 q1 q2 (n := 8) (by decide) (by decide)
  try simp -dsimp (maxSteps := 1000000) only [go_sem, List.forall_mem_nil, ↓reduceIte, Nat.reduceEqDiff, Nat.reduceLT, Nat.reduceLeDiff, Nat.reduceAdd, Nat.reduceMul, reduceCtorEq, Tryz.f31, run_sSum, rM, modC, mSum', rowsZ_nil, rowsN_nil, h8 a h h3 h4, oBelow, ne_below l (n := 8) (by decide), hsK]
  rintro ⟨⟨v, ⟨⟨a1, k1⟩, b1⟩⟩, v1, v2⟩
  simp only at v1 v2
  refine cases8 v1 v2 ?h0 ?h1 ?h2 ?h3 ?h4 ?h5 ?h6 ?h7 <;> rintro rfl
  case' h0 =>
    try simp -dsimp (maxSteps := 1000000) only [go_sem, List.forall_mem_nil, ↓reduceIte, Nat.reduceEqDiff, Nat.reduceLT, Nat.reduceLeDiff, Nat.reduceAdd, Nat.reduceMul, reduceCtorEq, Tryz.f31, Int.reduceEq, run_l5Turn h1 h2 b1.1 b1.2, oPt, ne_opt, hsK]
    rintro ⟨⟨t1, t2⟩, ⟨⟨a2, k2⟩, b2⟩⟩
    try simp -dsimp (maxSteps := 1000000) only [go_sem, List.forall_mem_nil, ↓reduceIte, Nat.reduceEqDiff, Nat.reduceLT, Nat.reduceLeDiff, Nat.reduceAdd, Nat.reduceMul, reduceCtorEq, Tryz.f31, hsK, run_l2Small h1 h2 b2.1 b2.2, oSmall, ne_small]
    rintro ⟨⟨⟨x, y⟩, ⟨⟨a3, k3⟩, b3⟩⟩, _, _, _, _⟩
    obtain ⟨X, hX⟩ : ∃ q, wI x = q := ⟨_, rfl⟩
    obtain ⟨Y, hY⟩ : ∃ q, wI y = q := ⟨_, rfl⟩
    try simp -dsimp (maxSteps := 1000000) only [go_sem, List.forall_mem_nil, ↓reduceIte, Nat.reduceEqDiff, Nat.reduceLT, Nat.reduceLeDiff, Nat.reduceAdd, Nat.reduceMul, reduceCtorEq, Tryz.f31, hX, hY, run_sSource, rM, modC, mSrc', hsK, h8 a3 k3 b3.1 b3.2, oBelow, ne_below l (n := 8) (by decide)]
    rintro ⟨⟨v9, ⟨⟨a, k⟩, b⟩⟩, r1, r2⟩
    simp only at r1 r2 b
    obtain ⟨N, rfl⟩ := Int.eq_ofNat_of_zero_le r1
    try simp -dsimp (maxSteps := 1000000) only [go_sem, List.forall_mem_nil, ↓reduceIte, Nat.reduceEqDiff, Nat.reduceLT, Nat.reduceLeDiff, Nat.reduceAdd, Nat.reduceMul, reduceCtorEq, Tryz.f31, hsK]
    obtain ⟨i0, hi0⟩ : ∃ w : ({ m : Mod // Drawn m } × SK l) × { n : Nat // n ≤ 8 }, w = ((⟨(mSrc' (t1, t2) (X, Y)), drawn_src _ _⟩, ⟨(a, k), b⟩), ⟨N, by omega⟩) := ⟨_, rfl⟩
    refine loop_i (ι := ({ m : Mod // Drawn m } × SK l) × { n : Nat // n ≤ 8 }) (fun x => ⟨[(0, some (.c (.ptr 0 0 0 0))), (2, some (.c (.ptr 1 0 0 0))), (3, some (.c (.ptr 2 0 0 0))), (4, some (.c (.im (.int .i64 (x.2.1 : Int)))))],
      [(0, some (.box [.t (.im (.sl 1 (rowsB l))), .t (.im (.int .i64 x.1.2.1.1)), .t (.im (.int .i64 x.1.2.1.2))])), (1, some (.box mz11)), (2, some (.box (modIB x.1.1.1)))], 3⟩) (fun x => x.2.1) i0 ⟨[], [0, 1, 2], by subst hi0; (simp only [go_sem, eq_self, MvRb, MvRn, MvRt, List.nodup_cons, List.nodup_nil, ↓reduceIte, Nat.reduceEqDiff, Nat.reduceLT, Nat.reduceLeDiff, reduceCtorEq, List.forall_mem_nil, Nat.zero_le, false_implies, List.mem_singleton, modIB, mz11, mSrc', mMix', mGain', mDelay', mSlicer', mMeter', mHold', mSum', rowsZ_nil, rowsN_nil]) <;> simp [lk, MvB_im, modIB, mSrc', mMix', mGain', mDelay', mSlicer', mMeter', mHold', mSum', rowsZ_nil, rowsN_nil] <;> (try rfl)⟩ (fun ⟨⟨⟨m, hD⟩, ⟨⟨a, k⟩, b⟩⟩, ⟨n, hn⟩⟩ => ?_)
  case' h1 =>
    try simp -dsimp (maxSteps := 1000000) only [go_sem, List.forall_mem_nil, ↓reduceIte, Nat.reduceEqDiff, Nat.reduceLT, Nat.reduceLeDiff, Nat.reduceAdd, Nat.reduceMul, reduceCtorEq, Tryz.f31, Int.reduceEq, run_l5Turn h1 h2 b1.1 b1.2, oPt, ne_opt, hsK]
    rintro ⟨⟨t1, t2⟩, ⟨⟨a2, k2⟩, b2⟩⟩
    try simp -dsimp (maxSteps := 1000000) only [go_sem, List.forall_mem_nil, ↓reduceIte, Nat.reduceEqDiff, Nat.reduceLT, Nat.reduceLeDiff, Nat.reduceAdd, Nat.reduceMul, reduceCtorEq, Tryz.f31, run_sMixer, rM, modC, mMix', hsK, h8 a2 k2 b2.1 b2.2, oBelow, ne_below l (n := 8) (by decide)]
    rintro ⟨⟨v9, ⟨⟨a, k⟩, b⟩⟩, r1, r2⟩
    simp only at r1 r2 b
    obtain ⟨N, rfl⟩ := Int.eq_ofNat_of_zero_le r1
    try simp -dsimp (maxSteps := 1000000) only [go_sem, List.forall_mem_nil, ↓reduceIte, Nat.reduceEqDiff, Nat.reduceLT, Nat.reduceLeDiff, Nat.reduceAdd, Nat.reduceMul, reduceCtorEq, Tryz.f31, hsK]
    obtain ⟨i0, hi0⟩ : ∃ w : ({ m : Mod // Drawn m } × SK l) × { n : Nat // n ≤ 8 }, w = ((⟨(mMix' (t1, t2)), drawn_mix _⟩, ⟨(a, k), b⟩), ⟨N, by omega⟩) := ⟨_, rfl⟩
    refine loop_i (ι := ({ m : Mod // Drawn m } × SK l) × { n : Nat // n ≤ 8 }) (fun x => ⟨[(0, some (.c (.ptr 0 0 0 0))), (2, some (.c (.ptr 1 0 0 0))), (3, some (.c (.ptr 2 0 0 0))), (4, some (.c (.im (.int .i64 (x.2.1 : Int)))))],
      [(0, some (.box [.t (.im (.sl 1 (rowsB l))), .t (.im (.int .i64 x.1.2.1.1)), .t (.im (.int .i64 x.1.2.1.2))])), (1, some (.box mz11)), (2, some (.box (modIB x.1.1.1)))], 3⟩) (fun x => x.2.1) i0 ⟨[], [0, 1, 2], by subst hi0; (simp only [go_sem, eq_self, MvRb, MvRn, MvRt, List.nodup_cons, List.nodup_nil, ↓reduceIte, Nat.reduceEqDiff, Nat.reduceLT, Nat.reduceLeDiff, reduceCtorEq, List.forall_mem_nil, Nat.zero_le, false_implies, List.mem_singleton, modIB, mz11, mSrc', mMix', mGain', mDelay', mSlicer', mMeter', mHold', mSum', rowsZ_nil, rowsN_nil]) <;> simp [lk, MvB_im, modIB, mSrc', mMix', mGain', mDelay', mSlicer', mMeter', mHold', mSum', rowsZ_nil, rowsN_nil] <;> (try rfl)⟩ (fun ⟨⟨⟨m, hD⟩, ⟨⟨a, k⟩, b⟩⟩, ⟨n, hn⟩⟩ => ?_)
  case' h2 =>
    try simp -dsimp (maxSteps := 1000000) only [go_sem, List.forall_mem_nil, ↓reduceIte, Nat.reduceEqDiff, Nat.reduceLT, Nat.reduceLeDiff, Nat.reduceAdd, Nat.reduceMul, reduceCtorEq, Tryz.f31, Int.reduceEq, runNat h1 h2 b1.1 b1.2, oNat, ne_onat, hsK]
    rintro ⟨x, ⟨⟨a2, k2⟩, b2⟩⟩
    try simp -dsimp (maxSteps := 1000000) only [go_sem, List.forall_mem_nil, ↓reduceIte, Nat.reduceEqDiff, Nat.reduceLT, Nat.reduceLeDiff, Nat.reduceAdd, Nat.reduceMul, reduceCtorEq, Tryz.f31, run_sGain, rM, modC, mGain', hsK, h8 a2 k2 b2.1 b2.2, oBelow, ne_below l (n := 8) (by decide)]
    rintro ⟨⟨v9, ⟨⟨a, k⟩, b⟩⟩, r1, r2⟩
    simp only at r1 r2 b
    obtain ⟨N, rfl⟩ := Int.eq_ofNat_of_zero_le r1
    try simp -dsimp (maxSteps := 1000000) only [go_sem, List.forall_mem_nil, ↓reduceIte, Nat.reduceEqDiff, Nat.reduceLT, Nat.reduceLeDiff, Nat.reduceAdd, Nat.reduceMul, reduceCtorEq, Tryz.f31, hsK]
    obtain ⟨i0, hi0⟩ : ∃ w : ({ m : Mod // Drawn m } × SK l) × { n : Nat // n ≤ 8 }, w = ((⟨(mGain' x), drawn_gain _⟩, ⟨(a, k), b⟩), ⟨N, by omega⟩) := ⟨_, rfl⟩
    refine loop_i (ι := ({ m : Mod // Drawn m } × SK l) × { n : Nat // n ≤ 8 }) (fun x => ⟨[(0, some (.c (.ptr 0 0 0 0))), (2, some (.c (.ptr 1 0 0 0))), (3, some (.c (.ptr 2 0 0 0))), (4, some (.c (.im (.int .i64 (x.2.1 : Int)))))],
      [(0, some (.box [.t (.im (.sl 1 (rowsB l))), .t (.im (.int .i64 x.1.2.1.1)), .t (.im (.int .i64 x.1.2.1.2))])), (1, some (.box mz11)), (2, some (.box (modIB x.1.1.1)))], 3⟩) (fun x => x.2.1) i0 ⟨[], [0, 1, 2], by subst hi0; (simp only [go_sem, eq_self, MvRb, MvRn, MvRt, List.nodup_cons, List.nodup_nil, ↓reduceIte, Nat.reduceEqDiff, Nat.reduceLT, Nat.reduceLeDiff, reduceCtorEq, List.forall_mem_nil, Nat.zero_le, false_implies, List.mem_singleton, modIB, mz11, mSrc', mMix', mGain', mDelay', mSlicer', mMeter', mHold', mSum', rowsZ_nil, rowsN_nil]) <;> simp [lk, MvB_im, modIB, mSrc', mMix', mGain', mDelay', mSlicer', mMeter', mHold', mSum', rowsZ_nil, rowsN_nil] <;> (try rfl)⟩ (fun ⟨⟨⟨m, hD⟩, ⟨⟨a, k⟩, b⟩⟩, ⟨n, hn⟩⟩ => ?_)
  case' h3 =>
    try simp -dsimp (maxSteps := 1000000) only [go_sem, List.forall_mem_nil, ↓reduceIte, Nat.reduceEqDiff, Nat.reduceLT, Nat.reduceLeDiff, Nat.reduceAdd, Nat.reduceMul, reduceCtorEq, Tryz.f31, Int.reduceEq, run_l01Below h1 h2 b1.1 b1.2 (n := 5) (by decide) (by decide), oBelow, ne_below l (n := 5) (by decide), hsK]
    rintro ⟨⟨x, ⟨⟨a2, k2⟩, b2⟩⟩, x1, x2⟩
    simp only at x1 x2
    obtain ⟨X, rfl⟩ := Int.eq_ofNat_of_zero_le x1
    have hw : IntKind.i64.wrap (1 + (X : Int)) = ((X + 1 : Nat) : Int) := by rw [wrap_id (by omega) (by omega)]; omega
    try simp -dsimp (maxSteps := 1000000) only [go_sem, List.forall_mem_nil, ↓reduceIte, Nat.reduceEqDiff, Nat.reduceLT, Nat.reduceLeDiff, Nat.reduceAdd, Nat.reduceMul, reduceCtorEq, Tryz.f31, hw, run_sDelay (n := X + 1) (by omega) (by omega), rMB, rM, modC, mDelay', hsK, h8 a2 k2 b2.1 b2.2, oBelow, ne_below l (n := 8) (by decide)]
    rintro ⟨⟨v9, ⟨⟨a, k⟩, b⟩⟩, r1, r2⟩
    simp only at r1 r2 b
    obtain ⟨N, rfl⟩ := Int.eq_ofNat_of_zero_le r1
    try simp -dsimp (maxSteps := 1000000) only [go_sem, List.forall_mem_nil, ↓reduceIte, Nat.reduceEqDiff, Nat.reduceLT, Nat.reduceLeDiff, Nat.reduceAdd, Nat.reduceMul, reduceCtorEq, Tryz.f31, hsK]
    obtain ⟨i0, hi0⟩ : ∃ w : ({ m : Mod // Drawn m } × SK l) × { n : Nat // n ≤ 8 }, w = ((⟨(mDelay' (zrs (X + 1)) 0), drawn_zrs (by omega)⟩, ⟨(a, k), b⟩), ⟨N, by omega⟩) := ⟨_, rfl⟩
    refine loop_i (ι := ({ m : Mod // Drawn m } × SK l) × { n : Nat // n ≤ 8 }) (fun x => ⟨[(0, some (.c (.ptr 0 0 0 0))), (2, some (.c (.ptr 1 0 0 0))), (3, some (.c (.ptr 2 0 0 0))), (4, some (.c (.im (.int .i64 (x.2.1 : Int)))))],
      [(0, some (.box [.t (.im (.sl 1 (rowsB l))), .t (.im (.int .i64 x.1.2.1.1)), .t (.im (.int .i64 x.1.2.1.2))])), (1, some (.box mz11)), (2, some (.box (modIB x.1.1.1)))], 3⟩) (fun x => x.2.1) i0 ⟨[], [0, 1, 2], by subst hi0; (simp only [go_sem, eq_self, MvRb, MvRn, MvRt, List.nodup_cons, List.nodup_nil, ↓reduceIte, Nat.reduceEqDiff, Nat.reduceLT, Nat.reduceLeDiff, reduceCtorEq, List.forall_mem_nil, Nat.zero_le, false_implies, List.mem_singleton, modIB, mz11, mSrc', mMix', mGain', mDelay', mSlicer', mMeter', mHold', mSum', rowsZ_nil, rowsN_nil]) <;> simp [lk, MvB_im, modIB, mSrc', mMix', mGain', mDelay', mSlicer', mMeter', mHold', mSum', rowsZ_nil, rowsN_nil] <;> (try rfl)⟩ (fun ⟨⟨⟨m, hD⟩, ⟨⟨a, k⟩, b⟩⟩, ⟨n, hn⟩⟩ => ?_)
  case' h4 =>
    try simp -dsimp (maxSteps := 1000000) only [go_sem, List.forall_mem_nil, ↓reduceIte, Nat.reduceEqDiff, Nat.reduceLT, Nat.reduceLeDiff, Nat.reduceAdd, Nat.reduceMul, reduceCtorEq, Tryz.f31, Int.reduceEq, run_l2Table h1 h2 b1.1 b1.2, oTab, ne_tab, hsK]
    rintro ⟨⟨⟨pts, lab⟩, hT⟩, ⟨⟨a2, k2⟩, b2⟩⟩
    try simp -dsimp (maxSteps := 1000000) only [go_sem, List.forall_mem_nil, ↓reduceIte, Nat.reduceEqDiff, Nat.reduceLT, Nat.reduceLeDiff, Nat.reduceAdd, Nat.reduceMul, reduceCtorEq, Tryz.f31, run_NewSlicer hT, rMB, rM, modC, mSlicer', hsK, h8 a2 k2 b2.1 b2.2, oBelow, ne_below l (n := 8) (by decide)]
    rintro ⟨⟨v9, ⟨⟨a, k⟩, b⟩⟩, r1, r2⟩
    simp only at r1 r2 b
    obtain ⟨N, rfl⟩ := Int.eq_ofNat_of_zero_le r1
    try simp -dsimp (maxSteps := 1000000) only [go_sem, List.forall_mem_nil, ↓reduceIte, Nat.reduceEqDiff, Nat.reduceLT, Nat.reduceLeDiff, Nat.reduceAdd, Nat.reduceMul, reduceCtorEq, Tryz.f31, hsK]
    obtain ⟨i0, hi0⟩ : ∃ w : ({ m : Mod // Drawn m } × SK l) × { n : Nat // n ≤ 8 }, w = ((⟨(mSlicer' pts lab 0), drawn_slicer hT⟩, ⟨(a, k), b⟩), ⟨N, by omega⟩) := ⟨_, rfl⟩
    refine loop_i (ι := ({ m : Mod // Drawn m } × SK l) × { n : Nat // n ≤ 8 }) (fun x => ⟨[(0, some (.c (.ptr 0 0 0 0))), (2, some (.c (.ptr 1 0 0 0))), (3, some (.c (.ptr 2 0 0 0))), (4, some (.c (.im (.int .i64 (x.2.1 : Int)))))],
      [(0, some (.box [.t (.im (.sl 1 (rowsB l))), .t (.im (.int .i64 x.1.2.1.1)), .t (.im (.int .i64 x.1.2.1.2))])), (1, some (.box mz11)), (2, some (.box (modIB x.1.1.1)))], 3⟩) (fun x => x.2.1) i0 ⟨[], [0, 1, 2], by subst hi0; (simp only [go_sem, eq_self, MvRb, MvRn, MvRt, List.nodup_cons, List.nodup_nil, ↓reduceIte, Nat.reduceEqDiff, Nat.reduceLT, Nat.reduceLeDiff, reduceCtorEq, List.forall_mem_nil, Nat.zero_le, false_implies, List.mem_singleton, modIB, mz11, mSrc', mMix', mGain', mDelay', mSlicer', mMeter', mHold', mSum', rowsZ_nil, rowsN_nil]) <;> simp [lk, MvB_im, modIB, mSrc', mMix', mGain', mDelay', mSlicer', mMeter', mHold', mSum', rowsZ_nil, rowsN_nil] <;> (try rfl)⟩ (fun ⟨⟨⟨m, hD⟩, ⟨⟨a, k⟩, b⟩⟩, ⟨n, hn⟩⟩ => ?_)
  case' h5 =>
    try simp -dsimp (maxSteps := 1000000) only [go_sem, List.forall_mem_nil, ↓reduceIte, Nat.reduceEqDiff, Nat.reduceLT, Nat.reduceLeDiff, Nat.reduceAdd, Nat.reduceMul, reduceCtorEq, Tryz.f31, Int.reduceEq, run_sMeter, rM, modC, mMeter', hsK, h8 a1 k1 b1.1 b1.2, oBelow, ne_below l (n := 8) (by decide)]
    rintro ⟨⟨v9, ⟨⟨a, k⟩, b⟩⟩, r1, r2⟩
    simp only at r1 r2 b
    obtain ⟨N, rfl⟩ := Int.eq_ofNat_of_zero_le r1
    try simp -dsimp (maxSteps := 1000000) only [go_sem, List.forall_mem_nil, ↓reduceIte, Nat.reduceEqDiff, Nat.reduceLT, Nat.reduceLeDiff, Nat.reduceAdd, Nat.reduceMul, reduceCtorEq, Tryz.f31, hsK]
    obtain ⟨i0, hi0⟩ : ∃ w : ({ m : Mod // Drawn m } × SK l) × { n : Nat // n ≤ 8 }, w = ((⟨mMeter', drawn_meter⟩, ⟨(a, k), b⟩), ⟨N, by omega⟩) := ⟨_, rfl⟩
    refine loop_i (ι := ({ m : Mod // Drawn m } × SK l) × { n : Nat // n ≤ 8 }) (fun x => ⟨[(0, some (.c (.ptr 0 0 0 0))), (2, some (.c (.ptr 1 0 0 0))), (3, some (.c (.ptr 2 0 0 0))), (4, some (.c (.im (.int .i64 (x.2.1 : Int)))))],
      [(0, some (.box [.t (.im (.sl 1 (rowsB l))), .t (.im (.int .i64 x.1.2.1.1)), .t (.im (.int .i64 x.1.2.1.2))])), (1, some (.box mz11)), (2, some (.box (modIB x.1.1.1)))], 3⟩) (fun x => x.2.1) i0 ⟨[], [0, 1, 2], by subst hi0; (simp only [go_sem, eq_self, MvRb, MvRn, MvRt, List.nodup_cons, List.nodup_nil, ↓reduceIte, Nat.reduceEqDiff, Nat.reduceLT, Nat.reduceLeDiff, reduceCtorEq, List.forall_mem_nil, Nat.zero_le, false_implies, List.mem_singleton, modIB, mz11, mSrc', mMix', mGain', mDelay', mSlicer', mMeter', mHold', mSum', rowsZ_nil, rowsN_nil]) <;> simp [lk, MvB_im, modIB, mSrc', mMix', mGain', mDelay', mSlicer', mMeter', mHold', mSum', rowsZ_nil, rowsN_nil] <;> (try rfl)⟩ (fun ⟨⟨⟨m, hD⟩, ⟨⟨a, k⟩, b⟩⟩, ⟨n, hn⟩⟩ => ?_)
  case' h6 =>
    try simp -dsimp (maxSteps := 1000000) only [go_sem, List.forall_mem_nil, ↓reduceIte, Nat.reduceEqDiff, Nat.reduceLT, Nat.reduceLeDiff, Nat.reduceAdd, Nat.reduceMul, reduceCtorEq, Tryz.f31, Int.reduceEq, run_l01Below h1 h2 b1.1 b1.2 (n := 6) (by decide) (by decide), oBelow, ne_below l (n := 6) (by decide), hsK]
    rintro ⟨⟨x, ⟨⟨a2, k2⟩, b2⟩⟩, x1, x2⟩
    simp only at x1 x2
    obtain ⟨X, rfl⟩ := Int.eq_ofNat_of_zero_le x1
    have hw : IntKind.i64.wrap (1 + (X : Int)) = ((X + 1 : Nat) : Int) := by rw [wrap_id (by omega) (by omega)]; omega
    try simp -dsimp (maxSteps := 1000000) only [go_sem, List.forall_mem_nil, ↓reduceIte, Nat.reduceEqDiff, Nat.reduceLT, Nat.reduceLeDiff, Nat.reduceAdd, Nat.reduceMul, reduceCtorEq, Tryz.f31, hw, run_sHold (n := X + 1) (by omega) (by omega), rMB, rM, modC, mHold', hsK, h8 a2 k2 b2.1 b2.2, oBelow, ne_below l (n := 8) (by decide)]
    rintro ⟨⟨v9, ⟨⟨a, k⟩, b⟩⟩, r1, r2⟩
    simp only at r1 r2 b
    obtain ⟨N, rfl⟩ := Int.eq_ofNat_of_zero_le r1
    try simp -dsimp (maxSteps := 1000000) only [go_sem, List.forall_mem_nil, ↓reduceIte, Nat.reduceEqDiff, Nat.reduceLT, Nat.reduceLeDiff, Nat.reduceAdd, Nat.reduceMul, reduceCtorEq, Tryz.f31, hsK]
    obtain ⟨i0, hi0⟩ : ∃ w : ({ m : Mod // Drawn m } × SK l) × { n : Nat // n ≤ 8 }, w = ((⟨(mHold' (0, 0) ((X + 1 : Nat) : Int) 0), drawn_hold (by omega) (by omega) (by omega) (by omega)⟩, ⟨(a, k), b⟩), ⟨N, by omega⟩) := ⟨_, rfl⟩
    refine loop_i (ι := ({ m : Mod // Drawn m } × SK l) × { n : Nat // n ≤ 8 }) (fun x => ⟨[(0, some (.c (.ptr 0 0 0 0))), (2, some (.c (.ptr 1 0 0 0))), (3, some (.c (.ptr 2 0 0 0))), (4, some (.c (.im (.int .i64 (x.2.1 : Int)))))],
      [(0, some (.box [.t (.im (.sl 1 (rowsB l))), .t (.im (.int .i64 x.1.2.1.1)), .t (.im (.int .i64 x.1.2.1.2))])), (1, some (.box mz11)), (2, some (.box (modIB x.1.1.1)))], 3⟩) (fun x => x.2.1) i0 ⟨[], [0, 1, 2], by subst hi0; (simp only [go_sem, eq_self, MvRb, MvRn, MvRt, List.nodup_cons, List.nodup_nil, ↓reduceIte, Nat.reduceEqDiff, Nat.reduceLT, Nat.reduceLeDiff, reduceCtorEq, List.forall_mem_nil, Nat.zero_le, false_implies, List.mem_singleton, modIB, mz11, mSrc', mMix', mGain', mDelay', mSlicer', mMeter', mHold', mSum', rowsZ_nil, rowsN_nil]) <;> simp [lk, MvB_im, modIB, mSrc', mMix', mGain', mDelay', mSlicer', mMeter', mHold', mSum', rowsZ_nil, rowsN_nil] <;> (try rfl)⟩ (fun ⟨⟨⟨m, hD⟩, ⟨⟨a, k⟩, b⟩⟩, ⟨n, hn⟩⟩ => ?_)
  case' h7 =>
    try simp -dsimp (maxSteps := 1000000) only [go_sem, List.forall_mem_nil, ↓reduceIte, Nat.reduceEqDiff, Nat.reduceLT, Nat.reduceLeDiff, Nat.reduceAdd, Nat.reduceMul, reduceCtorEq, Tryz.f31, Int.reduceEq, rM, modC, mSum', hsK, h8 a1 k1 b1.1 b1.2, oBelow, ne_below l (n := 8) (by decide)]
    rintro ⟨⟨v9, ⟨⟨a, k⟩, b⟩⟩, r1, r2⟩
    simp only at r1 r2 b
    obtain ⟨N, rfl⟩ := Int.eq_ofNat_of_zero_le r1
    try simp -dsimp (maxSteps := 1000000) only [go_sem, List.forall_mem_nil, ↓reduceIte, Nat.reduceEqDiff, Nat.reduceLT, Nat.reduceLeDiff, Nat.reduceAdd, Nat.reduceMul, reduceCtorEq, Tryz.f31, hsK]
    obtain ⟨i0, hi0⟩ : ∃ w : ({ m : Mod // Drawn m } × SK l) × { n : Nat // n ≤ 8 }, w = ((⟨mSum', drawn_sum⟩, ⟨(a, k), b⟩), ⟨N, by omega⟩) := ⟨_, rfl⟩
    refine loop_i (ι := ({ m : Mod // Drawn m } × SK l) × { n : Nat // n ≤ 8 }) (fun x => ⟨[(0, some (.c (.ptr 0 0 0 0))), (2, some (.c (.ptr 1 0 0 0))), (3, some (.c (.ptr 2 0 0 0))), (4, some (.c (.im (.int .i64 (x.2.1 : Int)))))],
      [(0, some (.box [.t (.im (.sl 1 (rowsB l))), .t (.im (.int .i64 x.1.2.1.1)), .t (.im (.int .i64 x.1.2.1.2))])), (1, some (.box mz11)), (2, some (.box (modIB x.1.1.1)))], 3⟩) (fun x => x.2.1) i0 ⟨[], [0, 1, 2], by subst hi0; (simp only [go_sem, eq_self, MvRb, MvRn, MvRt, List.nodup_cons, List.nodup_nil, ↓reduceIte, Nat.reduceEqDiff, Nat.reduceLT, Nat.reduceLeDiff, reduceCtorEq, List.forall_mem_nil, Nat.zero_le, false_implies, List.mem_singleton, modIB, mz11, mSrc', mMix', mGain', mDelay', mSlicer', mMeter', mHold', mSum', rowsZ_nil, rowsN_nil]) <;> simp [lk, MvB_im, modIB, mSrc', mMix', mGain', mDelay', mSlicer', mMeter', mHold', mSum', rowsZ_nil, rowsN_nil] <;> (try rfl)⟩ (fun ⟨⟨⟨m, hD⟩, ⟨⟨a, k⟩, b⟩⟩, ⟨n, hn⟩⟩ => ?_)
  all_goals (
    simp only [modIB, mz11] at hD b ⊢
    obtain ⟨kd, ⟨t1, t2⟩, ⟨s1, s2⟩, lv, st, ra, rc, pts, lab, c, le⟩ := m
    match n with
    | 0 =>
      have c0 : ((0 : Nat) : Int) = 0 := rfl
      have d0 : ((0 : Int) < 0) = False := by simp
      try simp -dsimp (maxSteps := 1000000) only [go_sem, List.forall_mem_nil, ↓reduceIte, Nat.reduceEqDiff, Nat.reduceLT, Nat.reduceLeDiff, Nat.reduceAdd, Nat.reduceMul, reduceCtorEq, Tryz.f31, c0, d0]
      refine finF_i [] ?_
      simp -dsimp (maxSteps := 1000000) only [go_sem, List.forall_mem_nil, ↓reduceIte, Nat.reduceEqDiff, Nat.reduceLT, Nat.reduceLeDiff, Nat.reduceAdd, Nat.reduceMul, reduceCtorEq, modC]
      exact ⟨(⟨⟨kd, (t1, t2), (s1, s2), lv, st, ra, rc, pts, lab, c, le⟩, hD⟩, ⟨(a, k), b⟩), rfl, by simp⟩
    | n + 1 =>
      have d0 : ((0 : Int) < ((n + 1 : Nat) : Int)) = True := eq_true (by omega)
      have hk : IntKind.i64.wrap (((n + 1 : Nat) : Int) - 1) = (n : Int) := by rw [wrap_id (by omega) (by omega)]; omega
      obtain ⟨q1, q2, q3⟩ := hD.ok
      simp only at q1 q2 q3
      try simp -dsimp (maxSteps := 1000000) only [go_sem, List.forall_mem_nil, ↓reduceIte, Nat.reduceEqDiff, Nat.reduceLT, Nat.reduceLeDiff, Nat.reduceAdd, Nat.reduceMul, reduceCtorEq, Tryz.f31, d0, run_l5Copy q1 q2 q3, rM, modC, run_l2Small h1 h2 b.1 b.2, oSmall, hsK, ne_small]
      rintro ⟨⟨⟨x, y⟩, ⟨⟨a2, k2⟩, b2⟩⟩, x1, x2, y1, y2⟩
      simp only at x1 x2 y1 y2
      have hx := abs_small x1 x2
      have hy := abs_small y1 y2
      generalize hX : wI x = X at hx
      generalize hY : wI y = Y at hy
      have rs := run_l5Step hD hx hy
      simp only [modC] at rs
      try simp -dsimp (maxSteps := 1000000) only [go_sem, List.forall_mem_nil, ↓reduceIte, Nat.reduceEqDiff, Nat.reduceLT, Nat.reduceLeDiff, Nat.reduceAdd, Nat.reduceMul, reduceCtorEq, Tryz.f31, hX, hY, rs, oStp, ne_stp, modC, hsK]
      rintro ⟨⟨m', z'⟩, hD'⟩
      try simp -dsimp (maxSteps := 1000000) only [go_sem, List.forall_mem_nil, ↓reduceIte, Nat.reduceEqDiff, Nat.reduceLT, Nat.reduceLeDiff, Nat.reduceAdd, Nat.reduceMul, reduceCtorEq, Tryz.f31, hk, modC]
      exact ⟨((⟨m', hD'⟩, ⟨(a2, k2), b2⟩), ⟨n, by omega⟩), by simp only []; omega, [], [0, 1, 2], by (simp only [go_sem, eq_self, MvRb, MvRn, MvRt, List.nodup_cons, List.nodup_nil, ↓reduceIte, Nat.reduceEqDiff, Nat.reduceLT, Nat.reduceLeDiff, reduceCtorEq, List.forall_mem_nil, Nat.zero_le, false_implies, List.mem_singleton, modIB, mz11]) <;> simp [lk, MvB_im]⟩)
end Go.SX
set_option linter.unusedVariables false
set_option linter.unusedSimpArgs false
namespace Go.SX
open Go Go.Proofs
def strL (l : List UInt8) : ByteArray := ⟨l.toArray⟩
theorem strL_app (a b : List UInt8) : strL a ++ strL b = strL (a ++ b) := by
  apply ByteArray.ext
  simp [strL]
theorem strL_size (l : List UInt8) : (strL l).size = l.length := by simp [strL, ByteArray.size]
theorem bytesS_cons (ns : List Int) : bytesS ns = strL (ns.map fun n => UInt8.ofNat n.toNat) := by
  have key : ∀ (ns : List Int) (r : ByteArray), ns.foldl (fun r n => r.push (UInt8.ofNat n.toNat)) r = r ++ strL (ns.map fun n => UInt8.ofNat n.toNat) := by
    intro ns
    induction ns with
    | nil => intro r; simp [strL]; apply ByteArray.ext; simp
    | cons n ns ih =>
      intro r
      simp only [List.foldl_cons, ih, List.map_cons]
      apply ByteArray.ext
      simp [strL]
  have h := key ns ByteArray.empty
  have e : ByteArray.empty ++ strL (ns.map fun n => UInt8.ofNat n.toNat) = strL (ns.map fun n => UInt8.ofNat n.toNat) := by apply ByteArray.ext; simp [strL]
  unfold bytesS
  rw [h, e]
def dig (d : Nat) : UInt8 := UInt8.ofNat (48 + d)
def digF : Nat → Nat → List UInt8
  | 0, _ => []
  | f + 1, n => if n < 10 then [dig n] else digF f (n / 10) ++ [dig (n % 10)]
theorem digF_mono : ∀ (f g n : Nat), n < 10 ^ f → n < 10 ^ g → 0 < f → 0 < g → digF f n = digF g n
  | 0, _, _, _, _, h, _ => by omega
  | _, 0, _, _, _, _, h => by omega
  | f + 1, g + 1, n, h1, h2, _, _ => by
    simp only [digF]
    split
    · rfl
    · rename_i hn
      rw [Nat.pow_succ] at h1 h2
      have a1 : n / 10 < 10 ^ f := Nat.div_lt_of_lt_mul (by omega)
      have a2 : n / 10 < 10 ^ g := Nat.div_lt_of_lt_mul (by omega)
      have b1 : 0 < f := by
        rcases Nat.eq_zero_or_pos f with rfl | h
        · simp at a1; omega
        · exact h
      have b2 : 0 < g := by
        rcases Nat.eq_zero_or_pos g with rfl | h
        · simp at a2; omega
        · exact h
      rw [digF_mono f g (n / 10) a1 a2 b1 b2]
def digs (n : Nat) : List UInt8 := digF 20 n
theorem digs_small {n : Nat} (h : n < 10) : digs n = [dig n] := by simp [digs, digF, h]
theorem digs_step {n : Nat} (h : 10 ≤ n) (h2 : n < 10 ^ 19) : digs n = digs (n / 10) ++ [dig (n % 10)] := by
  have : ¬ n < 10 := by omega
  have e : digs n = digF 19 (n / 10) ++ [dig (n % 10)] := by
    unfold digs
    rw [show (20 : Nat) = 19 + 1 from rfl]
    simp only [digF, this, if_false]
  rw [e, digs, digF_mono 19 20 (n / 10) (by omega) (by omega) (by omega) (by omega)]
theorem digs_len : ∀ (f n : Nat), (digF f n).length ≤ f
  | 0, n => by simp [digF]
  | f + 1, n => by
    simp only [digF]
    split
    · simp
    · have := digs_len f (n / 10); simp; omega
def digR (k : Nat) (cur : List UInt8) : List UInt8 := if k = 0 then cur else digs k ++ cur
theorem digR_step {k : Nat} (h : 0 < k) (h2 : k < 10 ^ 19) (cur : List UInt8) : digR k cur = digR (k / 10) (dig (k % 10) :: cur) := by
  unfold digR
  rw [if_neg (by omega)]
  by_cases h10 : k < 10
  · rw [if_pos (by omega), digs_small h10, Nat.mod_eq_of_lt h10]; rfl
  · rw [if_neg (by omega), digs_step (by omega) h2, List.append_assoc]; rfl
abbrev NNum := { n : Nat // n < 9223372036854775808 }
noncomputable def ct_l1Number : Ct := fam true (fun x : NNum => ([.c (.im (.int .i64 (x.1 : Int)))], [])) (fun x => .one { val := .c (.im (.str (strL (digs x.1)))) })
theorem run_l1Number {n : Nat} (h : n < 9223372036854775808) : ct_l1Number.run [.c (.im (.int .i64 (n : Int)))] [] = some (.one { val := .c (.im (.str (strL (digs n)))) }) := fam_run' (args := fun x : NNum => ([D.c (.im (.int .i64 (x.1 : Int)))], [])) (by
    intro a b h
    simp only [Prod.mk.injEq, List.cons.injEq, D.c.injEq, D.agg.injEq, C.im.injEq, I.cpx.injEq, I.flt.injEq, I.int.injEq, I.sl.injEq, I.bool.injEq, I.str.injEq, Int.natCast_inj, true_and, and_true] at h
    (try simp only [Prod.ext_iff, Subtype.ext_iff])
    (try simp only [rowsZ_eq, rowsN_eq] at h)
    simp_all) (⟨n, h⟩ : NNum)
set_option maxRecDepth 100000 in
set_option maxHeartbeats 8000000 in
theorem law_l1Number : Law Tryz.prog 128 ct_l1Number := by
  refine fam_law Env_nil hmixA Tryz.func128 rfl rfl (fun ⟨n, hn⟩ => ⟨okO_im rfl, by simp [Tryz.f128], ?_⟩)
  simp only
  have hneg : ((n : Int) < 0) = False := eq_false (by omega)
  have h10 : ((10 : Int) = 0) = False := by simp
  have hm : ∀ k : Nat, (k : Int).tmod 10 = ((k % 10 : Nat) : Int) := fun k => by rw [Int.tmod_eq_emod_of_nonneg (by omega)]; omega
  have hd : ∀ k : Nat, k < 9223372036854775808 → IntKind.i64.wrap ((k : Int).tdiv 10) = ((k / 10 : Nat) : Int) := fun k hk => by
    rw [Int.tdiv_eq_ediv_of_nonneg (by omega), wrap_id (by omega) (by omega)]; omega
  have hw : ∀ k : Nat, IntKind.i64.wrap (48 + ((k % 10 : Nat) : Int)) = ((48 + k % 10 : Nat) : Int) := fun k => by rw [wrap_id (by omega) (by omega)]; omega
  have hw8 : ∀ k : Nat, IntKind.u8.wrap ((48 + k % 10 : Nat) : Int) = ((48 + k % 10 : Nat) : Int) := fun k => by
    show (((48 + k % 10 : Nat) : Int) % 256) = _
    omega
  have hbs : ∀ k : Nat, bytesS [((48 + k % 10 : Nat) : Int)] = strL [dig (k % 10)] := fun k => by rw [bytesS_cons]; rfl
  try simp -dsimp (maxSteps := 1000000) only [go_sem, List.forall_mem_nil, ↓reduceIte, Nat.reduceEqDiff, Nat.reduceLT, Nat.reduceLeDiff, Nat.reduceAdd, Nat.reduceMul, reduceCtorEq, Tryz.f128, hneg, h10, hm, hd n hn, hw, hw8, hbs]
  refine loop_i (ι := { x : Nat × List UInt8 // x.1 < 9223372036854775808 ∧ digR x.1 x.2 = digs n }) (fun x => ⟨[(0, some (.c (.im (.int .i64 (x.1.1 : Int))))), (3, some (.c (.im (.str (strL x.1.2)))))], [], 0⟩) (fun x => x.1.1)
    ⟨(n / 10, [dig (n % 10)]), by omega, by
      by_cases h0 : n = 0
      · subst h0; rfl
      · rw [← digR_step (by omega) (by omega) []]; simp [digR, h0]⟩ ⟨[], [], by (simp only [go_sem, eq_self, MvRb, MvRn, MvRt, List.nodup_cons, List.nodup_nil, ↓reduceIte, Nat.reduceEqDiff, Nat.reduceLT, Nat.reduceLeDiff, reduceCtorEq, List.forall_mem_nil, Nat.zero_le, false_implies, List.mem_singleton]) <;> simp⟩ (fun ⟨⟨k, cur⟩, hk, hinv⟩ => ?_)
  simp only at hk hinv ⊢
  by_cases h0 : k = 0
  · subst h0
    have hI : ((0 : Int) < ((0 : Nat) : Int)) = False := by simp
    simp only [digR, if_true] at hinv
    try simp -dsimp (maxSteps := 1000000) only [go_sem, List.forall_mem_nil, ↓reduceIte, Nat.reduceEqDiff, Nat.reduceLT, Nat.reduceLeDiff, Nat.reduceAdd, Nat.reduceMul, reduceCtorEq, Tryz.f128, hI, hinv]
  · have hI : ((0 : Int) < (k : Int)) = True := eq_true (by omega)
    have hlen : cur.length ≤ 20 := by
      have := congrArg List.length hinv
      have h20 := digs_len 20 n
      simp only [digR, h0, if_false, List.length_append] at this
      unfold digs at this
      omega
    have hsz : ((strL [dig (k % 10)]).size + (strL cur).size ≤ 4611686018427387904) = True := eq_true (by rw [strL_size, strL_size]; simp; omega)
    rw [digR_step (by omega) (by omega)] at hinv
    try simp -dsimp (maxSteps := 1000000) only [go_sem, List.forall_mem_nil, ↓reduceIte, Nat.reduceEqDiff, Nat.reduceLT, Nat.reduceLeDiff, Nat.reduceAdd, Nat.reduceMul, reduceCtorEq, Tryz.f128, hI, h10, hm, hd k hk, hw, hw8, hbs, hsz, strL_app]
    exact ⟨⟨(k / 10, dig (k % 10) :: cur), by omega, hinv⟩, by simp only []; omega, [], [], by (simp only [go_sem, eq_self, MvRb, MvRn, MvRt, List.nodup_cons, List.nodup_nil, ↓reduceIte, Nat.reduceEqDiff, Nat.reduceLT, Nat.reduceLeDiff, reduceCtorEq, List.forall_mem_nil, Nat.zero_le, false_implies, List.mem_singleton]) <;> simp⟩
theorem toL (l : List UInt8) : (strL l).toList = l := by rw [ByteArray.toList_eq]; rfl
structure Lvl (x Y : Nat) (M : Nat) : Prop where
  fin : finS x = true
  e0 : fcmp .eql .f32 x 0 = false
  l0 : fcmp .lss .f32 x 0 = false
  y : w64 (absS x) = Y
  g : fcmp .geq .f64 Y 4715268809856909312 = false
  nn : isNaNb .f64 Y = false
  i : (FloatKind.f64.decode Y).toInt .zero = some (M : Int)
  b : fcmp .neq .f64 Y (FloatKind.f64.nearest (M : Int)) = false
  m : 1 ≤ M ∧ M ≤ 3
theorem lvl_parts {x : Nat} (h : lvlB x = true) (h0 : x ≠ 0) : ∃ Y M, Lvl x Y M := by
  rcases lvl_cases h with rfl | rfl | rfl | rfl
  · exact absurd rfl h0
  · exact ⟨w64 1065353216, 1, by decide +kernel, by decide +kernel, by decide +kernel, by decide +kernel, by decide +kernel, by decide +kernel, by decide +kernel, by decide +kernel, by omega⟩
  · exact ⟨w64 1073741824, 2, by decide +kernel, by decide +kernel, by decide +kernel, by decide +kernel, by decide +kernel, by decide +kernel, by decide +kernel, by decide +kernel, by omega⟩
  · exact ⟨w64 1077936128, 3, by decide +kernel, by decide +kernel, by decide +kernel, by decide +kernel, by decide +kernel, by decide +kernel, by decide +kernel, by decide +kernel, by omega⟩
abbrev QNeg := { s : ByteArray // (s.toList == (⟨#[45, 48]⟩ : ByteArray).toList) = false }
def oFmt (x : Nat) : Outs := if x = 0 then .one { val := .c (.im (.str ⟨#[48]⟩)) } else .any QNeg (fun q => { val := .c (.im (.str q.1)) })
theorem ne_qneg : Nonempty QNeg = True := by simp only [eq_iff_iff, iff_true]; exact ⟨⟨strL [], by rw [toL, ByteArray.toList_eq]; rfl⟩⟩
noncomputable def ct_Format : Ct := fam true (fun x : { x : Nat // lvlB x = true } => ([.c (.im (.flt .f32 x.1))], [])) (fun x => oFmt x.1)
theorem run_Format {x : Nat} (h : lvlB x = true) : ct_Format.run [.c (.im (.flt .f32 x))] [] = some (oFmt x) := by
  refine fam_run' (args := fun x : { x : Nat // lvlB x = true } => ([D.c (.im (.flt .f32 x.1))], [])) (fun a b h => ?_) (⟨x, h⟩ : { x : Nat // lvlB x = true })
  simp at h; exact Subtype.ext h
theorem run_Format0 : ct_Format.run [.c (.im (.flt .f32 0))] [] = some (.one { val := .c (.im (.str ⟨#[48]⟩)) }) := run_Format (by decide)
set_option maxRecDepth 100000 in
set_option maxHeartbeats 8000000 in
theorem law_Format : Law Tryz.prog 85 ct_Format := by
  refine fam_law (Env_cons law_l1Finite (Env_cons law_l1Abs (Env_cons law_l1Number Env_nil))) hmixA Tryz.func85 rfl rfl (fun ⟨x, hx⟩ => ⟨?_, by simp [Tryz.f85], ?_⟩)
  · simp only [oFmt]; split
    · exact okO_im rfl
    · exact okA (fun o => okR_im rfl)
  simp only at hx ⊢
  by_cases h0 : x = 0
  · subst h0
    have f1 : finS 0 = true := by decide +kernel
    have f2 : fcmp .eql .f32 0 0 = true := by decide +kernel
    have f3 : fcmp .lss .f32 (fop .quo .f32 1065353216 0) 0 = false := by decide +kernel
    simp only [oFmt, if_true]
    try simp -dsimp (maxSteps := 1000000) only [go_sem, List.forall_mem_nil, ↓reduceIte, Nat.reduceEqDiff, Nat.reduceLT, Nat.reduceLeDiff, Nat.reduceAdd, Nat.reduceMul, reduceCtorEq, Tryz.f85, run_l1Finite, f1, f2, f3]
  · obtain ⟨Y, M, hL⟩ := lvl_parts hx h0
    obtain ⟨p1, p2, p3, p4, p5, p6, p7, p8, p9, p10⟩ := hL
    have h0' := eq_false h0
    clear hx h0
    try simp -dsimp (maxSteps := 1000000) only [go_sem, List.forall_mem_nil, ↓reduceIte, Nat.reduceEqDiff, Nat.reduceLT, Nat.reduceLeDiff, Nat.reduceAdd, Nat.reduceMul, reduceCtorEq, Tryz.f85, run_l1Finite, p1, p2, p3, run_l1Abs, fconv_w, p4]
    refine loop_i (ι := Unit) (fun _ => ⟨[(3, some (.c (.im (.str ⟨#[]⟩)))), (4, some (.c (.im (.flt .f64 Y)))), (5, some (.c (.im (.int .i64 0))))], [], 0⟩) (fun _ => 0) () ⟨[], [], by (simp only [go_sem, eq_self, MvRb, MvRn, MvRt, List.nodup_cons, List.nodup_nil, ↓reduceIte, Nat.reduceEqDiff, Nat.reduceLT, Nat.reduceLeDiff, reduceCtorEq, List.forall_mem_nil, Nat.zero_le, false_implies, List.mem_singleton]) <;> simp⟩ (fun _ => ?_)
    try simp -dsimp (maxSteps := 1000000) only [go_sem, List.forall_mem_nil, ↓reduceIte, Nat.reduceEqDiff, Nat.reduceLT, Nat.reduceLeDiff, Nat.reduceAdd, Nat.reduceMul, reduceCtorEq, Tryz.f85, p5]
    refine loop_i (ι := Unit) (fun _ => ⟨[(3, some (.c (.im (.str ⟨#[]⟩)))), (4, some (.c (.im (.flt .f64 Y)))), (5, some (.c (.im (.int .i64 0))))], [], 0⟩) (fun _ => 0) () ⟨[], [], by (simp only [go_sem, eq_self, MvRb, MvRn, MvRt, List.nodup_cons, List.nodup_nil, ↓reduceIte, Nat.reduceEqDiff, Nat.reduceLT, Nat.reduceLeDiff, reduceCtorEq, List.forall_mem_nil, Nat.zero_le, false_implies, List.mem_singleton]) <;> simp⟩ (fun _ => ?_)
    have r1 : (IntKind.i64.min ≤ (M : Int) ∧ (M : Int) ≤ IntKind.i64.max) = True := eq_true (by
      have e1 : IntKind.i64.min = -9223372036854775808 := by decide
      have e2 : IntKind.i64.max = 9223372036854775807 := by decide
      rw [e1, e2]; omega)
    try simp -dsimp (maxSteps := 1000000) only [go_sem, List.forall_mem_nil, ↓reduceIte, Nat.reduceEqDiff, Nat.reduceLT, Nat.reduceLeDiff, Nat.reduceAdd, Nat.reduceMul, reduceCtorEq, Tryz.f85, p6, p7, p8, r1]
    refine loop_i (ι := { x : Nat × Nat // 1 ≤ x.1 ∧ x.1 + x.2 ≤ 3 }) (fun x => ⟨[(3, some (.c (.im (.str ⟨#[]⟩)))), (5, some (.c (.im (.int .i64 (x.1.2 : Int))))), (6, some (.c (.im (.int .i64 (x.1.1 : Int)))))], [], 0⟩) (fun x => x.1.1) ⟨(M, 0), by omega⟩ ⟨[], [], by ((simp only [go_sem, eq_self, MvRb, MvRn, MvRt, List.nodup_cons, List.nodup_nil, ↓reduceIte, Nat.reduceEqDiff, Nat.reduceLT, Nat.reduceLeDiff, reduceCtorEq, List.forall_mem_nil, Nat.zero_le, false_implies, List.mem_singleton]) <;> (try (simp -dsimp only [go_sem, eq_self, MvRb, MvRn, MvRt, List.nodup_cons, List.nodup_nil, ↓reduceIte, Nat.reduceEqDiff, Nat.reduceLT, Nat.reduceLeDiff, reduceCtorEq, List.forall_mem_nil, Nat.zero_le, false_implies, List.mem_singleton]))) <;> simp⟩ (fun ⟨⟨m, e⟩, q1, q2⟩ => ?_)
    simp only at q1 q2 ⊢
    have n2 : ((2 : Int) = 0) = False := by simp
    have hm : (m : Int).tmod 2 = ((m % 2 : Nat) : Int) := by rw [Int.tmod_eq_emod_of_nonneg (by omega)]; omega
    by_cases hev : m % 2 = 0
    · have h1 : (((m % 2 : Nat) : Int) = 0) = True := eq_true (by omega)
      have hd : IntKind.i64.wrap ((m : Int).tdiv 2) = ((m / 2 : Nat) : Int) := by rw [Int.tdiv_eq_ediv_of_nonneg (by omega), wrap_id (by omega) (by omega)]; omega
      have he : IntKind.i64.wrap ((e : Int) + 1) = ((e + 1 : Nat) : Int) := by rw [wrap_id (by omega) (by omega)]; omega
      try simp -dsimp (maxSteps := 1000000) only [go_sem, List.forall_mem_nil, ↓reduceIte, Nat.reduceEqDiff, Nat.reduceLT, Nat.reduceLeDiff, Nat.reduceAdd, Nat.reduceMul, reduceCtorEq, Tryz.f85, n2, hm, h1, hd, he]
      exact ⟨⟨(m / 2, e + 1), by omega⟩, by simp only []; omega, [], [], by (simp only [go_sem, eq_self, MvRb, MvRn, MvRt, List.nodup_cons, List.nodup_nil, ↓reduceIte, Nat.reduceEqDiff, Nat.reduceLT, Nat.reduceLeDiff, reduceCtorEq, List.forall_mem_nil, Nat.zero_le, false_implies, List.mem_singleton]) <;> simp⟩
    · have h1 : (((m % 2 : Nat) : Int) = 0) = False := eq_false (by omega)
      have e1 : ((⟨#[]⟩ : ByteArray)) = strL [] := rfl
      have e2 : ((⟨#[112]⟩ : ByteArray)) = strL [112] := rfl
      have l1 := digs_len 20 m
      have l2 := digs_len 20 e
      have z1 : ((digs m).length ≤ 4611686018427387904) = True := eq_true (by unfold digs; omega)
      have z2 : ((digs m).length + 1 ≤ 4611686018427387904) = True := eq_true (by unfold digs; omega)
      have z3 : ((digs m ++ [112]).length + (digs e).length ≤ 4611686018427387904) = True := eq_true (by unfold digs; simp; omega)
      try simp -dsimp (maxSteps := 1000000) only [go_sem, List.forall_mem_nil, ↓reduceIte, Nat.reduceEqDiff, Nat.reduceLT, Nat.reduceLeDiff, Nat.reduceAdd, Nat.reduceMul, reduceCtorEq, Tryz.f85, n2, hm, h1, run_l1Number (n := m) (by omega), run_l1Number (n := e) (by omega), e1, e2, strL_app, strL_size, z1, z2, z3, h0', oFmt, List.nil_append]
      refine ⟨⟨strL (digs m ++ [112] ++ digs e), ?_⟩, rfl⟩
      rw [toL, ByteArray.toList_eq]
      have hm3 : m = 1 ∨ m = 2 ∨ m = 3 := by omega
      have he3 : e = 0 ∨ e = 1 ∨ e = 2 := by omega
      rcases hm3 with rfl | rfl | rfl <;> rcases he3 with rfl | rfl | rfl <;> first | omega | decide +kernel
theorem beq48 : ((⟨#[48]⟩ : ByteArray).toList == (⟨#[48]⟩ : ByteArray).toList) = true := beq_self_eq_true _
noncomputable def ct_l4Zero : Ct := fam true (fun _ : Unit => ([.c (.im (.cpx .f32 0 0))], [])) (fun _ => .one { val := .c (.im (.bool true)) })
theorem run_l4Zero : ct_l4Zero.run [.c (.im (.cpx .f32 0 0))] [] = some (.one { val := .c (.im (.bool true)) }) := fam_run' (args := fun _ : Unit => ([D.c (.im (.cpx .f32 0 0))], [])) (fun _ _ _ => rfl) ()
set_option maxRecDepth 100000 in
theorem law_l4Zero : Law Tryz.prog 125 ct_l4Zero := by
  refine fam_law (Env_cons law_Format Env_nil) hmixA Tryz.func125 rfl rfl (fun _ => ⟨okO_im rfl, by simp [Tryz.f125], ?_⟩)
  try simp -dsimp (maxSteps := 1000000) only [go_sem, List.forall_mem_nil, ↓reduceIte, Nat.reduceEqDiff, Nat.reduceLT, Nat.reduceLeDiff, Nat.reduceAdd, Nat.reduceMul, reduceCtorEq, Tryz.f125, run_Format0, beq48]
def usesF (k : Int) : List (List I) :=
  if k = 1 ∨ k = 2 then [[.bool true], [.bool true], [.bool false], [.bool false], [.bool false], [.bool false], [.bool false]]
  else if k = 3 ∨ k = 7 then [[.bool false], [.bool false], [.bool true], [.bool false], [.bool false], [.bool false], [.bool false]]
  else if k = 4 then [[.bool false], [.bool false], [.bool false], [.bool true], [.bool false], [.bool false], [.bool false]]
  else if k = 6 then [[.bool false], [.bool false], [.bool false], [.bool false], [.bool true], [.bool true], [.bool false]]
  else if k = 8 then [[.bool false], [.bool true], [.bool false], [.bool false], [.bool false], [.bool true], [.bool true]]
  else [[.bool false], [.bool false], [.bool false], [.bool false], [.bool false], [.bool false], [.bool false]]
abbrev NKnd := { k : Int // k = 1 ∨ k = 2 ∨ k = 3 ∨ k = 4 ∨ k = 5 ∨ k = 6 ∨ k = 7 ∨ k = 8 }
noncomputable def ct_l5Uses : Ct := fam false (fun x : NKnd => ([.c (.im (.int .i64 x.1))], [])) (fun x => .one { val := .c (.im (.sl 1 (usesF x.1))) })
theorem run_l5Uses {k : Int} (h : k = 1 ∨ k = 2 ∨ k = 3 ∨ k = 4 ∨ k = 5 ∨ k = 6 ∨ k = 7 ∨ k = 8) : ct_l5Uses.run [.c (.im (.int .i64 k))] [] = some (.one { val := .c (.im (.sl 1 (usesF k))) }) := fam_run' (args := fun x : NKnd => ([D.c (.im (.int .i64 x.1))], [])) (by
    intro a b h
    simp only [Prod.mk.injEq, List.cons.injEq, D.c.injEq, D.agg.injEq, C.im.injEq, I.cpx.injEq, I.flt.injEq, I.int.injEq, I.sl.injEq, I.bool.injEq, I.str.injEq, Int.natCast_inj, true_and, and_true] at h
    (try simp only [Prod.ext_iff, Subtype.ext_iff])
    (try simp only [rowsZ_eq, rowsN_eq] at h)
    simp_all) (⟨k, h⟩ : NKnd)
set_option maxRecDepth 100000 in
set_option maxHeartbeats 8000000 in
theorem law_l5Uses : Law Tryz.prog 124 ct_l5Uses := by
  refine fam_lawF Env_nil hmixA Tryz.func124 rfl rfl (fun ⟨k, hk⟩ => ⟨okO ⟨.c _ (.im _ (.inl rfl)), by simp, by simp⟩, by simp [Tryz.f124], ?_⟩)
  simp only at hk ⊢
  have h17 : (((1 : Nat) : Int) * 7 ≤ 281474976710656) = True := by decide
  rcases hk with rfl | rfl | rfl | rfl | rfl | rfl | rfl | rfl
  all_goals (
    try simp -dsimp (maxSteps := 1000000) only [go_sem, List.forall_mem_nil, ↓reduceIte, Nat.reduceEqDiff, Nat.reduceLT, Nat.reduceLeDiff, Nat.reduceAdd, Nat.reduceMul, reduceCtorEq, Tryz.f124, h17, Int.reduceEq, Int.reduceLE, Int.reduceMul, Int.reduceToNat, Int.reduceLT]
    refine finF_i [.frz 0 [.s 2]] ?_
    simp -dsimp (maxSteps := 1000000) only [go_sem, List.forall_mem_nil, ↓reduceIte, Nat.reduceEqDiff, Nat.reduceLT, Nat.reduceLeDiff, Nat.reduceAdd, Nat.reduceMul, reduceCtorEq, usesF, Int.reduceEq])
end Go.SX
set_option linter.unusedVariables false
set_option linter.unusedSimpArgs false
namespace Go.SX
open Go Go.Proofs
noncomputable def ct_l5Unused : Ct := fam true (fun x : QMod => ([.agg (modC x.1)], [])) (fun _ => .one { val := .c (.im (.bool true)) })
theorem run_l5Unused {m : Mod} (h : Drawn m) : ct_l5Unused.run [.agg (modC m)] [] = some (.one { val := .c (.im (.bool true)) }) := fam_run (args := fun x : QMod => ([D.agg (modC x.1)], [])) (fun _ _ _ => rfl) ⟨m, h⟩
set_option maxRecDepth 100000 in
set_option maxHeartbeats 16000000 in
theorem law_l5Unused : Law Tryz.prog 82 ct_l5Unused := by
  refine fam_law (Env_cons law_l5Uses (Env_cons law_l4Zero (Env_cons law_Format Env_nil))) hmixA Tryz.func82 rfl rfl (fun ⟨m, hD⟩ => ⟨okO_im rfl, by simp [Tryz.f82], ?_⟩)
  simp only
  have bn : (!((⟨#[48]⟩ : ByteArray).toList == (⟨#[48]⟩ : ByteArray).toList)) = false := by rw [beq48]; rfl
  have z1 := run_l5Uses (k := 1) (by simp)
  have z2 := run_l5Uses (k := 2) (by simp)
  have z3 := run_l5Uses (k := 3) (by simp)
  have z4 := run_l5Uses (k := 4) (by simp)
  have z5 := run_l5Uses (k := 5) (by simp)
  have z6 := run_l5Uses (k := 6) (by simp)
  have z7 := run_l5Uses (k := 7) (by simp)
  have z8 := run_l5Uses (k := 8) (by simp)
  rcases hD.forms with ⟨⟨t1, t2⟩, ⟨s1, s2⟩, rfl⟩ | ⟨⟨t1, t2⟩, ⟨s1, s2⟩, rfl⟩ | ⟨lv, rfl⟩ | ⟨st, a, rfl, q1, q2, q3, q4⟩ | rfl | ⟨pts, lab, c, rfl, hT⟩ | ⟨lv, rfl, hl⟩ | ⟨⟨s1, s2⟩, c, l, rfl, q1, q2, q3, q4⟩
  all_goals (
    simp only [modC, mSrc', mGain', mDelay', mSum', mSlicer', mMeterL, mHold', rowsZ_nil, rowsN_nil]
    clear hD
    try simp -dsimp (maxSteps := 1000000) only [go_sem, List.forall_mem_nil, ↓reduceIte, Nat.reduceEqDiff, Nat.reduceLT, Nat.reduceLeDiff, Nat.reduceAdd, Nat.reduceMul, reduceCtorEq, Tryz.f82, z1, z2, z3, z4, z5, z6, z7, z8, usesF, Int.reduceEq, Int.reduceLT, Int.reduceLE, Int.reduceToNat, run_l4Zero, run_Format0, bn, beq48, Int.ofNat_zero, Int.natCast_zero])
end Go.SX
set_option linter.unusedVariables false
set_option linter.unusedSimpArgs false
namespace Go.SX
open Go Go.Proofs
noncomputable def ct_sIsRing : Ct := fam true (fun x : ARg => ([.agg [.im (.sl 1 (rowsZ x.st)), .im (.int .i64 (x.a : Int)), .im (.int .i64 (x.st.length : Int))]], [])) (fun _ => .one { val := .c (.im (.bool true)) })
theorem run_sIsRing {st : List Pt} {a : Nat} (h1 : 1 ≤ st.length) (h2 : st.length ≤ 16) (h3 : a < st.length) : ct_sIsRing.run [.agg [.im (.sl 1 (rowsZ st)), .im (.int .i64 (a : Int)), .im (.int .i64 (st.length : Int))]] [] = some (.one { val := .c (.im (.bool true)) }) :=
  fam_run (args := fun x : ARg => ([D.agg [.im (.sl 1 (rowsZ x.st)), .im (.int .i64 (x.a : Int)), .im (.int .i64 (x.st.length : Int))]], [])) (fun _ _ _ => rfl) ⟨st, a, h1, h2, h3⟩
set_option maxRecDepth 100000 in
set_option maxHeartbeats 4000000 in
theorem law_sIsRing : Law Tryz.prog 83 ct_sIsRing := by
  refine fam_law (Env_cons law_l1In Env_nil) hmixA Tryz.func83 rfl rfl (fun ⟨st, a, h1, h2, h3⟩ => ⟨okO_im rfl, by simp [Tryz.f83], ?_⟩)
  simp only
  have c1 : (decide ((1 : Int) ≤ (st.length : Int)) && decide ((st.length : Int) ≤ 16)) = true := by simp; omega
  have w1 : IntKind.i64.wrap ((st.length : Int) - 1) = (st.length : Int) - 1 := wrap_id (by omega) (by omega)
  have c2 : (decide ((0 : Int) ≤ (a : Int)) && decide ((a : Int) ≤ (st.length : Int) - 1)) = true := by simp; omega
  have c3 : (0 ≤ (st.length : Int)) = True := by simp
  try simp -dsimp (maxSteps := 1000000) only [go_sem, List.forall_mem_nil, ↓reduceIte, Nat.reduceEqDiff, Nat.reduceLT, Nat.reduceLeDiff, Nat.reduceAdd, Nat.reduceMul, reduceCtorEq, Tryz.f83, run_l1In, c1, c2, c3, w1, rowsZ_len, Bool.and_self, Bool.and_true, Bool.true_and]
  refine loop_i (ι := Unit) (fun _ => ⟨[(1, some (.c (.ptr 0 0 0 0))), (3, some (.c (.im (.int .i64 (st.length : Int))))), (4, some (.c (.im (.int .i64 (st.length : Int)))))],
    [(0, some (.box [.t (.im (.sl 1 (rowsZ st))), .t (.im (.int .i64 (a : Int))), .t (.im (.int .i64 (st.length : Int)))]))], 1⟩) (fun _ => 0) () ⟨[], [], by (simp only [go_sem, eq_self, MvRb, MvRn, MvRt, List.nodup_cons, List.nodup_nil, ↓reduceIte, Nat.reduceEqDiff, Nat.reduceLT, Nat.reduceLeDiff, reduceCtorEq, List.forall_mem_nil, Nat.zero_le, false_implies, List.mem_singleton]) <;> simp [lk, MvB_im]⟩ (fun _ => ?_)
  have hI : ((st.length : Int) < (st.length : Int)) = False := by simp
  try simp -dsimp (maxSteps := 1000000) only [go_sem, List.forall_mem_nil, ↓reduceIte, Nat.reduceEqDiff, Nat.reduceLT, Nat.reduceLeDiff, Nat.reduceAdd, Nat.reduceMul, reduceCtorEq, Tryz.f83, hI]
noncomputable def ct_sIsModule : Ct := fam true (fun x : QMod => ([.agg (modC x.1)], [])) (fun _ => .one { val := .c (.im (.bool true)) })
theorem run_sIsModule {m : Mod} (h : Drawn m) : ct_sIsModule.run [.agg (modC m)] [] = some (.one { val := .c (.im (.bool true)) }) := fam_run (args := fun x : QMod => ([D.agg (modC x.1)], [])) (fun _ _ _ => rfl) ⟨m, h⟩
theorem lvl_geq {l : Nat} (h : lvlB l = true) : fcmp .geq .f32 l 0 = true := by rcases lvl_cases h with rfl | rfl | rfl | rfl <;> decide +kernel
set_option maxRecDepth 100000 in
set_option maxHeartbeats 16000000 in
theorem law_sIsModule : Law Tryz.prog 39 ct_sIsModule := by
  refine fam_law (Env_cons law_l1In (Env_cons law_l5Unused (Env_cons law_sIsRing (Env_cons law_sIsTable (Env_cons law_Format Env_nil))))) hmixA Tryz.func39 rfl rfl (fun ⟨m, hD⟩ => ⟨okO_im rfl, by simp [Tryz.f39], ?_⟩)
  simp only
  have hu := run_l5Unused hD
  have bn : ((⟨#[48]⟩ : ByteArray).toList == (⟨#[45, 48]⟩ : ByteArray).toList) = false := by rw [ByteArray.toList_eq, ByteArray.toList_eq]; rfl
  rcases hD.forms with ⟨⟨t1, t2⟩, ⟨s1, s2⟩, rfl⟩ | ⟨⟨t1, t2⟩, ⟨s1, s2⟩, rfl⟩ | ⟨lv, rfl⟩ | ⟨st, a, rfl, q1, q2, q3, q4⟩ | rfl | ⟨pts, lab, c, rfl, hT⟩ | ⟨lv, rfl, hl⟩ | ⟨⟨s1, s2⟩, c, l, rfl, q1, q2, q3, q4⟩
  · simp only [modC, mSrc', rowsZ_nil, rowsN_nil] at hu ⊢
    try simp -dsimp (maxSteps := 1000000) only [go_sem, List.forall_mem_nil, ↓reduceIte, Nat.reduceEqDiff, Nat.reduceLT, Nat.reduceLeDiff, Nat.reduceAdd, Nat.reduceMul, reduceCtorEq, Tryz.f39, run_l1In, hu, Int.reduceEq, Int.reduceLE, Bool.and_self, Bool.and_true, Bool.true_and]
  · simp only [modC, rowsZ_nil, rowsN_nil] at hu ⊢
    try simp -dsimp (maxSteps := 1000000) only [go_sem, List.forall_mem_nil, ↓reduceIte, Nat.reduceEqDiff, Nat.reduceLT, Nat.reduceLeDiff, Nat.reduceAdd, Nat.reduceMul, reduceCtorEq, Tryz.f39, run_l1In, hu, Int.reduceEq, Int.reduceLE, Bool.and_self, Bool.and_true, Bool.true_and]
  · simp only [modC, mGain', rowsZ_nil, rowsN_nil] at hu ⊢
    try simp -dsimp (maxSteps := 1000000) only [go_sem, List.forall_mem_nil, ↓reduceIte, Nat.reduceEqDiff, Nat.reduceLT, Nat.reduceLeDiff, Nat.reduceAdd, Nat.reduceMul, reduceCtorEq, Tryz.f39, run_l1In, hu, Int.reduceEq, Int.reduceLE, Bool.and_self, Bool.and_true, Bool.true_and]
  · obtain ⟨A, rfl⟩ := Int.eq_ofNat_of_zero_le q3
    simp only [modC, mDelay', rowsZ_nil, rowsN_nil] at hu ⊢
    try simp -dsimp (maxSteps := 1000000) only [go_sem, List.forall_mem_nil, ↓reduceIte, Nat.reduceEqDiff, Nat.reduceLT, Nat.reduceLeDiff, Nat.reduceAdd, Nat.reduceMul, reduceCtorEq, Tryz.f39, run_l1In, hu, run_sIsRing q1 q2 (show A < st.length by omega), Int.reduceEq, Int.reduceLE, rowsZ_len, Bool.and_self, Bool.and_true, Bool.true_and]
  · simp only [modC, mSum', rowsZ_nil, rowsN_nil] at hu ⊢
    try simp -dsimp (maxSteps := 1000000) only [go_sem, List.forall_mem_nil, ↓reduceIte, Nat.reduceEqDiff, Nat.reduceLT, Nat.reduceLeDiff, Nat.reduceAdd, Nat.reduceMul, reduceCtorEq, Tryz.f39, run_l1In, hu, Int.reduceEq, Int.reduceLE, Bool.and_self, Bool.and_true, Bool.true_and]
  · obtain ⟨e1, e2⟩ := table_len hT
    have h1 : pts.length ≤ sm := by have : sm = 16777216 := rfl; omega
    have h2 : lab.length ≤ sm := by have : sm = 16777216 := rfl; omega
    simp only [modC, mSlicer', rowsZ_nil] at hu ⊢
    try simp -dsimp (maxSteps := 1000000) only [go_sem, List.forall_mem_nil, ↓reduceIte, Nat.reduceEqDiff, Nat.reduceLT, Nat.reduceLeDiff, Nat.reduceAdd, Nat.reduceMul, reduceCtorEq, Tryz.f39, run_l1In, hu, run_IsTable h1 h2, hT, Int.reduceEq, Int.reduceLE, Bool.and_self, Bool.and_true, Bool.true_and]
  · simp only [modC, mMeterL, rowsZ_nil, rowsN_nil] at hu ⊢
    have hg := lvl_geq hl
    by_cases h0 : lv = 0
    · subst h0
      try simp -dsimp (maxSteps := 1000000) only [go_sem, List.forall_mem_nil, ↓reduceIte, Nat.reduceEqDiff, Nat.reduceLT, Nat.reduceLeDiff, Nat.reduceAdd, Nat.reduceMul, reduceCtorEq, Tryz.f39, run_l1In, hu, hg, run_Format0, bn, Int.reduceEq, Int.reduceLE, Bool.and_self, Bool.and_true, Bool.true_and]
    · have h0' := eq_false h0
      clear h0
      try simp -dsimp (maxSteps := 1000000) only [go_sem, List.forall_mem_nil, ↓reduceIte, Nat.reduceEqDiff, Nat.reduceLT, Nat.reduceLeDiff, Nat.reduceAdd, Nat.reduceMul, reduceCtorEq, Tryz.f39, run_l1In, hu, hg, run_Format hl, oFmt, h0', ne_qneg, Int.reduceEq, Int.reduceLE, Bool.and_self, Bool.and_true, Bool.true_and]
      rintro ⟨s, hs⟩
      try simp -dsimp (maxSteps := 1000000) only [go_sem, List.forall_mem_nil, ↓reduceIte, Nat.reduceEqDiff, Nat.reduceLT, Nat.reduceLeDiff, Nat.reduceAdd, Nat.reduceMul, reduceCtorEq, Tryz.f39, hs]
  · have w1 : IntKind.i64.wrap (c - 1) = c - 1 := wrap_id (by omega) (by omega)
    have c1 : (decide ((1 : Int) ≤ c) && decide (c ≤ 100)) = true := by simp; omega
    have c2 : (decide ((0 : Int) ≤ l) && decide (l ≤ c - 1)) = true := by simp; omega
    simp only [modC, mHold', rowsZ_nil, rowsN_nil] at hu ⊢
    try simp -dsimp (maxSteps := 1000000) only [go_sem, List.forall_mem_nil, ↓reduceIte, Nat.reduceEqDiff, Nat.reduceLT, Nat.reduceLeDiff, Nat.reduceAdd, Nat.reduceMul, reduceCtorEq, Tryz.f39, run_l1In, hu, w1, c1, c2, Int.reduceEq, Int.reduceLE, Bool.and_self, Bool.and_true, Bool.true_and]
end Go.SX
set_option linter.unusedVariables false
set_option linter.unusedSimpArgs false
namespace Go.SX
open Go Ieee
theorem two_pow_pos (k : Nat) : (0 : Int) < 2 ^ k := by
  have := Nat.two_pow_pos k
  exact_mod_cast this
theorem idxF_ge {α : Type} {f : α → Bool} : ∀ (l : List α) (k : Nat), (0 ≤ idxF f l k) ↔ ∃ x ∈ l, f x = true
  | [], k => by simp [idxF]
  | x :: l, k => by
    simp only [idxF]
    split
    · rename_i h; simp [h]
    · rename_i h; rw [idxF_ge l (k + 1)]; simp [h]
theorem hasF_iff {l : List Int} {v : Int} : hasF l v = true ↔ v ∈ l := by
  simp only [hasF, decide_eq_true_eq, idxF_ge]
  constructor
  · rintro ⟨x, hx, rfl⟩; exact hx
  · intro h; exact ⟨v, h, rfl⟩
def iL (k : Nat) : List Int := (List.range k).map fun (i : Nat) => (i : Int)
theorem mem_iL {k : Nat} {v : Int} : v ∈ iL k ↔ 0 ≤ v ∧ v < k := by
  simp only [iL, List.mem_map, List.mem_range]
  constructor
  · rintro ⟨i, hi, rfl⟩; omega
  · rintro ⟨h1, h2⟩; exact ⟨v.toNat, by omega, by omega⟩
theorem iL_succ (k : Nat) : iL k ++ [(k : Int)] = iL (k + 1) := by simp [iL, List.range_succ]
theorem ready_fwd {ms : List Mod} {cs : List Cbl} (h : ∀ c ∈ cs, 0 ≤ c.1 ∧ c.1 < c.2) (k i : Nat) (hi : i ≤ k) : readyF ms cs (iL k) (i : Int) = decide (i = k) := by
  unfold readyF
  by_cases hik : i = k
  · subst hik
    have h1 : hasF (iL i) (i : Int) = false := by
      rw [Bool.eq_false_iff]; intro e; rw [hasF_iff, mem_iL] at e; omega
    have h2 : anyF ms (iL i) (i : Int) cs = false := by
      rw [Bool.eq_false_iff]; intro e
      simp only [anyF, decide_eq_true_eq, idxF_ge] at e
      obtain ⟨c, hc, hb⟩ := e
      simp only [blocks, Bool.and_eq_true, decide_eq_true_eq, Bool.not_eq_true'] at hb
      obtain ⟨hb1, hb2, hb3⟩ := hb
      have := h c hc
      have hm : hasF (iL i) c.1 = true := by rw [hasF_iff, mem_iL]; omega
      rw [hm] at hb3; cases hb3
    simp [h1, h2]
  · have h1 : hasF (iL k) (i : Int) = true := by rw [hasF_iff, mem_iL]; omega
    simp [h1, hik]
theorem readyIdx_fwd {ms : List Mod} {cs : List Cbl} (h : ∀ c ∈ cs, 0 ≤ c.1 ∧ c.1 < c.2) (k : Nat) : ∀ f i, i ≤ k → k < i + f → readyIdx ms cs (iL k) f i = k
  | 0, i, h1, h2 => by omega
  | f + 1, i, h1, h2 => by
    simp only [readyIdx, ready_fwd h k i h1, decide_eq_true_eq]
    split
    · rename_i e; exact e
    · exact readyIdx_fwd h k f (i + 1) (by omega) (by omega)
theorem orderGo_fwd {ms : List Mod} {cs : List Cbl} (h : ∀ c ∈ cs, 0 ≤ c.1 ∧ c.1 < c.2) : ∀ f k, k + f = ms.length → orderGo ms cs f (iL k) = some (iL ms.length)
  | 0, k, e => by simp [orderGo]; rw [← e]; rfl
  | f + 1, k, e => by
    have hr := readyIdx_fwd (ms := ms) h k ms.length 0 (by omega) (by omega)
    simp only [orderGo, hr]
    rw [if_neg (by omega), iL_succ]
    exact orderGo_fwd h f (k + 1) (by omega)
theorem order_fwd {ms : List Mod} {cs : List Cbl} (h : ∀ c ∈ cs, 0 ≤ c.1 ∧ c.1 < c.2) : orderF ms cs = some (iL ms.length) := orderGo_fwd (ms := ms) h ms.length 0 (by omega)
end Go.SX
set_option linter.unusedVariables false
set_option linter.unusedSimpArgs false
namespace Go.SX
open Go Go.Proofs
def hasR (n : Nat) (i : Int) : Bool := decide (0 ≤ i) && decide (i < (n : Int))
noncomputable def ct_l6Has : Ct := fam true (fun x : (List Mod × List Cbl) × Int => ([.agg [.im (.sl 11 (rowsM x.1.1)), .im (.sl 2 (rowsC x.1.2))], .c (.im (.int .i64 x.2))], [])) (fun x => .one { val := .c (.im (.bool (hasR x.1.1.length x.2))) })
theorem run_l6Has (ms : List Mod) (cs : List Cbl) (i : Int) : ct_l6Has.run [.agg [.im (.sl 11 (rowsM ms)), .im (.sl 2 (rowsC cs))], .c (.im (.int .i64 i))] [] = some (.one { val := .c (.im (.bool (hasR ms.length i))) }) := by
  refine fam_run' (args := fun x : (List Mod × List Cbl) × Int => ([D.agg [.im (.sl 11 (rowsM x.1.1)), .im (.sl 2 (rowsC x.1.2))], .c (.im (.int .i64 x.2))], [])) ?_ ((ms, cs), i)
  rintro ⟨⟨a, b⟩, c⟩ ⟨⟨a', b'⟩, c'⟩ h
  simp [rowsM_eq, rowsC_eq] at h ⊢
  simp [h]
set_option maxRecDepth 100000 in
theorem law_l6Has : Law Tryz.prog 40 ct_l6Has := by
  refine fam_law Env_nil hmixA Tryz.func40 rfl rfl (fun ⟨⟨ms, cs⟩, i⟩ => ⟨okO_im rfl, by simp [Tryz.f40], ?_⟩)
  simp only [hasR]
  by_cases h1 : 0 ≤ i
  · have h1' := eq_true h1
    clear h1
    try simp -dsimp (maxSteps := 1000000) only [go_sem, List.forall_mem_nil, ↓reduceIte, Nat.reduceEqDiff, Nat.reduceLT, Nat.reduceLeDiff, Nat.reduceAdd, Nat.reduceMul, reduceCtorEq, Tryz.f40, rowsM_len, h1', Bool.true_and]
  · have h1' := eq_false h1
    clear h1
    try simp -dsimp (maxSteps := 1000000) only [go_sem, List.forall_mem_nil, ↓reduceIte, Nat.reduceEqDiff, Nat.reduceLT, Nat.reduceLeDiff, Nat.reduceAdd, Nat.reduceMul, reduceCtorEq, Tryz.f40, rowsM_len, h1', Bool.false_and]
def rowsBo (l : List Bool) : List (List I) := l.map fun b => [.bool b]
theorem rowsBo_len (l : List Bool) : (rowsBo l).length = l.length := by simp [rowsBo]
theorem rowsBo_at {l : List Bool} {k : Nat} {p : Bool} (h : l[k]? = some p) : (rowsBo l)[k]? = some [.bool p] := by simp [rowsBo, h]
theorem rowsBo_inj {l m : List Bool} (h : rowsBo l = rowsBo m) : l = m := by
  induction l generalizing m with
  | nil => cases m with | nil => rfl | cons => simp [rowsBo] at h
  | cons p l ih =>
    cases m with
    | nil => simp [rowsBo] at h
    | cons q m =>
      simp only [rowsBo, List.map_cons, List.cons.injEq, I.bool.injEq, true_and, and_true] at h
      rw [ih h.2, h.1]
theorem rowsBo_eq {l m : List Bool} : (rowsBo l = rowsBo m) = (l = m) := propext ⟨rowsBo_inj, fun h => by rw [h]⟩
def blkS (ms : List Mod) (L : List Bool) (i : Int) (c : Cbl) : Bool := decide (c.2 = i) && (!(L.getD c.1.toNat false) && !(decide (kindOf ms c.1 = 4)))
def rdyS (ms : List Mod) (cs : List Cbl) (L : List Bool) (i : Nat) : Bool := !(L.getD i false) && !(cs.any (blkS ms L (i : Int)))
structure ARy where
  ms : List Mod
  cs : List Cbl
  L : List Bool
  i : Nat
  cl : cs.length ≤ sm
  ll : L.length = ms.length
  il : i < ms.length
  ok : ∀ c ∈ cs, 0 ≤ c.1 ∧ c.1 < ms.length
noncomputable def ct_l6Ready : Ct := fam true (fun x : ARy => ([.agg [.im (.sl 11 (rowsM x.ms)), .im (.sl 2 (rowsC x.cs))], .c (.im (.sl 1 (rowsBo x.L))), .c (.im (.int .i64 (x.i : Int)))], [])) (fun x => .one { val := .c (.im (.bool (rdyS x.ms x.cs x.L x.i))) })
theorem run_l6Ready {ms : List Mod} {cs : List Cbl} {L : List Bool} {i : Nat} (h1 : cs.length ≤ sm) (h2 : L.length = ms.length) (h3 : i < ms.length) (h4 : ∀ c ∈ cs, 0 ≤ c.1 ∧ c.1 < ms.length) :
    ct_l6Ready.run [.agg [.im (.sl 11 (rowsM ms)), .im (.sl 2 (rowsC cs))], .c (.im (.sl 1 (rowsBo L))), .c (.im (.int .i64 (i : Int)))] [] = some (.one { val := .c (.im (.bool (rdyS ms cs L i))) }) := by
  refine fam_run' (args := fun x : ARy => ([D.agg [.im (.sl 11 (rowsM x.ms)), .im (.sl 2 (rowsC x.cs))], .c (.im (.sl 1 (rowsBo x.L))), .c (.im (.int .i64 (x.i : Int)))], [])) ?_ ⟨ms, cs, L, i, h1, h2, h3, h4⟩
  rintro ⟨a, b, c, d, _, _, _, _⟩ ⟨a', b', c', d', _, _, _, _⟩ h
  simp [rowsM_eq, rowsC_eq, rowsBo_eq] at h ⊢
  exact ⟨h.1.1, h.1.2, h.2.1, by omega⟩
theorem sc_l6Ready : (ct_l6Ready.sc = true) = True := by simp [ct_l6Ready, fam]
theorem any_drop {α : Type} {f : α → Bool} {l : List α} {k : Nat} {p : α} (h : l[k]? = some p) : (l.drop k).any f = (f p || (l.drop (k + 1)).any f) := by
  have hlt : k < l.length := (List.getElem?_eq_some_iff.1 h).1
  have hp : l[k] = p := by rw [List.getElem?_eq_getElem hlt] at h; injection h
  rw [List.drop_eq_getElem_cons hlt, hp, List.any_cons]
set_option maxRecDepth 100000 in
set_option maxHeartbeats 8000000 in
theorem law_l6Ready : Law Tryz.prog 86 ct_l6Ready := by
  refine fam_law Env_nil hmixA Tryz.func86 rfl rfl (fun ⟨ms, cs, L, i, h1, h2, h3, h4⟩ => ⟨okO_im rfl, by simp [Tryz.f86], ?_⟩)
  simp only [rdyS]
  obtain ⟨b, hb⟩ : ∃ b, L[i]? = some b := ⟨_, List.getElem?_eq_getElem (by omega)⟩
  have hbd : L.getD i false = b := by rw [List.getD_eq_getElem?_getD, hb]; rfl
  have hrb := rowsBo_at hb
  have i0 : (0 ≤ (i : Int)) = True := by simp
  have i1 : ((i : Int) < (L.length : Int)) = True := eq_true (by omega)
  rw [hbd]
  cases b with
  | true =>
    try simp -dsimp (maxSteps := 1000000) only [go_sem, List.forall_mem_nil, ↓reduceIte, Nat.reduceEqDiff, Nat.reduceLT, Nat.reduceLeDiff, Nat.reduceAdd, Nat.reduceMul, reduceCtorEq, Tryz.f86, rowsBo_len, hrb, i0, i1, Int.toNat_natCast, Bool.not_true, Bool.false_and]
  | false =>
    try simp -dsimp (maxSteps := 1000000) only [go_sem, List.forall_mem_nil, ↓reduceIte, Nat.reduceEqDiff, Nat.reduceLT, Nat.reduceLeDiff, Nat.reduceAdd, Nat.reduceMul, reduceCtorEq, Tryz.f86, rowsBo_len, rowsC_len, hrb, i0, i1, Int.toNat_natCast]
    refine loop_i (ι := { k : Nat // k ≤ cs.length ∧ cs.any (blkS ms L (i : Int)) = (cs.drop k).any (blkS ms L (i : Int)) }) (fun k => ⟨[(1, some (.c (.im (.sl 1 (rowsBo L))))), (2, some (.c (.im (.int .i64 (i : Int))))), (3, some (.c (.ptr 0 0 0 0))), (14, some (.c (.im (.sl 2 (rowsC cs))))), (15, some (.c (.im (.int .i64 (cs.length : Int))))), (16, some (.c (.im (.int .i64 (k.1 : Int)))))],
      [(0, some (.box [.t (.im (.sl 11 (rowsM ms))), .t (.im (.sl 2 (rowsC cs)))]))], 1⟩) (fun k => cs.length - k.1) ⟨0, by simp⟩ ⟨[], [], by ((simp only [go_sem, eq_self, MvRb, MvRn, MvRt, List.nodup_cons, List.nodup_nil, ↓reduceIte, Nat.reduceEqDiff, Nat.reduceLT, Nat.reduceLeDiff, reduceCtorEq, List.forall_mem_nil, Nat.zero_le, false_implies, List.mem_singleton]) <;> (try (simp -dsimp only [go_sem, eq_self, MvRb, MvRn, MvRt, List.nodup_cons, List.nodup_nil, ↓reduceIte, Nat.reduceEqDiff, Nat.reduceLT, Nat.reduceLeDiff, reduceCtorEq, List.forall_mem_nil, Nat.zero_le, false_implies, List.mem_singleton]))) <;> simp [lk, MvB_im]⟩ (fun ⟨k, hk, hinv⟩ => ?_)
    simp only
    by_cases hlt : k < cs.length
    rotate_left
    · have hI : ((k : Int) < (cs.length : Int)) = False := eq_false (by omega)
      obtain rfl : k = cs.length := by omega
      rw [List.drop_length, List.any_nil] at hinv
      try simp -dsimp (maxSteps := 1000000) only [go_sem, List.forall_mem_nil, ↓reduceIte, Nat.reduceEqDiff, Nat.reduceLT, Nat.reduceLeDiff, Nat.reduceAdd, Nat.reduceMul, reduceCtorEq, Tryz.f86, hI, hinv, Bool.not_false, Bool.true_and]
    obtain ⟨⟨f, t⟩, hp⟩ : ∃ p, cs[k]? = some p := ⟨_, List.getElem?_eq_getElem hlt⟩
    have hrow := rowsC_at hp
    have hI : ((k : Int) < (cs.length : Int)) = True := eq_true (by omega)
    have k0 : (0 ≤ (k : Int)) = True := by simp
    have hwr := lt_sm h1 hlt
    have hidx := any_drop (f := blkS ms L (i : Int)) hp
    rw [hidx] at hinv
    clear hidx
    obtain ⟨f1, f2⟩ := h4 _ (List.mem_of_getElem? hp)
    simp only at f1 f2
    obtain ⟨F, rfl⟩ := Int.eq_ofNat_of_zero_le f1
    obtain ⟨lb, hlb⟩ : ∃ b, L[F]? = some b := ⟨_, List.getElem?_eq_getElem (by omega)⟩
    obtain ⟨m, hm⟩ : ∃ m, ms[F]? = some m := ⟨_, List.getElem?_eq_getElem (by omega)⟩
    have hrl := rowsBo_at hlb
    have hrm := rowsM_at hm
    have hld : L.getD F false = lb := by rw [List.getD_eq_getElem?_getD, hlb]; rfl
    have hkd : kindOf ms (F : Int) = m.kind := by simp [kindOf, hm]
    have F0 : (0 ≤ (F : Int)) = True := by simp
    have F1 : ((F : Int) < (L.length : Int)) = True := eq_true (by omega)
    have F2 : ((F : Int) < (ms.length : Int)) = True := eq_true (by omega)
    simp only [blkS, Int.toNat_natCast, hld, hkd] at hinv
    by_cases ht : t = (i : Int)
    rotate_left
    · have ht' := eq_false ht
      simp only [ht', decide_false, Bool.false_and, Bool.false_or] at hinv
      clear ht
      try simp -dsimp (maxSteps := 1000000) only [go_sem, List.forall_mem_nil, ↓reduceIte, Nat.reduceEqDiff, Nat.reduceLT, Nat.reduceLeDiff, Nat.reduceAdd, Nat.reduceMul, reduceCtorEq, Tryz.f86, hI, k0, hrow, hwr, ht', Int.toNat_natCast]
      exact ⟨⟨k + 1, by omega, hinv⟩, by simp only []; omega, [], [0], by (simp only [go_sem, eq_self, MvRb, MvRn, MvRt, List.nodup_cons, List.nodup_nil, ↓reduceIte, Nat.reduceEqDiff, Nat.reduceLT, Nat.reduceLeDiff, reduceCtorEq, List.forall_mem_nil, Nat.zero_le, false_implies, List.mem_singleton]) <;> simp [lk, MvB_im]⟩
    have ht' := eq_true ht
    cases lb with
    | true =>
      simp only [ht', decide_true, Bool.not_true, Bool.false_and, Bool.true_and, Bool.false_or] at hinv
      clear ht
      try simp -dsimp (maxSteps := 1000000) only [go_sem, List.forall_mem_nil, ↓reduceIte, Nat.reduceEqDiff, Nat.reduceLT, Nat.reduceLeDiff, Nat.reduceAdd, Nat.reduceMul, reduceCtorEq, Tryz.f86, hI, k0, hrow, hwr, ht', hrl, F0, F1, rowsBo_len, Int.toNat_natCast, Bool.not_true]
      exact ⟨⟨k + 1, by omega, hinv⟩, by simp only []; omega, [], [0], by (simp only [go_sem, eq_self, MvRb, MvRn, MvRt, List.nodup_cons, List.nodup_nil, ↓reduceIte, Nat.reduceEqDiff, Nat.reduceLT, Nat.reduceLeDiff, reduceCtorEq, List.forall_mem_nil, Nat.zero_le, false_implies, List.mem_singleton]) <;> simp [lk, MvB_im]⟩
    | false =>
      by_cases hd : m.kind = 4
      · have hd' := eq_true hd
        simp only [ht', hd', decide_true, Bool.not_true, Bool.not_false, Bool.and_false, Bool.true_and, Bool.false_or] at hinv
        clear ht hd
        try simp -dsimp (maxSteps := 1000000) only [go_sem, List.forall_mem_nil, ↓reduceIte, Nat.reduceEqDiff, Nat.reduceLT, Nat.reduceLeDiff, Nat.reduceAdd, Nat.reduceMul, reduceCtorEq, Tryz.f86, hI, k0, hrow, hwr, ht', hd', hrl, hrm, F0, F1, F2, rowsBo_len, rowsM_len, Int.toNat_natCast, Bool.not_true, Bool.not_false]
        exact ⟨⟨k + 1, by omega, hinv⟩, by simp only []; omega, [], [0], by (simp only [go_sem, eq_self, MvRb, MvRn, MvRt, List.nodup_cons, List.nodup_nil, ↓reduceIte, Nat.reduceEqDiff, Nat.reduceLT, Nat.reduceLeDiff, reduceCtorEq, List.forall_mem_nil, Nat.zero_le, false_implies, List.mem_singleton]) <;> simp [lk, MvB_im]⟩
      · have hd' := eq_false hd
        simp only [ht', hd', decide_true, decide_false, Bool.not_false, Bool.and_self, Bool.true_or] at hinv
        clear ht hd
        try simp -dsimp (maxSteps := 1000000) only [go_sem, List.forall_mem_nil, ↓reduceIte, Nat.reduceEqDiff, Nat.reduceLT, Nat.reduceLeDiff, Nat.reduceAdd, Nat.reduceMul, reduceCtorEq, Tryz.f86, hI, k0, hrow, hwr, ht', hd', hrl, hrm, F0, F1, F2, hinv, rowsBo_len, rowsM_len, Int.toNat_natCast, Bool.not_true, Bool.not_false, Bool.true_and]
def lsF (n : Nat) (out : List Int) : List Bool := (List.range n).map fun (i : Nat) => hasF out (i : Int)
theorem lsF_len (n : Nat) (out : List Int) : (lsF n out).length = n := by simp [lsF]
theorem lsF_at {n : Nat} {out : List Int} {i : Nat} (h : i < n) : (lsF n out).getD i false = hasF out (i : Int) := by
  rw [List.getD_eq_getElem?_getD]; simp [lsF, h]
theorem rdy_eq {ms : List Mod} {cs : List Cbl} {out : List Int} {i : Nat} (h : i < ms.length) (h4 : ∀ c ∈ cs, 0 ≤ c.1 ∧ c.1 < ms.length) : rdyS ms cs (lsF ms.length out) i = readyF ms cs out (i : Int) := by
  unfold rdyS readyF
  rw [lsF_at h]
  congr 2
  unfold anyF
  rw [Bool.eq_iff_iff, List.any_eq_true, decide_eq_true_eq, idxF_ge]
  constructor
  · rintro ⟨c, hc, hb⟩
    refine ⟨c, hc, ?_⟩
    obtain ⟨q1, q2⟩ := h4 c hc
    simp only [blkS, blocks] at hb ⊢
    rw [lsF_at (show c.1.toNat < ms.length by omega), show ((c.1.toNat : Nat) : Int) = c.1 by omega] at hb
    revert hb
    cases decide (c.2 = (i : Int)) <;> cases hasF out c.1 <;> cases decide (kindOf ms c.1 = 4) <;> simp
  · rintro ⟨c, hc, hb⟩
    refine ⟨c, hc, ?_⟩
    obtain ⟨q1, q2⟩ := h4 c hc
    simp only [blkS, blocks] at hb ⊢
    rw [lsF_at (show c.1.toNat < ms.length by omega), show ((c.1.toNat : Nat) : Int) = c.1 by omega]
    revert hb
    cases decide (c.2 = (i : Int)) <;> cases hasF out c.1 <;> cases decide (kindOf ms c.1 = 4) <;> simp
theorem lsF_set {n : Nat} {out : List Int} {i : Nat} (h : i < n) : (lsF n out).set i true = lsF n (out ++ [(i : Int)]) := by
  apply List.ext_getElem?
  intro j
  rw [List.getElem?_set]
  simp only [lsF_len]
  by_cases hj : j < n
  · have e1 : ∀ o : List Int, (lsF n o)[j]? = some (hasF o (j : Int)) := fun o => by simp [lsF, hj]
    rw [e1, e1]
    by_cases e : i = j
    · subst e
      rw [if_pos rfl, if_pos h]
      have : hasF (out ++ [(i : Int)]) (i : Int) = true := by rw [hasF_iff]; simp
      rw [this]
    · rw [if_neg e]
      congr 1
      rw [Bool.eq_iff_iff, hasF_iff, hasF_iff]
      simp
      omega
  · have e1 : ∀ o : List Int, (lsF n o)[j]? = none := fun o => by simp [lsF]; omega
    rw [e1, e1]
    by_cases e : i = j
    · omega
    · rw [if_neg e]
theorem MvR_Bo (l : List Bool) : MvR false (.arr 1 (tI (rowsBo l))) = True := eq_true (sc_false _ _)
theorem MvR_Nn (l : List Int) : MvR false (.arr 1 (tI (rowsN l))) = True := eq_true (sc_false _ _)
theorem setBo (l : List Bool) (i : Nat) (b : Bool) : (tI (rowsBo l)).set i [T.im (.bool b)] = tI (rowsBo (l.set i b)) := by simp [tI, rowsBo, List.map_set]
theorem lsF_nil (n : Nat) : List.replicate n [T.im (.bool false)] = tI (rowsBo (lsF n [])) := by
  have : lsF n [] = List.replicate n false := by
    apply List.ext_getElem?
    intro j
    by_cases hj : j < n
    · simp [lsF, hj, hasF, idxF]
    · simp [lsF, hj]
  rw [this]; simp [tI, rowsBo]
def nxF (ms : List Mod) (cs : List Cbl) (out : List Int) (j : Nat) : Int := if readyIdx ms cs out (ms.length - j) j = ms.length then -1 else (readyIdx ms cs out (ms.length - j) j : Int)
theorem nxF_end (ms : List Mod) (cs : List Cbl) (out : List Int) : nxF ms cs out ms.length = -1 := by simp [nxF, readyIdx]
theorem nxF_step {ms : List Mod} {cs : List Cbl} {out : List Int} {j : Nat} (h : j < ms.length) : nxF ms cs out j = if readyF ms cs out (j : Int) = true then (j : Int) else nxF ms cs out (j + 1) := by
  unfold nxF
  rw [show ms.length - j = (ms.length - (j + 1)) + 1 by omega]
  simp only [readyIdx]
  split
  · rw [if_neg (by omega)]
  · rfl
set_option maxRecDepth 100000 in
set_option maxHeartbeats 8000000 in
theorem law_l6Order : Law Tryz.prog 41 ct_order := by
  refine fam_lawF (Env_cons law_l6Ready Env_nil) hmixA Tryz.func41 rfl rfl (fun ⟨ms, cs, h1, h2, h5⟩ => ⟨okO_order _, by simp [Tryz.f41], ?_⟩)
  have hsm : sm = 16777216 := rfl
  simp only [orderF]
  have k1 : (0 ≤ (ms.length : Int)) = True := by simp
  have k2 : ((ms.length : Int) ≤ 9223372036854775807) = True := eq_true (by omega)
  have k3 : (((1 : Nat) : Int) * (ms.length : Int) ≤ 281474976710656) = True := eq_true (by omega)
  try simp -dsimp (maxSteps := 1000000) only [go_sem, List.forall_mem_nil, ↓reduceIte, Nat.reduceEqDiff, Nat.reduceLT, Nat.reduceLeDiff, Nat.reduceAdd, Nat.reduceMul, reduceCtorEq, Tryz.f41, rowsM_len, rowsC_len, k1, k2, k3, lsF_nil, Int.toNat_natCast, List.length_replicate]
  refine loop_i (ι := { x : List Int // x.length ≤ ms.length ∧ orderGo ms cs ms.length [] = orderGo ms cs (ms.length - x.length) x }) (fun x => ⟨[(1, some (.c (.ptr 0 0 0 0))), (4, some (.c (.view 1 1 0 ms.length))), (5, some (.c (.view 2 1 0 x.1.length)))],
    [(0, some (.box [.t (.im (.sl 11 (rowsM ms))), .t (.im (.sl 2 (rowsC cs)))])), (1, some (.arr 1 (tI (rowsBo (lsF ms.length x.1))))), (2, some (.arr 1 (tI (rowsN x.1))))], 3⟩) (fun x => ms.length - x.1.length) ⟨[], by simp⟩ ⟨[], [0, 1, 2], by ((simp only [go_sem, eq_self, MvRb, MvRn, MvRt, List.nodup_cons, List.nodup_nil, ↓reduceIte, Nat.reduceEqDiff, Nat.reduceLT, Nat.reduceLeDiff, reduceCtorEq, List.forall_mem_nil, Nat.zero_le, false_implies, List.mem_singleton, MvR_Bo]) <;> (try (simp -dsimp only [go_sem, eq_self, MvRb, MvRn, MvRt, List.nodup_cons, List.nodup_nil, ↓reduceIte, Nat.reduceEqDiff, Nat.reduceLT, Nat.reduceLeDiff, reduceCtorEq, List.forall_mem_nil, Nat.zero_le, false_implies, List.mem_singleton, MvR_Bo]))) <;> simp [lk, MvB_im, tI, rowsN, MvRt]⟩ (fun ⟨out, hk, hinv⟩ => ?_)
  simp only
  have hol : (rowsN out).length = out.length := rowsN_len _
  by_cases hlt : out.length < ms.length
  rotate_left
  · have hI : ((out.length : Int) < (ms.length : Int)) = False := eq_false (by omega)
    rw [show ms.length - out.length = 0 by omega] at hinv
    simp only [orderGo] at hinv
    try simp -dsimp (maxSteps := 1000000) only [go_sem, List.forall_mem_nil, ↓reduceIte, Nat.reduceEqDiff, Nat.reduceLT, Nat.reduceLeDiff, Nat.reduceAdd, Nat.reduceMul, reduceCtorEq, Tryz.f41, hI, rowsM_len, hinv, oOrder]
    refine finF_i [] ?_
    simp -dsimp (maxSteps := 1000000) only [go_sem, List.forall_mem_nil, ↓reduceIte, Nat.reduceEqDiff, Nat.reduceLT, Nat.reduceLeDiff, Nat.reduceAdd, Nat.reduceMul, reduceCtorEq, hinv, oOrder]
    refine ⟨[2], ?_, ?_, ?_, rfl⟩ <;> simp [rtOk]
  have hI : ((out.length : Int) < (ms.length : Int)) = True := eq_true (by omega)
  have hwn : IntKind.i64.wrap ((ms.length : Int) - 1) = (ms.length : Int) - 1 := wrap_id (by omega) (by omega)
  try simp -dsimp (maxSteps := 1000000) only [go_sem, List.forall_mem_nil, ↓reduceIte, Nat.reduceEqDiff, Nat.reduceLT, Nat.reduceLeDiff, Nat.reduceAdd, Nat.reduceMul, reduceCtorEq, Tryz.f41, hI, hwn, rowsM_len]
  refine loop_i (ι := { j : Nat // j ≤ ms.length }) (fun j => ⟨[(1, some (.c (.ptr 0 0 0 0))), (4, some (.c (.view 1 1 0 ms.length))), (5, some (.c (.view 2 1 0 out.length))), (6, some (.c (.im (.int .i64 (nxF ms cs out j.1))))), (7, some (.c (.im (.int .i64 ((j.1 : Int) - 1)))))],
    [(0, some (.box [.t (.im (.sl 11 (rowsM ms))), .t (.im (.sl 2 (rowsC cs)))])), (1, some (.arr 1 (tI (rowsBo (lsF ms.length out))))), (2, some (.arr 1 (tI (rowsN out))))], 3⟩) (fun j => j.1) ⟨ms.length, by omega⟩ ⟨[], [0, 1, 2], by (simp only [go_sem, eq_self, MvRb, MvRn, MvRt, List.nodup_cons, List.nodup_nil, ↓reduceIte, Nat.reduceEqDiff, Nat.reduceLT, Nat.reduceLeDiff, reduceCtorEq, List.forall_mem_nil, Nat.zero_le, false_implies, List.mem_singleton, MvR_Bo, MvR_Nn, nxF_end]) <;> simp [lk, MvB_im]⟩ (fun ⟨j, hj⟩ => ?_)
  simp only
  have lL : (lsF ms.length out).length = ms.length := lsF_len _ _
  match j, hj with
  | j + 1, hj =>
    have hJ : (0 ≤ ((j + 1 : Nat) : Int) - 1) = True := eq_true (by omega)
    have hj1 : ((j + 1 : Nat) : Int) - 1 = (j : Int) := by omega
    have j0 : (0 ≤ (j : Int)) = True := by simp
    have hwj : IntKind.i64.wrap ((j : Int) - 1) = (j : Int) - 1 := wrap_id (by omega) (by omega)
    have tkB : List.take ms.length (tI (rowsBo (lsF ms.length out))) = tI (rowsBo (lsF ms.length out)) := List.take_of_length_le (by rw [tI_len, rowsBo_len, lL]; omega)
    have hst := nxF_step (ms := ms) (cs := cs) (out := out) (j := j) (by omega)
    have hrd := rdy_eq (out := out) (i := j) (by omega) h5
    cases hr : readyF ms cs out (j : Int) with
    | true =>
      rw [hr, if_pos rfl] at hst
      rw [hr] at hrd
      try simp -dsimp (maxSteps := 1000000) only [go_sem, List.forall_mem_nil, ↓reduceIte, Nat.reduceEqDiff, Nat.reduceLT, Nat.reduceLeDiff, Nat.reduceAdd, Nat.reduceMul, reduceCtorEq, Tryz.f41, hj1, j0, hwj, tkB, run_l6Ready h2 lL (show j < ms.length by omega) h5, hrd, sc_l6Ready, tI_toI, tI_len, rowsBo_len, lL]
      exact ⟨⟨j, by omega⟩, by simp only []; omega, [], [0, 1, 2], by (simp only [go_sem, eq_self, MvRb, MvRn, MvRt, List.nodup_cons, List.nodup_nil, ↓reduceIte, Nat.reduceEqDiff, Nat.reduceLT, Nat.reduceLeDiff, reduceCtorEq, List.forall_mem_nil, Nat.zero_le, false_implies, List.mem_singleton, MvR_Bo, MvR_Nn, hst]) <;> simp [lk, MvB_im]⟩
    | false =>
      rw [hr, if_neg (by simp)] at hst
      rw [hr] at hrd
      try simp -dsimp (maxSteps := 1000000) only [go_sem, List.forall_mem_nil, ↓reduceIte, Nat.reduceEqDiff, Nat.reduceLT, Nat.reduceLeDiff, Nat.reduceAdd, Nat.reduceMul, reduceCtorEq, Tryz.f41, hj1, j0, hwj, tkB, run_l6Ready h2 lL (show j < ms.length by omega) h5, hrd, sc_l6Ready, tI_toI, tI_len, rowsBo_len, lL]
      exact ⟨⟨j, by omega⟩, by simp only []; omega, [], [0, 1, 2], by (simp only [go_sem, eq_self, MvRb, MvRn, MvRt, List.nodup_cons, List.nodup_nil, ↓reduceIte, Nat.reduceEqDiff, Nat.reduceLT, Nat.reduceLeDiff, reduceCtorEq, List.forall_mem_nil, Nat.zero_le, false_implies, List.mem_singleton, MvR_Bo, MvR_Nn, hst]) <;> simp [lk, MvB_im]⟩
  | 0, hj =>
    have hJ : (0 ≤ ((0 : Nat) : Int) - 1) = False := by simp
    rw [show ms.length - out.length = (ms.length - (out.length + 1)) + 1 by omega] at hinv
    simp only [orderGo] at hinv
    have hnx : nxF ms cs out 0 = if readyIdx ms cs out ms.length 0 = ms.length then -1 else (readyIdx ms cs out ms.length 0 : Int) := rfl
    have hle := readyIdx_le ms cs out ms.length 0
    by_cases hnone : readyIdx ms cs out ms.length 0 = ms.length
    · rw [if_pos hnone] at hnx hinv
      try simp -dsimp (maxSteps := 1000000) only [go_sem, List.forall_mem_nil, ↓reduceIte, Nat.reduceEqDiff, Nat.reduceLT, Nat.reduceLeDiff, Nat.reduceAdd, Nat.reduceMul, reduceCtorEq, Tryz.f41, hJ, hnx, hinv, oOrder, Int.reduceLT]
      refine finF_i [] ?_
      simp -dsimp (maxSteps := 1000000) only [go_sem, List.forall_mem_nil, ↓reduceIte, Nat.reduceEqDiff, Nat.reduceLT, Nat.reduceLeDiff, Nat.reduceAdd, Nat.reduceMul, reduceCtorEq, hinv, oOrder]
    · rw [if_neg hnone] at hnx hinv
      generalize readyIdx ms cs out ms.length 0 = R at *
      have hR : ((R : Int) < 0) = False := eq_false (by omega)
      have R0 : (0 ≤ (R : Int)) = True := by simp
      have R1 : ((R : Int) < (ms.length : Int)) = True := eq_true (by omega)
      obtain ⟨b, hb⟩ : ∃ b, (lsF ms.length out)[R]? = some b := ⟨_, List.getElem?_eq_getElem (by rw [lL]; omega)⟩
      have hrow : (tI (rowsBo (lsF ms.length out)))[R]? = some [T.im (.bool b)] := tI_at (rowsBo_at hb)
      have hby : ((out.length + 1) * 8 ≤ 140737488355328) = True := eq_true (by omega)
      have hset : (tI (rowsBo (lsF ms.length out))).set R [T.im (.bool true)] = tI (rowsBo (lsF ms.length (out ++ [(R : Int)]))) := by rw [setBo, lsF_set (by omega)]
      try simp -dsimp (maxSteps := 1000000) only [go_sem, List.forall_mem_nil, ↓reduceIte, Nat.reduceEqDiff, Nat.reduceLT, Nat.reduceLeDiff, Nat.reduceAdd, Nat.reduceMul, reduceCtorEq, Tryz.f41, hJ, hnx, hR, R0, R1, hrow, hset, hby, lL, tIN_app, appendH, srcRows, List.take_succ_cons, List.take_zero, List.all_cons, List.all_nil, okT, Bool.and_true, List.length_append, tI_len, rowsN_len, rowsBo_len, Int.toNat_natCast]
      exact ⟨⟨out ++ [(R : Int)], by simp; omega, by rw [List.length_append]; exact hinv⟩, by simp only [List.length_append, List.length_cons, List.length_nil]; omega, [], [0, 1, 4], by (simp only [go_sem, eq_self, MvRb, MvRn, MvRt, List.nodup_cons, List.nodup_nil, ↓reduceIte, Nat.reduceEqDiff, Nat.reduceLT, Nat.reduceLeDiff, reduceCtorEq, List.forall_mem_nil, Nat.zero_le, false_implies, List.mem_singleton, MvR_Bo, MvR_Nn, List.length_append]) <;> simp [lk, MvB_im]⟩
end Go.SX
set_option linter.unusedVariables false
set_option linter.unusedSimpArgs false
namespace Go.SX
open Go Go.Proofs
structure ADr where
  ms : List Mod
  cs : List Cbl
  ml : ms.length ≤ sm
  cl : cs.length ≤ sm
  dr : ∀ m ∈ ms, Drawn m
theorem ADr_ext {x y : ADr} (h : x.ms = y.ms ∧ x.cs = y.cs) : x = y := by
  obtain ⟨a, b, _, _, _⟩ := x
  obtain ⟨c, d, _, _, _⟩ := y
  obtain ⟨rfl, rfl⟩ := h
  rfl
noncomputable def ct_sIsRack : Ct := fam true (fun x : ADr => ([.agg [.im (.sl 11 (rowsM x.ms)), .im (.sl 2 (rowsC x.cs))]], [])) (fun x => .one { val := .c (.im (.bool (isRackF x.ms x.cs))) })
theorem run_sIsRack {ms : List Mod} {cs : List Cbl} (h1 : ms.length ≤ sm) (h2 : cs.length ≤ sm) (h5 : ∀ m ∈ ms, Drawn m) : ct_sIsRack.run [.agg [.im (.sl 11 (rowsM ms)), .im (.sl 2 (rowsC cs))]] [] = some (.one { val := .c (.im (.bool (isRackF ms cs))) }) := by
  refine fam_run' (args := fun x : ADr => ([D.agg [.im (.sl 11 (rowsM x.ms)), .im (.sl 2 (rowsC x.cs))]], [])) (fun x y h => ?_) ⟨ms, cs, h1, h2, h5⟩
  simp [rowsM_eq, rowsC_eq] at h
  exact ADr_ext h
theorem sc_sIsRack : (ct_sIsRack.sc = true) = True := by simp [ct_sIsRack, fam]
theorem cab_has (n : Nat) (c : Cbl) : cabF n c = (hasR n c.1 && hasR n c.2) := by
  simp only [cabF, hasR]
  rw [Bool.eq_iff_iff]
  simp
  omega
set_option maxRecDepth 100000 in
set_option maxHeartbeats 8000000 in
theorem law_sIsRack : Law Tryz.prog 17 ct_sIsRack := by
  refine fam_law (Env_cons law_sIsModule (Env_cons law_l6Has (Env_cons law_l6Order Env_nil))) hmixA Tryz.func17 rfl rfl (fun ⟨ms, cs, h1, h2, h5⟩ => ⟨okO_im rfl, by simp [Tryz.f17], ?_⟩)
  by_cases hm : ms.length ≤ 16
  rotate_left
  · have e1 : ((16 : Int) < (ms.length : Int)) = True := eq_true (by omega)
    have hF : isRackF ms cs = false := by simp only [isRackF, decide_eq_false hm, Bool.false_and]
    clear hm
    try simp -dsimp (maxSteps := 1000000) only [go_sem, List.forall_mem_nil, ↓reduceIte, Nat.reduceEqDiff, Nat.reduceLT, Nat.reduceLeDiff, Nat.reduceAdd, Nat.reduceMul, reduceCtorEq, Tryz.f17, rowsM_len, rowsC_len, e1, hF]
  have e1 : ((16 : Int) < (ms.length : Int)) = False := eq_false (by omega)
  by_cases hc : cs.length ≤ 40
  rotate_left
  · have e2 : ((40 : Int) < (cs.length : Int)) = True := eq_true (by omega)
    have hF : isRackF ms cs = false := by simp only [isRackF, decide_eq_false hc, Bool.false_and, Bool.and_false]
    clear hc
    try simp -dsimp (maxSteps := 1000000) only [go_sem, List.forall_mem_nil, ↓reduceIte, Nat.reduceEqDiff, Nat.reduceLT, Nat.reduceLeDiff, Nat.reduceAdd, Nat.reduceMul, reduceCtorEq, Tryz.f17, rowsM_len, rowsC_len, e1, e2, hF]
  have e2 : ((40 : Int) < (cs.length : Int)) = False := eq_false (by omega)
  have hall : ms.all isModuleF = true := List.all_eq_true.2 fun m hm => (h5 m hm).mod
  have hF : isRackF ms cs = (cs.all (cabF ms.length) && (orderF ms cs).isSome) := by simp only [isRackF, decide_eq_true hm, decide_eq_true hc, hall, Bool.true_and]
  rw [hF]
  clear hF
  try simp -dsimp (maxSteps := 1000000) only [go_sem, List.forall_mem_nil, ↓reduceIte, Nat.reduceEqDiff, Nat.reduceLT, Nat.reduceLeDiff, Nat.reduceAdd, Nat.reduceMul, reduceCtorEq, Tryz.f17, rowsM_len, rowsC_len, e1, e2]
  refine loop_i (ι := { k : Nat // k ≤ ms.length }) (fun k => ⟨[(1, some (.c (.ptr 0 0 0 0))), (20, some (.c (.im (.sl 11 (rowsM ms))))), (21, some (.c (.im (.int .i64 (ms.length : Int))))), (22, some (.c (.im (.int .i64 (k.1 : Int)))))],
    [(0, some (.box [.t (.im (.sl 11 (rowsM ms))), .t (.im (.sl 2 (rowsC cs)))]))], 1⟩) (fun k => ms.length - k.1) ⟨0, by simp⟩ ⟨[], [], by ((simp only [go_sem, eq_self, MvRb, MvRn, MvRt, List.nodup_cons, List.nodup_nil, ↓reduceIte, Nat.reduceEqDiff, Nat.reduceLT, Nat.reduceLeDiff, reduceCtorEq, List.forall_mem_nil, Nat.zero_le, false_implies, List.mem_singleton]) <;> (try (simp -dsimp only [go_sem, eq_self, MvRb, MvRn, MvRt, List.nodup_cons, List.nodup_nil, ↓reduceIte, Nat.reduceEqDiff, Nat.reduceLT, Nat.reduceLeDiff, reduceCtorEq, List.forall_mem_nil, Nat.zero_le, false_implies, List.mem_singleton]))) <;> simp [lk, MvB_im]⟩ (fun ⟨k, hk⟩ => ?_)
  simp only
  by_cases hlt : k < ms.length
  · obtain ⟨m, hp⟩ : ∃ p, ms[k]? = some p := ⟨_, List.getElem?_eq_getElem hlt⟩
    have hrow := rowsM_at hp
    have hI : ((k : Int) < (ms.length : Int)) = True := eq_true (by omega)
    have h0 : (0 ≤ (k : Int)) = True := by simp
    have hwr := lt_sm h1 hlt
    have rm := run_sIsModule (h5 m (List.mem_of_getElem? hp))
    simp only [modC] at rm
    try simp -dsimp (maxSteps := 1000000) only [go_sem, List.forall_mem_nil, ↓reduceIte, Nat.reduceEqDiff, Nat.reduceLT, Nat.reduceLeDiff, Nat.reduceAdd, Nat.reduceMul, reduceCtorEq, Tryz.f17, hI, h0, Int.toNat_natCast, hrow, rm, hwr]
    exact ⟨⟨k + 1, by omega⟩, by simp only []; omega, [], [0], by (simp only [go_sem, eq_self, MvRb, MvRn, MvRt, List.nodup_cons, List.nodup_nil, ↓reduceIte, Nat.reduceEqDiff, Nat.reduceLT, Nat.reduceLeDiff, reduceCtorEq, List.forall_mem_nil, Nat.zero_le, false_implies, List.mem_singleton]) <;> simp [lk, MvB_im]⟩
  have hI : ((k : Int) < (ms.length : Int)) = False := eq_false (by omega)
  clear hlt
  try simp -dsimp (maxSteps := 1000000) only [go_sem, List.forall_mem_nil, ↓reduceIte, Nat.reduceEqDiff, Nat.reduceLT, Nat.reduceLeDiff, Nat.reduceAdd, Nat.reduceMul, reduceCtorEq, Tryz.f17, hI, rowsM_len, rowsC_len]
  refine loop_i (ι := { k : Nat // k ≤ cs.length ∧ cs.all (cabF ms.length) = (cs.drop k).all (cabF ms.length) ∧ (cs.take k).all (cabF ms.length) = true }) (fun k => ⟨[(1, some (.c (.ptr 0 0 0 0))), (31, some (.c (.im (.sl 2 (rowsC cs))))), (32, some (.c (.im (.int .i64 (cs.length : Int))))), (33, some (.c (.im (.int .i64 (k.1 : Int)))))],
    [(0, some (.box [.t (.im (.sl 11 (rowsM ms))), .t (.im (.sl 2 (rowsC cs)))]))], 1⟩) (fun k => cs.length - k.1) ⟨0, by simp⟩ ⟨[], [], by ((simp only [go_sem, eq_self, MvRb, MvRn, MvRt, List.nodup_cons, List.nodup_nil, ↓reduceIte, Nat.reduceEqDiff, Nat.reduceLT, Nat.reduceLeDiff, reduceCtorEq, List.forall_mem_nil, Nat.zero_le, false_implies, List.mem_singleton]) <;> (try (simp -dsimp only [go_sem, eq_self, MvRb, MvRn, MvRt, List.nodup_cons, List.nodup_nil, ↓reduceIte, Nat.reduceEqDiff, Nat.reduceLT, Nat.reduceLeDiff, reduceCtorEq, List.forall_mem_nil, Nat.zero_le, false_implies, List.mem_singleton]))) <;> simp [lk, MvB_im]⟩ (fun ⟨k, hk, hinv2, hinv3⟩ => ?_)
  simp only
  by_cases hlt : k < cs.length
  · obtain ⟨⟨f, t⟩, hp⟩ : ∃ p, cs[k]? = some p := ⟨_, List.getElem?_eq_getElem hlt⟩
    have hrow := rowsC_at hp
    have hI : ((k : Int) < (cs.length : Int)) = True := eq_true (by omega)
    have h0 : (0 ≤ (k : Int)) = True := by simp
    have hwr := lt_sm h2 hlt
    have hidx := all_drop (f := cabF ms.length) hp
    rw [hidx, cab_has] at hinv2
    clear hidx
    simp only at hinv2
    cases q1 : hasR ms.length f with
    | false =>
      simp only [q1, Bool.false_and] at hinv2
      try simp -dsimp (maxSteps := 1000000) only [go_sem, List.forall_mem_nil, ↓reduceIte, Nat.reduceEqDiff, Nat.reduceLT, Nat.reduceLeDiff, Nat.reduceAdd, Nat.reduceMul, reduceCtorEq, Tryz.f17, hI, h0, Int.toNat_natCast, hrow, run_l6Has, q1, hinv2, Bool.false_and]
    | true =>
      cases q2 : hasR ms.length t with
      | false =>
        simp only [q1, q2, Bool.false_and, Bool.and_false] at hinv2
        try simp -dsimp (maxSteps := 1000000) only [go_sem, List.forall_mem_nil, ↓reduceIte, Nat.reduceEqDiff, Nat.reduceLT, Nat.reduceLeDiff, Nat.reduceAdd, Nat.reduceMul, reduceCtorEq, Tryz.f17, hI, h0, Int.toNat_natCast, hrow, run_l6Has, q1, q2, hinv2, Bool.false_and]
      | true =>
        simp only [q1, q2, Bool.true_and] at hinv2
        have h3' : (cs.take (k + 1)).all (cabF ms.length) = true := by
          rw [take_snoc hp, List.all_append, hinv3]
          simp [cab_has, q1, q2]
        try simp -dsimp (maxSteps := 1000000) only [go_sem, List.forall_mem_nil, ↓reduceIte, Nat.reduceEqDiff, Nat.reduceLT, Nat.reduceLeDiff, Nat.reduceAdd, Nat.reduceMul, reduceCtorEq, Tryz.f17, hI, h0, Int.toNat_natCast, hrow, run_l6Has, q1, q2, hwr]
        exact ⟨⟨k + 1, by omega, hinv2, h3'⟩, by simp only []; omega, [], [0], by (simp only [go_sem, eq_self, MvRb, MvRn, MvRt, List.nodup_cons, List.nodup_nil, ↓reduceIte, Nat.reduceEqDiff, Nat.reduceLT, Nat.reduceLeDiff, reduceCtorEq, List.forall_mem_nil, Nat.zero_le, false_implies, List.mem_singleton]) <;> simp [lk, MvB_im]⟩
  have hI : ((k : Int) < (cs.length : Int)) = False := eq_false (by omega)
  obtain rfl : k = cs.length := by omega
  rw [List.drop_length, List.all_nil] at hinv2
  rw [List.take_length] at hinv3
  have hcab : ∀ c ∈ cs, 0 ≤ c.1 ∧ c.1 < ms.length := fun c hc => by
    have := List.all_eq_true.1 hinv3 c hc
    rw [cab_has, Bool.and_eq_true] at this
    simpa [hasR] using this.1
  cases ho : orderF ms cs with
  | none =>
    try simp -dsimp (maxSteps := 1000000) only [go_sem, List.forall_mem_nil, ↓reduceIte, Nat.reduceEqDiff, Nat.reduceLT, Nat.reduceLeDiff, Nat.reduceAdd, Nat.reduceMul, reduceCtorEq, Tryz.f17, hI, run_order hm h2 hcab, ho, oOrder, hinv2, Option.isSome_none, Bool.true_and]
  | some ord =>
    try simp -dsimp (maxSteps := 1000000) only [go_sem, List.forall_mem_nil, ↓reduceIte, Nat.reduceEqDiff, Nat.reduceLT, Nat.reduceLeDiff, Nat.reduceAdd, Nat.reduceMul, reduceCtorEq, Tryz.f17, hI, run_order hm h2 hcab, ho, oOrder, hinv2, Option.isSome_some, Bool.true_and]
def rRk (ms : List Mod) (cs : List Cbl) : Res := { val := .agg [.view 0 11 0 ms.length, .view 1 2 0 cs.length], roots := [.arr 11 (tI (rowsM ms)), .arr 2 (tI (rowsC cs))] }
theorem okR_Rk {ms : List Mod} {cs : List Cbl} : OkR false (rRk ms cs) := by
  refine ⟨.agg _ (fun x hx => ?_), fun r hr => ?_, by simp [rRk]⟩
  · simp [rRk] at hx ⊢
    rcases hx with rfl | rfl <;> exact .view _ _ _ _ (by simp)
  · simp [rRk] at hr
    rcases hr with rfl | rfl <;> exact sc_false _ _
noncomputable def ct_l6Copy : Ct := fam false (fun x : ADr => ([.agg [.im (.sl 11 (rowsM x.ms)), .im (.sl 2 (rowsC x.cs))]], [])) (fun x => .one (rRk x.ms x.cs))
theorem run_l6Copy {ms : List Mod} {cs : List Cbl} (h1 : ms.length ≤ sm) (h2 : cs.length ≤ sm) (h5 : ∀ m ∈ ms, Drawn m) : ct_l6Copy.run [.agg [.im (.sl 11 (rowsM ms)), .im (.sl 2 (rowsC cs))]] [] = some (.one (rRk ms cs)) := by
  refine fam_run' (args := fun x : ADr => ([D.agg [.im (.sl 11 (rowsM x.ms)), .im (.sl 2 (rowsC x.cs))]], [])) (fun x y h => ?_) ⟨ms, cs, h1, h2, h5⟩
  simp [rowsM_eq, rowsC_eq] at h
  exact ADr_ext h
theorem MvR_Mi (ms : List Mod) : MvR false (.arr 11 (tI (rowsM ms))) = True := eq_true (sc_false _ _)
theorem MvR_Ci (l : List Cbl) : MvR false (.arr 2 (tI (rowsC l))) = True := eq_true (sc_false _ _)
theorem tIM_app (ms : List Mod) (m : Mod) : tI (rowsM ms) ++ [[T.im (.int .i64 m.kind), .im (.cpx .f32 m.turn.1 m.turn.2), .im (.cpx .f32 m.state.1 m.state.2), .im (.flt .f32 m.level), .im (.sl 1 (rowsZ m.store)), .im (.int .i64 m.rat), .im (.int .i64 m.rcnt), .im (.sl 1 (rowsZ m.pts)), .im (.sl 1 (rowsN m.lab)), .im (.int .i64 m.count), .im (.int .i64 m.left)]] = tI (rowsM (ms ++ [m])) := by
  simp [tI, rowsM, modI]
set_option maxRecDepth 100000 in
set_option maxHeartbeats 8000000 in
theorem law_l6Copy : Law Tryz.prog 104 ct_l6Copy := by
  refine fam_lawF (Env_cons law_l5Copy Env_nil) hmixA Tryz.func104 rfl rfl (fun ⟨ms, cs, h1, h2, h5⟩ => ⟨okO okR_Rk, by simp [Tryz.f104], ?_⟩)
  simp only [rRk]
  have hbc : (cs.length * 16 ≤ 140737488355328) = True := bytes_sm h2 (by decide)
  try simp -dsimp (maxSteps := 1000000) only [go_sem, List.forall_mem_nil, ↓reduceIte, Nat.reduceEqDiff, Nat.reduceLT, Nat.reduceLeDiff, Nat.reduceAdd, Nat.reduceMul, reduceCtorEq, Tryz.f104, rowsM_len, rowsC_len, hbc, map_im_tI, tI_len, appendH, srcRows]
  refine loop_i (ι := { k : Nat // k ≤ ms.length }) (fun k => ⟨[(2, some (.c (.ptr 1 0 0 0))), (3, some (.c (.ptr 3 0 0 0))), (12, some (.c (.im (.sl 11 (rowsM ms))))), (13, some (.c (.im (.int .i64 (ms.length : Int))))), (14, some (.c (.im (.int .i64 (k.1 : Int)))))],
    [(1, some (.box [.t .nil, .t .nil])), (2, some (.arr 2 (tI (rowsC cs)))), (3, some (.box [.t (.lent 4 11 k.1), .t (.lent 2 2 cs.length)])), (4, some (.arr 11 (tI (rowsM (ms.take k.1)))))], 5⟩) (fun k => ms.length - k.1) ⟨0, by simp⟩ ⟨[.nilT 4 0 0 11, .unf 4 0 0], [1, 3, 4, 5], by ((simp only [go_sem, eq_self, MvRb, MvRn, MvRt, List.nodup_cons, List.nodup_nil, ↓reduceIte, Nat.reduceEqDiff, Nat.reduceLT, Nat.reduceLeDiff, reduceCtorEq, List.forall_mem_nil, Nat.zero_le, false_implies, List.mem_singleton, Option.map_some, List.take_zero, MvR_Ci, MvR_Mi]) <;> (try (simp -dsimp only [go_sem, eq_self, MvRb, MvRn, MvRt, List.nodup_cons, List.nodup_nil, ↓reduceIte, Nat.reduceEqDiff, Nat.reduceLT, Nat.reduceLeDiff, reduceCtorEq, List.forall_mem_nil, Nat.zero_le, false_implies, List.mem_singleton, Option.map_some, List.take_zero, MvR_Ci, MvR_Mi]))) <;> simp [lk, MvB_im, tI, rowsM, MvRt]⟩ (fun ⟨k, hk⟩ => ?_)
  simp only
  have lk1 : (ms.take k).length = k := by rw [List.length_take]; omega
  by_cases hlt : k < ms.length
  rotate_left
  · have hI : ((k : Int) < (ms.length : Int)) = False := eq_false (by omega)
    obtain rfl : k = ms.length := by omega
    rw [List.take_length]
    try simp -dsimp (maxSteps := 1000000) only [go_sem, List.forall_mem_nil, ↓reduceIte, Nat.reduceEqDiff, Nat.reduceLT, Nat.reduceLeDiff, Nat.reduceAdd, Nat.reduceMul, reduceCtorEq, Tryz.f104, hI, tI_len, rowsM_len, rowsC_len]
    refine finF_i [] ?_
    simp -dsimp (maxSteps := 1000000) only [go_sem, List.forall_mem_nil, ↓reduceIte, Nat.reduceEqDiff, Nat.reduceLT, Nat.reduceLeDiff, Nat.reduceAdd, Nat.reduceMul, reduceCtorEq]
    refine ⟨[4, 2], ?_, ?_, ?_, rfl, rfl⟩ <;> simp [rtOk]
  obtain ⟨m, hp⟩ : ∃ p, ms[k]? = some p := ⟨_, List.getElem?_eq_getElem hlt⟩
  have hrow := rowsM_at hp
  have hI : ((k : Int) < (ms.length : Int)) = True := eq_true (by omega)
  have h0 : (0 ≤ (k : Int)) = True := by simp
  have hwr := lt_sm h1 hlt
  obtain ⟨q1, q2, q3⟩ := (h5 m (List.mem_of_getElem? hp)).ok
  have hby : ((k + 1) * 136 ≤ 140737488355328) = True := bytes_big (by omega) (by decide)
  have happ := tIM_app (ms.take k) m
  rw [← take_snoc hp] at happ
  have ll : (tI (rowsM (ms.take k))).length = k := by rw [tI_len, rowsM_len, lk1]
  have ll2 : (tI (rowsM (ms.take (k + 1)))).length = k + 1 := by rw [tI_len, rowsM_len, List.length_take]; omega
  try simp -dsimp (maxSteps := 1000000) only [go_sem, List.forall_mem_nil, ↓reduceIte, Nat.reduceEqDiff, Nat.reduceLT, Nat.reduceLeDiff, Nat.reduceAdd, Nat.reduceMul, reduceCtorEq, Tryz.f104, hI, h0, hwr, hrow, Int.toNat_natCast, run_l5Copy q1 q2 q3, Mod_eta, rM, modC, hby, happ, ll, ll2, appendH, srcRows, List.take_succ_cons, List.take_zero, List.all_cons, List.all_nil, okT, Bool.and_true]
  repeat' (first
    | ((with_reducible refine sl_i ?_ ?_); focus kernel_rfl)
    | ((with_reducible refine ro_i ?_ ?_); focus kernel_rfl))
  exact ⟨⟨k + 1, by omega⟩, by simp only []; omega, [], [1, 2, 3, 46], by (simp only [go_sem, eq_self, MvRb, MvRn, MvRt, List.nodup_cons, List.nodup_nil, ↓reduceIte, Nat.reduceEqDiff, Nat.reduceLT, Nat.reduceLeDiff, reduceCtorEq, List.forall_mem_nil, Nat.zero_le, false_implies, List.mem_singleton, MvR_Ci, MvR_Mi]) <;> simp [lk, MvB_im]⟩
theorem rowsM_nil : rowsM [] = [] := rfl
theorem rowsC_nil : rowsC [] = [] := rfl
def rRO (ms : List Mod) (cs : List Cbl) (b : Bool) : Res := { val := .tup [.agg [.im (.sl 11 (rowsM ms)), .im (.sl 2 (rowsC cs))], .c (.im (.bool b))] }
theorem okR_RO {ms : List Mod} {cs : List Cbl} {b : Bool} : OkR false (rRO ms cs b) := by
  refine ⟨.tup _ (fun d hd => ?_), by simp [rRO], by simp [rRO]⟩
  simp only [List.mem_cons, List.not_mem_nil, or_false] at hd
  rcases hd with rfl | rfl
  · refine .inr ⟨_, rfl, fun x hx => ?_⟩
    simp only [List.mem_cons, List.not_mem_nil, or_false] at hx
    rcases hx with rfl | rfl <;> exact .im _ (.inl rfl)
  · exact .inl ⟨_, rfl, .im _ (.inl rfl)⟩
def addR' (ms : List Mod) (cs : List Cbl) (f t : Int) : Res := if isRackF ms (cs ++ [(f, t)]) = true then rRO ms (cs ++ [(f, t)]) true else rRO [] [] false
structure GoodRk (ms : List Mod) (cs : List Cbl) : Prop where
  dr : ∀ m ∈ ms, Drawn m
  rk : isRackF ms cs = true
theorem GoodRk.len {ms : List Mod} {cs : List Cbl} (h : GoodRk ms cs) : ms.length ≤ 16 ∧ cs.length ≤ 40 := by
  have := h.rk
  simp only [isRackF, Bool.and_eq_true, decide_eq_true_eq] at this
  exact ⟨this.1, this.2.1⟩
structure AAc where
  ms : List Mod
  cs : List Cbl
  f : Int
  t : Int
  g : GoodRk ms cs
noncomputable def ct_sAddCable : Ct := fam false (fun x : AAc => ([.agg [.im (.sl 11 (rowsM x.ms)), .im (.sl 2 (rowsC x.cs))], .c (.im (.int .i64 x.f)), .c (.im (.int .i64 x.t))], [])) (fun x => .one (addR' x.ms x.cs x.f x.t))
theorem run_sAddCable {ms : List Mod} {cs : List Cbl} (h : GoodRk ms cs) (f t : Int) : ct_sAddCable.run [.agg [.im (.sl 11 (rowsM ms)), .im (.sl 2 (rowsC cs))], .c (.im (.int .i64 f)), .c (.im (.int .i64 t))] [] = some (.one (addR' ms cs f t)) := by
  refine fam_run' (args := fun x : AAc => ([D.agg [.im (.sl 11 (rowsM x.ms)), .im (.sl 2 (rowsC x.cs))], .c (.im (.int .i64 x.f)), .c (.im (.int .i64 x.t))], [])) ?_ ⟨ms, cs, f, t, h⟩
  rintro ⟨a, b, c, d, _⟩ ⟨a', b', c', d', _⟩ h
  simp [rowsM_eq, rowsC_eq] at h ⊢
  simp [h]
theorem sc_sAddCable : (ct_sAddCable.sc = true) = False := by simp [ct_sAddCable, fam]
theorem tIC_app1 (cs : List Cbl) (f t : Int) : tI (rowsC cs) ++ [[T.im (.int .i64 f), T.im (.int .i64 t)]] = tI (rowsC (cs ++ [(f, t)])) := by simp [tI, rowsC]
set_option maxRecDepth 100000 in
set_option maxHeartbeats 8000000 in
theorem law_sAddCable : Law Tryz.prog 59 ct_sAddCable := by
  refine fam_lawF (Env_cons law_sIsRack (Env_cons law_l6Copy Env_nil)) hmixA Tryz.func59 rfl rfl (fun ⟨ms, cs, f, t, hG⟩ => ⟨?_, by simp [Tryz.f59], ?_⟩)
  · simp only [addR']; split <;> exact okO okR_RO
  obtain ⟨l1, l2⟩ := hG.len
  have hsm : sm = 16777216 := rfl
  have h1 : ms.length ≤ sm := by omega
  have h2 : cs.length ≤ sm := by omega
  have h2' : (cs ++ [(f, t)]).length ≤ sm := by simp; omega
  have hrk := hG.rk
  have hD := hG.dr
  have hby : ((cs.length + 1) * 16 ≤ 140737488355328) = True := eq_true (by omega)
  have lm : (tI (rowsM ms)).length = ms.length := by rw [tI_len, rowsM_len]
  have lc : (tI (rowsC (cs ++ [(f, t)]))).length = cs.length + 1 := by rw [tI_len, rowsC_len]; simp
  have tkm : List.take ms.length (tI (rowsM ms)) = tI (rowsM ms) := List.take_of_length_le (by omega)
  have tkc : List.take (cs.length + 1) (tI (rowsC (cs ++ [(f, t)]))) = tI (rowsC (cs ++ [(f, t)])) := List.take_of_length_le (by omega)
  have hmm : mapO (mapO imT) (tI (rowsM ms)) = some (rowsM ms) := tI_imT _
  have hmc : mapO (mapO imT) (tI (rowsC (cs ++ [(f, t)]))) = some (rowsC (cs ++ [(f, t)])) := tI_imT _
  simp only [addR']
  cases hr : isRackF ms (cs ++ [(f, t)]) with
  | true =>
    try simp -dsimp (maxSteps := 1000000) only [go_sem, List.forall_mem_nil, ↓reduceIte, Nat.reduceEqDiff, Nat.reduceLT, Nat.reduceLeDiff, Nat.reduceAdd, Nat.reduceMul, reduceCtorEq, Tryz.f59, run_sIsRack h1 h2 hD, hrk, run_l6Copy h1 h2 hD, rRk, tIC_app1, hby, lm, lc, tkm, tkc, run_sIsRack h1 h2' hD, hr, sc_sIsRack, tI_toI, appendH, srcRows, List.take_succ_cons, List.take_zero, List.all_cons, List.all_nil, okT, Bool.and_true, List.length_append, tI_len, rowsM_len, rowsC_len]
    refine finF_i [.frz 2 [.b 1 0 0], .frz 6 [.b 1 0 1]] ?_
    simp -dsimp (maxSteps := 1000000) only [go_sem, List.forall_mem_nil, ↓reduceIte, Nat.reduceEqDiff, Nat.reduceLT, Nat.reduceLeDiff, Nat.reduceAdd, Nat.reduceMul, reduceCtorEq, hr, rRO, hmm, hmc, lm, lc]
  | false =>
    try simp -dsimp (maxSteps := 1000000) only [go_sem, List.forall_mem_nil, ↓reduceIte, Nat.reduceEqDiff, Nat.reduceLT, Nat.reduceLeDiff, Nat.reduceAdd, Nat.reduceMul, reduceCtorEq, Tryz.f59, run_sIsRack h1 h2 hD, hrk, run_l6Copy h1 h2 hD, rRk, tIC_app1, hby, lm, lc, tkm, tkc, run_sIsRack h1 h2' hD, hr, sc_sIsRack, tI_toI, appendH, srcRows, List.take_succ_cons, List.take_zero, List.all_cons, List.all_nil, okT, Bool.and_true, List.length_append, tI_len, rowsM_len, rowsC_len]
    refine finF_i [.nilI 11 [.b 1 0 0], .nilI 2 [.b 1 0 1]] ?_
    simp -dsimp (maxSteps := 1000000) only [go_sem, List.forall_mem_nil, ↓reduceIte, Nat.reduceEqDiff, Nat.reduceLT, Nat.reduceLeDiff, Nat.reduceAdd, Nat.reduceMul, reduceCtorEq, hr, rRO, rowsM_nil, rowsC_nil]
end Go.SX
