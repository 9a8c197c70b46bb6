/-
  laws.FnDelayed: the walk.
  No condition.
-/
import Derived.Test.YtbhnlplbfhomcaaRpA
set_option linter.unusedVariables false
set_option linter.unusedSimpArgs false
namespace Go.SX
open Go Go.Proofs

abbrev LB := { l : List Int // ∀ b ∈ l, 0 ≤ b ∧ b < 256 }
theorem at_rng {l : List Int} (h : ∀ b ∈ l, 0 ≤ b ∧ b < 256) (i : Nat) : 0 ≤ atF l i ∧ atF l i < 256 := by
  unfold atF
  split
  · rename_i b hb
    exact h b (List.mem_of_getElem? hb)
  · omega
theorem at_mod {l : List Int} (h : ∀ b ∈ l, 0 ≤ b ∧ b < 256) (i m : Nat) (hm : 0 < m) : ∃ q : Nat, (atF l i).tmod (m : Int) = (q : Int) ∧ q < m := by
  obtain ⟨h1, _⟩ := at_rng h i
  refine ⟨((atF l i) % (m : Int)).toNat, ?_, ?_⟩
  · rw [Int.tmod_eq_emod_of_nonneg h1]
    have := Int.emod_nonneg (atF l i) (b := (m : Int)) (by omega)
    omega
  · have h2 := Int.emod_nonneg (atF l i) (b := (m : Int)) (by omega)
    have h3 := Int.emod_lt_of_pos (atF l i) (b := (m : Int)) (by omega)
    omega
noncomputable def ctLaw : Ct := fam true (fun x : LB => ([.c (.im (.sl 1 (rowsB x.1)))], [])) (fun _ => .one { val := .c (.im (.bool true)) })
def turns : List Pt := [(1065353216, 0), (3212836864, 0), (0, 1065353216), (0, 3212836864)]
theorem sc_TraceRack : (ct_TraceRack.sc = true) = True := by simp [ct_TraceRack, fam]
theorem rowsZ_nil : rowsZ [] = [] := rfl
theorem rowsN_nil : rowsN [] = [] := rfl
theorem tIn : tI [] = [] := rfl
theorem takeZ (k : Nat) (r : List Pt) : List.take k (tI (rowsZ r)) = tI (rowsZ (r.take k)) := by simp [tI, rowsZ, List.map_take]
theorem dropZ (k : Nat) (r : List Pt) : List.drop k (tI (rowsZ r)) = tI (rowsZ (r.drop k)) := by simp [tI, rowsZ, List.map_drop]
theorem turns_at {q : Nat} (h : q < 4) : ∃ t : Pt, inT t ∧ [[T.im (.cpx .f32 1065353216 0)], [T.im (.cpx .f32 3212836864 0)], [T.im (.cpx .f32 0 1065353216)], [T.im (.cpx .f32 0 3212836864)]][q]? = some [T.im (.cpx .f32 t.1 t.2)] := by
  match q, h with
  | 0, _ => exact ⟨_, .inl rfl, rfl⟩
  | 1, _ => exact ⟨_, .inr (.inl rfl), rfl⟩
  | 2, _ => exact ⟨_, .inr (.inr (.inl rfl)), rfl⟩
  | 3, _ => exact ⟨_, .inr (.inr (.inr rfl)), rfl⟩
set_option maxRecDepth 100000 in
set_option maxHeartbeats 8000000 in
theorem law_FnDelayed : Law Try.prog 4 ctLaw := by
  refine fam_law (Env_cons law_at (Env_cons law_NewDelay (Env_cons law_NewSource (Env_cons law_NewGain (Env_cons law_TraceRack (Env_cons law_equal Env_nil)))))) hmixA Try.func4 rfl rfl (fun ⟨l, hb⟩ => ⟨okO_im rfl, by simp [Try.f4], ?_⟩)
  simp only
  by_cases hbig : 1048576 < l.length
  · have hI : ((1048576 : Int) < (l.length : Int)) = True := eq_true (by omega)
    clear hbig
    try simp -dsimp (maxSteps := 1000000) only [go_sem, List.forall_mem_nil, ↓reduceIte, Nat.reduceEqDiff, Nat.reduceLT, Nat.reduceLeDiff, Nat.reduceAdd, Nat.reduceMul, reduceCtorEq, Try.f4, rowsB_len, hI]
    repeat' (first
      | ((with_reducible refine sl_i ?_ ?_); focus kernel_rfl)
      | ((with_reducible refine ro_i ?_ ?_); focus kernel_rfl)
      | ((with_reducible refine sl_e ?_); kernel_rfl)
      | ((with_reducible refine ro_e ?_); kernel_rfl)
      | ((first | (with_reducible refine gS_d ?_ ?_) | (with_reducible refine gS_dn ?_ ?_) | (with_reducible refine gS_i ?_ ?_)) <;> intro hg <;> (try simp -dsimp (maxSteps := 1000000) only [go_sem, List.forall_mem_nil, ↓reduceIte, Nat.reduceEqDiff, Nat.reduceLT, Nat.reduceLeDiff, Nat.reduceAdd, Nat.reduceMul, reduceCtorEq, Try.f4, rowsB_len, hI, *])))
  have hlen : l.length ≤ 1048576 := by omega
  have hI : ((1048576 : Int) < (l.length : Int)) = False := eq_false (by omega)
  obtain ⟨n', hn', hlt⟩ := at_mod hb 1 16 (by omega)
  obtain ⟨n, hn1, hn2, hn⟩ : ∃ n : Nat, 1 ≤ n ∧ n ≤ 16 ∧ IntKind.i64.wrap (1 + (n' : Int)) = (n : Int) := ⟨n' + 1, by omega, by omega, by rw [wrap_id (by omega) (by omega)]; omega⟩
  have hn' : (atF l 1).tmod 16 = (n' : Int) := hn'
  obtain ⟨q, hq, hq4⟩ := at_mod hb 2 4 (by omega)
  have hq : (atF l 2).tmod 4 = (q : Int) := hq
  obtain ⟨t, ht, htu⟩ := turns_at hq4
  have h16 : ((16 : Int) = 0) = False := by simp
  have h4 : ((4 : Int) = 0) = False := by simp
  have hq0 : (0 ≤ (q : Int)) = True := by simp
  have hq1 : ((q : Int) < ((4 : Nat) : Int)) = True := eq_true (by omega)
  have hzl : (zs n).length = n := by simp [zs]
  have ha1 : ct_at.run [.c (.im (.sl 1 (rowsB l))), .c (.im (.int .i64 1))] [] = some (.one { val := .c (.im (.int .i64 (atF l 1))) }) := run_at hlen hb (i := 1) (by omega)
  have ha2 : ct_at.run [.c (.im (.sl 1 (rowsB l))), .c (.im (.int .i64 2))] [] = some (.one { val := .c (.im (.int .i64 (atF l 2))) }) := run_at hlen hb (i := 2) (by omega)
  have hsm : sm = 16777216 := rfl
  have hrun : ct_TraceRack.run [.agg [.im (.sl 11 [[.int .i64 1, .cpx .f32 t.1 t.2, .cpx .f32 1077936128 3221225472, .flt .f32 0, .sl 1 [], .int .i64 0, .int .i64 0, .sl 1 [], .sl 1 [], .int .i64 0, .int .i64 0], [.int .i64 4, .cpx .f32 0 0, .cpx .f32 0 0, .flt .f32 0, .sl 1 (rowsZ (zs n)), .int .i64 0, .int .i64 ((zs n).length : Int), .sl 1 [], .sl 1 [], .int .i64 0, .int .i64 0], [.int .i64 3, .cpx .f32 0 0, .cpx .f32 0 0, .flt .f32 1073741824, .sl 1 [], .int .i64 0, .int .i64 0, .sl 1 [], .sl 1 [], .int .i64 0, .int .i64 0], [.int .i64 3, .cpx .f32 0 0, .cpx .f32 0 0, .flt .f32 1056964608, .sl 1 [], .int .i64 0, .int .i64 0, .sl 1 [], .sl 1 [], .int .i64 0, .int .i64 0]]), .im (.sl 2 [[.int .i64 0, .int .i64 1], [.int .i64 1, .int .i64 2], [.int .i64 2, .int .i64 3]])], .c (.im (.int .i64 40))] [] = some (oTrace (msD t (1077936128, 3221225472) (zs n) 0) csD 40) :=
    run_TraceRack (ms := msD t (1077936128, 3221225472) (zs n) 0) (cs := csD) (by simp [msD]; omega) (by simp [csD]; omega) (by
      intro m hm
      simp only [msD, List.mem_cons, List.not_mem_nil, or_false] at hm
      rcases hm with rfl | rfl | rfl | rfl <;> refine ⟨?_, ?_, ?_⟩ <;> simp [mSrc, mDel, mGain, hzl] <;> omega) 40
  rw [hzl] at hrun
  have htk : List.take n (tI (rowsZ (zs n))) = tI (rowsZ (zs n)) := List.take_of_length_le (by simp [tI_len, rowsZ_len, hzl])
  try simp -dsimp (maxSteps := 1000000) only [go_sem, List.forall_mem_nil, ↓reduceIte, Nat.reduceEqDiff, Nat.reduceLT, Nat.reduceLeDiff, Nat.reduceAdd, Nat.reduceMul, reduceCtorEq, Try.f4, rowsB_len, hI, ha1, ha2, hrun, sc_TraceRack, htk, tI_toI, tI_len, rowsZ_len, rowsZ_nil, rowsN_nil, tIn, List.take_nil, List.take_zero, List.take_succ_cons, oTrace, ne_run,  hn', hn, h16, h4, hq, hq0, hq1, Int.toNat_natCast, htu, run_NewDelay hn1 hn2, rCk, mDel, hzl, run_NewSource, run_NewGain, rMod, mSrc, mGain]
  repeat' (first
    | ((with_reducible refine sl_i ?_ ?_); focus kernel_rfl)
    | ((with_reducible refine ro_i ?_ ?_); focus kernel_rfl)
    | ((with_reducible refine sl_e ?_); kernel_rfl)
    | ((with_reducible refine ro_e ?_); kernel_rfl)
    | ((first | (with_reducible refine gS_d ?_ ?_) | (with_reducible refine gS_dn ?_ ?_) | (with_reducible refine gS_i ?_ ?_)) <;> intro hg <;> (try simp -dsimp (maxSteps := 1000000) only [go_sem, List.forall_mem_nil, ↓reduceIte, Nat.reduceEqDiff, Nat.reduceLT, Nat.reduceLeDiff, Nat.reduceAdd, Nat.reduceMul, reduceCtorEq, Try.f4, rowsB_len, hI, ha1, ha2, hrun, sc_TraceRack, htk, tI_toI, tI_len, rowsZ_len, rowsZ_nil, rowsN_nil, tIn, List.take_nil, List.take_zero, List.take_succ_cons, oTrace, ne_run,  hn', hn, h16, h4, hq, hq0, hq1, Int.toNat_natCast, htu, run_NewDelay hn1 hn2, rCk, mDel, hzl, run_NewSource, run_NewGain, rMod, mSrc, mGain, *])))
  intro O
  obtain ⟨r0, r1, r2, r3, hR, l0, l1, l2, l3, e1, e2, e3⟩ := plainD hn1 hn2 ht O
  have hc := rackD (t := t) (s := (1077936128, 3221225472)) hn1 hn2
  have hml : (msD t (1077936128, 3221225472) (zs n) 0).length = 4 := rfl
  have ne : ∀ r : List Pt, r.length = 40 → ¬ r = [] := fun r h e => by rw [e] at h; simp at h
  have htr : trR [r0, r1, r2, r3] = [[.own 1 (tI (rowsZ r0))], [.own 1 (tI (rowsZ r1))], [.own 1 (tI (rowsZ r2))], [.own 1 (tI (rowsZ r3))]] := by simp [trR, trT, ne r0 l0, ne r1 l1, ne r2 l2, ne r3 l3]
  have h44 : ((4 : Nat) : Int) = 4 := rfl
  have h40 : Int.toNat 40 = 40 := rfl
  try simp -dsimp (maxSteps := 1000000) only [go_sem, List.forall_mem_nil, ↓reduceIte, Nat.reduceEqDiff, Nat.reduceLT, Nat.reduceLeDiff, Nat.reduceAdd, Nat.reduceMul, reduceCtorEq, Try.f4, hc, hml, h40, h44, hR, rTr, htr]
  repeat' (first
    | ((with_reducible refine sl_i ?_ ?_); focus kernel_rfl)
    | ((with_reducible refine ro_i ?_ ?_); focus kernel_rfl)
    | ((with_reducible refine sl_e ?_); kernel_rfl)
    | ((with_reducible refine ro_e ?_); kernel_rfl)
    | ((first | (with_reducible refine gS_d ?_ ?_) | (with_reducible refine gS_dn ?_ ?_) | (with_reducible refine gS_i ?_ ?_)) <;> intro hg <;> (try simp -dsimp (maxSteps := 1000000) only [go_sem, List.forall_mem_nil, ↓reduceIte, Nat.reduceEqDiff, Nat.reduceLT, Nat.reduceLeDiff, Nat.reduceAdd, Nat.reduceMul, reduceCtorEq, Try.f4, hc, hml, h40, h44, hR, rTr, htr, *])))
  refine loop_i (ι := { k : Nat // k ≤ 4 }) (fun k => ⟨[(3, some (.c (.im (.int .i64 (n : Int))))), (8, some (.c (.view 109 1 0 4))), (55, some (.c (.view 109 1 0 4))), (56, some (.c (.im (.int .i64 4)))), (57, some (.c (.im (.int .i64 (k.1 : Int)))))],
    [(109, some (.arr 1 [[.lent 110 1 40], [.lent 111 1 40], [.lent 112 1 40], [.lent 113 1 40]])), (110, some (.arr 1 (tI (rowsZ r0)))), (111, some (.arr 1 (tI (rowsZ r1)))), (112, some (.arr 1 (tI (rowsZ r2)))), (113, some (.arr 1 (tI (rowsZ r3))))], 114⟩) (fun k => 4 - k.1) ⟨0, by simp⟩ ⟨[.unf 109 0 0, .unf 109 1 0, .unf 109 2 0, .unf 109 3 0], [109, 110, 111, 112, 113], by ((simp only [ne_eq, eq_self, subF, folds, wk1, subOk, sOk, hOk, nms, reF, rho, mapD, mapC, mapC1, NmD, NmC, NmC1, mapR, mapB, mapTt, NmR, NmB, NmT, MvRb, MvRn, MvRt, lk, ins, Root.get, Root.setT, List.map_cons, List.map_nil, List.nodup_cons, List.nodup_nil, List.not_mem_nil, List.mem_cons, not_false_eq_true, and_self, and_true, true_and, true_or, or_true, false_or, or_false, ↓reduceIte, Nat.reduceEqDiff, Nat.reduceLT, Nat.reduceLeDiff, reduceCtorEq, Option.isSome_some, List.forall_mem_cons, List.forall_mem_nil, implies_true, forall_const, Nat.le_refl, Nat.zero_le, false_implies, List.mem_singleton, MvB_im, MvB_nil, Mv_im, Option.some.injEq, D.c.injEq, C.im.injEq, I.int.injEq, List.getElem?_cons_zero, List.getElem?_cons_succ, List.set_cons_zero, List.set_cons_succ, List.length_cons, List.length_nil, Nat.zero_add, Option.map_some, forall_eq_or_imp, forall_eq, tI_len, rowsZ_len, l0, l1, l2, l3]) <;> (try (simp -dsimp only [ne_eq, eq_self, subF, folds, wk1, subOk, sOk, hOk, nms, reF, rho, mapD, mapC, mapC1, NmD, NmC, NmC1, mapR, mapB, mapTt, NmR, NmB, NmT, MvRb, MvRn, MvRt, lk, ins, Root.get, Root.setT, List.map_cons, List.map_nil, List.nodup_cons, List.nodup_nil, List.not_mem_nil, List.mem_cons, not_false_eq_true, and_self, and_true, true_and, true_or, or_true, false_or, or_false, ↓reduceIte, Nat.reduceEqDiff, Nat.reduceLT, Nat.reduceLeDiff, reduceCtorEq, Option.isSome_some, List.forall_mem_cons, List.forall_mem_nil, implies_true, forall_const, Nat.le_refl, Nat.zero_le, false_implies, List.mem_singleton, MvB_im, MvB_nil, Mv_im, Option.some.injEq, D.c.injEq, C.im.injEq, I.int.injEq, List.getElem?_cons_zero, List.getElem?_cons_succ, List.set_cons_zero, List.set_cons_succ, List.length_cons, List.length_nil, Nat.zero_add, Option.map_some, forall_eq_or_imp, forall_eq, tI_len, rowsZ_len, l0, l1, l2, l3]))) <;> simp [lk, MvB_im]⟩ (fun ⟨k, hk⟩ => ?_)
  have c0 : ((0 : Nat) : Int) = 0 := rfl
  have c1 : ((1 : Nat) : Int) = 1 := rfl
  have c2 : ((2 : Nat) : Int) = 2 := rfl
  have c3 : ((3 : Nat) : Int) = 3 := rfl
  have c40 : ((40 : Nat) : Int) = 40 := rfl
  have w1 : IntKind.i64.wrap 1 = 1 := rfl
  have w2 : IntKind.i64.wrap 2 = 2 := rfl
  have w3 : IntKind.i64.wrap 3 = 3 := rfl
  have w4 : IntKind.i64.wrap 4 = 4 := rfl
  clear hrun ha1 ha2 htu
  match k, hk with
  | 0, _ =>
    try simp -dsimp (maxSteps := 1000000) only [go_sem, List.forall_mem_nil, ↓reduceIte, Nat.reduceEqDiff, Nat.reduceLT, Nat.reduceLeDiff, Nat.reduceAdd, Nat.reduceMul, reduceCtorEq, Try.f4, c0, c1, c2, c3, c40, h44, w1, w2, w3, w4, Int.reduceLT, Int.reduceLE, Int.reduceToNat, Int.reduceAdd, Int.toNat_zero]
    repeat' (first
      | ((with_reducible refine sl_i ?_ ?_); focus kernel_rfl)
      | ((with_reducible refine ro_i ?_ ?_); focus kernel_rfl)
      | ((with_reducible refine sl_e ?_); kernel_rfl)
      | ((with_reducible refine ro_e ?_); kernel_rfl)
      | ((first | (with_reducible refine gS_d ?_ ?_) | (with_reducible refine gS_dn ?_ ?_) | (with_reducible refine gS_i ?_ ?_)) <;> intro hg <;> (try simp -dsimp (maxSteps := 1000000) only [go_sem, List.forall_mem_nil, ↓reduceIte, Nat.reduceEqDiff, Nat.reduceLT, Nat.reduceLeDiff, Nat.reduceAdd, Nat.reduceMul, reduceCtorEq, Try.f4, c0, c1, c2, c3, c40, h44, w1, w2, w3, w4, Int.reduceLT, Int.reduceLE, Int.reduceToNat, Int.reduceAdd, Int.toNat_zero, *])))
    exact ⟨⟨1, by omega⟩, by simp, [], [109, 110, 111, 112, 113], by ((simp only [ne_eq, eq_self, subF, folds, wk1, subOk, sOk, hOk, nms, reF, rho, mapD, mapC, mapC1, NmD, NmC, NmC1, mapR, mapB, mapTt, NmR, NmB, NmT, MvRb, MvRn, MvRt, lk, ins, Root.get, Root.setT, List.map_cons, List.map_nil, List.nodup_cons, List.nodup_nil, List.not_mem_nil, List.mem_cons, not_false_eq_true, and_self, and_true, true_and, true_or, or_true, false_or, or_false, ↓reduceIte, Nat.reduceEqDiff, Nat.reduceLT, Nat.reduceLeDiff, reduceCtorEq, Option.isSome_some, List.forall_mem_cons, List.forall_mem_nil, implies_true, forall_const, Nat.le_refl, Nat.zero_le, false_implies, List.mem_singleton, MvB_im, MvB_nil, Mv_im, Option.some.injEq, D.c.injEq, C.im.injEq, I.int.injEq, List.getElem?_cons_zero, List.getElem?_cons_succ, List.set_cons_zero, List.set_cons_succ, List.length_cons, List.length_nil, Nat.zero_add]) <;> (try (simp -dsimp only [ne_eq, eq_self, subF, folds, wk1, subOk, sOk, hOk, nms, reF, rho, mapD, mapC, mapC1, NmD, NmC, NmC1, mapR, mapB, mapTt, NmR, NmB, NmT, MvRb, MvRn, MvRt, lk, ins, Root.get, Root.setT, List.map_cons, List.map_nil, List.nodup_cons, List.nodup_nil, List.not_mem_nil, List.mem_cons, not_false_eq_true, and_self, and_true, true_and, true_or, or_true, false_or, or_false, ↓reduceIte, Nat.reduceEqDiff, Nat.reduceLT, Nat.reduceLeDiff, reduceCtorEq, Option.isSome_some, List.forall_mem_cons, List.forall_mem_nil, implies_true, forall_const, Nat.le_refl, Nat.zero_le, false_implies, List.mem_singleton, MvB_im, MvB_nil, Mv_im, Option.some.injEq, D.c.injEq, C.im.injEq, I.int.injEq, List.getElem?_cons_zero, List.getElem?_cons_succ, List.set_cons_zero, List.set_cons_succ, List.length_cons, List.length_nil, Nat.zero_add]))) <;> simp [lk, MvB_im]⟩
  | 1, _ =>
    try simp -dsimp (maxSteps := 1000000) only [go_sem, List.forall_mem_nil, ↓reduceIte, Nat.reduceEqDiff, Nat.reduceLT, Nat.reduceLeDiff, Nat.reduceAdd, Nat.reduceMul, reduceCtorEq, Try.f4, c0, c1, c2, c3, c40, h44, w1, w2, w3, w4, Int.reduceLT, Int.reduceLE, Int.reduceToNat, Int.reduceAdd, Int.toNat_zero]
    repeat' (first
      | ((with_reducible refine sl_i ?_ ?_); focus kernel_rfl)
      | ((with_reducible refine ro_i ?_ ?_); focus kernel_rfl)
      | ((with_reducible refine sl_e ?_); kernel_rfl)
      | ((with_reducible refine ro_e ?_); kernel_rfl)
      | ((first | (with_reducible refine gS_d ?_ ?_) | (with_reducible refine gS_dn ?_ ?_) | (with_reducible refine gS_i ?_ ?_)) <;> intro hg <;> (try simp -dsimp (maxSteps := 1000000) only [go_sem, List.forall_mem_nil, ↓reduceIte, Nat.reduceEqDiff, Nat.reduceLT, Nat.reduceLeDiff, Nat.reduceAdd, Nat.reduceMul, reduceCtorEq, Try.f4, c0, c1, c2, c3, c40, h44, w1, w2, w3, w4, Int.reduceLT, Int.reduceLE, Int.reduceToNat, Int.reduceAdd, Int.toNat_zero, *])))
    exact ⟨⟨2, by omega⟩, by simp, [], [109, 110, 111, 112, 113], by ((simp only [ne_eq, eq_self, subF, folds, wk1, subOk, sOk, hOk, nms, reF, rho, mapD, mapC, mapC1, NmD, NmC, NmC1, mapR, mapB, mapTt, NmR, NmB, NmT, MvRb, MvRn, MvRt, lk, ins, Root.get, Root.setT, List.map_cons, List.map_nil, List.nodup_cons, List.nodup_nil, List.not_mem_nil, List.mem_cons, not_false_eq_true, and_self, and_true, true_and, true_or, or_true, false_or, or_false, ↓reduceIte, Nat.reduceEqDiff, Nat.reduceLT, Nat.reduceLeDiff, reduceCtorEq, Option.isSome_some, List.forall_mem_cons, List.forall_mem_nil, implies_true, forall_const, Nat.le_refl, Nat.zero_le, false_implies, List.mem_singleton, MvB_im, MvB_nil, Mv_im, Option.some.injEq, D.c.injEq, C.im.injEq, I.int.injEq, List.getElem?_cons_zero, List.getElem?_cons_succ, List.set_cons_zero, List.set_cons_succ, List.length_cons, List.length_nil, Nat.zero_add]) <;> (try (simp -dsimp only [ne_eq, eq_self, subF, folds, wk1, subOk, sOk, hOk, nms, reF, rho, mapD, mapC, mapC1, NmD, NmC, NmC1, mapR, mapB, mapTt, NmR, NmB, NmT, MvRb, MvRn, MvRt, lk, ins, Root.get, Root.setT, List.map_cons, List.map_nil, List.nodup_cons, List.nodup_nil, List.not_mem_nil, List.mem_cons, not_false_eq_true, and_self, and_true, true_and, true_or, or_true, false_or, or_false, ↓reduceIte, Nat.reduceEqDiff, Nat.reduceLT, Nat.reduceLeDiff, reduceCtorEq, Option.isSome_some, List.forall_mem_cons, List.forall_mem_nil, implies_true, forall_const, Nat.le_refl, Nat.zero_le, false_implies, List.mem_singleton, MvB_im, MvB_nil, Mv_im, Option.some.injEq, D.c.injEq, C.im.injEq, I.int.injEq, List.getElem?_cons_zero, List.getElem?_cons_succ, List.set_cons_zero, List.set_cons_succ, List.length_cons, List.length_nil, Nat.zero_add]))) <;> simp [lk, MvB_im]⟩
  | 2, _ =>
    try simp -dsimp (maxSteps := 1000000) only [go_sem, List.forall_mem_nil, ↓reduceIte, Nat.reduceEqDiff, Nat.reduceLT, Nat.reduceLeDiff, Nat.reduceAdd, Nat.reduceMul, reduceCtorEq, Try.f4, c0, c1, c2, c3, c40, h44, w1, w2, w3, w4, Int.reduceLT, Int.reduceLE, Int.reduceToNat, Int.reduceAdd, Int.toNat_zero]
    repeat' (first
      | ((with_reducible refine sl_i ?_ ?_); focus kernel_rfl)
      | ((with_reducible refine ro_i ?_ ?_); focus kernel_rfl)
      | ((with_reducible refine sl_e ?_); kernel_rfl)
      | ((with_reducible refine ro_e ?_); kernel_rfl)
      | ((first | (with_reducible refine gS_d ?_ ?_) | (with_reducible refine gS_dn ?_ ?_) | (with_reducible refine gS_i ?_ ?_)) <;> intro hg <;> (try simp -dsimp (maxSteps := 1000000) only [go_sem, List.forall_mem_nil, ↓reduceIte, Nat.reduceEqDiff, Nat.reduceLT, Nat.reduceLeDiff, Nat.reduceAdd, Nat.reduceMul, reduceCtorEq, Try.f4, c0, c1, c2, c3, c40, h44, w1, w2, w3, w4, Int.reduceLT, Int.reduceLE, Int.reduceToNat, Int.reduceAdd, Int.toNat_zero, *])))
    exact ⟨⟨3, by omega⟩, by simp, [], [109, 110, 111, 112, 113], by ((simp only [ne_eq, eq_self, subF, folds, wk1, subOk, sOk, hOk, nms, reF, rho, mapD, mapC, mapC1, NmD, NmC, NmC1, mapR, mapB, mapTt, NmR, NmB, NmT, MvRb, MvRn, MvRt, lk, ins, Root.get, Root.setT, List.map_cons, List.map_nil, List.nodup_cons, List.nodup_nil, List.not_mem_nil, List.mem_cons, not_false_eq_true, and_self, and_true, true_and, true_or, or_true, false_or, or_false, ↓reduceIte, Nat.reduceEqDiff, Nat.reduceLT, Nat.reduceLeDiff, reduceCtorEq, Option.isSome_some, List.forall_mem_cons, List.forall_mem_nil, implies_true, forall_const, Nat.le_refl, Nat.zero_le, false_implies, List.mem_singleton, MvB_im, MvB_nil, Mv_im, Option.some.injEq, D.c.injEq, C.im.injEq, I.int.injEq, List.getElem?_cons_zero, List.getElem?_cons_succ, List.set_cons_zero, List.set_cons_succ, List.length_cons, List.length_nil, Nat.zero_add]) <;> (try (simp -dsimp only [ne_eq, eq_self, subF, folds, wk1, subOk, sOk, hOk, nms, reF, rho, mapD, mapC, mapC1, NmD, NmC, NmC1, mapR, mapB, mapTt, NmR, NmB, NmT, MvRb, MvRn, MvRt, lk, ins, Root.get, Root.setT, List.map_cons, List.map_nil, List.nodup_cons, List.nodup_nil, List.not_mem_nil, List.mem_cons, not_false_eq_true, and_self, and_true, true_and, true_or, or_true, false_or, or_false, ↓reduceIte, Nat.reduceEqDiff, Nat.reduceLT, Nat.reduceLeDiff, reduceCtorEq, Option.isSome_some, List.forall_mem_cons, List.forall_mem_nil, implies_true, forall_const, Nat.le_refl, Nat.zero_le, false_implies, List.mem_singleton, MvB_im, MvB_nil, Mv_im, Option.some.injEq, D.c.injEq, C.im.injEq, I.int.injEq, List.getElem?_cons_zero, List.getElem?_cons_succ, List.set_cons_zero, List.set_cons_succ, List.length_cons, List.length_nil, Nat.zero_add]))) <;> simp [lk, MvB_im]⟩
  | 3, _ =>
    try simp -dsimp (maxSteps := 1000000) only [go_sem, List.forall_mem_nil, ↓reduceIte, Nat.reduceEqDiff, Nat.reduceLT, Nat.reduceLeDiff, Nat.reduceAdd, Nat.reduceMul, reduceCtorEq, Try.f4, c0, c1, c2, c3, c40, h44, w1, w2, w3, w4, Int.reduceLT, Int.reduceLE, Int.reduceToNat, Int.reduceAdd, Int.toNat_zero]
    repeat' (first
      | ((with_reducible refine sl_i ?_ ?_); focus kernel_rfl)
      | ((with_reducible refine ro_i ?_ ?_); focus kernel_rfl)
      | ((with_reducible refine sl_e ?_); kernel_rfl)
      | ((with_reducible refine ro_e ?_); kernel_rfl)
      | ((first | (with_reducible refine gS_d ?_ ?_) | (with_reducible refine gS_dn ?_ ?_) | (with_reducible refine gS_i ?_ ?_)) <;> intro hg <;> (try simp -dsimp (maxSteps := 1000000) only [go_sem, List.forall_mem_nil, ↓reduceIte, Nat.reduceEqDiff, Nat.reduceLT, Nat.reduceLeDiff, Nat.reduceAdd, Nat.reduceMul, reduceCtorEq, Try.f4, c0, c1, c2, c3, c40, h44, w1, w2, w3, w4, Int.reduceLT, Int.reduceLE, Int.reduceToNat, Int.reduceAdd, Int.toNat_zero, *])))
    exact ⟨⟨4, by omega⟩, by simp, [], [109, 110, 111, 112, 113], by ((simp only [ne_eq, eq_self, subF, folds, wk1, subOk, sOk, hOk, nms, reF, rho, mapD, mapC, mapC1, NmD, NmC, NmC1, mapR, mapB, mapTt, NmR, NmB, NmT, MvRb, MvRn, MvRt, lk, ins, Root.get, Root.setT, List.map_cons, List.map_nil, List.nodup_cons, List.nodup_nil, List.not_mem_nil, List.mem_cons, not_false_eq_true, and_self, and_true, true_and, true_or, or_true, false_or, or_false, ↓reduceIte, Nat.reduceEqDiff, Nat.reduceLT, Nat.reduceLeDiff, reduceCtorEq, Option.isSome_some, List.forall_mem_cons, List.forall_mem_nil, implies_true, forall_const, Nat.le_refl, Nat.zero_le, false_implies, List.mem_singleton, MvB_im, MvB_nil, Mv_im, Option.some.injEq, D.c.injEq, C.im.injEq, I.int.injEq, List.getElem?_cons_zero, List.getElem?_cons_succ, List.set_cons_zero, List.set_cons_succ, List.length_cons, List.length_nil, Nat.zero_add]) <;> (try (simp -dsimp only [ne_eq, eq_self, subF, folds, wk1, subOk, sOk, hOk, nms, reF, rho, mapD, mapC, mapC1, NmD, NmC, NmC1, mapR, mapB, mapTt, NmR, NmB, NmT, MvRb, MvRn, MvRt, lk, ins, Root.get, Root.setT, List.map_cons, List.map_nil, List.nodup_cons, List.nodup_nil, List.not_mem_nil, List.mem_cons, not_false_eq_true, and_self, and_true, true_and, true_or, or_true, false_or, or_false, ↓reduceIte, Nat.reduceEqDiff, Nat.reduceLT, Nat.reduceLeDiff, reduceCtorEq, Option.isSome_some, List.forall_mem_cons, List.forall_mem_nil, implies_true, forall_const, Nat.le_refl, Nat.zero_le, false_implies, List.mem_singleton, MvB_im, MvB_nil, Mv_im, Option.some.injEq, D.c.injEq, C.im.injEq, I.int.injEq, List.getElem?_cons_zero, List.getElem?_cons_succ, List.set_cons_zero, List.set_cons_succ, List.length_cons, List.length_nil, Nat.zero_add]))) <;> simp [lk, MvB_im]⟩
  | 4, _ =>
    have hnn : (0 ≤ (n : Int)) = True := by simp
    have hn40 : ((n : Int) ≤ 40) = True := eq_true (by omega)
    have hs40 : IntKind.i64.wrap (40 - (n : Int)) = ((40 - n : Nat) : Int) := by rw [wrap_id (by omega) (by omega)]; omega
    have hk1 : ((n : Int) ≤ 9223372036854775807) = True := eq_true (by omega)
    have hk3 : (((8 : Nat) : Int) * (n : Int) ≤ 281474976710656) = True := eq_true (by omega)
    have f1 : (n ≤ 40) = True := eq_true (by omega)
    have f2 : (40 - n ≤ 40) = True := eq_true (by omega)
    have f3 : (n + (40 - n) ≤ 40) = True := eq_true (by omega)
    have f4 : (0 ≤ ((40 - n : Nat) : Int)) = True := eq_true (by omega)
    have f5 : (((40 - n : Nat) : Int) ≤ 40) = True := eq_true (by omega)
    have g1 : List.take n (List.replicate n ((0, 0) : Pt)) = List.replicate n (0, 0) := List.take_of_length_le (by simp)
    have g2 : (r1.drop n).take (40 - n) = r1.drop n := List.take_of_length_le (by simp [l1])
    have g3 : r3.take 40 = r3 := List.take_of_length_le (by omega)
    have g4 : r1.take 40 = r1 := List.take_of_length_le (by omega)
    have q1 : ct_equal.run [.c (.im (.sl 1 (rowsZ (r1.take n)))), .c (.im (.sl 1 (rowsZ (List.replicate n (0, 0)))))] [] = some (.one { val := .c (.im (.bool true)) }) := by
      rw [run_equal (by simp; omega) (by simp; omega)]; rw [show eqZ (r1.take n) (List.replicate n (0, 0)) = true from e1]
    have q2 : ct_equal.run [.c (.im (.sl 1 (rowsZ (r1.drop n)))), .c (.im (.sl 1 (rowsZ (r0.take (40 - n)))))] [] = some (.one { val := .c (.im (.bool true)) }) := by
      rw [run_equal (by simp; omega) (by simp; omega), e2]
    have q3 : ct_equal.run [.c (.im (.sl 1 (rowsZ r3))), .c (.im (.sl 1 (rowsZ r1)))] [] = some (.one { val := .c (.im (.bool true)) }) := by
      rw [run_equal (by omega) (by omega), e3]
    try simp -dsimp (maxSteps := 1000000) only [go_sem, List.forall_mem_nil, ↓reduceIte, Nat.reduceEqDiff, Nat.reduceLT, Nat.reduceLeDiff, Nat.reduceAdd, Nat.reduceMul, reduceCtorEq, Try.f4, sc_equal, f1, f2, f3, f4, f5, takeZ, dropZ, g1, g2, g3, g4, q1, q2, q3, l0, l1, l2, l3, tI_toI, tI_len, rowsZ_len, Nat.sub_zero, c0, c1, c2, c3, c40, h44, w1, w2, w3, w4, Int.reduceLT, Int.reduceLE, Int.reduceToNat, Int.reduceAdd, Int.toNat_zero, Int.toNat_natCast, hnn, hn40, hs40, hk1, hk3, rep_Z, List.length_replicate]
    repeat' (first
      | ((with_reducible refine sl_i ?_ ?_); focus kernel_rfl)
      | ((with_reducible refine ro_i ?_ ?_); focus kernel_rfl)
      | ((with_reducible refine sl_e ?_); kernel_rfl)
      | ((with_reducible refine ro_e ?_); kernel_rfl)
      | ((first | (with_reducible refine gS_d ?_ ?_) | (with_reducible refine gS_dn ?_ ?_) | (with_reducible refine gS_i ?_ ?_)) <;> intro hg <;> (try simp -dsimp (maxSteps := 1000000) only [go_sem, List.forall_mem_nil, ↓reduceIte, Nat.reduceEqDiff, Nat.reduceLT, Nat.reduceLeDiff, Nat.reduceAdd, Nat.reduceMul, reduceCtorEq, Try.f4, sc_equal, f1, f2, f3, f4, f5, takeZ, dropZ, g1, g2, g3, g4, q1, q2, q3, l0, l1, l2, l3, tI_toI, tI_len, rowsZ_len, Nat.sub_zero, c0, c1, c2, c3, c40, h44, w1, w2, w3, w4, Int.reduceLT, Int.reduceLE, Int.reduceToNat, Int.reduceAdd, Int.toNat_zero, Int.toNat_natCast, hnn, hn40, hs40, hk1, hk3, rep_Z, List.length_replicate, *])))
end Go.SX
