/-
  TraceRack: the walk.
  No condition.
-/
import Derived.Test.YtbhnlplbfhomcaaRkV
set_option linter.unusedVariables false
set_option linter.unusedSimpArgs false
namespace Go.SX
open Go Go.Proofs

theorem mv_trT {sc : Bool} (l : List Pt) : Mv sc (trT l) := by
  unfold trT
  split
  · exact .nil
  · exact mv_own (sc_rowsZ _)
theorem mvR_tr {sc : Bool} {sz : Nat} (rows : List (List Pt)) : MvR sc (.arr sz (trR rows)) := by
  intro r hr t ht
  simp only [trR, List.mem_map] at hr
  obtain ⟨l, _, rfl⟩ := hr
  simp only [List.mem_cons, List.not_mem_nil, or_false] at ht
  subst ht
  exact mv_trT l
theorem MvR_tr (rows : List (List Pt)) : MvR false (.arr 1 (trR rows)) = True := eq_true (mvR_tr _)
theorem trR_len (rows : List (List Pt)) : (trR rows).length = rows.length := by simp [trR]
theorem trR_at {rows : List (List Pt)} {k : Nat} {r : List Pt} (h : rows[k]? = some r) : (trR rows)[k]? = some [trT r] := by simp [trR, h]
theorem trR_set (rows : List (List Pt)) (k : Nat) (r : List Pt) : (trR rows).set k [trT r] = trR (rows.set k r) := by simp [trR, List.map_set]
theorem rep_N (ms : List Mod) : List.replicate ms.length [T.nil] = trR (ms.map fun _ => []) := by
  simp [trR, trT, List.map_const']
structure ATr where
  ms : List Mod
  cs : List Cbl
  n : Int
  ml : ms.length ≤ sm
  cl : cs.length ≤ sm
  ok : ∀ m ∈ ms, OkM m
def canTrF (ms : List Mod) (cs : List Cbl) (n : Int) : Bool := isRackF ms cs && (decide (0 ≤ n) && decide (n ≤ 500))
def rNoT : Res := { val := .tup [.c .nil, .c (.im (.bool false))] }
def rTr (n : Nat) (rows : List (List Pt)) : Res := { val := .tup [.c (.view 0 1 0 n), .c (.im (.bool true))], roots := [.arr 1 (trR rows)] }
def oTrace (ms : List Mod) (cs : List Cbl) (n : Int) : Outs := .any (Nat → Nat → Or) (fun O => if canTrF ms cs n = true then rTr ms.length (trS O cs ms n.toNat).2 else rNoT)
theorem okR_noT {sc : Bool} : OkR sc rNoT := by
  refine ⟨.tup _ (fun d hd => ?_), by simp [rNoT], by simp [rNoT]⟩
  simp only [rNoT, List.mem_cons, List.not_mem_nil, or_false] at hd
  rcases hd with rfl | rfl
  · exact .inl ⟨_, rfl, .nil⟩
  · exact .inl ⟨_, rfl, okC_sc rfl⟩
theorem okR_tr {sc : Bool} {n : Nat} {rows : List (List Pt)} : OkR sc (rTr n rows) := by
  refine ⟨.tup _ (fun d hd => ?_), fun r hr => ?_, by simp [rTr]⟩
  · simp only [rTr, List.mem_cons, List.not_mem_nil, or_false] at hd
    rcases hd with rfl | rfl
    · exact .inl ⟨_, rfl, .view _ _ _ _ (by simp [rTr])⟩
    · exact .inl ⟨_, rfl, okC_sc rfl⟩
  · simp only [rTr, List.mem_cons, List.not_mem_nil, or_false] at hr
    subst hr
    exact mvR_tr _
noncomputable def ct_TraceRack : Ct := fam true (fun x : ATr => ([.agg [.im (.sl 11 (rowsM x.ms)), .im (.sl 2 (rowsC x.cs))], .c (.im (.int .i64 x.n))], [])) (fun x => oTrace x.ms x.cs x.n)
theorem run_TraceRack {ms : List Mod} {cs : List Cbl} (h1 : ms.length ≤ sm) (h2 : cs.length ≤ sm) (h5 : ∀ m ∈ ms, OkM m) (n : Int) : ct_TraceRack.run [.agg [.im (.sl 11 (rowsM ms)), .im (.sl 2 (rowsC cs))], .c (.im (.int .i64 n))] [] = some (oTrace ms cs n) := by
  refine fam_run' (args := fun x : ATr => ([D.agg [.im (.sl 11 (rowsM x.ms)), .im (.sl 2 (rowsC x.cs))], .c (.im (.int .i64 x.n))], [])) ?_ ⟨ms, cs, n, h1, h2, h5⟩
  rintro ⟨a, b, c, _, _, _⟩ ⟨a', b', c', _, _, _⟩ h
  simp [rowsM_eq, rowsC_eq] at h ⊢
  simp [h]
set_option maxRecDepth 100000 in
set_option maxHeartbeats 8000000 in
theorem law_TraceRack : Law Try.prog 19 ct_TraceRack := by
  refine fam_lawF (Env_cons law_IsRack (Env_cons law_copyRack (Env_cons law_stepRack (Env_cons law_asItIs Env_nil)))) hmixA Try.func19 rfl rfl (fun ⟨ms, cs, n, h1, h2, h5⟩ => ⟨okA (fun o => by split; exact okR_tr; exact okR_noT), by simp [Try.f19], ?_⟩)
  simp only [oTrace]
  cases hr : isRackF ms cs with
  | false =>
    have hc : canTrF ms cs n = false := by simp [canTrF, hr]
    simp only [hc, Bool.false_eq_true, if_false, rNoT]
    try simp -dsimp (maxSteps := 1000000) only [go_sem, List.forall_mem_nil, ↓reduceIte, Nat.reduceEqDiff, Nat.reduceLT, Nat.reduceLeDiff, Nat.reduceAdd, Nat.reduceMul, reduceCtorEq, Try.f19, run_IsRack h1 h2 h5, hr]
    repeat' (first
      | ((with_reducible refine sl_i ?_ ?_); focus kernel_rfl)
      | ((with_reducible refine ro_i ?_ ?_); focus kernel_rfl)
      | ((with_reducible refine sl_e ?_); kernel_rfl)
      | ((with_reducible refine ro_e ?_); kernel_rfl)
      | ((first | (with_reducible refine gS_d ?_ ?_) | (with_reducible refine gS_dn ?_ ?_) | (with_reducible refine gS_i ?_ ?_)) <;> intro hg <;> (try simp -dsimp (maxSteps := 1000000) only [go_sem, List.forall_mem_nil, ↓reduceIte, Nat.reduceEqDiff, Nat.reduceLT, Nat.reduceLeDiff, Nat.reduceAdd, Nat.reduceMul, reduceCtorEq, Try.f19, run_IsRack h1 h2 h5, hr, *])))
    refine finF_i [] ?_
    simp -dsimp (maxSteps := 1000000) only [go_sem, List.forall_mem_nil, ↓reduceIte, Nat.reduceEqDiff, Nat.reduceLT, Nat.reduceLeDiff, Nat.reduceAdd, Nat.reduceMul, reduceCtorEq, hc, rNoT]
  | true =>
    by_cases hn0 : 0 ≤ n
    rotate_left
    · have hc : canTrF ms cs n = false := by simp [canTrF, hn0]
      have e1 : (n < 0) = True := eq_true (by omega)
      simp only [hc, Bool.false_eq_true, if_false, rNoT]
      try simp -dsimp (maxSteps := 1000000) only [go_sem, List.forall_mem_nil, ↓reduceIte, Nat.reduceEqDiff, Nat.reduceLT, Nat.reduceLeDiff, Nat.reduceAdd, Nat.reduceMul, reduceCtorEq, Try.f19, run_IsRack h1 h2 h5, hr, e1]
      repeat' (first
        | ((with_reducible refine sl_i ?_ ?_); focus kernel_rfl)
        | ((with_reducible refine ro_i ?_ ?_); focus kernel_rfl)
        | ((with_reducible refine sl_e ?_); kernel_rfl)
        | ((with_reducible refine ro_e ?_); kernel_rfl)
        | ((first | (with_reducible refine gS_d ?_ ?_) | (with_reducible refine gS_dn ?_ ?_) | (with_reducible refine gS_i ?_ ?_)) <;> intro hg <;> (try simp -dsimp (maxSteps := 1000000) only [go_sem, List.forall_mem_nil, ↓reduceIte, Nat.reduceEqDiff, Nat.reduceLT, Nat.reduceLeDiff, Nat.reduceAdd, Nat.reduceMul, reduceCtorEq, Try.f19, run_IsRack h1 h2 h5, hr, e1, *])))
      refine finF_i [] ?_
      simp -dsimp (maxSteps := 1000000) only [go_sem, List.forall_mem_nil, ↓reduceIte, Nat.reduceEqDiff, Nat.reduceLT, Nat.reduceLeDiff, Nat.reduceAdd, Nat.reduceMul, reduceCtorEq, hc, rNoT]
    by_cases hn1 : n ≤ 500
    rotate_left
    · have hc : canTrF ms cs n = false := by simp [canTrF, hn1]
      have e1 : (n < 0) = False := eq_false (by omega)
      have e2 : ((500 : Int) < n) = True := eq_true (by omega)
      simp only [hc, Bool.false_eq_true, if_false, rNoT]
      try simp -dsimp (maxSteps := 1000000) only [go_sem, List.forall_mem_nil, ↓reduceIte, Nat.reduceEqDiff, Nat.reduceLT, Nat.reduceLeDiff, Nat.reduceAdd, Nat.reduceMul, reduceCtorEq, Try.f19, run_IsRack h1 h2 h5, hr, e1, e2]
      repeat' (first
        | ((with_reducible refine sl_i ?_ ?_); focus kernel_rfl)
        | ((with_reducible refine ro_i ?_ ?_); focus kernel_rfl)
        | ((with_reducible refine sl_e ?_); kernel_rfl)
        | ((with_reducible refine ro_e ?_); kernel_rfl)
        | ((first | (with_reducible refine gS_d ?_ ?_) | (with_reducible refine gS_dn ?_ ?_) | (with_reducible refine gS_i ?_ ?_)) <;> intro hg <;> (try simp -dsimp (maxSteps := 1000000) only [go_sem, List.forall_mem_nil, ↓reduceIte, Nat.reduceEqDiff, Nat.reduceLT, Nat.reduceLeDiff, Nat.reduceAdd, Nat.reduceMul, reduceCtorEq, Try.f19, run_IsRack h1 h2 h5, hr, e1, e2, *])))
      refine finF_i [] ?_
      simp -dsimp (maxSteps := 1000000) only [go_sem, List.forall_mem_nil, ↓reduceIte, Nat.reduceEqDiff, Nat.reduceLT, Nat.reduceLeDiff, Nat.reduceAdd, Nat.reduceMul, reduceCtorEq, hc, rNoT]
    have hc : canTrF ms cs n = true := by simp [canTrF, hr, hn0, hn1]
    have e1 : (n < 0) = False := eq_false (by omega)
    have e2 : ((500 : Int) < n) = False := eq_false (by omega)
    obtain ⟨ml, cl, ok, cr⟩ := RackOk_of h5 hr
    have hk1 : (0 ≤ (ms.length : Int)) = True := eq_true (by omega)
    have hk2 : ((ms.length : Int) ≤ 9223372036854775807) = True := eq_true (by omega)
    have hk3 : (((24 : Nat) : Int) * (ms.length : Int) ≤ 281474976710656) = True := eq_true (by omega)
    simp only [hc, if_true, rTr]
    try simp -dsimp (maxSteps := 1000000) only [go_sem, List.forall_mem_nil, ↓reduceIte, Nat.reduceEqDiff, Nat.reduceLT, Nat.reduceLeDiff, Nat.reduceAdd, Nat.reduceMul, reduceCtorEq, Try.f19, run_IsRack h1 h2 h5, hr, e1, e2, run_copyRack h1 h2 h5, rRack, rowsM_len, hk1, hk2, hk3, rep_N, Int.toNat_natCast]
    repeat' (first
      | ((with_reducible refine sl_i ?_ ?_); focus kernel_rfl)
      | ((with_reducible refine ro_i ?_ ?_); focus kernel_rfl)
      | ((with_reducible refine sl_e ?_); kernel_rfl)
      | ((with_reducible refine ro_e ?_); kernel_rfl)
      | ((first | (with_reducible refine gS_d ?_ ?_) | (with_reducible refine gS_dn ?_ ?_) | (with_reducible refine gS_i ?_ ?_)) <;> intro hg <;> (try simp -dsimp (maxSteps := 1000000) only [go_sem, List.forall_mem_nil, ↓reduceIte, Nat.reduceEqDiff, Nat.reduceLT, Nat.reduceLeDiff, Nat.reduceAdd, Nat.reduceMul, reduceCtorEq, Try.f19, run_IsRack h1 h2 h5, hr, e1, e2, run_copyRack h1 h2 h5, rRack, rowsM_len, hk1, hk2, hk3, rep_N, Int.toNat_natCast, *])))
    obtain ⟨N, rfl⟩ := Int.eq_ofNat_of_zero_le hn0
    have hN : N ≤ sm := by have : sm = 16777216 := rfl; omega
    have hN5 : N ≤ 500 := by omega
    have h1' : ms.length ≤ sm := h1
    simp only [Int.toNat_natCast] at hc ⊢
    clear hr hn0 hn1 e1 e2
    refine loop_i (ι := { x : Nat × (Nat → Nat → Or) // x.1 ≤ N }) (fun x => ⟨[(6, some (.c (.ptr 49 0 0 0))), (7, some (.c (.view 41 1 0 ms.length))), (27, some (.c (.im (.int .i64 (N : Int))))), (28, some (.c (.im (.int .i64 (x.1.1 : Int)))))],
      [(41, some (.arr 1 (trR (trS x.1.2 cs ms x.1.1).2))), (49, some (.box [.t (.own 11 (tM (trS x.1.2 cs ms x.1.1).1)), .t (.own 2 (tI (rowsC cs)))]))], 50⟩) (fun x => N - x.1.1) ⟨(0, fun _ _ => ((0, 0), (0, 0))), by simp⟩ ⟨[.fold 49 0 0, .fold 49 0 1], [41, 49], by ((simp only [ne_eq, eq_self, subF, folds, wk1, subOk, sOk, hOk, nms, reF, rho, mapD, mapC, mapC1, NmD, NmC, NmC1, mapR, mapB, mapTt, NmR, NmB, NmT, MvRb, MvRn, MvRt, lk, ins, Root.get, Root.setT, List.map_cons, List.map_nil, List.nodup_cons, List.nodup_nil, List.not_mem_nil, List.mem_cons, not_false_eq_true, and_self, and_true, true_and, true_or, or_true, false_or, or_false, ↓reduceIte, Nat.reduceEqDiff, Nat.reduceLT, Nat.reduceLeDiff, reduceCtorEq, Option.isSome_some, List.forall_mem_cons, List.forall_mem_nil, implies_true, forall_const, Nat.le_refl, Nat.zero_le, false_implies, List.mem_singleton, MvB_im, MvB_nil, Mv_im, Option.some.injEq, D.c.injEq, C.im.injEq, I.int.injEq, List.getElem?_cons_zero, List.getElem?_cons_succ, List.set_cons_zero, List.set_cons_succ, List.length_cons, List.length_nil, Nat.zero_add, Option.map_some, forall_eq_or_imp, forall_eq, tM_len, tI_len, rowsC_len, trS, MvR_tr, MvB_M, MvB_C]) <;> (try (simp -dsimp only [ne_eq, eq_self, subF, folds, wk1, subOk, sOk, hOk, nms, reF, rho, mapD, mapC, mapC1, NmD, NmC, NmC1, mapR, mapB, mapTt, NmR, NmB, NmT, MvRb, MvRn, MvRt, lk, ins, Root.get, Root.setT, List.map_cons, List.map_nil, List.nodup_cons, List.nodup_nil, List.not_mem_nil, List.mem_cons, not_false_eq_true, and_self, and_true, true_and, true_or, or_true, false_or, or_false, ↓reduceIte, Nat.reduceEqDiff, Nat.reduceLT, Nat.reduceLeDiff, reduceCtorEq, Option.isSome_some, List.forall_mem_cons, List.forall_mem_nil, implies_true, forall_const, Nat.le_refl, Nat.zero_le, false_implies, List.mem_singleton, MvB_im, MvB_nil, Mv_im, Option.some.injEq, D.c.injEq, C.im.injEq, I.int.injEq, List.getElem?_cons_zero, List.getElem?_cons_succ, List.set_cons_zero, List.set_cons_succ, List.length_cons, List.length_nil, Nat.zero_add, Option.map_some, forall_eq_or_imp, forall_eq, tM_len, tI_len, rowsC_len, trS, MvR_tr, MvB_M, MvB_C]))) <;> simp [lk, MvB_im, MvB_M, MvB_C]⟩ (fun ⟨⟨k, O⟩, hk⟩ => ?_)
    have hok := trS_ok (O := O) (cs := cs) ok k
    have hnx := fun o => trS_next (O := O) (cs := cs) (ms := ms) (k := k) o
    have hfin : k = N → ∃ O', trS O' cs ms N = trS O cs ms k := fun e => by subst e; exact ⟨O, rfl⟩
    simp only
    generalize hs : trS O cs ms k = s at *
    obtain ⟨M, rows⟩ := s
    simp only at hok hnx hfin ⊢
    obtain ⟨hM, ho, hokM, hrk⟩ := hok
    by_cases hlt : k < N
    rotate_left
    · have hI : ((k : Int) < (N : Int)) = False := eq_false (by omega)
      obtain ⟨O', hO⟩ := hfin (by omega)
      try simp -dsimp (maxSteps := 1000000) only [go_sem, List.forall_mem_nil, ↓reduceIte, Nat.reduceEqDiff, Nat.reduceLT, Nat.reduceLeDiff, Nat.reduceAdd, Nat.reduceMul, reduceCtorEq, Try.f19, hI]
      repeat' (first
        | ((with_reducible refine sl_i ?_ ?_); focus kernel_rfl)
        | ((with_reducible refine ro_i ?_ ?_); focus kernel_rfl)
        | ((with_reducible refine sl_e ?_); kernel_rfl)
        | ((with_reducible refine ro_e ?_); kernel_rfl)
        | ((first | (with_reducible refine gS_d ?_ ?_) | (with_reducible refine gS_dn ?_ ?_) | (with_reducible refine gS_i ?_ ?_)) <;> intro hg <;> (try simp -dsimp (maxSteps := 1000000) only [go_sem, List.forall_mem_nil, ↓reduceIte, Nat.reduceEqDiff, Nat.reduceLT, Nat.reduceLeDiff, Nat.reduceAdd, Nat.reduceMul, reduceCtorEq, Try.f19, hI, *])))
      refine finF_i [] ?_
      simp -dsimp (maxSteps := 1000000) only [go_sem, List.forall_mem_nil, ↓reduceIte, Nat.reduceEqDiff, Nat.reduceLT, Nat.reduceLeDiff, Nat.reduceAdd, Nat.reduceMul, reduceCtorEq, hc, if_true, rTr]
      refine ⟨O', ?_⟩
      rw [hO]
      refine ⟨[41], ?_, ?_, ?_, rfl⟩ <;> simp [rtOk]
    have hI : ((k : Int) < (N : Int)) = True := by simp; omega
    have hwr := lt_sm hN hlt
    have hrun := run_stepRack (ms := M) (cs := cs) (by omega) (by omega) hokM (fun c hc => by rw [hM]; exact ⟨(cr c hc).1, (cr c hc).2.1⟩) (-1) 0 0
    simp only [hsS] at hrun
    try simp -dsimp (maxSteps := 1000000) only [go_sem, List.forall_mem_nil, ↓reduceIte, Nat.reduceEqDiff, Nat.reduceLT, Nat.reduceLeDiff, Nat.reduceAdd, Nat.reduceMul, reduceCtorEq, Try.f19, hI, hrun, oRk, hsS, ne_orN, hwr, hM, MvB_M, MvB_C]
    repeat' (first
      | ((with_reducible refine sl_i ?_ ?_); focus kernel_rfl)
      | ((with_reducible refine ro_i ?_ ?_); focus kernel_rfl)
      | ((with_reducible refine sl_e ?_); kernel_rfl)
      | ((with_reducible refine ro_e ?_); kernel_rfl)
      | ((first | (with_reducible refine gS_d ?_ ?_) | (with_reducible refine gS_dn ?_ ?_) | (with_reducible refine gS_i ?_ ?_)) <;> intro hg <;> (try simp -dsimp (maxSteps := 1000000) only [go_sem, List.forall_mem_nil, ↓reduceIte, Nat.reduceEqDiff, Nat.reduceLT, Nat.reduceLeDiff, Nat.reduceAdd, Nat.reduceMul, reduceCtorEq, Try.f19, hI, hrun, oRk, hsS, ne_orN, hwr, hM, MvB_M, MvB_C, *])))
    intro o1
    have hs2 := hnx o1
    have hzl : (stepRackF o1 cs (-1) (0, 0) M).2.length = ms.length := by rw [stepRackF_len.2, hM]
    clear hnx hfin hs hrun
    generalize stepRackF o1 cs (-1) (0, 0) M = r at *
    obtain ⟨M2, zs⟩ := r
    simp only at hs2 hzl
    have hrz : rows.length = zs.length := by omega
    refine loop_i (ι := { j : Nat // j ≤ ms.length }) (fun j => ⟨[(6, some (.c (.ptr 49 0 0 0))), (7, some (.c (.view 41 1 0 ms.length))), (27, some (.c (.im (.int .i64 (N : Int))))), (28, some (.c (.im (.int .i64 (k : Int))))), (30, some (.c (.view 50 1 0 ms.length))), (31, some (.c (.im (.int .i64 (ms.length : Int))))), (32, some (.c (.im (.int .i64 (j.1 : Int)))))],
      [(41, some (.arr 1 (trR (zipK rows zs j.1)))), (49, some (.box [.t (.own 11 (tM M2)), .t (.own 2 (tI (rowsC cs)))])), (50, some (.arr 1 (tI (rowsZ zs))))], 51⟩) (fun j => ms.length - j.1) ⟨0, by simp⟩ ⟨[], [41, 49, 50], by ((simp only [ne_eq, eq_self, subF, folds, wk1, subOk, sOk, hOk, nms, reF, rho, mapD, mapC, mapC1, NmD, NmC, NmC1, mapR, mapB, mapTt, NmR, NmB, NmT, MvRb, MvRn, MvRt, lk, ins, Root.get, Root.setT, List.map_cons, List.map_nil, List.nodup_cons, List.nodup_nil, List.not_mem_nil, List.mem_cons, not_false_eq_true, and_self, and_true, true_and, true_or, or_true, false_or, or_false, ↓reduceIte, Nat.reduceEqDiff, Nat.reduceLT, Nat.reduceLeDiff, reduceCtorEq, Option.isSome_some, List.forall_mem_cons, List.forall_mem_nil, implies_true, forall_const, Nat.le_refl, Nat.zero_le, false_implies, List.mem_singleton, MvB_im, MvB_nil, Mv_im, Option.some.injEq, D.c.injEq, C.im.injEq, I.int.injEq, List.getElem?_cons_zero, List.getElem?_cons_succ, List.set_cons_zero, List.set_cons_succ, List.length_cons, List.length_nil, Nat.zero_add, zipK_0, MvRt, MvR_tr, MvB_M, MvB_C, forall_eq_or_imp, forall_eq]) <;> (try (simp -dsimp only [ne_eq, eq_self, subF, folds, wk1, subOk, sOk, hOk, nms, reF, rho, mapD, mapC, mapC1, NmD, NmC, NmC1, mapR, mapB, mapTt, NmR, NmB, NmT, MvRb, MvRn, MvRt, lk, ins, Root.get, Root.setT, List.map_cons, List.map_nil, List.nodup_cons, List.nodup_nil, List.not_mem_nil, List.mem_cons, not_false_eq_true, and_self, and_true, true_and, true_or, or_true, false_or, or_false, ↓reduceIte, Nat.reduceEqDiff, Nat.reduceLT, Nat.reduceLeDiff, reduceCtorEq, Option.isSome_some, List.forall_mem_cons, List.forall_mem_nil, implies_true, forall_const, Nat.le_refl, Nat.zero_le, false_implies, List.mem_singleton, MvB_im, MvB_nil, Mv_im, Option.some.injEq, D.c.injEq, C.im.injEq, I.int.injEq, List.getElem?_cons_zero, List.getElem?_cons_succ, List.set_cons_zero, List.set_cons_succ, List.length_cons, List.length_nil, Nat.zero_add, zipK_0, MvRt, MvR_tr, MvB_M, MvB_C, forall_eq_or_imp, forall_eq]))) <;> simp [lk, MvB_im, MvB_M, MvB_C]⟩ (fun ⟨j, hj⟩ => ?_)
    by_cases hjl : j < ms.length
    rotate_left
    · have hI2 : ((j : Int) < (ms.length : Int)) = False := eq_false (by omega)
      have hje : j = zs.length := by omega
      subst hje
      have hzn := zipK_n hrz
      try simp -dsimp (maxSteps := 1000000) only [go_sem, List.forall_mem_nil, ↓reduceIte, Nat.reduceEqDiff, Nat.reduceLT, Nat.reduceLeDiff, Nat.reduceAdd, Nat.reduceMul, reduceCtorEq, Try.f19, hI2, hzn, hwr]
      repeat' (first
        | ((with_reducible refine sl_i ?_ ?_); focus kernel_rfl)
        | ((with_reducible refine ro_i ?_ ?_); focus kernel_rfl)
        | ((with_reducible refine sl_e ?_); kernel_rfl)
        | ((with_reducible refine ro_e ?_); kernel_rfl)
        | ((first | (with_reducible refine gS_d ?_ ?_) | (with_reducible refine gS_dn ?_ ?_) | (with_reducible refine gS_i ?_ ?_)) <;> intro hg <;> (try simp -dsimp (maxSteps := 1000000) only [go_sem, List.forall_mem_nil, ↓reduceIte, Nat.reduceEqDiff, Nat.reduceLT, Nat.reduceLeDiff, Nat.reduceAdd, Nat.reduceMul, reduceCtorEq, Try.f19, hI2, hzn, hwr, *])))
      refine ⟨⟨(k + 1, fun i => if i = k then o1 else O i), by simp only []; omega⟩, by simp only []; omega, [], [41, 49], ?_⟩
      simp only [hs2]
      ((simp only [ne_eq, eq_self, subF, folds, wk1, subOk, sOk, hOk, nms, reF, rho, mapD, mapC, mapC1, NmD, NmC, NmC1, mapR, mapB, mapTt, NmR, NmB, NmT, MvRb, MvRn, MvRt, lk, ins, Root.get, Root.setT, List.map_cons, List.map_nil, List.nodup_cons, List.nodup_nil, List.not_mem_nil, List.mem_cons, not_false_eq_true, and_self, and_true, true_and, true_or, or_true, false_or, or_false, ↓reduceIte, Nat.reduceEqDiff, Nat.reduceLT, Nat.reduceLeDiff, reduceCtorEq, Option.isSome_some, List.forall_mem_cons, List.forall_mem_nil, implies_true, forall_const, Nat.le_refl, Nat.zero_le, false_implies, List.mem_singleton, MvB_im, MvB_nil, Mv_im, Option.some.injEq, D.c.injEq, C.im.injEq, I.int.injEq, List.getElem?_cons_zero, List.getElem?_cons_succ, List.set_cons_zero, List.set_cons_succ, List.length_cons, List.length_nil, Nat.zero_add, MvR_tr, MvB_M, MvB_C, forall_eq_or_imp, forall_eq]) <;> (try (simp -dsimp only [ne_eq, eq_self, subF, folds, wk1, subOk, sOk, hOk, nms, reF, rho, mapD, mapC, mapC1, NmD, NmC, NmC1, mapR, mapB, mapTt, NmR, NmB, NmT, MvRb, MvRn, MvRt, lk, ins, Root.get, Root.setT, List.map_cons, List.map_nil, List.nodup_cons, List.nodup_nil, List.not_mem_nil, List.mem_cons, not_false_eq_true, and_self, and_true, true_and, true_or, or_true, false_or, or_false, ↓reduceIte, Nat.reduceEqDiff, Nat.reduceLT, Nat.reduceLeDiff, reduceCtorEq, Option.isSome_some, List.forall_mem_cons, List.forall_mem_nil, implies_true, forall_const, Nat.le_refl, Nat.zero_le, false_implies, List.mem_singleton, MvB_im, MvB_nil, Mv_im, Option.some.injEq, D.c.injEq, C.im.injEq, I.int.injEq, List.getElem?_cons_zero, List.getElem?_cons_succ, List.set_cons_zero, List.set_cons_succ, List.length_cons, List.length_nil, Nat.zero_add, MvR_tr, MvB_M, MvB_C, forall_eq_or_imp, forall_eq])))
      all_goals simp [lk, MvB_im, MvB_M, MvB_C]
    obtain ⟨r, hr⟩ : ∃ r, rows[j]? = some r := ⟨_, List.getElem?_eq_getElem (by omega)⟩
    obtain ⟨⟨z1, z2⟩, hz⟩ : ∃ z, zs[j]? = some z := ⟨_, List.getElem?_eq_getElem (by omega)⟩
    have hrl := hrk r (List.mem_of_getElem? hr)
    have hzr := tIZ_at hz
    have hrow := trR_at (zipK_at hrz hr)
    have hset := trR_set (zipK rows zs j) j (r ++ [(z1, z2)])
    rw [zipK_set hrz hr hz] at hset
    have hgs : ∀ X, ((trR (zipK rows zs j)).set j X)[j]? = some X := fun X => List.getElem?_set_self (by rw [trR_len, zipK_len hrz]; omega)
    have hI2 : ((j : Int) < (ms.length : Int)) = True := by simp; omega
    have h0 : (0 ≤ (j : Int)) = True := by simp
    have hwj := lt_sm h1' hjl
    have hby : ((r ++ [(z1, z2)]).length * 8 ≤ 140737488355328) = True := bytes_sm (by simp; have : sm = 16777216 := rfl; omega) (by decide)
    simp only at hzr
    by_cases hrn : r = []
    · subst hrn
      simp only [trT, if_true, List.nil_append, List.cons_ne_nil, if_false, reduceCtorEq] at hrow hset
      simp only [show tI (rowsZ [(z1, z2)]) = [[T.im (.cpx .f32 z1 z2)]] from rfl] at hset
      try simp -dsimp (maxSteps := 1000000) only [go_sem, List.forall_mem_nil, ↓reduceIte, Nat.reduceEqDiff, Nat.reduceLT, Nat.reduceLeDiff, Nat.reduceAdd, Nat.reduceMul, reduceCtorEq, Try.f19, hI2, h0, hzr, hrow, hgs, hwj, List.set_set, appendH, srcRows, List.take_succ_cons, List.take_zero, List.all_cons, List.all_nil, okT, Bool.and_true, Int.toNat_natCast]
      repeat' (first
        | ((with_reducible refine sl_i ?_ ?_); focus kernel_rfl)
        | ((with_reducible refine ro_i ?_ ?_); focus kernel_rfl)
        | ((with_reducible refine sl_e ?_); kernel_rfl)
        | ((with_reducible refine ro_e ?_); kernel_rfl)
        | ((first | (with_reducible refine gS_d ?_ ?_) | (with_reducible refine gS_dn ?_ ?_) | (with_reducible refine gS_i ?_ ?_)) <;> intro hg <;> (try simp -dsimp (maxSteps := 1000000) only [go_sem, List.forall_mem_nil, ↓reduceIte, Nat.reduceEqDiff, Nat.reduceLT, Nat.reduceLeDiff, Nat.reduceAdd, Nat.reduceMul, reduceCtorEq, Try.f19, hI2, h0, hzr, hrow, hgs, hwj, List.set_set, appendH, srcRows, List.take_succ_cons, List.take_zero, List.all_cons, List.all_nil, okT, Bool.and_true, Int.toNat_natCast, *])))
      refine ⟨⟨j + 1, by omega⟩, by simp only []; omega, [.fold 41 j 0], [41, 49, 50], ?_⟩
      ((simp only [ne_eq, eq_self, subF, folds, wk1, subOk, sOk, hOk, nms, reF, rho, mapD, mapC, mapC1, NmD, NmC, NmC1, mapR, mapB, mapTt, NmR, NmB, NmT, MvRb, MvRn, MvRt, lk, ins, Root.get, Root.setT, List.map_cons, List.map_nil, List.nodup_cons, List.nodup_nil, List.not_mem_nil, List.mem_cons, not_false_eq_true, and_self, and_true, true_and, true_or, or_true, false_or, or_false, ↓reduceIte, Nat.reduceEqDiff, Nat.reduceLT, Nat.reduceLeDiff, reduceCtorEq, Option.isSome_some, List.forall_mem_cons, List.forall_mem_nil, implies_true, forall_const, Nat.le_refl, Nat.zero_le, false_implies, List.mem_singleton, MvB_im, MvB_nil, Mv_im, Option.some.injEq, D.c.injEq, C.im.injEq, I.int.injEq, List.getElem?_cons_zero, List.getElem?_cons_succ, List.set_cons_zero, List.set_cons_succ, List.length_cons, List.length_nil, Nat.zero_add, Option.map_some, hgs, hset, List.set_set, tI_len, rowsZ_len, MvRt, MvR_tr, MvB_M, MvB_C, forall_eq_or_imp, forall_eq]) <;> (try (simp -dsimp only [ne_eq, eq_self, subF, folds, wk1, subOk, sOk, hOk, nms, reF, rho, mapD, mapC, mapC1, NmD, NmC, NmC1, mapR, mapB, mapTt, NmR, NmB, NmT, MvRb, MvRn, MvRt, lk, ins, Root.get, Root.setT, List.map_cons, List.map_nil, List.nodup_cons, List.nodup_nil, List.not_mem_nil, List.mem_cons, not_false_eq_true, and_self, and_true, true_and, true_or, or_true, false_or, or_false, ↓reduceIte, Nat.reduceEqDiff, Nat.reduceLT, Nat.reduceLeDiff, reduceCtorEq, Option.isSome_some, List.forall_mem_cons, List.forall_mem_nil, implies_true, forall_const, Nat.le_refl, Nat.zero_le, false_implies, List.mem_singleton, MvB_im, MvB_nil, Mv_im, Option.some.injEq, D.c.injEq, C.im.injEq, I.int.injEq, List.getElem?_cons_zero, List.getElem?_cons_succ, List.set_cons_zero, List.set_cons_succ, List.length_cons, List.length_nil, Nat.zero_add, Option.map_some, hgs, hset, List.set_set, tI_len, rowsZ_len, MvRt, MvR_tr, MvB_M, MvB_C, forall_eq_or_imp, forall_eq])))
      all_goals simp [lk, MvB_im, MvB_M, MvB_C]
    · simp only [trT, hrn, if_false, List.append_eq_nil_iff, List.cons_ne_nil, and_false, reduceCtorEq] at hrow hset
      try simp -dsimp (maxSteps := 1000000) only [go_sem, List.forall_mem_nil, ↓reduceIte, Nat.reduceEqDiff, Nat.reduceLT, Nat.reduceLeDiff, Nat.reduceAdd, Nat.reduceMul, reduceCtorEq, Try.f19, hI2, h0, hzr, hrow, hgs, hwj, hby, List.set_set, tIZ_app, tI_len, rowsZ_len, appendH, srcRows, List.take_succ_cons, List.take_zero, List.all_cons, List.all_nil, okT, Bool.and_true, Int.toNat_natCast]
      repeat' (first
        | ((with_reducible refine sl_i ?_ ?_); focus kernel_rfl)
        | ((with_reducible refine ro_i ?_ ?_); focus kernel_rfl)
        | ((with_reducible refine sl_e ?_); kernel_rfl)
        | ((with_reducible refine ro_e ?_); kernel_rfl)
        | ((first | (with_reducible refine gS_d ?_ ?_) | (with_reducible refine gS_dn ?_ ?_) | (with_reducible refine gS_i ?_ ?_)) <;> intro hg <;> (try simp -dsimp (maxSteps := 1000000) only [go_sem, List.forall_mem_nil, ↓reduceIte, Nat.reduceEqDiff, Nat.reduceLT, Nat.reduceLeDiff, Nat.reduceAdd, Nat.reduceMul, reduceCtorEq, Try.f19, hI2, h0, hzr, hrow, hgs, hwj, hby, List.set_set, tIZ_app, tI_len, rowsZ_len, appendH, srcRows, List.take_succ_cons, List.take_zero, List.all_cons, List.all_nil, okT, Bool.and_true, Int.toNat_natCast, *])))
      refine ⟨⟨j + 1, by omega⟩, by simp only []; omega, [.fold 41 j 0], [41, 49, 50], ?_⟩
      ((simp only [ne_eq, eq_self, subF, folds, wk1, subOk, sOk, hOk, nms, reF, rho, mapD, mapC, mapC1, NmD, NmC, NmC1, mapR, mapB, mapTt, NmR, NmB, NmT, MvRb, MvRn, MvRt, lk, ins, Root.get, Root.setT, List.map_cons, List.map_nil, List.nodup_cons, List.nodup_nil, List.not_mem_nil, List.mem_cons, not_false_eq_true, and_self, and_true, true_and, true_or, or_true, false_or, or_false, ↓reduceIte, Nat.reduceEqDiff, Nat.reduceLT, Nat.reduceLeDiff, reduceCtorEq, Option.isSome_some, List.forall_mem_cons, List.forall_mem_nil, implies_true, forall_const, Nat.le_refl, Nat.zero_le, false_implies, List.mem_singleton, MvB_im, MvB_nil, Mv_im, Option.some.injEq, D.c.injEq, C.im.injEq, I.int.injEq, List.getElem?_cons_zero, List.getElem?_cons_succ, List.set_cons_zero, List.set_cons_succ, List.length_cons, List.length_nil, Nat.zero_add, Option.map_some, hgs, hset, List.set_set, tI_len, rowsZ_len, MvRt, MvR_tr, MvB_M, MvB_C, forall_eq_or_imp, forall_eq]) <;> (try (simp -dsimp only [ne_eq, eq_self, subF, folds, wk1, subOk, sOk, hOk, nms, reF, rho, mapD, mapC, mapC1, NmD, NmC, NmC1, mapR, mapB, mapTt, NmR, NmB, NmT, MvRb, MvRn, MvRt, lk, ins, Root.get, Root.setT, List.map_cons, List.map_nil, List.nodup_cons, List.nodup_nil, List.not_mem_nil, List.mem_cons, not_false_eq_true, and_self, and_true, true_and, true_or, or_true, false_or, or_false, ↓reduceIte, Nat.reduceEqDiff, Nat.reduceLT, Nat.reduceLeDiff, reduceCtorEq, Option.isSome_some, List.forall_mem_cons, List.forall_mem_nil, implies_true, forall_const, Nat.le_refl, Nat.zero_le, false_implies, List.mem_singleton, MvB_im, MvB_nil, Mv_im, Option.some.injEq, D.c.injEq, C.im.injEq, I.int.injEq, List.getElem?_cons_zero, List.getElem?_cons_succ, List.set_cons_zero, List.set_cons_succ, List.length_cons, List.length_nil, Nat.zero_add, Option.map_some, hgs, hset, List.set_set, tI_len, rowsZ_len, MvRt, MvR_tr, MvB_M, MvB_C, forall_eq_or_imp, forall_eq])))
      all_goals simp [lk, MvB_im, MvB_M, MvB_C]
end Go.SX
