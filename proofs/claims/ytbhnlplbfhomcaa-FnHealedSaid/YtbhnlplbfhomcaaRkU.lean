/-
  RunRack.
  No condition.
-/
import Derived.Test.YtbhnlplbfhomcaaRkT
set_option linter.unusedVariables false
set_option linter.unusedSimpArgs false
namespace Go.SX
open Go Go.Proofs

/-- The run: rounds' oracle O. -/
def runS (O : Nat → Nat → Or) (cs : List Cbl) (a b : Int) (xs : List Pt) (ms : List Mod) : Nat → List Mod × List Pt
  | 0 => (ms, [])
  | k + 1 => ((stepRackF (O k) cs a (xs.getD k (0, 0)) (runS O cs a b xs ms k).1).1, (runS O cs a b xs ms k).2 ++ [(stepRackF (O k) cs a (xs.getD k (0, 0)) (runS O cs a b xs ms k).1).2.getD b.toNat (0, 0)])
theorem runS_congr {O O' : Nat → Nat → Or} {cs : List Cbl} {a b : Int} {xs : List Pt} {ms : List Mod} : ∀ k, (∀ i, i < k → O i = O' i) → runS O cs a b xs ms k = runS O' cs a b xs ms k
  | 0, _ => rfl
  | k + 1, h => by simp only [runS, runS_congr k (fun i hi => h i (by omega)), h k (by omega)]
theorem stepRackF_len {o : Nat → Or} {cs : List Cbl} {inn : Int} {z : Pt} {ms : List Mod} : (stepRackF o cs inn z ms).1.length = ms.length ∧ (stepRackF o cs inn z ms).2.length = ms.length := by
  have h := sweep_len (o := o) (cs := cs) (inn := inn) (z := z) (ordL ms cs) 0 (ms, outs0 ms)
  exact ⟨h.1, h.2.trans (by simp [outs0])⟩
theorem stepRackF_ok {o : Nat → Or} {cs : List Cbl} {inn : Int} {z : Pt} {ms : List Mod} (h : ∀ m ∈ ms, OkS m) : ∀ m ∈ (stepRackF o cs inn z ms).1, OkS m :=
  sweep_ok (ordL ms cs) 0 (ms, outs0 ms) (fun i hi => ordL_lt i hi) h
theorem runS_ok {O : Nat → Nat → Or} {cs : List Cbl} {a b : Int} {xs : List Pt} {ms : List Mod} (h : ∀ m ∈ ms, OkS m) : ∀ k, (runS O cs a b xs ms k).1.length = ms.length ∧ (runS O cs a b xs ms k).2.length = k ∧ ∀ m ∈ (runS O cs a b xs ms k).1, OkS m
  | 0 => ⟨rfl, rfl, h⟩
  | k + 1 => by
    obtain ⟨h1, h2, h3⟩ := runS_ok (O := O) (cs := cs) (a := a) (b := b) (xs := xs) h k
    refine ⟨?_, ?_, ?_⟩
    · simp only [runS]; rw [stepRackF_len.1]; exact h1
    · simp only [runS, List.length_append, h2, List.length_cons, List.length_nil, Nat.zero_add]
    · simp only [runS]; exact stepRackF_ok h3
theorem runS_next {O : Nat → Nat → Or} {cs : List Cbl} {a b : Int} {xs : List Pt} {ms : List Mod} {k : Nat} (o : Nat → Or) : runS (fun i => if i = k then o else O i) cs a b xs ms (k + 1) =
    ((stepRackF o cs a (xs.getD k (0, 0)) (runS O cs a b xs ms k).1).1, (runS O cs a b xs ms k).2 ++ [(stepRackF o cs a (xs.getD k (0, 0)) (runS O cs a b xs ms k).1).2.getD b.toNat (0, 0)]) := by
  simp only [runS, if_true]
  rw [runS_congr (O' := O) k (fun i hi => by simp; omega)]
structure ARun where
  ms : List Mod
  cs : List Cbl
  a : Int
  b : Int
  xs : List Pt
  n : Int
  ml : ms.length ≤ sm
  cl : cs.length ≤ sm
  xl : xs.length ≤ sm
  ok : ∀ m ∈ ms, OkM m
def rNo : Res := { val := .tup [.agg [.nil, .nil], .c .nil, .c (.im (.bool false))] }
def rRun (ms : List Mod) (cs : List Cbl) (out : List Pt) : Res := { val := .tup [.agg [.view 0 11 0 ms.length, .view 1 2 0 cs.length], .c (.view 2 1 0 out.length), .c (.im (.bool true))], roots := [.arr 11 (tM ms), .arr 2 (tI (rowsC cs)), .arr 1 (tI (rowsZ out))] }
def oRun (ms : List Mod) (cs : List Cbl) (a b : Int) (xs : List Pt) (n : Int) : Outs := .any (Nat → Nat → Or) (fun O => if canRunF ms cs a b n = true then rRun (runS O cs a b xs ms n.toNat).1 cs (runS O cs a b xs ms n.toNat).2 else rNo)
theorem tIZ_app (l : List Pt) (x y : Nat) : tI (rowsZ l) ++ [[T.im (.cpx .f32 x y)]] = tI (rowsZ (l ++ [(x, y)])) := by simp [tI, rowsZ]
theorem tI_nil : tI (rowsZ []) = [] := rfl
theorem ne_run : Nonempty (Nat → Nat → Or) = True := by simp only [eq_iff_iff, iff_true]; exact ⟨fun _ _ => ((0, 0), (0, 0))⟩
theorem okR_no {sc : Bool} : OkR sc rNo := by
  refine ⟨.tup _ (fun d hd => ?_), by simp [rNo], by simp [rNo]⟩
  simp only [rNo, List.mem_cons, List.not_mem_nil, or_false] at hd
  rcases hd with rfl | rfl | rfl
  · exact .inr ⟨_, rfl, fun x hx => by simp at hx; subst hx; exact .nil⟩
  · exact .inl ⟨_, rfl, .nil⟩
  · exact .inl ⟨_, rfl, okC_sc rfl⟩
theorem okR_run {sc : Bool} {ms : List Mod} {cs : List Cbl} {out : List Pt} : OkR sc (rRun ms cs out) := by
  refine ⟨.tup _ (fun d hd => ?_), fun r hr => ?_, by simp [rRun]⟩
  · simp only [rRun, List.mem_cons, List.not_mem_nil, or_false] at hd
    rcases hd with rfl | rfl | rfl
    · refine .inr ⟨_, rfl, fun x hx => ?_⟩
      simp only [List.mem_cons, List.not_mem_nil, or_false] at hx
      rcases hx with rfl | rfl <;> exact .view _ _ _ _ (by simp [rRun])
    · exact .inl ⟨_, rfl, .view _ _ _ _ (by simp [rRun])⟩
    · exact .inl ⟨_, rfl, okC_sc rfl⟩
  · simp only [rRun, List.mem_cons, List.not_mem_nil, or_false] at hr
    rcases hr with rfl | rfl | rfl
    · exact mvR_tM _
    · exact mvR_tI (sc_rowsC _)
    · exact mvR_tI (sc_rowsZ _)
noncomputable def ct_RunRack : Ct := fam true (fun x : ARun => ([.agg [.im (.sl 11 (rowsM x.ms)), .im (.sl 2 (rowsC x.cs))], .agg [.im (.int .i64 x.a), .im (.int .i64 x.b)], .c (.im (.sl 1 (rowsZ x.xs))), .c (.im (.int .i64 x.n))], [])) (fun x => oRun x.ms x.cs x.a x.b x.xs x.n)
theorem run_RunRack {ms : List Mod} {cs : List Cbl} {xs : List Pt} (h1 : ms.length ≤ sm) (h2 : cs.length ≤ sm) (h3 : xs.length ≤ sm) (h5 : ∀ m ∈ ms, OkM m) (a b n : Int) : ct_RunRack.run [.agg [.im (.sl 11 (rowsM ms)), .im (.sl 2 (rowsC cs))], .agg [.im (.int .i64 a), .im (.int .i64 b)], .c (.im (.sl 1 (rowsZ xs))), .c (.im (.int .i64 n))] [] = some (oRun ms cs a b xs n) := by
  refine fam_run' (args := fun x : ARun => ([D.agg [.im (.sl 11 (rowsM x.ms)), .im (.sl 2 (rowsC x.cs))], .agg [.im (.int .i64 x.a), .im (.int .i64 x.b)], .c (.im (.sl 1 (rowsZ x.xs))), .c (.im (.int .i64 x.n))], [])) ?_ ⟨ms, cs, a, b, xs, n, h1, h2, h3, h5⟩
  rintro ⟨a, b, c, d, e, f, _, _, _, _⟩ ⟨a', b', c', d', e', f', _, _, _, _⟩ h
  simp [rowsM_eq, rowsC_eq, rowsZ_eq] at h ⊢
  simp [h]
set_option maxRecDepth 100000 in
set_option maxHeartbeats 8000000 in
theorem law_RunRack : Law Try.prog 25 ct_RunRack := by
  refine fam_lawF (Env_cons law_canRun (Env_cons law_copyRack (Env_cons law_sample (Env_cons law_stepRack (Env_cons law_asItIs Env_nil))))) hmixA Try.func25 rfl rfl (fun ⟨ms, cs, a, b, xs, n, h1, h2, h3, h5⟩ => ⟨okA (fun o => by split; exact okR_run; exact okR_no), by simp [Try.f25], ?_⟩)
  simp only [oRun]
  cases hc : canRunF ms cs a b n with
  | false =>
    simp only [Bool.false_eq_true, if_false, rNo]
    try simp -dsimp (maxSteps := 1000000) only [go_sem, List.forall_mem_nil, ↓reduceIte, Nat.reduceEqDiff, Nat.reduceLT, Nat.reduceLeDiff, Nat.reduceAdd, Nat.reduceMul, reduceCtorEq, Try.f25, run_canRun h1 h2 h5, hc]
    repeat' (first
      | ((with_reducible refine sl_i ?_ ?_); focus kernel_rfl)
      | ((with_reducible refine ro_i ?_ ?_); focus kernel_rfl)
      | ((with_reducible refine sl_e ?_); kernel_rfl)
      | ((with_reducible refine ro_e ?_); kernel_rfl)
      | ((first | (with_reducible refine gS_d ?_ ?_) | (with_reducible refine gS_dn ?_ ?_) | (with_reducible refine gS_i ?_ ?_)) <;> intro hg <;> (try simp -dsimp (maxSteps := 1000000) only [go_sem, List.forall_mem_nil, ↓reduceIte, Nat.reduceEqDiff, Nat.reduceLT, Nat.reduceLeDiff, Nat.reduceAdd, Nat.reduceMul, reduceCtorEq, Try.f25, run_canRun h1 h2 h5, hc, *])))
    refine finF_i [] ?_
    simp -dsimp (maxSteps := 1000000) only [go_sem, List.forall_mem_nil, ↓reduceIte, Nat.reduceEqDiff, Nat.reduceLT, Nat.reduceLeDiff, Nat.reduceAdd, Nat.reduceMul, reduceCtorEq]
  | true =>
    simp only [if_true, rRun]
    have hc2 := hc
    simp only [canRunF, plugF, Bool.and_eq_true, decide_eq_true_eq] at hc2
    obtain ⟨hr, ⟨hp1, hp2, hp3, hp4⟩, hn0, hn1⟩ := hc2
    obtain ⟨ml, cl, ok, cr⟩ := RackOk_of h5 hr
    try simp -dsimp (maxSteps := 1000000) only [go_sem, List.forall_mem_nil, ↓reduceIte, Nat.reduceEqDiff, Nat.reduceLT, Nat.reduceLeDiff, Nat.reduceAdd, Nat.reduceMul, reduceCtorEq, Try.f25, run_canRun h1 h2 h5, hc, run_copyRack h1 h2 h5, rRack]
    repeat' (first
      | ((with_reducible refine sl_i ?_ ?_); focus kernel_rfl)
      | ((with_reducible refine ro_i ?_ ?_); focus kernel_rfl)
      | ((with_reducible refine sl_e ?_); kernel_rfl)
      | ((with_reducible refine ro_e ?_); kernel_rfl)
      | ((first | (with_reducible refine gS_d ?_ ?_) | (with_reducible refine gS_dn ?_ ?_) | (with_reducible refine gS_i ?_ ?_)) <;> intro hg <;> (try simp -dsimp (maxSteps := 1000000) only [go_sem, List.forall_mem_nil, ↓reduceIte, Nat.reduceEqDiff, Nat.reduceLT, Nat.reduceLeDiff, Nat.reduceAdd, Nat.reduceMul, reduceCtorEq, Try.f25, run_canRun h1 h2 h5, hc, run_copyRack h1 h2 h5, rRack, *])))
    obtain ⟨N, rfl⟩ := Int.eq_ofNat_of_zero_le hn0
    obtain ⟨B', rfl⟩ := Int.eq_ofNat_of_zero_le hp3
    have hN : N ≤ sm := by have : sm = 16777216 := rfl; omega
    have hb : B' < ms.length := by omega
    simp only [Int.toNat_natCast]
    clear hc hr hp1 hp2 hp3 hp4 hn0 hn1
    refine loop_i (ι := { x : Nat × (Nat → Nat → Or) // x.1 ≤ N }) (fun x => ⟨[(2, some (.c (.im (.sl 1 (rowsZ xs))))), (5, some (.c (.ptr 1 0 0 0))), (8, some (.c (.ptr 2 0 0 0))), (11, some (.c (.ptr 6 0 0 0))), (12, some (.c (.view 5 1 0 (runS x.1.2 cs a B' xs ms x.1.1).2.length))), (23, some (.c (.im (.int .i64 (N : Int))))), (24, some (.c (.im (.int .i64 (x.1.1 : Int)))))],
      [(1, some (.box [.t (.im (.int .i64 a)), .t (.im (.int .i64 (B' : Int)))])), (2, some (.box [.t .nil, .t .nil])), (5, some (.arr 1 (tI (rowsZ (runS x.1.2 cs a B' xs ms x.1.1).2)))), (6, some (.box [.t (.own 11 (tM (runS x.1.2 cs a B' xs ms x.1.1).1)), .t (.own 2 (tI (rowsC cs)))]))], 7⟩) (fun x => N - x.1.1) ⟨(0, fun _ _ => ((0, 0), (0, 0))), by simp⟩ ⟨[.fold 6 0 0, .fold 6 0 1], [1, 2, 5, 6], by ((simp only [ne_eq, eq_self, subF, folds, wk1, subOk, sOk, hOk, nms, reF, rho, mapD, mapC, mapC1, NmD, NmC, NmC1, mapR, mapB, mapTt, NmR, NmB, NmT, MvRb, MvRn, MvRt, lk, ins, Root.get, Root.setT, List.map_cons, List.map_nil, List.nodup_cons, List.nodup_nil, List.not_mem_nil, List.mem_cons, not_false_eq_true, and_self, and_true, true_and, true_or, or_true, false_or, or_false, ↓reduceIte, Nat.reduceEqDiff, Nat.reduceLT, Nat.reduceLeDiff, reduceCtorEq, Option.isSome_some, List.forall_mem_cons, List.forall_mem_nil, implies_true, forall_const, Nat.le_refl, Nat.zero_le, false_implies, List.mem_singleton, MvB_im, MvB_nil, Mv_im, Option.some.injEq, D.c.injEq, C.im.injEq, I.int.injEq, List.getElem?_cons_zero, List.getElem?_cons_succ, List.set_cons_zero, List.set_cons_succ, List.length_cons, List.length_nil, Nat.zero_add, Option.map_some, forall_eq_or_imp, forall_eq, tM_len, tI_len, rowsC_len, runS, tI_nil, MvRn, MvB_M, MvB_C]) <;> (try (simp -dsimp only [ne_eq, eq_self, subF, folds, wk1, subOk, sOk, hOk, nms, reF, rho, mapD, mapC, mapC1, NmD, NmC, NmC1, mapR, mapB, mapTt, NmR, NmB, NmT, MvRb, MvRn, MvRt, lk, ins, Root.get, Root.setT, List.map_cons, List.map_nil, List.nodup_cons, List.nodup_nil, List.not_mem_nil, List.mem_cons, not_false_eq_true, and_self, and_true, true_and, true_or, or_true, false_or, or_false, ↓reduceIte, Nat.reduceEqDiff, Nat.reduceLT, Nat.reduceLeDiff, reduceCtorEq, Option.isSome_some, List.forall_mem_cons, List.forall_mem_nil, implies_true, forall_const, Nat.le_refl, Nat.zero_le, false_implies, List.mem_singleton, MvB_im, MvB_nil, Mv_im, Option.some.injEq, D.c.injEq, C.im.injEq, I.int.injEq, List.getElem?_cons_zero, List.getElem?_cons_succ, List.set_cons_zero, List.set_cons_succ, List.length_cons, List.length_nil, Nat.zero_add, Option.map_some, forall_eq_or_imp, forall_eq, tM_len, tI_len, rowsC_len, runS, tI_nil, MvRn, MvB_M, MvB_C]))) <;> simp [lk, MvB_im, MvB_M, MvB_C]⟩ (fun ⟨⟨k, O⟩, hk⟩ => ?_)
    have hok := runS_ok (O := O) (cs := cs) (a := a) (b := (B' : Int)) (xs := xs) ok k
    have hnx := fun o => runS_next (O := O) (cs := cs) (a := a) (b := (B' : Int)) (xs := xs) (ms := ms) (k := k) o
    have hfin : k = N → ∃ O', runS O' cs a B' xs ms N = runS O cs a B' xs ms k := fun e => by subst e; exact ⟨O, rfl⟩
    simp only
    generalize hs : runS O cs a B' xs ms k = s at *
    obtain ⟨M, out⟩ := s
    simp only at hok hnx hfin ⊢
    obtain ⟨hM, ho, hokM⟩ := hok
    by_cases hlt : k < N
    rotate_left
    · have hI : ((k : Int) < (N : Int)) = False := eq_false (by omega)
      obtain ⟨O', hO⟩ := hfin (by omega)
      try simp -dsimp (maxSteps := 1000000) only [go_sem, List.forall_mem_nil, ↓reduceIte, Nat.reduceEqDiff, Nat.reduceLT, Nat.reduceLeDiff, Nat.reduceAdd, Nat.reduceMul, reduceCtorEq, Try.f25, hI, tM_len, tI_len, rowsC_len]
      repeat' (first
        | ((with_reducible refine sl_i ?_ ?_); focus kernel_rfl)
        | ((with_reducible refine ro_i ?_ ?_); focus kernel_rfl)
        | ((with_reducible refine sl_e ?_); kernel_rfl)
        | ((with_reducible refine ro_e ?_); kernel_rfl)
        | ((first | (with_reducible refine gS_d ?_ ?_) | (with_reducible refine gS_dn ?_ ?_) | (with_reducible refine gS_i ?_ ?_)) <;> intro hg <;> (try simp -dsimp (maxSteps := 1000000) only [go_sem, List.forall_mem_nil, ↓reduceIte, Nat.reduceEqDiff, Nat.reduceLT, Nat.reduceLeDiff, Nat.reduceAdd, Nat.reduceMul, reduceCtorEq, Try.f25, hI, tM_len, tI_len, rowsC_len, *])))
      refine finF_i [] ?_
      simp -dsimp (maxSteps := 1000000) only [go_sem, List.forall_mem_nil, ↓reduceIte, Nat.reduceEqDiff, Nat.reduceLT, Nat.reduceLeDiff, Nat.reduceAdd, Nat.reduceMul, reduceCtorEq]
      refine ⟨O', ?_⟩
      rw [hO]
      refine ⟨[7, 8, 5], ?_, ?_, ?_, ⟨rfl, rfl⟩, rfl⟩ <;> simp [rtOk]
    have hI : ((k : Int) < (N : Int)) = True := by simp; omega
    have hwr := lt_sm hN hlt
    obtain ⟨x1, x2⟩ : ∃ x1 x2, xs.getD k (0, 0) = (x1, x2) := ⟨_, _, rfl⟩
    obtain ⟨x2, hx⟩ := x2
    have hrun := run_stepRack (ms := M) (cs := cs) (by omega) h2 hokM (fun c hc => by rw [hM]; exact ⟨(cr c hc).1, (cr c hc).2.1⟩) a x1 x2
    simp only [hsS] at hrun
    have hrS : ∀ o, (tI (rowsZ (stepRackF o cs a (x1, x2) M).2))[B']? = some [T.im (.cpx .f32 ((stepRackF o cs a (x1, x2) M).2.getD B' (0, 0)).1 ((stepRackF o cs a (x1, x2) M).2.getD B' (0, 0)).2)] := fun o => by
      have hl : B' < (stepRackF o cs a (x1, x2) M).2.length := by rw [stepRackF_len.2, hM]; exact hb
      rw [tIZ_at (List.getElem?_eq_getElem hl), List.getD_eq_getElem?_getD, List.getElem?_eq_getElem hl]
      rfl
    have hIb : ((B' : Int) < (M.length : Int)) = True := by simp; omega
    have h0b : (0 ≤ (B' : Int)) = True := by simp
    have hby : ∀ q : Pt, ((out ++ [q]).length * 8 ≤ 140737488355328) = True := fun q => bytes_sm (by simp; omega) (by decide)
    rw [hx] at hnx
    simp only [Int.toNat_natCast] at hnx
    try simp -dsimp (maxSteps := 1000000) only [go_sem, List.forall_mem_nil, ↓reduceIte, Nat.reduceEqDiff, Nat.reduceLT, Nat.reduceLeDiff, Nat.reduceAdd, Nat.reduceMul, reduceCtorEq, Try.f25, hI, hx, run_sample h3 k, hrun, oRk, hsS, ne_orN, hrS, hIb, h0b, hwr, hby, MvB_M, MvB_C, tI_len, rowsZ_len, appendH, srcRows, List.take_succ_cons, List.take_zero, List.all_cons, List.all_nil, okT, Bool.and_true, tIZ_app, Int.toNat_natCast]
    repeat' (first
      | ((with_reducible refine sl_i ?_ ?_); focus kernel_rfl)
      | ((with_reducible refine ro_i ?_ ?_); focus kernel_rfl)
      | ((with_reducible refine sl_e ?_); kernel_rfl)
      | ((with_reducible refine ro_e ?_); kernel_rfl)
      | ((first | (with_reducible refine gS_d ?_ ?_) | (with_reducible refine gS_dn ?_ ?_) | (with_reducible refine gS_i ?_ ?_)) <;> intro hg <;> (try simp -dsimp (maxSteps := 1000000) only [go_sem, List.forall_mem_nil, ↓reduceIte, Nat.reduceEqDiff, Nat.reduceLT, Nat.reduceLeDiff, Nat.reduceAdd, Nat.reduceMul, reduceCtorEq, Try.f25, hI, hx, run_sample h3 k, hrun, oRk, hsS, ne_orN, hrS, hIb, h0b, hwr, hby, MvB_M, MvB_C, tI_len, rowsZ_len, appendH, srcRows, List.take_succ_cons, List.take_zero, List.all_cons, List.all_nil, okT, Bool.and_true, tIZ_app, Int.toNat_natCast, *])))
    intro o1
    try simp -dsimp (maxSteps := 1000000) only [go_sem, List.forall_mem_nil, ↓reduceIte, Nat.reduceEqDiff, Nat.reduceLT, Nat.reduceLeDiff, Nat.reduceAdd, Nat.reduceMul, reduceCtorEq, Try.f25]
    repeat' (first
      | ((with_reducible refine sl_i ?_ ?_); focus kernel_rfl)
      | ((with_reducible refine ro_i ?_ ?_); focus kernel_rfl)
      | ((with_reducible refine sl_e ?_); kernel_rfl)
      | ((with_reducible refine ro_e ?_); kernel_rfl)
      | ((first | (with_reducible refine gS_d ?_ ?_) | (with_reducible refine gS_dn ?_ ?_) | (with_reducible refine gS_i ?_ ?_)) <;> intro hg <;> (try simp -dsimp (maxSteps := 1000000) only [go_sem, List.forall_mem_nil, ↓reduceIte, Nat.reduceEqDiff, Nat.reduceLT, Nat.reduceLeDiff, Nat.reduceAdd, Nat.reduceMul, reduceCtorEq, Try.f25, *])))
    refine ⟨⟨(k + 1, fun i => if i = k then o1 else O i), by simp only []; omega⟩, by simp only []; omega, [], [1, 2, 103, 6], ?_⟩
    simp only [hnx o1]
    ((simp only [ne_eq, eq_self, subF, folds, wk1, subOk, sOk, hOk, nms, reF, rho, mapD, mapC, mapC1, NmD, NmC, NmC1, mapR, mapB, mapTt, NmR, NmB, NmT, MvRb, MvRn, MvRt, lk, ins, Root.get, Root.setT, List.map_cons, List.map_nil, List.nodup_cons, List.nodup_nil, List.not_mem_nil, List.mem_cons, not_false_eq_true, and_self, and_true, true_and, true_or, or_true, false_or, or_false, ↓reduceIte, Nat.reduceEqDiff, Nat.reduceLT, Nat.reduceLeDiff, reduceCtorEq, Option.isSome_some, List.forall_mem_cons, List.forall_mem_nil, implies_true, forall_const, Nat.le_refl, Nat.zero_le, false_implies, List.mem_singleton, MvB_im, MvB_nil, Mv_im, Option.some.injEq, D.c.injEq, C.im.injEq, I.int.injEq, List.getElem?_cons_zero, List.getElem?_cons_succ, List.set_cons_zero, List.set_cons_succ, List.length_cons, List.length_nil, Nat.zero_add, MvRt, MvB_M, MvB_C, Option.map_some, forall_eq_or_imp, forall_eq]) <;> (try (simp -dsimp only [ne_eq, eq_self, subF, folds, wk1, subOk, sOk, hOk, nms, reF, rho, mapD, mapC, mapC1, NmD, NmC, NmC1, mapR, mapB, mapTt, NmR, NmB, NmT, MvRb, MvRn, MvRt, lk, ins, Root.get, Root.setT, List.map_cons, List.map_nil, List.nodup_cons, List.nodup_nil, List.not_mem_nil, List.mem_cons, not_false_eq_true, and_self, and_true, true_and, true_or, or_true, false_or, or_false, ↓reduceIte, Nat.reduceEqDiff, Nat.reduceLT, Nat.reduceLeDiff, reduceCtorEq, Option.isSome_some, List.forall_mem_cons, List.forall_mem_nil, implies_true, forall_const, Nat.le_refl, Nat.zero_le, false_implies, List.mem_singleton, MvB_im, MvB_nil, Mv_im, Option.some.injEq, D.c.injEq, C.im.injEq, I.int.injEq, List.getElem?_cons_zero, List.getElem?_cons_succ, List.set_cons_zero, List.set_cons_succ, List.length_cons, List.length_nil, Nat.zero_add, MvRt, MvB_M, MvB_C, Option.map_some, forall_eq_or_imp, forall_eq])))
    all_goals simp [lk, MvB_im, MvB_M, MvB_C]
end Go.SX
