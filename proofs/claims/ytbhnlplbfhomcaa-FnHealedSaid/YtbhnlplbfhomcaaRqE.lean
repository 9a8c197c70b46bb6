/-
  RunFaults.
  No condition.
-/
import Derived.Test.YtbhnlplbfhomcaaRqC
import Derived.Test.YtbhnlplbfhomcaaRqD
set_option linter.unusedVariables false
set_option linter.unusedSimpArgs false
namespace Go.SX
open Go Go.Proofs

/-- The run with faults: the rack and its last outputs, and the outputs. -/
def runG (O : Nat → Nat → Or) (cs : List Cbl) (a b : Int) (xs : List Pt) (fs : List Fa) (ms : List Mod) : Nat → (List Mod × List Pt) × List Pt
  | 0 => ((ms, List.replicate ms.length (0, 0)), [])
  | k + 1 => (stepRackG (becF fs (k : Int) (runG O cs a b xs fs ms k).1.2) (O k) cs a (xs.getD k (0, 0)) (runG O cs a b xs fs ms k).1.1,
      (runG O cs a b xs fs ms k).2 ++ [(stepRackG (becF fs (k : Int) (runG O cs a b xs fs ms k).1.2) (O k) cs a (xs.getD k (0, 0)) (runG O cs a b xs fs ms k).1.1).2.getD b.toNat (0, 0)])
theorem runG_congr {O O' : Nat → Nat → Or} {cs : List Cbl} {a b : Int} {xs : List Pt} {fs : List Fa} {ms : List Mod} : ∀ k, (∀ i, i < k → O i = O' i) → runG O cs a b xs fs ms k = runG O' cs a b xs fs ms k
  | 0, _ => rfl
  | k + 1, h => by simp only [runG, runG_congr k (fun i hi => h i (by omega)), h k (by omega)]
theorem runG_ok {O : Nat → Nat → Or} {cs : List Cbl} {a b : Int} {xs : List Pt} {fs : List Fa} {ms : List Mod} (h : ∀ m ∈ ms, OkS m) : ∀ k, (runG O cs a b xs fs ms k).1.1.length = ms.length ∧ (runG O cs a b xs fs ms k).1.2.length = ms.length ∧ (runG O cs a b xs fs ms k).2.length = k ∧ ∀ m ∈ (runG O cs a b xs fs ms k).1.1, OkS m
  | 0 => ⟨rfl, by simp [runG], rfl, h⟩
  | k + 1 => by
    obtain ⟨h1, h2, h3, h4⟩ := runG_ok (O := O) (cs := cs) (a := a) (b := b) (xs := xs) (fs := fs) h k
    refine ⟨?_, ?_, ?_, ?_⟩
    · simp only [runG]; rw [stepRackG_len.1]; exact h1
    · simp only [runG]; rw [stepRackG_len.2]; exact h1
    · simp only [runG, List.length_append, h3, List.length_cons, List.length_nil, Nat.zero_add]
    · simp only [runG]; exact stepRackG_ok h4
theorem runG_next {O : Nat → Nat → Or} {cs : List Cbl} {a b : Int} {xs : List Pt} {fs : List Fa} {ms : List Mod} {k : Nat} (o : Nat → Or) : runG (fun i => if i = k then o else O i) cs a b xs fs ms (k + 1) =
    (stepRackG (becF fs (k : Int) (runG O cs a b xs fs ms k).1.2) o cs a (xs.getD k (0, 0)) (runG O cs a b xs fs ms k).1.1,
      (runG O cs a b xs fs ms k).2 ++ [(stepRackG (becF fs (k : Int) (runG O cs a b xs fs ms k).1.2) o cs a (xs.getD k (0, 0)) (runG O cs a b xs fs ms k).1.1).2.getD b.toNat (0, 0)]) := by
  simp only [runG, if_true]
  rw [runG_congr (O' := O) k (fun i hi => by simp; omega)]
structure ARf where
  ms : List Mod
  cs : List Cbl
  a : Int
  b : Int
  xs : List Pt
  fs : List Fa
  n : Int
  ml : ms.length ≤ sm
  cl : cs.length ≤ sm
  xl : xs.length ≤ sm
  fl : fs.length ≤ sm
  ok : ∀ m ∈ ms, OkM m
def canRfF (ms : List Mod) (cs : List Cbl) (fs : List Fa) (a b n : Int) : Bool := areF ms cs fs && canRunF ms cs a b n
def oRf (ms : List Mod) (cs : List Cbl) (a b : Int) (xs : List Pt) (fs : List Fa) (n : Int) : Outs := .any (Nat → Nat → Or) (fun O => if canRfF ms cs fs a b n = true then rRun (runG O cs a b xs fs ms n.toNat).1.1 cs (runG O cs a b xs fs ms n.toNat).2 else rNo)
noncomputable def ct_RunFaults : Ct := fam true (fun x : ARf => ([.agg [.im (.sl 11 (rowsM x.ms)), .im (.sl 2 (rowsC x.cs))], .agg [.im (.int .i64 x.a), .im (.int .i64 x.b)], .c (.im (.sl 1 (rowsZ x.xs))), .c (.im (.sl 4 (rowsFa x.fs))), .c (.im (.int .i64 x.n))], [])) (fun x => oRf x.ms x.cs x.a x.b x.xs x.fs x.n)
theorem run_RunFaults {ms : List Mod} {cs : List Cbl} {xs : List Pt} {fs : List Fa} (h1 : ms.length ≤ sm) (h2 : cs.length ≤ sm) (h3 : xs.length ≤ sm) (h4 : fs.length ≤ sm) (h5 : ∀ m ∈ ms, OkM m) (a b n : Int) : ct_RunFaults.run [.agg [.im (.sl 11 (rowsM ms)), .im (.sl 2 (rowsC cs))], .agg [.im (.int .i64 a), .im (.int .i64 b)], .c (.im (.sl 1 (rowsZ xs))), .c (.im (.sl 4 (rowsFa fs))), .c (.im (.int .i64 n))] [] = some (oRf ms cs a b xs fs n) := by
  refine fam_run' (args := fun x : ARf => ([D.agg [.im (.sl 11 (rowsM x.ms)), .im (.sl 2 (rowsC x.cs))], .agg [.im (.int .i64 x.a), .im (.int .i64 x.b)], .c (.im (.sl 1 (rowsZ x.xs))), .c (.im (.sl 4 (rowsFa x.fs))), .c (.im (.int .i64 x.n))], [])) ?_ ⟨ms, cs, a, b, xs, fs, n, h1, h2, h3, h4, h5⟩
  rintro ⟨a, b, c, d, e, f, g, _, _, _, _, _⟩ ⟨a', b', c', d', e', f', g', _, _, _, _, _⟩ h
  simp only [Prod.mk.injEq, List.cons.injEq, D.c.injEq, D.agg.injEq, C.im.injEq, I.sl.injEq, I.int.injEq, true_and, and_true, rowsM_eq, rowsC_eq, rowsZ_eq] at h
  obtain ⟨⟨rfl, rfl⟩, ⟨rfl, rfl⟩, rfl, h4, rfl⟩ := h
  have := rowsFa_inj h4
  subst this; rfl
theorem sc_RunFaults : (ct_RunFaults.sc = true) = True := by simp [ct_RunFaults, fam]
theorem sc_stepRackG : (ct_stepRackG.sc = true) = False := by simp [ct_stepRackG, fam]
set_option maxRecDepth 100000 in
set_option maxHeartbeats 40000000 in
theorem law_RunFaults : Law Try.prog 28 ct_RunFaults := by
  refine fam_lawF (Env_cons law_AreFaults (Env_cons law_canRun (Env_cons law_copyRack (Env_cons law_sample (Env_cons law_stepRackG Env_nil))))) hmixA Try.func28 rfl rfl (fun ⟨ms, cs, a, b, xs, fs, n, h1, h2, h3, h4, h5⟩ => ⟨okA (fun o => by split; exact okR_run; exact okR_no), by simp [Try.f28], ?_⟩)
  simp only [oRf]
  cases hf : areF ms cs fs with
  | false =>
    have hc : canRfF ms cs fs a b n = false := by simp [canRfF, hf]
    simp only [hc, Bool.false_eq_true, if_false, rNo]
    try simp -dsimp (maxSteps := 1000000) only [go_sem, List.forall_mem_nil, ↓reduceIte, Nat.reduceEqDiff, Nat.reduceLT, Nat.reduceLeDiff, Nat.reduceAdd, Nat.reduceMul, reduceCtorEq, Try.f28, run_AreFaults h1 h2 h5 h4, hf]
    repeat' (first
      | ((with_reducible refine sl_i ?_ ?_); focus kernel_rfl)
      | ((with_reducible refine ro_i ?_ ?_); focus kernel_rfl)
      | ((with_reducible refine sl_e ?_); kernel_rfl)
      | ((with_reducible refine ro_e ?_); kernel_rfl)
      | ((first | (with_reducible refine gS_d ?_ ?_) | (with_reducible refine gS_dn ?_ ?_) | (with_reducible refine gS_i ?_ ?_)) <;> intro hg <;> (try simp -dsimp (maxSteps := 1000000) only [go_sem, List.forall_mem_nil, ↓reduceIte, Nat.reduceEqDiff, Nat.reduceLT, Nat.reduceLeDiff, Nat.reduceAdd, Nat.reduceMul, reduceCtorEq, Try.f28, run_AreFaults h1 h2 h5 h4, hf, *])))
    refine finF_i [] ?_
    simp -dsimp (maxSteps := 1000000) only [go_sem, List.forall_mem_nil, ↓reduceIte, Nat.reduceEqDiff, Nat.reduceLT, Nat.reduceLeDiff, Nat.reduceAdd, Nat.reduceMul, reduceCtorEq, hc, rNo]
  | true =>
    cases hr : canRunF ms cs a b n with
    | false =>
      have hc : canRfF ms cs fs a b n = false := by simp [canRfF, hr]
      simp only [hc, Bool.false_eq_true, if_false, rNo]
      try simp -dsimp (maxSteps := 1000000) only [go_sem, List.forall_mem_nil, ↓reduceIte, Nat.reduceEqDiff, Nat.reduceLT, Nat.reduceLeDiff, Nat.reduceAdd, Nat.reduceMul, reduceCtorEq, Try.f28, run_AreFaults h1 h2 h5 h4, hf, run_canRun h1 h2 h5, hr]
      repeat' (first
        | ((with_reducible refine sl_i ?_ ?_); focus kernel_rfl)
        | ((with_reducible refine ro_i ?_ ?_); focus kernel_rfl)
        | ((with_reducible refine sl_e ?_); kernel_rfl)
        | ((with_reducible refine ro_e ?_); kernel_rfl)
        | ((first | (with_reducible refine gS_d ?_ ?_) | (with_reducible refine gS_dn ?_ ?_) | (with_reducible refine gS_i ?_ ?_)) <;> intro hg <;> (try simp -dsimp (maxSteps := 1000000) only [go_sem, List.forall_mem_nil, ↓reduceIte, Nat.reduceEqDiff, Nat.reduceLT, Nat.reduceLeDiff, Nat.reduceAdd, Nat.reduceMul, reduceCtorEq, Try.f28, run_AreFaults h1 h2 h5 h4, hf, run_canRun h1 h2 h5, hr, *])))
      refine finF_i [] ?_
      simp -dsimp (maxSteps := 1000000) only [go_sem, List.forall_mem_nil, ↓reduceIte, Nat.reduceEqDiff, Nat.reduceLT, Nat.reduceLeDiff, Nat.reduceAdd, Nat.reduceMul, reduceCtorEq, hc, rNo]
    | true =>
      have hc : canRfF ms cs fs a b n = true := by simp [canRfF, hr, hf]
      have hk1 : (0 ≤ (ms.length : Int)) = True := eq_true (by omega)
      have hk2 : ((ms.length : Int) ≤ 9223372036854775807) = True := eq_true (by have : sm = 16777216 := rfl; omega)
      have hk3 : (((8 : Nat) : Int) * (ms.length : Int) ≤ 281474976710656) = True := eq_true (by have : sm = 16777216 := rfl; omega)
      have hc2 := hr
      simp only [canRunF, plugF, Bool.and_eq_true, decide_eq_true_eq] at hc2
      obtain ⟨hrk, ⟨hp1, hp2, hp3, hp4⟩, hn0, hn1⟩ := hc2
      obtain ⟨ml, cl, ok, cr⟩ := RackOk_of h5 hrk
      simp only [hc, if_true, rRun]
      try simp -dsimp (maxSteps := 1000000) only [go_sem, List.forall_mem_nil, ↓reduceIte, Nat.reduceEqDiff, Nat.reduceLT, Nat.reduceLeDiff, Nat.reduceAdd, Nat.reduceMul, reduceCtorEq, Try.f28, run_AreFaults h1 h2 h5 h4, hf, run_canRun h1 h2 h5, hr, run_copyRack h1 h2 h5, rRack, rowsM_len, hk1, hk2, hk3, rep_Z, Int.toNat_natCast, List.length_replicate]
      repeat' (first
        | ((with_reducible refine sl_i ?_ ?_); focus kernel_rfl)
        | ((with_reducible refine ro_i ?_ ?_); focus kernel_rfl)
        | ((with_reducible refine sl_e ?_); kernel_rfl)
        | ((with_reducible refine ro_e ?_); kernel_rfl)
        | ((first | (with_reducible refine gS_d ?_ ?_) | (with_reducible refine gS_dn ?_ ?_) | (with_reducible refine gS_i ?_ ?_)) <;> intro hg <;> (try simp -dsimp (maxSteps := 1000000) only [go_sem, List.forall_mem_nil, ↓reduceIte, Nat.reduceEqDiff, Nat.reduceLT, Nat.reduceLeDiff, Nat.reduceAdd, Nat.reduceMul, reduceCtorEq, Try.f28, run_AreFaults h1 h2 h5 h4, hf, run_canRun h1 h2 h5, hr, run_copyRack h1 h2 h5, rRack, rowsM_len, hk1, hk2, hk3, rep_Z, Int.toNat_natCast, List.length_replicate, *])))
      obtain ⟨N, rfl⟩ := Int.eq_ofNat_of_zero_le hn0
      obtain ⟨B', rfl⟩ := Int.eq_ofNat_of_zero_le hp3
      have hN : N ≤ sm := by have : sm = 16777216 := rfl; omega
      have hb : B' < ms.length := by omega
      simp only [Int.toNat_natCast]
      clear hr hrk hf hp1 hp2 hp3 hp4 hn0 hn1 hk1 hk2 hk3
      refine loop_i (ι := { x : Nat × (Nat → Nat → Or) // x.1 ≤ N }) (fun x => ⟨[(2, some (.c (.im (.sl 1 (rowsZ xs))))), (6, some (.c (.ptr 1 0 0 0))), (8, some (.c (.ptr 2 0 0 0))), (10, some (.c (.ptr 3 0 0 0))), (13, some (.c (.ptr 4 0 0 0))), (14, some (.c (.view 6 1 0 (runG x.1.2 cs a B' xs fs ms x.1.1).2.length))), (15, some (.c (.ptr 5 0 0 0))), (37, some (.c (.im (.int .i64 (N : Int))))), (38, some (.c (.im (.int .i64 (x.1.1 : Int)))))],
        [(1, some (.box [.t (.im (.int .i64 a)), .t (.im (.int .i64 (B' : Int)))])), (2, some (.box [.t (.im (.sl 4 (rowsFa fs)))])), (3, some (.box [.t .nil, .t .nil])), (4, some (.box [.t (.own 11 (tM (runG x.1.2 cs a B' xs fs ms x.1.1).1.1)), .t (.own 2 (tI (rowsC cs)))])), (5, some (.box [.t (.own 1 (tI (rowsZ (runG x.1.2 cs a B' xs fs ms x.1.1).1.2)))])), (6, some (.arr 1 (tI (rowsZ (runG x.1.2 cs a B' xs fs ms x.1.1).2))))], 7⟩) (fun x => N - x.1.1) ⟨(0, fun _ _ => ((0, 0), (0, 0))), by simp⟩ ⟨[.fold 60 0 0, .fold 60 0 1, .fold 68 0 0], [1, 2, 3, 60, 68, 20], by ((simp only [ne_eq, eq_self, subF, folds, wk1, subOk, sOk, hOk, nms, reF, rho, mapD, mapC, mapC1, NmD, NmC, NmC1, mapR, mapB, mapTt, NmR, NmB, NmT, MvRb, MvRn, MvRt, lk, ins, Root.get, Root.setT, List.map_cons, List.map_nil, List.nodup_cons, List.nodup_nil, List.not_mem_nil, List.mem_cons, not_false_eq_true, and_self, and_true, true_and, true_or, or_true, false_or, or_false, ↓reduceIte, Nat.reduceEqDiff, Nat.reduceLT, Nat.reduceLeDiff, reduceCtorEq, Option.isSome_some, List.forall_mem_cons, List.forall_mem_nil, implies_true, forall_const, Nat.le_refl, Nat.zero_le, false_implies, List.mem_singleton, MvB_im, MvB_nil, Mv_im, Option.some.injEq, D.c.injEq, C.im.injEq, I.int.injEq, List.getElem?_cons_zero, List.getElem?_cons_succ, List.set_cons_zero, List.set_cons_succ, List.length_cons, List.length_nil, Nat.zero_add, Option.map_some, forall_eq_or_imp, forall_eq, tM_len, tI_len, rowsC_len, rowsZ_len, List.length_replicate, runG, tI_nil, MvRn, MvB_M, MvB_C, MvB_Z]) <;> (try (simp -dsimp only [ne_eq, eq_self, subF, folds, wk1, subOk, sOk, hOk, nms, reF, rho, mapD, mapC, mapC1, NmD, NmC, NmC1, mapR, mapB, mapTt, NmR, NmB, NmT, MvRb, MvRn, MvRt, lk, ins, Root.get, Root.setT, List.map_cons, List.map_nil, List.nodup_cons, List.nodup_nil, List.not_mem_nil, List.mem_cons, not_false_eq_true, and_self, and_true, true_and, true_or, or_true, false_or, or_false, ↓reduceIte, Nat.reduceEqDiff, Nat.reduceLT, Nat.reduceLeDiff, reduceCtorEq, Option.isSome_some, List.forall_mem_cons, List.forall_mem_nil, implies_true, forall_const, Nat.le_refl, Nat.zero_le, false_implies, List.mem_singleton, MvB_im, MvB_nil, Mv_im, Option.some.injEq, D.c.injEq, C.im.injEq, I.int.injEq, List.getElem?_cons_zero, List.getElem?_cons_succ, List.set_cons_zero, List.set_cons_succ, List.length_cons, List.length_nil, Nat.zero_add, Option.map_some, forall_eq_or_imp, forall_eq, tM_len, tI_len, rowsC_len, rowsZ_len, List.length_replicate, runG, tI_nil, MvRn, MvB_M, MvB_C, MvB_Z]))) <;> simp [lk, MvB_im, MvB_M, MvB_C, MvB_Z]⟩ (fun ⟨⟨k, O⟩, hk⟩ => ?_)
      have hok := runG_ok (O := O) (cs := cs) (a := a) (b := (B' : Int)) (xs := xs) (fs := fs) ok k
      have hnx := fun o => runG_next (O := O) (cs := cs) (a := a) (b := (B' : Int)) (xs := xs) (fs := fs) (ms := ms) (k := k) o
      have hfin : k = N → ∃ O', runG O' cs a B' xs fs ms N = runG O cs a B' xs fs ms k := fun e => by subst e; exact ⟨O, rfl⟩
      simp only
      generalize hs : runG O cs a B' xs fs ms k = s at *
      obtain ⟨⟨M, last⟩, out⟩ := s
      simp only at hok hnx hfin ⊢
      obtain ⟨hM, hlast, ho, hokM⟩ := hok
      by_cases hlt : k < N
      rotate_left
      · have hI : ((k : Int) < (N : Int)) = False := eq_false (by omega)
        obtain ⟨O', hO⟩ := hfin (by omega)
        try simp -dsimp (maxSteps := 1000000) only [go_sem, List.forall_mem_nil, ↓reduceIte, Nat.reduceEqDiff, Nat.reduceLT, Nat.reduceLeDiff, Nat.reduceAdd, Nat.reduceMul, reduceCtorEq, Try.f28, hI, tM_len, tI_len, rowsC_len]
        repeat' (first
          | ((with_reducible refine sl_i ?_ ?_); focus kernel_rfl)
          | ((with_reducible refine ro_i ?_ ?_); focus kernel_rfl)
          | ((with_reducible refine sl_e ?_); kernel_rfl)
          | ((with_reducible refine ro_e ?_); kernel_rfl)
          | ((first | (with_reducible refine gS_d ?_ ?_) | (with_reducible refine gS_dn ?_ ?_) | (with_reducible refine gS_i ?_ ?_)) <;> intro hg <;> (try simp -dsimp (maxSteps := 1000000) only [go_sem, List.forall_mem_nil, ↓reduceIte, Nat.reduceEqDiff, Nat.reduceLT, Nat.reduceLeDiff, Nat.reduceAdd, Nat.reduceMul, reduceCtorEq, Try.f28, hI, tM_len, tI_len, rowsC_len, *])))
        refine finF_i [] ?_
        simp -dsimp (maxSteps := 1000000) only [go_sem, List.forall_mem_nil, ↓reduceIte, Nat.reduceEqDiff, Nat.reduceLT, Nat.reduceLeDiff, Nat.reduceAdd, Nat.reduceMul, reduceCtorEq]
        refine ⟨O', ?_⟩
        simp only [hc, if_true, hO]
        refine ⟨trivial, [7, 8, 6], ?_, ?_, ?_, rfl⟩ <;> simp [rtOk]
      have hI : ((k : Int) < (N : Int)) = True := by simp; omega
      have hwr := lt_sm hN hlt
      obtain ⟨x1, x2⟩ : ∃ x1 x2, xs.getD k (0, 0) = (x1, x2) := ⟨_, _, rfl⟩
      obtain ⟨x2, hx⟩ := x2
      have hrun := run_stepRackG (ms := M) (cs := cs) (fs := fs) (i := (k : Int)) (last := last) (by omega) h2 hokM (fun c hc => by rw [hM]; exact ⟨(cr c hc).1, (cr c hc).2.1⟩) h4 (by omega) a x1 x2
      simp only [hsG] at hrun
      have hrS : ∀ o, (tI (rowsZ (stepRackG (becF fs (k : Int) last) o cs a (x1, x2) M).2))[B']? = some [T.im (.cpx .f32 ((stepRackG (becF fs (k : Int) last) o cs a (x1, x2) M).2.getD B' (0, 0)).1 ((stepRackG (becF fs (k : Int) last) o cs a (x1, x2) M).2.getD B' (0, 0)).2)] := fun o => by
        have hl : B' < (stepRackG (becF fs (k : Int) last) o cs a (x1, x2) M).2.length := by rw [stepRackG_len.2, hM]; exact hb
        rw [tIZ_at (List.getElem?_eq_getElem hl), List.getD_eq_getElem?_getD, List.getElem?_eq_getElem hl]
        rfl
      have hIb : ((B' : Int) < (M.length : Int)) = True := by simp; omega
      have h0b : (0 ≤ (B' : Int)) = True := by simp
      have hby : ∀ q : Pt, ((out ++ [q]).length * 8 ≤ 140737488355328) = True := fun q => bytes_sm (by simp; omega) (by decide)
      rw [hx] at hnx
      simp only [Int.toNat_natCast] at hnx
      try simp -dsimp (maxSteps := 1000000) only [go_sem, List.forall_mem_nil, ↓reduceIte, Nat.reduceEqDiff, Nat.reduceLT, Nat.reduceLeDiff, Nat.reduceAdd, Nat.reduceMul, reduceCtorEq, Try.f28, hI, hx, run_sample h3 k, hrun, oRkG, hsG, ne_orN, hrS, hIb, h0b, hwr, hby, MvB_M, MvB_C, MvB_Z, tI_len, rowsZ_len, appendH, srcRows, List.take_succ_cons, List.take_zero, List.all_cons, List.all_nil, okT, Bool.and_true, tIZ_app, Int.toNat_natCast]
      repeat' (first
        | ((with_reducible refine sl_i ?_ ?_); focus kernel_rfl)
        | ((with_reducible refine ro_i ?_ ?_); focus kernel_rfl)
        | ((with_reducible refine sl_e ?_); kernel_rfl)
        | ((with_reducible refine ro_e ?_); kernel_rfl)
        | ((first | (with_reducible refine gS_d ?_ ?_) | (with_reducible refine gS_dn ?_ ?_) | (with_reducible refine gS_i ?_ ?_)) <;> intro hg <;> (try simp -dsimp (maxSteps := 1000000) only [go_sem, List.forall_mem_nil, ↓reduceIte, Nat.reduceEqDiff, Nat.reduceLT, Nat.reduceLeDiff, Nat.reduceAdd, Nat.reduceMul, reduceCtorEq, Try.f28, hI, hx, run_sample h3 k, hrun, oRkG, hsG, ne_orN, hrS, hIb, h0b, hwr, hby, MvB_M, MvB_C, MvB_Z, tI_len, rowsZ_len, appendH, srcRows, List.take_succ_cons, List.take_zero, List.all_cons, List.all_nil, okT, Bool.and_true, tIZ_app, Int.toNat_natCast, *])))
      intro o1
      try simp -dsimp (maxSteps := 1000000) only [go_sem, List.forall_mem_nil, ↓reduceIte, Nat.reduceEqDiff, Nat.reduceLT, Nat.reduceLeDiff, Nat.reduceAdd, Nat.reduceMul, reduceCtorEq, Try.f28]
      repeat' (first
        | ((with_reducible refine sl_i ?_ ?_); focus kernel_rfl)
        | ((with_reducible refine ro_i ?_ ?_); focus kernel_rfl)
        | ((with_reducible refine sl_e ?_); kernel_rfl)
        | ((with_reducible refine ro_e ?_); kernel_rfl)
        | ((first | (with_reducible refine gS_d ?_ ?_) | (with_reducible refine gS_dn ?_ ?_) | (with_reducible refine gS_i ?_ ?_)) <;> intro hg <;> (try simp -dsimp (maxSteps := 1000000) only [go_sem, List.forall_mem_nil, ↓reduceIte, Nat.reduceEqDiff, Nat.reduceLT, Nat.reduceLeDiff, Nat.reduceAdd, Nat.reduceMul, reduceCtorEq, Try.f28, *])))
      refine ⟨⟨(k + 1, fun i => if i = k then o1 else O i), by simp only []; omega⟩, by simp only []; omega, [.fold 5 0 0], [1, 2, 3, 4, 5, 73], ?_⟩
      simp only [hnx o1]
      ((simp only [ne_eq, eq_self, subF, folds, wk1, subOk, sOk, hOk, nms, reF, rho, mapD, mapC, mapC1, NmD, NmC, NmC1, mapR, mapB, mapTt, NmR, NmB, NmT, MvRb, MvRn, MvRt, lk, ins, Root.get, Root.setT, List.map_cons, List.map_nil, List.nodup_cons, List.nodup_nil, List.not_mem_nil, List.mem_cons, not_false_eq_true, and_self, and_true, true_and, true_or, or_true, false_or, or_false, ↓reduceIte, Nat.reduceEqDiff, Nat.reduceLT, Nat.reduceLeDiff, reduceCtorEq, Option.isSome_some, List.forall_mem_cons, List.forall_mem_nil, implies_true, forall_const, Nat.le_refl, Nat.zero_le, false_implies, List.mem_singleton, MvB_im, MvB_nil, Mv_im, Option.some.injEq, D.c.injEq, C.im.injEq, I.int.injEq, List.getElem?_cons_zero, List.getElem?_cons_succ, List.set_cons_zero, List.set_cons_succ, List.length_cons, List.length_nil, Nat.zero_add, MvRt, MvB_M, MvB_C, MvB_Z, Option.map_some, forall_eq_or_imp, forall_eq, tI_len, rowsZ_len, stepRackG_len.2]) <;> (try (simp -dsimp only [ne_eq, eq_self, subF, folds, wk1, subOk, sOk, hOk, nms, reF, rho, mapD, mapC, mapC1, NmD, NmC, NmC1, mapR, mapB, mapTt, NmR, NmB, NmT, MvRb, MvRn, MvRt, lk, ins, Root.get, Root.setT, List.map_cons, List.map_nil, List.nodup_cons, List.nodup_nil, List.not_mem_nil, List.mem_cons, not_false_eq_true, and_self, and_true, true_and, true_or, or_true, false_or, or_false, ↓reduceIte, Nat.reduceEqDiff, Nat.reduceLT, Nat.reduceLeDiff, reduceCtorEq, Option.isSome_some, List.forall_mem_cons, List.forall_mem_nil, implies_true, forall_const, Nat.le_refl, Nat.zero_le, false_implies, List.mem_singleton, MvB_im, MvB_nil, Mv_im, Option.some.injEq, D.c.injEq, C.im.injEq, I.int.injEq, List.getElem?_cons_zero, List.getElem?_cons_succ, List.set_cons_zero, List.set_cons_succ, List.length_cons, List.length_nil, Nat.zero_add, MvRt, MvB_M, MvB_C, MvB_Z, Option.map_some, forall_eq_or_imp, forall_eq, tI_len, rowsZ_len, stepRackG_len.2])))
      all_goals simp [lk, MvB_im, MvB_M, MvB_C, MvB_Z]
end Go.SX
