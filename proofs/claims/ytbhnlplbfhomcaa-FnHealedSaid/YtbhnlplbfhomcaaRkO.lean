/-
  copyRack.
  No condition.
-/
import Derived.Test.YtbhnlplbfhomcaaRkN
set_option linter.unusedVariables false
set_option linter.unusedSimpArgs false
namespace Go.SX
open Go Go.Proofs

def tM (ms : List Mod) : List (List T) := ms.map modT
theorem tM_len (ms : List Mod) : (tM ms).length = ms.length := by simp [tM]
theorem lentR_tM (ms : List Mod) {sz : Nat} : lentR (.arr sz (tM ms)) = [] := by
  simp only [lentR, tM, List.flatMap_eq_nil_iff, List.mem_map]
  rintro r ⟨m, _, rfl⟩ t ht
  simp only [modT, List.mem_cons, List.not_mem_nil, or_false] at ht
  rcases ht with rfl | rfl | rfl | rfl | rfl | rfl | rfl | rfl | rfl | rfl | rfl <;> rfl
attribute [go_sem] lentR_tM
theorem mv_own {sc : Bool} {sz : Nat} {rows : List (List I)} (h : ∀ r ∈ rows, ∀ i ∈ r, scI i = true) : Mv sc (.own sz (tI rows)) := .own _ _ (mvR_tI (sz := sz) h)
theorem mv_modT {sc : Bool} (m : Mod) : ∀ t ∈ modT m, Mv sc t := by
  intro t ht
  simp only [modT, List.mem_cons, List.not_mem_nil, or_false] at ht
  rcases ht with rfl | rfl | rfl | rfl | rfl | rfl | rfl | rfl | rfl | rfl | rfl <;> first | exact .im _ (.inr rfl) | exact mv_own (sc_rowsZ _) | exact mv_own (sc_rowsN _)
theorem mvR_tM {sc : Bool} {sz : Nat} (ms : List Mod) : MvR sc (.arr sz (tM ms)) := by
  intro r hr t ht
  simp only [tM, List.mem_map] at hr
  obtain ⟨m, _, rfl⟩ := hr
  exact mv_modT m t ht
theorem MvB_M (ms : List Mod) : MvB false (.t (.own 11 (tM ms))) = True := eq_true (.t _ (.own _ _ (mvR_tM (sz := 11) ms)))
theorem MvB_C (cs : List Cbl) : MvB false (.t (.own 2 (tI (rowsC cs)))) = True := eq_true (.t _ (mv_own (sc_rowsC _)))
def rRack (ms : List Mod) (cs : List Cbl) : Res := { val := .agg [.view 0 11 0 ms.length, .view 1 2 0 cs.length], roots := [.arr 11 (tM ms), .arr 2 (tI (rowsC cs))] }
theorem okR_rack {sc : Bool} {ms : List Mod} {cs : List Cbl} : OkR sc (rRack ms cs) := by
  refine ⟨.agg _ (fun x hx => ?_), fun r hr => ?_, by simp [rRack]⟩
  · simp [rRack] at hx ⊢
    rcases hx with rfl | rfl <;> exact .view _ _ _ _ (by simp)
  · simp [rRack] at hr
    rcases hr with rfl | rfl
    · exact mvR_tM _
    · exact mvR_tI (sc_rowsC _)
noncomputable def ct_copyRack : Ct := fam true (fun x : ARo => ([.agg [.im (.sl 11 (rowsM x.ms)), .im (.sl 2 (rowsC x.cs))]], [])) (fun x => .one (rRack x.ms x.cs))
theorem run_copyRack {ms : List Mod} {cs : List Cbl} (h1 : ms.length ≤ sm) (h2 : cs.length ≤ sm) (h5 : ∀ m ∈ ms, OkM m) : ct_copyRack.run [.agg [.im (.sl 11 (rowsM ms)), .im (.sl 2 (rowsC cs))]] [] = some (.one (rRack ms cs)) := by
  refine fam_run' (args := fun x : ARo => ([D.agg [.im (.sl 11 (rowsM x.ms)), .im (.sl 2 (rowsC x.cs))]], [])) ?_ ⟨ms, cs, h1, h2, h5⟩
  rintro ⟨a, b, _, _, _⟩ ⟨a', b', _, _, _⟩ h
  simp [rowsM_eq, rowsC_eq] at h ⊢
  exact h
theorem bytes_big {n k : Nat} (h : n ≤ sm + 1) (hk : k ≤ 4096) : (n * k ≤ 140737488355328) = True := by
  have : sm = 16777216 := rfl
  simp only [eq_iff_iff, iff_true]
  calc n * k ≤ 16777217 * 4096 := Nat.mul_le_mul (by omega) hk
    _ ≤ _ := by decide
theorem app_at {α : Type} {l : List α} {k : Nat} (h : l.length = k) (a : α) : (l ++ [a])[k]? = some a := by subst h; simp
theorem app_set {α : Type} {l : List α} {k : Nat} (h : l.length = k) (a b : α) : (l ++ [a]).set k b = l ++ [b] := by subst h; simp
theorem app_len {α : Type} {l : List α} {k : Nat} (h : l.length = k) (a : α) : (l ++ [a]).length = k + 1 := by subst h; simp
set_option maxRecDepth 100000 in
set_option maxHeartbeats 8000000 in
theorem law_copyRack : Law Try.prog 43 ct_copyRack := by
  refine fam_law (Env_cons law_copyModule (Env_cons law_Clone_Cable Env_nil)) hmixA Try.func43 rfl rfl (fun ⟨ms, cs, h1, h2, h5⟩ => ⟨okO okR_rack, by simp [Try.f43], ?_⟩)
  simp only [rRack]
  try simp -dsimp (maxSteps := 1000000) only [go_sem, List.forall_mem_nil, ↓reduceIte, Nat.reduceEqDiff, Nat.reduceLT, Nat.reduceLeDiff, Nat.reduceAdd, Nat.reduceMul, reduceCtorEq, Try.f43, rowsM_len, rowsC_len, run_Clone_Cable h2, rNew]
  repeat' (first
    | ((with_reducible refine sl_i ?_ ?_); focus kernel_rfl)
    | ((with_reducible refine ro_i ?_ ?_); focus kernel_rfl)
    | ((with_reducible refine sl_e ?_); kernel_rfl)
    | ((with_reducible refine ro_e ?_); kernel_rfl)
    | ((first | (with_reducible refine gS_d ?_ ?_) | (with_reducible refine gS_dn ?_ ?_) | (with_reducible refine gS_i ?_ ?_)) <;> intro hg <;> (try simp -dsimp (maxSteps := 1000000) only [go_sem, List.forall_mem_nil, ↓reduceIte, Nat.reduceEqDiff, Nat.reduceLT, Nat.reduceLeDiff, Nat.reduceAdd, Nat.reduceMul, reduceCtorEq, Try.f43, rowsM_len, rowsC_len, run_Clone_Cable h2, rNew, *])))
  by_cases hz : ms.length = 0
  · refine loop_i (ι := Unit) (fun _ => ⟨[(2, some (.c (.ptr 1 0 0 0))), (3, some (.c (.ptr 3 0 0 0))), (11, some (.c (.im (.sl 11 (rowsM ms))))), (12, some (.c (.im (.int .i64 (ms.length : Int))))), (13, some (.c (.im (.int .i64 (0 : Int)))))],
      [(1, some (.box [.t .nil, .t .nil])), (3, some (.box [.t (.own 11 []), .t (.lent 2 2 cs.length)])), (2, some (.arr 2 (tI (rowsC cs))))], 4⟩) (fun _ => 0) () ⟨[.nilT 3 0 0 11], [], by ((simp only [ne_eq, eq_self, subF, folds, wk1, subOk, sOk, hOk, nms, reF, rho, mapD, mapC, mapC1, NmD, NmC, NmC1, mapR, mapB, mapTt, NmR, NmB, NmT, MvRb, MvRn, MvRt, lk, ins, Root.get, Root.setT, List.map_cons, List.map_nil, List.nodup_cons, List.nodup_nil, List.not_mem_nil, List.mem_cons, not_false_eq_true, and_self, and_true, true_and, true_or, or_true, false_or, or_false, ↓reduceIte, Nat.reduceEqDiff, Nat.reduceLT, Nat.reduceLeDiff, reduceCtorEq, Option.isSome_some, List.forall_mem_cons, List.forall_mem_nil, implies_true, forall_const, Nat.le_refl, Nat.zero_le, false_implies, List.mem_singleton, MvB_im, MvB_nil, Mv_im, Option.some.injEq, D.c.injEq, C.im.injEq, I.int.injEq, List.getElem?_cons_zero, List.getElem?_cons_succ, List.set_cons_zero, List.set_cons_succ, List.length_cons, List.length_nil, Nat.zero_add, Option.map_some, forall_eq_or_imp, forall_eq, tI_len, rowsC_len]) <;> (try (simp -dsimp only [ne_eq, eq_self, subF, folds, wk1, subOk, sOk, hOk, nms, reF, rho, mapD, mapC, mapC1, NmD, NmC, NmC1, mapR, mapB, mapTt, NmR, NmB, NmT, MvRb, MvRn, MvRt, lk, ins, Root.get, Root.setT, List.map_cons, List.map_nil, List.nodup_cons, List.nodup_nil, List.not_mem_nil, List.mem_cons, not_false_eq_true, and_self, and_true, true_and, true_or, or_true, false_or, or_false, ↓reduceIte, Nat.reduceEqDiff, Nat.reduceLT, Nat.reduceLeDiff, reduceCtorEq, Option.isSome_some, List.forall_mem_cons, List.forall_mem_nil, implies_true, forall_const, Nat.le_refl, Nat.zero_le, false_implies, List.mem_singleton, MvB_im, MvB_nil, Mv_im, Option.some.injEq, D.c.injEq, C.im.injEq, I.int.injEq, List.getElem?_cons_zero, List.getElem?_cons_succ, List.set_cons_zero, List.set_cons_succ, List.length_cons, List.length_nil, Nat.zero_add, Option.map_some, forall_eq_or_imp, forall_eq, tI_len, rowsC_len]))) <;> simp [lk, MvB_im]⟩ (fun _ => ?_)
    have hI : (((0 : Int)) < (ms.length : Int)) = False := by rw [hz]; simp
    have hnl : ms = [] := List.eq_nil_of_length_eq_zero hz
    try simp -dsimp (maxSteps := 1000000) only [go_sem, List.forall_mem_nil, ↓reduceIte, Nat.reduceEqDiff, Nat.reduceLT, Nat.reduceLeDiff, Nat.reduceAdd, Nat.reduceMul, reduceCtorEq, Try.f43, hI]
    repeat' (first
      | ((with_reducible refine sl_i ?_ ?_); focus kernel_rfl)
      | ((with_reducible refine ro_i ?_ ?_); focus kernel_rfl)
      | ((with_reducible refine sl_e ?_); kernel_rfl)
      | ((with_reducible refine ro_e ?_); kernel_rfl)
      | ((first | (with_reducible refine gS_d ?_ ?_) | (with_reducible refine gS_dn ?_ ?_) | (with_reducible refine gS_i ?_ ?_)) <;> intro hg <;> (try simp -dsimp (maxSteps := 1000000) only [go_sem, List.forall_mem_nil, ↓reduceIte, Nat.reduceEqDiff, Nat.reduceLT, Nat.reduceLeDiff, Nat.reduceAdd, Nat.reduceMul, reduceCtorEq, Try.f43, hI, *])))
    refine ⟨[4, 2], ?_, ?_, ?_, by rw [hz]; rfl, rfl⟩ <;> simp [rtOk, hnl, tM]
  refine loop_i (ι := { k : Nat // k ≤ ms.length }) (fun k => match k with
    | ⟨0, _⟩ => ⟨[(2, some (.c (.ptr 1 0 0 0))), (3, some (.c (.ptr 3 0 0 0))), (11, some (.c (.im (.sl 11 (rowsM ms))))), (12, some (.c (.im (.int .i64 (ms.length : Int))))), (13, some (.c (.im (.int .i64 0))))],
      [(1, some (.box [.t .nil, .t .nil])), (3, some (.box [.t .nil, .t (.lent 2 2 cs.length)])), (2, some (.arr 2 (tI (rowsC cs))))], 4⟩
    | ⟨k + 1, _⟩ => ⟨[(2, some (.c (.ptr 1 0 0 0))), (3, some (.c (.ptr 3 0 0 0))), (11, some (.c (.im (.sl 11 (rowsM ms))))), (12, some (.c (.im (.int .i64 (ms.length : Int))))), (13, some (.c (.im (.int .i64 ((k + 1 : Nat) : Int)))))],
      [(1, some (.box [.t .nil, .t .nil])), (3, some (.box [.t (.lent 45 11 (k + 1)), .t (.lent 2 2 cs.length)])), (2, some (.arr 2 (tI (rowsC cs)))), (45, some (.arr 11 (tM (ms.take (k + 1)))))], 46⟩) (fun k => ms.length - k.1) ⟨0, by simp⟩ ⟨[], [], by ((simp only [ne_eq, eq_self, subF, folds, wk1, subOk, sOk, hOk, nms, reF, rho, mapD, mapC, mapC1, NmD, NmC, NmC1, mapR, mapB, mapTt, NmR, NmB, NmT, MvRb, MvRn, MvRt, lk, ins, Root.get, Root.setT, List.map_cons, List.map_nil, List.nodup_cons, List.nodup_nil, List.not_mem_nil, List.mem_cons, not_false_eq_true, and_self, and_true, true_and, true_or, or_true, false_or, or_false, ↓reduceIte, Nat.reduceEqDiff, Nat.reduceLT, Nat.reduceLeDiff, reduceCtorEq, Option.isSome_some, List.forall_mem_cons, List.forall_mem_nil, implies_true, forall_const, Nat.le_refl, Nat.zero_le, false_implies, List.mem_singleton, MvB_im, MvB_nil, Mv_im, Option.some.injEq, D.c.injEq, C.im.injEq, I.int.injEq, List.getElem?_cons_zero, List.getElem?_cons_succ, List.set_cons_zero, List.set_cons_succ, List.length_cons, List.length_nil, Nat.zero_add, tI_len, rowsC_len]) <;> (try (simp -dsimp only [ne_eq, eq_self, subF, folds, wk1, subOk, sOk, hOk, nms, reF, rho, mapD, mapC, mapC1, NmD, NmC, NmC1, mapR, mapB, mapTt, NmR, NmB, NmT, MvRb, MvRn, MvRt, lk, ins, Root.get, Root.setT, List.map_cons, List.map_nil, List.nodup_cons, List.nodup_nil, List.not_mem_nil, List.mem_cons, not_false_eq_true, and_self, and_true, true_and, true_or, or_true, false_or, or_false, ↓reduceIte, Nat.reduceEqDiff, Nat.reduceLT, Nat.reduceLeDiff, reduceCtorEq, Option.isSome_some, List.forall_mem_cons, List.forall_mem_nil, implies_true, forall_const, Nat.le_refl, Nat.zero_le, false_implies, List.mem_singleton, MvB_im, MvB_nil, Mv_im, Option.some.injEq, D.c.injEq, C.im.injEq, I.int.injEq, List.getElem?_cons_zero, List.getElem?_cons_succ, List.set_cons_zero, List.set_cons_succ, List.length_cons, List.length_nil, Nat.zero_add, tI_len, rowsC_len]))) <;> simp [lk, MvB_im]⟩ (fun ⟨k, hk⟩ => ?_)
  by_cases hlt : k < ms.length
  · obtain ⟨m, hp⟩ : ∃ p, ms[k]? = some p := ⟨_, List.getElem?_eq_getElem hlt⟩
    have hrow := rowsM_at hp
    have hI : ((k : Int) < (ms.length : Int)) = True := by simp; omega
    have h0 : (0 ≤ (k : Int)) = True := by simp
    have hwr := lt_sm h1 hlt
    obtain ⟨q1, q2, q3⟩ := h5 m (List.mem_of_getElem? hp)
    have hlk : (tM (ms.take k)).length = k := by rw [tM_len, List.length_take]; omega
    have hsn : tM (ms.take (k + 1)) = tM (ms.take k) ++ [modT m] := by rw [take_snoc hp]; simp [tM]
    have hby : ((k + 1) * 136 ≤ 140737488355328) = True := bytes_big (by omega) (by decide)
    have hmv : MvR false (.arr 11 (tM (ms.take (k + 1)))) = True := eq_true (mvR_tM _)
    rw [hsn] at hmv
    simp only [modT] at hsn hmv
    have ha := app_at hlk
    have hs := app_set hlk
    have hl := app_len hlk
    cases k with
    | zero =>
      have hsn1 : tM (ms.take 1) = _ := hsn
      rw [show tM (ms.take 0) = [] from rfl, List.nil_append] at hsn1
      have hmv1 : MvR false (.arr 11 (tM (ms.take 1))) = True := eq_true (mvR_tM _)
      rw [hsn1] at hmv1
      clear ha hs hl hlk hmv hsn
      simp only [Int.natCast_zero] at hI h0
      try simp -dsimp (maxSteps := 1000000) only [go_sem, List.forall_mem_nil, ↓reduceIte, Nat.reduceEqDiff, Nat.reduceLT, Nat.reduceLeDiff, Nat.reduceAdd, Nat.reduceMul, reduceCtorEq, Try.f43, hI, h0, Int.toNat_natCast, hrow, run_copyModule q1 q2 q3, rMod, hwr, hby, appendH, srcRows, List.take_succ_cons, List.take_zero, List.all_cons, List.all_nil, okT, Bool.and_true]
      repeat' (first
        | ((with_reducible refine sl_i ?_ ?_); focus kernel_rfl)
        | ((with_reducible refine ro_i ?_ ?_); focus kernel_rfl)
        | ((with_reducible refine sl_e ?_); kernel_rfl)
        | ((with_reducible refine ro_e ?_); kernel_rfl)
        | ((first | (with_reducible refine gS_d ?_ ?_) | (with_reducible refine gS_dn ?_ ?_) | (with_reducible refine gS_i ?_ ?_)) <;> intro hg <;> (try simp -dsimp (maxSteps := 1000000) only [go_sem, List.forall_mem_nil, ↓reduceIte, Nat.reduceEqDiff, Nat.reduceLT, Nat.reduceLeDiff, Nat.reduceAdd, Nat.reduceMul, reduceCtorEq, Try.f43, hI, h0, Int.toNat_natCast, hrow, run_copyModule q1 q2 q3, rMod, hwr, hby, appendH, srcRows, List.take_succ_cons, List.take_zero, List.all_cons, List.all_nil, okT, Bool.and_true, *])))
      refine ⟨⟨0 + 1, by omega⟩, by simp only []; omega, [.fold 45 0 4, .fold 45 0 7, .fold 45 0 8], [], ?_⟩
      ((simp only [ne_eq, eq_self, subF, folds, wk1, subOk, sOk, hOk, nms, reF, rho, mapD, mapC, mapC1, NmD, NmC, NmC1, mapR, mapB, mapTt, NmR, NmB, NmT, MvRb, MvRn, MvRt, lk, ins, Root.get, Root.setT, List.map_cons, List.map_nil, List.nodup_cons, List.nodup_nil, List.not_mem_nil, List.mem_cons, not_false_eq_true, and_self, and_true, true_and, true_or, or_true, false_or, or_false, ↓reduceIte, Nat.reduceEqDiff, Nat.reduceLT, Nat.reduceLeDiff, reduceCtorEq, Option.isSome_some, List.forall_mem_cons, List.forall_mem_nil, implies_true, forall_const, Nat.le_refl, Nat.zero_le, false_implies, List.mem_singleton, MvB_im, MvB_nil, Mv_im, Option.some.injEq, D.c.injEq, C.im.injEq, I.int.injEq, List.getElem?_cons_zero, List.getElem?_cons_succ, List.set_cons_zero, List.set_cons_succ, List.length_cons, List.length_nil, Nat.zero_add, Option.map_some, forall_eq_or_imp, forall_eq, hsn1, hmv1, tI_len, rowsZ_len, rowsN_len]) <;> (try (simp -dsimp only [ne_eq, eq_self, subF, folds, wk1, subOk, sOk, hOk, nms, reF, rho, mapD, mapC, mapC1, NmD, NmC, NmC1, mapR, mapB, mapTt, NmR, NmB, NmT, MvRb, MvRn, MvRt, lk, ins, Root.get, Root.setT, List.map_cons, List.map_nil, List.nodup_cons, List.nodup_nil, List.not_mem_nil, List.mem_cons, not_false_eq_true, and_self, and_true, true_and, true_or, or_true, false_or, or_false, ↓reduceIte, Nat.reduceEqDiff, Nat.reduceLT, Nat.reduceLeDiff, reduceCtorEq, Option.isSome_some, List.forall_mem_cons, List.forall_mem_nil, implies_true, forall_const, Nat.le_refl, Nat.zero_le, false_implies, List.mem_singleton, MvB_im, MvB_nil, Mv_im, Option.some.injEq, D.c.injEq, C.im.injEq, I.int.injEq, List.getElem?_cons_zero, List.getElem?_cons_succ, List.set_cons_zero, List.set_cons_succ, List.length_cons, List.length_nil, Nat.zero_add, Option.map_some, forall_eq_or_imp, forall_eq, hsn1, hmv1, tI_len, rowsZ_len, rowsN_len])))
      simp [IntKind.wrap, IntKind.bits]
    | succ k =>
      try simp -dsimp (maxSteps := 1000000) only [go_sem, List.forall_mem_nil, ↓reduceIte, Nat.reduceEqDiff, Nat.reduceLT, Nat.reduceLeDiff, Nat.reduceAdd, Nat.reduceMul, reduceCtorEq, Try.f43, hI, h0, Int.toNat_natCast, hrow, run_copyModule q1 q2 q3, rMod, hwr, hlk, hl, hby, appendH, srcRows, List.take_succ_cons, List.take_zero, List.all_cons, List.all_nil, okT, Bool.and_true]
      repeat' (first
        | ((with_reducible refine sl_i ?_ ?_); focus kernel_rfl)
        | ((with_reducible refine ro_i ?_ ?_); focus kernel_rfl)
        | ((with_reducible refine sl_e ?_); kernel_rfl)
        | ((with_reducible refine ro_e ?_); kernel_rfl)
        | ((first | (with_reducible refine gS_d ?_ ?_) | (with_reducible refine gS_dn ?_ ?_) | (with_reducible refine gS_i ?_ ?_)) <;> intro hg <;> (try simp -dsimp (maxSteps := 1000000) only [go_sem, List.forall_mem_nil, ↓reduceIte, Nat.reduceEqDiff, Nat.reduceLT, Nat.reduceLeDiff, Nat.reduceAdd, Nat.reduceMul, reduceCtorEq, Try.f43, hI, h0, Int.toNat_natCast, hrow, run_copyModule q1 q2 q3, rMod, hwr, hlk, hl, hby, appendH, srcRows, List.take_succ_cons, List.take_zero, List.all_cons, List.all_nil, okT, Bool.and_true, *])))
      refine ⟨⟨k + 1 + 1, by omega⟩, by simp only []; omega, [.fold 87 (k + 1) 4, .fold 87 (k + 1) 7, .fold 87 (k + 1) 8], [1, 3, 2, 87], ?_⟩
      ((simp only [ne_eq, eq_self, subF, folds, wk1, subOk, sOk, hOk, nms, reF, rho, mapD, mapC, mapC1, NmD, NmC, NmC1, mapR, mapB, mapTt, NmR, NmB, NmT, MvRb, MvRn, MvRt, lk, ins, Root.get, Root.setT, List.map_cons, List.map_nil, List.nodup_cons, List.nodup_nil, List.not_mem_nil, List.mem_cons, not_false_eq_true, and_self, and_true, true_and, true_or, or_true, false_or, or_false, ↓reduceIte, Nat.reduceEqDiff, Nat.reduceLT, Nat.reduceLeDiff, reduceCtorEq, Option.isSome_some, List.forall_mem_cons, List.forall_mem_nil, implies_true, forall_const, Nat.le_refl, Nat.zero_le, false_implies, List.mem_singleton, MvB_im, MvB_nil, Mv_im, Option.some.injEq, D.c.injEq, C.im.injEq, I.int.injEq, List.getElem?_cons_zero, List.getElem?_cons_succ, List.set_cons_zero, List.set_cons_succ, List.length_cons, List.length_nil, Nat.zero_add, Option.map_some, forall_eq_or_imp, forall_eq, hsn, ha, hs, hl, hmv, tI_len, rowsZ_len, rowsN_len]) <;> (try (simp -dsimp only [ne_eq, eq_self, subF, folds, wk1, subOk, sOk, hOk, nms, reF, rho, mapD, mapC, mapC1, NmD, NmC, NmC1, mapR, mapB, mapTt, NmR, NmB, NmT, MvRb, MvRn, MvRt, lk, ins, Root.get, Root.setT, List.map_cons, List.map_nil, List.nodup_cons, List.nodup_nil, List.not_mem_nil, List.mem_cons, not_false_eq_true, and_self, and_true, true_and, true_or, or_true, false_or, or_false, ↓reduceIte, Nat.reduceEqDiff, Nat.reduceLT, Nat.reduceLeDiff, reduceCtorEq, Option.isSome_some, List.forall_mem_cons, List.forall_mem_nil, implies_true, forall_const, Nat.le_refl, Nat.zero_le, false_implies, List.mem_singleton, MvB_im, MvB_nil, Mv_im, Option.some.injEq, D.c.injEq, C.im.injEq, I.int.injEq, List.getElem?_cons_zero, List.getElem?_cons_succ, List.set_cons_zero, List.set_cons_succ, List.length_cons, List.length_nil, Nat.zero_add, Option.map_some, forall_eq_or_imp, forall_eq, hsn, ha, hs, hl, hmv, tI_len, rowsZ_len, rowsN_len])))
  have hI : ((k : Int) < (ms.length : Int)) = False := by simp; omega
  have hkl : k = ms.length := by omega
  cases k with
  | zero => exact absurd hkl.symm hz
  | succ k =>
    have htk : ms.take (k + 1) = ms := by rw [hkl]; exact List.take_length
    have hlk : (tM ms).length = k + 1 := by rw [tM_len, hkl]
    simp only [htk]
    try simp -dsimp (maxSteps := 1000000) only [go_sem, List.forall_mem_nil, ↓reduceIte, Nat.reduceEqDiff, Nat.reduceLT, Nat.reduceLeDiff, Nat.reduceAdd, Nat.reduceMul, reduceCtorEq, Try.f43, hI, hlk, tI_len, rowsC_len]
    repeat' (first
      | ((with_reducible refine sl_i ?_ ?_); focus kernel_rfl)
      | ((with_reducible refine ro_i ?_ ?_); focus kernel_rfl)
      | ((with_reducible refine sl_e ?_); kernel_rfl)
      | ((with_reducible refine ro_e ?_); kernel_rfl)
      | ((first | (with_reducible refine gS_d ?_ ?_) | (with_reducible refine gS_dn ?_ ?_) | (with_reducible refine gS_i ?_ ?_)) <;> intro hg <;> (try simp -dsimp (maxSteps := 1000000) only [go_sem, List.forall_mem_nil, ↓reduceIte, Nat.reduceEqDiff, Nat.reduceLT, Nat.reduceLeDiff, Nat.reduceAdd, Nat.reduceMul, reduceCtorEq, Try.f43, hI, hlk, tI_len, rowsC_len, *])))
    rw [hkl]
    refine ⟨[_, _], ?_, ?_, ?_, rfl, rfl⟩ <;> simp [rtOk]
end Go.SX
