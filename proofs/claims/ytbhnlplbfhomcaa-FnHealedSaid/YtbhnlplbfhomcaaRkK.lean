/-
  The order of a rack.
  No condition.
-/
import Derived.Test.YtbhnlplbfhomcaaRkJ
set_option linter.unusedVariables false
set_option linter.unusedSimpArgs false
namespace Go.SX
open Go Go.Proofs

abbrev AI := { x : AO × List Cbl // x.2.length ≤ sm ∧ ∀ c ∈ x.2, 0 ≤ c.1 ∧ c.1 < x.1.ms.length }
noncomputable def ct_IndexFunc_Cable : Ct := fam false (fun x : AI => ([.c (.im (.sl 2 (rowsC x.1.2))), .c (.fn (.func 88) [.ptr 0 0 0 0, .ptr 1 0 0 0, .ptr 2 0 0 0])], hsO x.1.1.i x.1.1.ms x.1.1.cs x.1.1.out))
  (fun x => .one { val := .c (.im (.int .i64 (idxF (blocks x.1.1.ms x.1.1.out x.1.1.i) x.1.2 0))), places := hsO x.1.1.i x.1.1.ms x.1.1.cs x.1.1.out })
theorem AI_inj : ∀ a b : AI, ([D.c (.im (.sl 2 (rowsC a.1.2))), .c (.fn (.func 88) [.ptr 0 0 0 0, .ptr 1 0 0 0, .ptr 2 0 0 0])], hsO a.1.1.i a.1.1.ms a.1.1.cs a.1.1.out) = ([D.c (.im (.sl 2 (rowsC b.1.2))), .c (.fn (.func 88) [.ptr 0 0 0 0, .ptr 1 0 0 0, .ptr 2 0 0 0])], hsO b.1.1.i b.1.1.ms b.1.1.cs b.1.1.out) → a = b := by
  rintro ⟨⟨a, b⟩, c⟩ ⟨⟨a', b'⟩, c'⟩ h
  simp only [Prod.mk.injEq, List.cons.injEq, D.c.injEq, C.im.injEq, I.sl.injEq, true_and, and_true, rowsC_eq] at h
  have := hsO_inj h.2
  subst this
  simp [h.1]
theorem run_IndexFunc_Cable {i : Int} {ms : List Mod} {cs ds : List Cbl} {out : List Int} (h1 : ms.length ≤ sm) (h2 : cs.length ≤ sm) (h3 : out.length ≤ sm) (h4 : ds.length ≤ sm) (h5 : ∀ c ∈ ds, 0 ≤ c.1 ∧ c.1 < ms.length) :
    ct_IndexFunc_Cable.run [.c (.im (.sl 2 (rowsC ds))), .c (.fn (.func 88) [.ptr 0 0 0 0, .ptr 1 0 0 0, .ptr 2 0 0 0])] [[.t (.im (.int .i64 i))], [.t (.im (.sl 11 (rowsM ms))), .t (.im (.sl 2 (rowsC cs)))], [.t (.own 1 (tI (rowsN out)))]] =
      some (.one { val := .c (.im (.int .i64 (idxF (blocks ms out i) ds 0))), places := hsO i ms cs out }) :=
  fam_run' AI_inj ⟨(⟨i, ms, cs, out, h1, h2, h3⟩, ds), h4, h5⟩
theorem okR_hsOi {i : Int} {ms : List Mod} {cs : List Cbl} {out : List Int} {z : Int} : OkR false { val := .c (.im (.int .i64 z)), places := hsO i ms cs out } := ⟨okD_im rfl, by simp, mvB_hsO⟩
set_option maxRecDepth 100000 in
set_option maxHeartbeats 4000000 in
theorem law_IndexFunc_Cable : Law Try.prog 101 ct_IndexFunc_Cable := by
  refine fam_law (Env_cons law_order_1_1 Env_nil) hmixA Try.func101 rfl rfl (fun ⟨⟨⟨i, ms, cs, out, h1, h2, h3⟩, l⟩, hl, h5⟩ => ⟨okO okR_hsOi, by simp [Try.f101], ?_⟩)
  simp only at hl h5
  simp only [hsO]
  have hm1 : ∀ x, MvB false (.t (.im x)) = True := MvB_im
  have hm2 : MvB false (.t (.own 1 (tI (rowsN out)))) = True := eq_true (.t _ (.own _ _ (sc_false _ 1)))
  try simp -dsimp (maxSteps := 1000000) only [go_sem, List.forall_mem_nil, ↓reduceIte, Nat.reduceEqDiff, Nat.reduceLT, Nat.reduceLeDiff, Nat.reduceAdd, Nat.reduceMul, reduceCtorEq, Try.f101, rowsC_len]
  repeat' (first
    | ((with_reducible refine sl_i ?_ ?_); focus kernel_rfl)
    | ((with_reducible refine ro_i ?_ ?_); focus kernel_rfl)
    | ((with_reducible refine sl_e ?_); kernel_rfl)
    | ((with_reducible refine ro_e ?_); kernel_rfl)
    | ((first | (with_reducible refine gS_d ?_ ?_) | (with_reducible refine gS_dn ?_ ?_) | (with_reducible refine gS_i ?_ ?_)) <;> intro hg <;> (try simp -dsimp (maxSteps := 1000000) only [go_sem, List.forall_mem_nil, ↓reduceIte, Nat.reduceEqDiff, Nat.reduceLT, Nat.reduceLeDiff, Nat.reduceAdd, Nat.reduceMul, reduceCtorEq, Try.f101, rowsC_len, *])))
  refine loop_i (ι := { k : Nat // k ≤ l.length ∧ idxF (blocks ms out i) l 0 = idxF (blocks ms out i) (l.drop k) k }) (fun k => ⟨[(0, some (.c (.im (.sl 2 (rowsC l))))), (1, some (.c (.fn (.func 88) [.ptr 0 0 0 0, .ptr 1 0 0 0, .ptr 2 0 0 0]))), (7, some (.c (.im (.int .i64 (l.length : Int))))), (8, some (.c (.im (.int .i64 (k.1 : Int)))))],
    [(0, some (.box [.t (.im (.int .i64 i))])), (1, some (.box [.t (.im (.sl 11 (rowsM ms))), .t (.im (.sl 2 (rowsC cs)))])), (2, some (.box [.t (.own 1 (tI (rowsN out)))]))], 3⟩) (fun k => l.length - k.1) ⟨0, by simp⟩ ⟨[], [], by ((simp only [ne_eq, eq_self, subF, folds, wk1, subOk, sOk, hOk, nms, reF, rho, mapD, mapC, mapC1, NmD, NmC, NmC1, mapR, mapB, mapTt, NmR, NmB, NmT, MvRb, MvRn, MvRt, lk, ins, Root.get, Root.setT, List.map_cons, List.map_nil, List.nodup_cons, List.nodup_nil, List.not_mem_nil, List.mem_cons, not_false_eq_true, and_self, and_true, true_and, true_or, or_true, false_or, or_false, ↓reduceIte, Nat.reduceEqDiff, Nat.reduceLT, Nat.reduceLeDiff, reduceCtorEq, Option.isSome_some, List.forall_mem_cons, List.forall_mem_nil, implies_true, forall_const, Nat.le_refl, Nat.zero_le, false_implies, List.mem_singleton, MvB_im, MvB_nil, Mv_im, Option.some.injEq, D.c.injEq, C.im.injEq, I.int.injEq, List.getElem?_cons_zero, List.getElem?_cons_succ, List.set_cons_zero, List.set_cons_succ, List.length_cons, List.length_nil, Nat.zero_add, hm2]) <;> (try (simp -dsimp only [ne_eq, eq_self, subF, folds, wk1, subOk, sOk, hOk, nms, reF, rho, mapD, mapC, mapC1, NmD, NmC, NmC1, mapR, mapB, mapTt, NmR, NmB, NmT, MvRb, MvRn, MvRt, lk, ins, Root.get, Root.setT, List.map_cons, List.map_nil, List.nodup_cons, List.nodup_nil, List.not_mem_nil, List.mem_cons, not_false_eq_true, and_self, and_true, true_and, true_or, or_true, false_or, or_false, ↓reduceIte, Nat.reduceEqDiff, Nat.reduceLT, Nat.reduceLeDiff, reduceCtorEq, Option.isSome_some, List.forall_mem_cons, List.forall_mem_nil, implies_true, forall_const, Nat.le_refl, Nat.zero_le, false_implies, List.mem_singleton, MvB_im, MvB_nil, Mv_im, Option.some.injEq, D.c.injEq, C.im.injEq, I.int.injEq, List.getElem?_cons_zero, List.getElem?_cons_succ, List.set_cons_zero, List.set_cons_succ, List.length_cons, List.length_nil, Nat.zero_add, hm2]))) <;> simp [hm2]⟩ (fun ⟨k, hk, hinv⟩ => ?_)
  by_cases hlt : k < l.length
  · obtain ⟨p, hp⟩ : ∃ p, l[k]? = some p := ⟨_, List.getElem?_eq_getElem hlt⟩
    have hrow := rowsC_at hp
    have hI : ((k : Int) < (l.length : Int)) = True := by simp; omega
    have h0 : (0 ≤ (k : Int)) = True := by simp
    have hidx := idxF_drop (f := blocks ms out i) hp
    have hwr := lt_sm hl hlt
    obtain ⟨q1, q2⟩ := h5 p (List.mem_of_getElem? hp)
    obtain ⟨a, b⟩ := p
    simp only at q1 q2
    cases hq : blocks ms out i (a, b) with
    | true =>
      simp only [hq, if_true] at hidx
      rw [hidx] at hinv
      clear hidx
      try simp -dsimp (maxSteps := 1000000) only [go_sem, List.forall_mem_nil, ↓reduceIte, Nat.reduceEqDiff, Nat.reduceLT, Nat.reduceLeDiff, Nat.reduceAdd, Nat.reduceMul, reduceCtorEq, Try.f101, hI, h0, Int.toNat_natCast, hrow, run_order_1_1 h1 h2 h3 q1 q2, hm2, hq, hinv, hsO, rowsC_len]
      repeat' (first
        | ((with_reducible refine sl_i ?_ ?_); focus kernel_rfl)
        | ((with_reducible refine ro_i ?_ ?_); focus kernel_rfl)
        | ((with_reducible refine sl_e ?_); kernel_rfl)
        | ((with_reducible refine ro_e ?_); kernel_rfl)
        | ((first | (with_reducible refine gS_d ?_ ?_) | (with_reducible refine gS_dn ?_ ?_) | (with_reducible refine gS_i ?_ ?_)) <;> intro hg <;> (try simp -dsimp (maxSteps := 1000000) only [go_sem, List.forall_mem_nil, ↓reduceIte, Nat.reduceEqDiff, Nat.reduceLT, Nat.reduceLeDiff, Nat.reduceAdd, Nat.reduceMul, reduceCtorEq, Try.f101, hI, h0, Int.toNat_natCast, hrow, run_order_1_1 h1 h2 h3 q1 q2, hm2, hq, hinv, hsO, rowsC_len, *])))
    | false =>
      simp only [hq, if_false, Bool.false_eq_true] at hidx
      rw [hidx] at hinv
      clear hidx
      try simp -dsimp (maxSteps := 1000000) only [go_sem, List.forall_mem_nil, ↓reduceIte, Nat.reduceEqDiff, Nat.reduceLT, Nat.reduceLeDiff, Nat.reduceAdd, Nat.reduceMul, reduceCtorEq, Try.f101, hI, h0, Int.toNat_natCast, hrow, run_order_1_1 h1 h2 h3 q1 q2, hm2, hq, hwr, hsO, rowsC_len]
      repeat' (first
        | ((with_reducible refine sl_i ?_ ?_); focus kernel_rfl)
        | ((with_reducible refine ro_i ?_ ?_); focus kernel_rfl)
        | ((with_reducible refine sl_e ?_); kernel_rfl)
        | ((with_reducible refine ro_e ?_); kernel_rfl)
        | ((first | (with_reducible refine gS_d ?_ ?_) | (with_reducible refine gS_dn ?_ ?_) | (with_reducible refine gS_i ?_ ?_)) <;> intro hg <;> (try simp -dsimp (maxSteps := 1000000) only [go_sem, List.forall_mem_nil, ↓reduceIte, Nat.reduceEqDiff, Nat.reduceLT, Nat.reduceLeDiff, Nat.reduceAdd, Nat.reduceMul, reduceCtorEq, Try.f101, hI, h0, Int.toNat_natCast, hrow, run_order_1_1 h1 h2 h3 q1 q2, hm2, hq, hwr, hsO, rowsC_len, *])))
      exact ⟨⟨k + 1, by omega, hinv⟩, by simp only []; omega, [], [], by ((simp only [ne_eq, eq_self, subF, folds, wk1, subOk, sOk, hOk, nms, reF, rho, mapD, mapC, mapC1, NmD, NmC, NmC1, mapR, mapB, mapTt, NmR, NmB, NmT, MvRb, MvRn, MvRt, lk, ins, Root.get, Root.setT, List.map_cons, List.map_nil, List.nodup_cons, List.nodup_nil, List.not_mem_nil, List.mem_cons, not_false_eq_true, and_self, and_true, true_and, true_or, or_true, false_or, or_false, ↓reduceIte, Nat.reduceEqDiff, Nat.reduceLT, Nat.reduceLeDiff, reduceCtorEq, Option.isSome_some, List.forall_mem_cons, List.forall_mem_nil, implies_true, forall_const, Nat.le_refl, Nat.zero_le, false_implies, List.mem_singleton, MvB_im, MvB_nil, Mv_im, Option.some.injEq, D.c.injEq, C.im.injEq, I.int.injEq, List.getElem?_cons_zero, List.getElem?_cons_succ, List.set_cons_zero, List.set_cons_succ, List.length_cons, List.length_nil, Nat.zero_add, hm2]) <;> (try (simp -dsimp only [ne_eq, eq_self, subF, folds, wk1, subOk, sOk, hOk, nms, reF, rho, mapD, mapC, mapC1, NmD, NmC, NmC1, mapR, mapB, mapTt, NmR, NmB, NmT, MvRb, MvRn, MvRt, lk, ins, Root.get, Root.setT, List.map_cons, List.map_nil, List.nodup_cons, List.nodup_nil, List.not_mem_nil, List.mem_cons, not_false_eq_true, and_self, and_true, true_and, true_or, or_true, false_or, or_false, ↓reduceIte, Nat.reduceEqDiff, Nat.reduceLT, Nat.reduceLeDiff, reduceCtorEq, Option.isSome_some, List.forall_mem_cons, List.forall_mem_nil, implies_true, forall_const, Nat.le_refl, Nat.zero_le, false_implies, List.mem_singleton, MvB_im, MvB_nil, Mv_im, Option.some.injEq, D.c.injEq, C.im.injEq, I.int.injEq, List.getElem?_cons_zero, List.getElem?_cons_succ, List.set_cons_zero, List.set_cons_succ, List.length_cons, List.length_nil, Nat.zero_add, hm2]))) <;> simp [hm2]⟩
  · have hI : ((k : Int) < (l.length : Int)) = False := by simp; omega
    have hkl : k = l.length := by omega
    subst hkl
    rw [List.drop_length] at hinv
    try simp -dsimp (maxSteps := 1000000) only [go_sem, List.forall_mem_nil, ↓reduceIte, Nat.reduceEqDiff, Nat.reduceLT, Nat.reduceLeDiff, Nat.reduceAdd, Nat.reduceMul, reduceCtorEq, Try.f101, hI, hinv, idxF, rowsC_len]
    repeat' (first
      | ((with_reducible refine sl_i ?_ ?_); focus kernel_rfl)
      | ((with_reducible refine ro_i ?_ ?_); focus kernel_rfl)
      | ((with_reducible refine sl_e ?_); kernel_rfl)
      | ((with_reducible refine ro_e ?_); kernel_rfl)
      | ((first | (with_reducible refine gS_d ?_ ?_) | (with_reducible refine gS_dn ?_ ?_) | (with_reducible refine gS_i ?_ ?_)) <;> intro hg <;> (try simp -dsimp (maxSteps := 1000000) only [go_sem, List.forall_mem_nil, ↓reduceIte, Nat.reduceEqDiff, Nat.reduceLT, Nat.reduceLeDiff, Nat.reduceAdd, Nat.reduceMul, reduceCtorEq, Try.f101, hI, hinv, idxF, rowsC_len, *])))
end Go.SX
