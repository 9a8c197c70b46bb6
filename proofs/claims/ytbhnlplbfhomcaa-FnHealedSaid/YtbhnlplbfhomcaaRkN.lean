/-
  feeds, copyRack.
  No condition.
-/
import Derived.Test.YtbhnlplbfhomcaaRkM
set_option linter.unusedVariables false
set_option linter.unusedSimpArgs false
namespace Go.SX
open Go Go.Proofs

def feedsF (cs : List Cbl) (i : Int) : List Int := (cs.filter fun c => decide (c.2 = i)).map (·.1)
theorem feeds_le (cs : List Cbl) (i : Int) : (feedsF cs i).length ≤ cs.length := by simp [feedsF, List.length_filter_le]
theorem take_snoc {α : Type} {l : List α} {k : Nat} {p : α} (h : l[k]? = some p) : l.take (k + 1) = l.take k ++ [p] := by
  have hlt : k < l.length := (List.getElem?_eq_some_iff.1 h).1
  have hp : l[k] = p := by rw [List.getElem?_eq_getElem hlt] at h; injection h
  rw [List.take_succ_eq_append_getElem hlt, hp]
theorem feeds_snoc_t {cs : List Cbl} {k : Nat} {a b i : Int} (h : cs[k]? = some (a, b)) (hb : b = i) : feedsF (cs.take (k + 1)) i = feedsF (cs.take k) i ++ [a] := by
  rw [take_snoc h]; simp [feedsF, hb]
theorem feeds_snoc_f {cs : List Cbl} {k : Nat} {a b i : Int} (h : cs[k]? = some (a, b)) (hb : ¬ b = i) : feedsF (cs.take (k + 1)) i = feedsF (cs.take k) i := by
  rw [take_snoc h]; simp [feedsF, hb]
noncomputable def ct_feeds : Ct := fam true (fun x : { x : List Mod × List Cbl // x.2.length ≤ sm } × Int => ([.agg [.im (.sl 11 (rowsM x.1.1.1)), .im (.sl 2 (rowsC x.1.1.2))], .c (.im (.int .i64 x.2))], [])) (fun x => .one (rNew 1 (rowsN (feedsF x.1.1.2 x.2))))
theorem run_feeds {ms : List Mod} {cs : List Cbl} (h2 : cs.length ≤ sm) (i : Int) : ct_feeds.run [.agg [.im (.sl 11 (rowsM ms)), .im (.sl 2 (rowsC cs))], .c (.im (.int .i64 i))] [] = some (.one (rNew 1 (rowsN (feedsF cs i)))) := by
  refine fam_run' (args := fun x : { x : List Mod × List Cbl // x.2.length ≤ sm } × Int => ([D.agg [.im (.sl 11 (rowsM x.1.1.1)), .im (.sl 2 (rowsC x.1.1.2))], .c (.im (.int .i64 x.2))], [])) ?_ (⟨(ms, cs), h2⟩, i)
  rintro ⟨⟨⟨a, b⟩, _⟩, c⟩ ⟨⟨⟨a', b'⟩, _⟩, c'⟩ h
  simp [rowsM_eq, rowsC_eq] at h ⊢
  simp [h]
theorem sc_feeds : (ct_feeds.sc = true) = True := by simp [ct_feeds, fam]
set_option maxRecDepth 100000 in
set_option maxHeartbeats 4000000 in
theorem law_feeds : Law Try.prog 65 ct_feeds := by
  refine fam_law Env_nil hmixA Try.func65 rfl rfl (fun ⟨⟨⟨ms, cs⟩, h2⟩, i⟩ => ⟨okO (okR_new (sc_rowsN _)), by simp [Try.f65], ?_⟩)
  simp only at h2
  simp only [rNew]
  try simp -dsimp (maxSteps := 1000000) only [go_sem, List.forall_mem_nil, ↓reduceIte, Nat.reduceEqDiff, Nat.reduceLT, Nat.reduceLeDiff, Nat.reduceAdd, Nat.reduceMul, reduceCtorEq, Try.f65, rowsC_len]
  repeat' (first
    | ((with_reducible refine sl_i ?_ ?_); focus kernel_rfl)
    | ((with_reducible refine ro_i ?_ ?_); focus kernel_rfl)
    | ((with_reducible refine sl_e ?_); kernel_rfl)
    | ((with_reducible refine ro_e ?_); kernel_rfl)
    | ((first | (with_reducible refine gS_d ?_ ?_) | (with_reducible refine gS_dn ?_ ?_) | (with_reducible refine gS_i ?_ ?_)) <;> intro hg <;> (try simp -dsimp (maxSteps := 1000000) only [go_sem, List.forall_mem_nil, ↓reduceIte, Nat.reduceEqDiff, Nat.reduceLT, Nat.reduceLeDiff, Nat.reduceAdd, Nat.reduceMul, reduceCtorEq, Try.f65, rowsC_len, *])))
  refine loop_i (ι := { k : Nat // k ≤ cs.length }) (fun k => ⟨[(1, some (.c (.im (.int .i64 i)))), (5, some (.c (.view 1 1 0 (feedsF (cs.take k.1) i).length))), (10, some (.c (.im (.sl 2 (rowsC cs))))), (11, some (.c (.im (.int .i64 (cs.length : Int))))), (12, some (.c (.im (.int .i64 (k.1 : Int)))))],
    [(1, some (.arr 1 (tI (rowsN (feedsF (cs.take k.1) i)))))], 2⟩) (fun k => cs.length - k.1) ⟨0, by simp⟩ ⟨[], [], by ((simp only [ne_eq, eq_self, subF, folds, wk1, subOk, sOk, hOk, nms, reF, rho, mapD, mapC, mapC1, NmD, NmC, NmC1, mapR, mapB, mapTt, NmR, NmB, NmT, MvRb, MvRn, MvRt, lk, ins, Root.get, Root.setT, List.map_cons, List.map_nil, List.nodup_cons, List.nodup_nil, List.not_mem_nil, List.mem_cons, not_false_eq_true, and_self, and_true, true_and, true_or, or_true, false_or, or_false, ↓reduceIte, Nat.reduceEqDiff, Nat.reduceLT, Nat.reduceLeDiff, reduceCtorEq, Option.isSome_some, List.forall_mem_cons, List.forall_mem_nil, implies_true, forall_const, Nat.le_refl, Nat.zero_le, false_implies, List.mem_singleton, MvB_im, MvB_nil, Mv_im, Option.some.injEq, D.c.injEq, C.im.injEq, I.int.injEq, List.getElem?_cons_zero, List.getElem?_cons_succ, List.set_cons_zero, List.set_cons_succ, List.length_cons, List.length_nil, Nat.zero_add, tI, rowsN, feedsF, List.take_zero, List.filter_nil]) <;> (try (simp -dsimp only [ne_eq, eq_self, subF, folds, wk1, subOk, sOk, hOk, nms, reF, rho, mapD, mapC, mapC1, NmD, NmC, NmC1, mapR, mapB, mapTt, NmR, NmB, NmT, MvRb, MvRn, MvRt, lk, ins, Root.get, Root.setT, List.map_cons, List.map_nil, List.nodup_cons, List.nodup_nil, List.not_mem_nil, List.mem_cons, not_false_eq_true, and_self, and_true, true_and, true_or, or_true, false_or, or_false, ↓reduceIte, Nat.reduceEqDiff, Nat.reduceLT, Nat.reduceLeDiff, reduceCtorEq, Option.isSome_some, List.forall_mem_cons, List.forall_mem_nil, implies_true, forall_const, Nat.le_refl, Nat.zero_le, false_implies, List.mem_singleton, MvB_im, MvB_nil, Mv_im, Option.some.injEq, D.c.injEq, C.im.injEq, I.int.injEq, List.getElem?_cons_zero, List.getElem?_cons_succ, List.set_cons_zero, List.set_cons_succ, List.length_cons, List.length_nil, Nat.zero_add, tI, rowsN, feedsF, List.take_zero, List.filter_nil]))) <;> simp [lk, MvB_im]⟩ (fun ⟨k, hk⟩ => ?_)
  have hfl : (feedsF (cs.take k) i).length ≤ k := Nat.le_trans (feeds_le _ _) (List.length_take_le _ _)
  by_cases hlt : k < cs.length
  · obtain ⟨⟨a, b⟩, hp⟩ : ∃ p, cs[k]? = some p := ⟨_, List.getElem?_eq_getElem hlt⟩
    have hrow := rowsC_at hp
    have hI : ((k : Int) < (cs.length : Int)) = True := by simp; omega
    have h0 : (0 ≤ (k : Int)) = True := by simp
    have hwr := lt_sm h2 hlt
    by_cases hb : b = i
    · have hf := feeds_snoc_t hp hb
      have hb' := eq_true hb
      clear hb
      have hby : ((feedsF (cs.take k) i ++ [a]).length * 8 ≤ 140737488355328) = True := bytes_sm (by simp; omega) (by decide)
      try simp -dsimp (maxSteps := 1000000) only [go_sem, List.forall_mem_nil, ↓reduceIte, Nat.reduceEqDiff, Nat.reduceLT, Nat.reduceLeDiff, Nat.reduceAdd, Nat.reduceMul, reduceCtorEq, Try.f65, hI, h0, Int.toNat_natCast, hrow, hb', hwr, hby, tI_len, rowsN_len, appendH, srcRows, List.take_succ_cons, List.take_zero, List.all_cons, List.all_nil, okT, Bool.and_true, tIN_app]
      repeat' (first
        | ((with_reducible refine sl_i ?_ ?_); focus kernel_rfl)
        | ((with_reducible refine ro_i ?_ ?_); focus kernel_rfl)
        | ((with_reducible refine sl_e ?_); kernel_rfl)
        | ((with_reducible refine ro_e ?_); kernel_rfl)
        | ((first | (with_reducible refine gS_d ?_ ?_) | (with_reducible refine gS_dn ?_ ?_) | (with_reducible refine gS_i ?_ ?_)) <;> intro hg <;> (try simp -dsimp (maxSteps := 1000000) only [go_sem, List.forall_mem_nil, ↓reduceIte, Nat.reduceEqDiff, Nat.reduceLT, Nat.reduceLeDiff, Nat.reduceAdd, Nat.reduceMul, reduceCtorEq, Try.f65, hI, h0, Int.toNat_natCast, hrow, hb', hwr, hby, tI_len, rowsN_len, appendH, srcRows, List.take_succ_cons, List.take_zero, List.all_cons, List.all_nil, okT, Bool.and_true, tIN_app, *])))
      exact ⟨⟨k + 1, by omega⟩, by simp only []; omega, [], [4], by ((simp only [ne_eq, eq_self, subF, folds, wk1, subOk, sOk, hOk, nms, reF, rho, mapD, mapC, mapC1, NmD, NmC, NmC1, mapR, mapB, mapTt, NmR, NmB, NmT, MvRb, MvRn, MvRt, lk, ins, Root.get, Root.setT, List.map_cons, List.map_nil, List.nodup_cons, List.nodup_nil, List.not_mem_nil, List.mem_cons, not_false_eq_true, and_self, and_true, true_and, true_or, or_true, false_or, or_false, ↓reduceIte, Nat.reduceEqDiff, Nat.reduceLT, Nat.reduceLeDiff, reduceCtorEq, Option.isSome_some, List.forall_mem_cons, List.forall_mem_nil, implies_true, forall_const, Nat.le_refl, Nat.zero_le, false_implies, List.mem_singleton, MvB_im, MvB_nil, Mv_im, Option.some.injEq, D.c.injEq, C.im.injEq, I.int.injEq, List.getElem?_cons_zero, List.getElem?_cons_succ, List.set_cons_zero, List.set_cons_succ, List.length_cons, List.length_nil, Nat.zero_add, hf]) <;> (try (simp -dsimp only [ne_eq, eq_self, subF, folds, wk1, subOk, sOk, hOk, nms, reF, rho, mapD, mapC, mapC1, NmD, NmC, NmC1, mapR, mapB, mapTt, NmR, NmB, NmT, MvRb, MvRn, MvRt, lk, ins, Root.get, Root.setT, List.map_cons, List.map_nil, List.nodup_cons, List.nodup_nil, List.not_mem_nil, List.mem_cons, not_false_eq_true, and_self, and_true, true_and, true_or, or_true, false_or, or_false, ↓reduceIte, Nat.reduceEqDiff, Nat.reduceLT, Nat.reduceLeDiff, reduceCtorEq, Option.isSome_some, List.forall_mem_cons, List.forall_mem_nil, implies_true, forall_const, Nat.le_refl, Nat.zero_le, false_implies, List.mem_singleton, MvB_im, MvB_nil, Mv_im, Option.some.injEq, D.c.injEq, C.im.injEq, I.int.injEq, List.getElem?_cons_zero, List.getElem?_cons_succ, List.set_cons_zero, List.set_cons_succ, List.length_cons, List.length_nil, Nat.zero_add, hf]))) <;> simp [lk, MvB_im]⟩
    · have hf := feeds_snoc_f hp hb
      have hb' := eq_false hb
      clear hb
      try simp -dsimp (maxSteps := 1000000) only [go_sem, List.forall_mem_nil, ↓reduceIte, Nat.reduceEqDiff, Nat.reduceLT, Nat.reduceLeDiff, Nat.reduceAdd, Nat.reduceMul, reduceCtorEq, Try.f65, hI, h0, Int.toNat_natCast, hrow, hb', hwr]
      repeat' (first
        | ((with_reducible refine sl_i ?_ ?_); focus kernel_rfl)
        | ((with_reducible refine ro_i ?_ ?_); focus kernel_rfl)
        | ((with_reducible refine sl_e ?_); kernel_rfl)
        | ((with_reducible refine ro_e ?_); kernel_rfl)
        | ((first | (with_reducible refine gS_d ?_ ?_) | (with_reducible refine gS_dn ?_ ?_) | (with_reducible refine gS_i ?_ ?_)) <;> intro hg <;> (try simp -dsimp (maxSteps := 1000000) only [go_sem, List.forall_mem_nil, ↓reduceIte, Nat.reduceEqDiff, Nat.reduceLT, Nat.reduceLeDiff, Nat.reduceAdd, Nat.reduceMul, reduceCtorEq, Try.f65, hI, h0, Int.toNat_natCast, hrow, hb', hwr, *])))
      exact ⟨⟨k + 1, by omega⟩, by simp only []; omega, [], [], by ((simp only [ne_eq, eq_self, subF, folds, wk1, subOk, sOk, hOk, nms, reF, rho, mapD, mapC, mapC1, NmD, NmC, NmC1, mapR, mapB, mapTt, NmR, NmB, NmT, MvRb, MvRn, MvRt, lk, ins, Root.get, Root.setT, List.map_cons, List.map_nil, List.nodup_cons, List.nodup_nil, List.not_mem_nil, List.mem_cons, not_false_eq_true, and_self, and_true, true_and, true_or, or_true, false_or, or_false, ↓reduceIte, Nat.reduceEqDiff, Nat.reduceLT, Nat.reduceLeDiff, reduceCtorEq, Option.isSome_some, List.forall_mem_cons, List.forall_mem_nil, implies_true, forall_const, Nat.le_refl, Nat.zero_le, false_implies, List.mem_singleton, MvB_im, MvB_nil, Mv_im, Option.some.injEq, D.c.injEq, C.im.injEq, I.int.injEq, List.getElem?_cons_zero, List.getElem?_cons_succ, List.set_cons_zero, List.set_cons_succ, List.length_cons, List.length_nil, Nat.zero_add, hf]) <;> (try (simp -dsimp only [ne_eq, eq_self, subF, folds, wk1, subOk, sOk, hOk, nms, reF, rho, mapD, mapC, mapC1, NmD, NmC, NmC1, mapR, mapB, mapTt, NmR, NmB, NmT, MvRb, MvRn, MvRt, lk, ins, Root.get, Root.setT, List.map_cons, List.map_nil, List.nodup_cons, List.nodup_nil, List.not_mem_nil, List.mem_cons, not_false_eq_true, and_self, and_true, true_and, true_or, or_true, false_or, or_false, ↓reduceIte, Nat.reduceEqDiff, Nat.reduceLT, Nat.reduceLeDiff, reduceCtorEq, Option.isSome_some, List.forall_mem_cons, List.forall_mem_nil, implies_true, forall_const, Nat.le_refl, Nat.zero_le, false_implies, List.mem_singleton, MvB_im, MvB_nil, Mv_im, Option.some.injEq, D.c.injEq, C.im.injEq, I.int.injEq, List.getElem?_cons_zero, List.getElem?_cons_succ, List.set_cons_zero, List.set_cons_succ, List.length_cons, List.length_nil, Nat.zero_add, hf]))) <;> simp [lk, MvB_im]⟩
  have hI : ((k : Int) < (cs.length : Int)) = False := by simp; omega
  have hkl : k = cs.length := by omega
  subst hkl
  rw [List.take_length]
  try simp -dsimp (maxSteps := 1000000) only [go_sem, List.forall_mem_nil, ↓reduceIte, Nat.reduceEqDiff, Nat.reduceLT, Nat.reduceLeDiff, Nat.reduceAdd, Nat.reduceMul, reduceCtorEq, Try.f65, hI, rowsN_len]
  repeat' (first
    | ((with_reducible refine sl_i ?_ ?_); focus kernel_rfl)
    | ((with_reducible refine ro_i ?_ ?_); focus kernel_rfl)
    | ((with_reducible refine sl_e ?_); kernel_rfl)
    | ((with_reducible refine ro_e ?_); kernel_rfl)
    | ((first | (with_reducible refine gS_d ?_ ?_) | (with_reducible refine gS_dn ?_ ?_) | (with_reducible refine gS_i ?_ ?_)) <;> intro hg <;> (try simp -dsimp (maxSteps := 1000000) only [go_sem, List.forall_mem_nil, ↓reduceIte, Nat.reduceEqDiff, Nat.reduceLT, Nat.reduceLeDiff, Nat.reduceAdd, Nat.reduceMul, reduceCtorEq, Try.f65, hI, rowsN_len, *])))
  refine ⟨[_], ?_, ?_, ?_, rfl⟩ <;> simp [rtOk]
end Go.SX
