/-
  place, IsTable.
  No condition.
-/
import Derived.Test.YtbhnlplbfhomcaaRkB
set_option linter.unusedVariables false
set_option linter.unusedSimpArgs false
namespace Go.SX
open Go Go.Proofs

/-- The index of the first that fits, counted from k on; -1 if there is none. -/
def idxF {α : Type} (f : α → Bool) : List α → Nat → Int
  | [], _ => -1
  | x :: l, k => if f x = true then (k : Int) else idxF f l (k + 1)
theorem idxF_drop {α : Type} {f : α → Bool} {l : List α} {k : Nat} {p : α} (h : l[k]? = some p) : idxF f (l.drop k) k = if f p = true then (k : Int) else idxF f (l.drop (k + 1)) (k + 1) := by
  have hlt : k < l.length := (List.getElem?_eq_some_iff.1 h).1
  have hp : l[k] = p := by rw [List.getElem?_eq_getElem hlt] at h; injection h
  rw [List.drop_eq_getElem_cons hlt, hp]; rfl
def sm : Nat := 16777216
theorem lt_sm {k n : Nat} (h : n ≤ sm) (hk : k < n) : IntKind.i64.wrap ((k : Int) + 1) = ((k + 1 : Nat) : Int) := by
  have : sm = 16777216 := rfl
  rw [wrap_id] <;> omega

noncomputable def ct_place_1 : Ct := fam true (fun x : Pt × Pt => ([.c (.im (.cpx .f32 x.1.1 x.1.2)), .c (.ptr 0 0 0 0)], [[.t (.im (.cpx .f32 x.2.1 x.2.2))]])) (fun x => .one { val := .c (.im (.bool (eqPt x.1 x.2))), places := [[.t (.im (.cpx .f32 x.2.1 x.2.2))]] })
theorem run_place_1 (x y u v : Nat) : ct_place_1.run [.c (.im (.cpx .f32 x y)), .c (.ptr 0 0 0 0)] [[.t (.im (.cpx .f32 u v))]] = some (.one { val := .c (.im (.bool (eqPt (x, y) (u, v)))), places := [[.t (.im (.cpx .f32 u v))]] }) := by
  refine fam_run' (args := fun x : Pt × Pt => ([D.c (.im (.cpx .f32 x.1.1 x.1.2)), .c (.ptr 0 0 0 0)], [[B.t (.im (.cpx .f32 x.2.1 x.2.2))]])) ?_ ((x, y), (u, v))
  rintro ⟨⟨a, b⟩, ⟨c, d⟩⟩ ⟨⟨a', b'⟩, ⟨c', d'⟩⟩ h
  simp at h ⊢
  simp [h]
set_option maxRecDepth 100000 in
theorem law_place_1 : Law Try.prog 109 ct_place_1 := by
  refine fam_law (Env_cons law_EqualPoints Env_nil) hmixA Try.func109 rfl rfl (fun x => ⟨okO ⟨okD_im rfl, by simp, by intro c hc x hx; simp at hc; subst hc; simp at hx; subst hx; exact .t _ (.im _ (.inr rfl))⟩, by simp [Try.f109], ?_⟩)
  try simp -dsimp (maxSteps := 1000000) only [go_sem, List.forall_mem_nil, ↓reduceIte, Nat.reduceEqDiff, Nat.reduceLT, Nat.reduceLeDiff, Nat.reduceAdd, Nat.reduceMul, reduceCtorEq, Try.f109, run_EqualPoints]
  repeat' (first
    | ((with_reducible refine sl_i ?_ ?_); focus kernel_rfl)
    | ((with_reducible refine ro_i ?_ ?_); focus kernel_rfl)
    | ((with_reducible refine sl_e ?_); kernel_rfl)
    | ((with_reducible refine ro_e ?_); kernel_rfl)
    | ((first | (with_reducible refine gS_d ?_ ?_) | (with_reducible refine gS_dn ?_ ?_) | (with_reducible refine gS_i ?_ ?_)) <;> intro hg <;> (try simp -dsimp (maxSteps := 1000000) only [go_sem, List.forall_mem_nil, ↓reduceIte, Nat.reduceEqDiff, Nat.reduceLT, Nat.reduceLeDiff, Nat.reduceAdd, Nat.reduceMul, reduceCtorEq, Try.f109, run_EqualPoints, *])))

noncomputable def ct_IndexFunc_complex64 : Ct := fam true (fun x : { l : List Pt // l.length ≤ sm } × Pt => ([.c (.im (.sl 1 (rowsZ x.1.1))), .c (.fn (.func 109) [.ptr 0 0 0 0])], [[.t (.im (.cpx .f32 x.2.1 x.2.2))]]))
  (fun x => .one { val := .c (.im (.int .i64 (idxF (eqPt · x.2) x.1.1 0))), places := [[.t (.im (.cpx .f32 x.2.1 x.2.2))]] })
theorem run_IndexFunc_complex64 {l : List Pt} (hl : l.length ≤ sm) (u v : Nat) : ct_IndexFunc_complex64.run [.c (.im (.sl 1 (rowsZ l))), .c (.fn (.func 109) [.ptr 0 0 0 0])] [[.t (.im (.cpx .f32 u v))]] =
    some (.one { val := .c (.im (.int .i64 (idxF (eqPt · (u, v)) l 0))), places := [[.t (.im (.cpx .f32 u v))]] }) := by
  refine fam_run' (args := fun x : { l : List Pt // l.length ≤ sm } × Pt => ([D.c (.im (.sl 1 (rowsZ x.1.1))), .c (.fn (.func 109) [.ptr 0 0 0 0])], [[B.t (.im (.cpx .f32 x.2.1 x.2.2))]])) ?_ (⟨l, hl⟩, (u, v))
  rintro ⟨⟨a, b⟩, ⟨c, d⟩⟩ ⟨⟨a', b'⟩, ⟨c', d'⟩⟩ h
  simp [rowsZ_eq] at h ⊢
  simp [h]
set_option maxRecDepth 100000 in
theorem law_IndexFunc_complex64 : Law Try.prog 108 ct_IndexFunc_complex64 := by
  refine fam_law (Env_cons law_place_1 Env_nil) hmixA Try.func108 rfl rfl (fun ⟨⟨l, hl⟩, ⟨u, v⟩⟩ => ⟨okO ⟨okD_im rfl, by simp, by intro c hc x hx; simp at hc; subst hc; simp at hx; subst hx; exact .t _ (.im _ (.inr rfl))⟩, by simp [Try.f108], ?_⟩)
  try simp -dsimp (maxSteps := 1000000) only [go_sem, List.forall_mem_nil, ↓reduceIte, Nat.reduceEqDiff, Nat.reduceLT, Nat.reduceLeDiff, Nat.reduceAdd, Nat.reduceMul, reduceCtorEq, Try.f108, rowsZ_len]
  repeat' (first
    | ((with_reducible refine sl_i ?_ ?_); focus kernel_rfl)
    | ((with_reducible refine ro_i ?_ ?_); focus kernel_rfl)
    | ((with_reducible refine sl_e ?_); kernel_rfl)
    | ((with_reducible refine ro_e ?_); kernel_rfl)
    | ((first | (with_reducible refine gS_d ?_ ?_) | (with_reducible refine gS_dn ?_ ?_) | (with_reducible refine gS_i ?_ ?_)) <;> intro hg <;> (try simp -dsimp (maxSteps := 1000000) only [go_sem, List.forall_mem_nil, ↓reduceIte, Nat.reduceEqDiff, Nat.reduceLT, Nat.reduceLeDiff, Nat.reduceAdd, Nat.reduceMul, reduceCtorEq, Try.f108, rowsZ_len, *])))
  refine loop_i (ι := { k : Nat // k ≤ l.length ∧ idxF (eqPt · (u, v)) l 0 = idxF (eqPt · (u, v)) (l.drop k) k }) (fun k => ⟨[(0, some (.c (.im (.sl 1 (rowsZ l))))), (1, some (.c (.fn (.func 109) [.ptr 0 0 0 0]))), (7, some (.c (.im (.int .i64 (l.length : Int))))), (8, some (.c (.im (.int .i64 (k.1 : Int)))))],
    [(0, some (.box [.t (.im (.cpx .f32 u v))]))], 1⟩) (fun k => l.length - k.1) ⟨0, by simp⟩ ⟨[], [], by ((simp only [ne_eq, eq_self, subF, folds, wk1, subOk, sOk, hOk, nms, reF, rho, mapD, mapC, mapC1, NmD, NmC, NmC1, mapR, mapB, mapTt, NmR, NmB, NmT, MvRb, MvRn, MvRt, lk, ins, Root.get, Root.setT, List.map_cons, List.map_nil, List.nodup_cons, List.nodup_nil, List.not_mem_nil, List.mem_cons, not_false_eq_true, and_self, and_true, true_and, true_or, or_true, false_or, or_false, ↓reduceIte, Nat.reduceEqDiff, Nat.reduceLT, Nat.reduceLeDiff, reduceCtorEq, Option.isSome_some, List.forall_mem_cons, List.forall_mem_nil, implies_true, forall_const, Nat.le_refl, Nat.zero_le, false_implies, List.mem_singleton, MvB_im, MvB_nil, Mv_im, Option.some.injEq, D.c.injEq, C.im.injEq, I.int.injEq, List.getElem?_cons_zero, List.getElem?_cons_succ, List.set_cons_zero, List.set_cons_succ, List.length_cons, List.length_nil, Nat.zero_add]) <;> (try (simp -dsimp only [ne_eq, eq_self, subF, folds, wk1, subOk, sOk, hOk, nms, reF, rho, mapD, mapC, mapC1, NmD, NmC, NmC1, mapR, mapB, mapTt, NmR, NmB, NmT, MvRb, MvRn, MvRt, lk, ins, Root.get, Root.setT, List.map_cons, List.map_nil, List.nodup_cons, List.nodup_nil, List.not_mem_nil, List.mem_cons, not_false_eq_true, and_self, and_true, true_and, true_or, or_true, false_or, or_false, ↓reduceIte, Nat.reduceEqDiff, Nat.reduceLT, Nat.reduceLeDiff, reduceCtorEq, Option.isSome_some, List.forall_mem_cons, List.forall_mem_nil, implies_true, forall_const, Nat.le_refl, Nat.zero_le, false_implies, List.mem_singleton, MvB_im, MvB_nil, Mv_im, Option.some.injEq, D.c.injEq, C.im.injEq, I.int.injEq, List.getElem?_cons_zero, List.getElem?_cons_succ, List.set_cons_zero, List.set_cons_succ, List.length_cons, List.length_nil, Nat.zero_add]))) <;> simp⟩ (fun ⟨k, hk, hinv⟩ => ?_)
  by_cases hlt : k < l.length
  · obtain ⟨p, hp⟩ : ∃ p, l[k]? = some p := ⟨_, List.getElem?_eq_getElem hlt⟩
    have hrow := rowsZ_at hp
    have hI : ((k : Int) < (l.length : Int)) = True := by simp; omega
    have h0 : (0 ≤ (k : Int)) = True := by simp
    have hidx := idxF_drop (f := (eqPt · (u, v))) hp
    have hwr := lt_sm hl hlt
    obtain ⟨a, b⟩ := p
    cases hq : eqPt (a, b) (u, v) with
    | true =>
      simp only [hq, if_true] at hidx
      rw [hidx] at hinv
      clear hidx
      try simp -dsimp (maxSteps := 1000000) only [go_sem, List.forall_mem_nil, ↓reduceIte, Nat.reduceEqDiff, Nat.reduceLT, Nat.reduceLeDiff, Nat.reduceAdd, Nat.reduceMul, reduceCtorEq, Try.f108, hI, h0, Int.toNat_natCast, hrow, run_place_1, hq, hinv, rowsZ_len]
      repeat' (first
        | ((with_reducible refine sl_i ?_ ?_); focus kernel_rfl)
        | ((with_reducible refine ro_i ?_ ?_); focus kernel_rfl)
        | ((with_reducible refine sl_e ?_); kernel_rfl)
        | ((with_reducible refine ro_e ?_); kernel_rfl)
        | ((first | (with_reducible refine gS_d ?_ ?_) | (with_reducible refine gS_dn ?_ ?_) | (with_reducible refine gS_i ?_ ?_)) <;> intro hg <;> (try simp -dsimp (maxSteps := 1000000) only [go_sem, List.forall_mem_nil, ↓reduceIte, Nat.reduceEqDiff, Nat.reduceLT, Nat.reduceLeDiff, Nat.reduceAdd, Nat.reduceMul, reduceCtorEq, Try.f108, hI, h0, Int.toNat_natCast, hrow, run_place_1, hq, hinv, rowsZ_len, *])))
    | false =>
      simp only [hq, if_false, Bool.false_eq_true] at hidx
      rw [hidx] at hinv
      clear hidx
      try simp -dsimp (maxSteps := 1000000) only [go_sem, List.forall_mem_nil, ↓reduceIte, Nat.reduceEqDiff, Nat.reduceLT, Nat.reduceLeDiff, Nat.reduceAdd, Nat.reduceMul, reduceCtorEq, Try.f108, hI, h0, Int.toNat_natCast, hrow, run_place_1, hq, hwr, rowsZ_len]
      repeat' (first
        | ((with_reducible refine sl_i ?_ ?_); focus kernel_rfl)
        | ((with_reducible refine ro_i ?_ ?_); focus kernel_rfl)
        | ((with_reducible refine sl_e ?_); kernel_rfl)
        | ((with_reducible refine ro_e ?_); kernel_rfl)
        | ((first | (with_reducible refine gS_d ?_ ?_) | (with_reducible refine gS_dn ?_ ?_) | (with_reducible refine gS_i ?_ ?_)) <;> intro hg <;> (try simp -dsimp (maxSteps := 1000000) only [go_sem, List.forall_mem_nil, ↓reduceIte, Nat.reduceEqDiff, Nat.reduceLT, Nat.reduceLeDiff, Nat.reduceAdd, Nat.reduceMul, reduceCtorEq, Try.f108, hI, h0, Int.toNat_natCast, hrow, run_place_1, hq, hwr, rowsZ_len, *])))
      exact ⟨⟨k + 1, by omega, hinv⟩, by simp only []; omega, [], [], by ((simp only [ne_eq, eq_self, subF, folds, wk1, subOk, sOk, hOk, nms, reF, rho, mapD, mapC, mapC1, NmD, NmC, NmC1, mapR, mapB, mapTt, NmR, NmB, NmT, MvRb, MvRn, MvRt, lk, ins, Root.get, Root.setT, List.map_cons, List.map_nil, List.nodup_cons, List.nodup_nil, List.not_mem_nil, List.mem_cons, not_false_eq_true, and_self, and_true, true_and, true_or, or_true, false_or, or_false, ↓reduceIte, Nat.reduceEqDiff, Nat.reduceLT, Nat.reduceLeDiff, reduceCtorEq, Option.isSome_some, List.forall_mem_cons, List.forall_mem_nil, implies_true, forall_const, Nat.le_refl, Nat.zero_le, false_implies, List.mem_singleton, MvB_im, MvB_nil, Mv_im, Option.some.injEq, D.c.injEq, C.im.injEq, I.int.injEq, List.getElem?_cons_zero, List.getElem?_cons_succ, List.set_cons_zero, List.set_cons_succ, List.length_cons, List.length_nil, Nat.zero_add]) <;> (try (simp -dsimp only [ne_eq, eq_self, subF, folds, wk1, subOk, sOk, hOk, nms, reF, rho, mapD, mapC, mapC1, NmD, NmC, NmC1, mapR, mapB, mapTt, NmR, NmB, NmT, MvRb, MvRn, MvRt, lk, ins, Root.get, Root.setT, List.map_cons, List.map_nil, List.nodup_cons, List.nodup_nil, List.not_mem_nil, List.mem_cons, not_false_eq_true, and_self, and_true, true_and, true_or, or_true, false_or, or_false, ↓reduceIte, Nat.reduceEqDiff, Nat.reduceLT, Nat.reduceLeDiff, reduceCtorEq, Option.isSome_some, List.forall_mem_cons, List.forall_mem_nil, implies_true, forall_const, Nat.le_refl, Nat.zero_le, false_implies, List.mem_singleton, MvB_im, MvB_nil, Mv_im, Option.some.injEq, D.c.injEq, C.im.injEq, I.int.injEq, List.getElem?_cons_zero, List.getElem?_cons_succ, List.set_cons_zero, List.set_cons_succ, List.length_cons, List.length_nil, Nat.zero_add]))) <;> simp⟩
  · have hI : ((k : Int) < (l.length : Int)) = False := by simp; omega
    have hkl : k = l.length := by omega
    subst hkl
    rw [List.drop_length] at hinv
    try simp -dsimp (maxSteps := 1000000) only [go_sem, List.forall_mem_nil, ↓reduceIte, Nat.reduceEqDiff, Nat.reduceLT, Nat.reduceLeDiff, Nat.reduceAdd, Nat.reduceMul, reduceCtorEq, Try.f108, hI, hinv, idxF, rowsZ_len]
    repeat' (first
      | ((with_reducible refine sl_i ?_ ?_); focus kernel_rfl)
      | ((with_reducible refine ro_i ?_ ?_); focus kernel_rfl)
      | ((with_reducible refine sl_e ?_); kernel_rfl)
      | ((with_reducible refine ro_e ?_); kernel_rfl)
      | ((first | (with_reducible refine gS_d ?_ ?_) | (with_reducible refine gS_dn ?_ ?_) | (with_reducible refine gS_i ?_ ?_)) <;> intro hg <;> (try simp -dsimp (maxSteps := 1000000) only [go_sem, List.forall_mem_nil, ↓reduceIte, Nat.reduceEqDiff, Nat.reduceLT, Nat.reduceLeDiff, Nat.reduceAdd, Nat.reduceMul, reduceCtorEq, Try.f108, hI, hinv, idxF, rowsZ_len, *])))
end Go.SX
