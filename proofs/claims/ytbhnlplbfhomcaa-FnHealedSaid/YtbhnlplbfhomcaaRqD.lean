/-
  AreFaults.
  No condition.
-/
import Derived.Test.YtbhnlplbfhomcaaRqA
import Derived.Test.YtbhnlplbfhomcaaRkU
set_option linter.unusedVariables false
set_option linter.unusedSimpArgs false
namespace Go.SX
open Go Go.Proofs

def badF (n : Nat) (f : Fa) : Bool := decide (f.kind < 1) || (decide (3 < f.kind) || (decide (f.md < 0) || (decide ((n : Int) ≤ f.md) || (decide (f.fr < 0) || (decide (f.to_ < f.fr) || decide (500 < f.to_))))))
def hsA (ms : List Mod) (cs : List Cbl) : List (List B) := [[.t (.im (.sl 11 (rowsM ms))), .t (.im (.sl 2 (rowsC cs)))]]
theorem hsA_inj {a b : List Mod} {c d : List Cbl} (h : hsA a c = hsA b d) : a = b ∧ c = d := by
  simp only [hsA, List.cons.injEq, B.t.injEq, T.im.injEq, I.sl.injEq, true_and, and_true, rowsM_eq, rowsC_eq] at h
  exact h
theorem okR_hsA {v : D} {ms : List Mod} {cs : List Cbl} (hv : OkD false 0 v) : OkR false { val := v, places := hsA ms cs } := by
  refine ⟨hv, by simp, fun c hc x hx => ?_⟩
  simp only [hsA, List.mem_cons, List.not_mem_nil, or_false] at hc
  subst hc
  simp only [List.mem_cons, List.not_mem_nil, or_false] at hx
  rcases hx with rfl | rfl <;> exact .t _ (.im _ (.inl rfl))
structure ABad where
  ms : List Mod
  cs : List Cbl
  f : Fa
noncomputable def ct_bad : Ct := fam false (fun x : ABad => ([.agg [.im (.int .i64 x.f.kind), .im (.int .i64 x.f.md), .im (.int .i64 x.f.fr), .im (.int .i64 x.f.to_)], .c (.ptr 0 0 0 0)], hsA x.ms x.cs)) (fun x => .one { val := .c (.im (.bool (badF x.ms.length x.f))), places := hsA x.ms x.cs })
theorem run_bad {ms : List Mod} {cs : List Cbl} {a b c d : Int} : ct_bad.run [.agg [.im (.int .i64 a), .im (.int .i64 b), .im (.int .i64 c), .im (.int .i64 d)], .c (.ptr 0 0 0 0)] [[.t (.im (.sl 11 (rowsM ms))), .t (.im (.sl 2 (rowsC cs)))]] = some (.one { val := .c (.im (.bool (badF ms.length ⟨a, b, c, d⟩))), places := hsA ms cs }) := by
  refine fam_run' (args := fun x : ABad => ([D.agg [.im (.int .i64 x.f.kind), .im (.int .i64 x.f.md), .im (.int .i64 x.f.fr), .im (.int .i64 x.f.to_)], .c (.ptr 0 0 0 0)], hsA x.ms x.cs)) ?_ ⟨ms, cs, ⟨a, b, c, d⟩⟩
  rintro ⟨m, c, ⟨a1, a2, a3, a4⟩⟩ ⟨m', c', ⟨b1, b2, b3, b4⟩⟩ h
  simp only [Prod.mk.injEq, List.cons.injEq, D.agg.injEq, C.im.injEq, I.int.injEq, true_and, and_true] at h
  obtain ⟨⟨rfl, rfl, rfl, rfl⟩, h2⟩ := h
  obtain ⟨rfl, rfl⟩ := hsA_inj h2
  rfl
set_option maxRecDepth 100000 in
set_option maxHeartbeats 8000000 in
theorem law_bad : Law Try.prog 70 ct_bad := by
  refine fam_law Env_nil hmixA Try.func70 rfl rfl (fun ⟨ms, cs, ⟨a, b, c, d⟩⟩ => ⟨okO (okR_hsA okDi), by simp [Try.f70], ?_⟩)
  simp only [hsA]
  by_cases p1 : a < 1
  · have e1 := eq_true p1
    clear p1
    try simp -dsimp (maxSteps := 1000000) only [go_sem, List.forall_mem_nil, ↓reduceIte, Nat.reduceEqDiff, Nat.reduceLT, Nat.reduceLeDiff, Nat.reduceAdd, Nat.reduceMul, reduceCtorEq, Try.f70, badF, rowsM_len, Bool.true_or, Bool.false_or, e1]
    repeat' (first
      | ((with_reducible refine sl_i ?_ ?_); focus kernel_rfl)
      | ((with_reducible refine ro_i ?_ ?_); focus kernel_rfl)
      | ((with_reducible refine sl_e ?_); kernel_rfl)
      | ((with_reducible refine ro_e ?_); kernel_rfl)
      | ((first | (with_reducible refine gS_d ?_ ?_) | (with_reducible refine gS_dn ?_ ?_) | (with_reducible refine gS_i ?_ ?_)) <;> intro hg <;> (try simp -dsimp (maxSteps := 1000000) only [go_sem, List.forall_mem_nil, ↓reduceIte, Nat.reduceEqDiff, Nat.reduceLT, Nat.reduceLeDiff, Nat.reduceAdd, Nat.reduceMul, reduceCtorEq, Try.f70, badF, rowsM_len, Bool.true_or, Bool.false_or, e1, *])))
  have e1 := eq_false p1
  by_cases p2 : 3 < a
  · have e2 := eq_true p2
    clear p2
    try simp -dsimp (maxSteps := 1000000) only [go_sem, List.forall_mem_nil, ↓reduceIte, Nat.reduceEqDiff, Nat.reduceLT, Nat.reduceLeDiff, Nat.reduceAdd, Nat.reduceMul, reduceCtorEq, Try.f70, badF, rowsM_len, Bool.true_or, Bool.false_or, e1, e2]
    repeat' (first
      | ((with_reducible refine sl_i ?_ ?_); focus kernel_rfl)
      | ((with_reducible refine ro_i ?_ ?_); focus kernel_rfl)
      | ((with_reducible refine sl_e ?_); kernel_rfl)
      | ((with_reducible refine ro_e ?_); kernel_rfl)
      | ((first | (with_reducible refine gS_d ?_ ?_) | (with_reducible refine gS_dn ?_ ?_) | (with_reducible refine gS_i ?_ ?_)) <;> intro hg <;> (try simp -dsimp (maxSteps := 1000000) only [go_sem, List.forall_mem_nil, ↓reduceIte, Nat.reduceEqDiff, Nat.reduceLT, Nat.reduceLeDiff, Nat.reduceAdd, Nat.reduceMul, reduceCtorEq, Try.f70, badF, rowsM_len, Bool.true_or, Bool.false_or, e1, e2, *])))
  have e2 := eq_false p2
  by_cases p3 : b < 0
  · have e3 := eq_true p3
    clear p3
    try simp -dsimp (maxSteps := 1000000) only [go_sem, List.forall_mem_nil, ↓reduceIte, Nat.reduceEqDiff, Nat.reduceLT, Nat.reduceLeDiff, Nat.reduceAdd, Nat.reduceMul, reduceCtorEq, Try.f70, badF, rowsM_len, Bool.true_or, Bool.false_or, e1, e2, e3]
    repeat' (first
      | ((with_reducible refine sl_i ?_ ?_); focus kernel_rfl)
      | ((with_reducible refine ro_i ?_ ?_); focus kernel_rfl)
      | ((with_reducible refine sl_e ?_); kernel_rfl)
      | ((with_reducible refine ro_e ?_); kernel_rfl)
      | ((first | (with_reducible refine gS_d ?_ ?_) | (with_reducible refine gS_dn ?_ ?_) | (with_reducible refine gS_i ?_ ?_)) <;> intro hg <;> (try simp -dsimp (maxSteps := 1000000) only [go_sem, List.forall_mem_nil, ↓reduceIte, Nat.reduceEqDiff, Nat.reduceLT, Nat.reduceLeDiff, Nat.reduceAdd, Nat.reduceMul, reduceCtorEq, Try.f70, badF, rowsM_len, Bool.true_or, Bool.false_or, e1, e2, e3, *])))
  have e3 := eq_false p3
  by_cases p4 : (ms.length : Int) ≤ b
  · have e4 := eq_true p4
    clear p4
    try simp -dsimp (maxSteps := 1000000) only [go_sem, List.forall_mem_nil, ↓reduceIte, Nat.reduceEqDiff, Nat.reduceLT, Nat.reduceLeDiff, Nat.reduceAdd, Nat.reduceMul, reduceCtorEq, Try.f70, badF, rowsM_len, Bool.true_or, Bool.false_or, e1, e2, e3, e4]
    repeat' (first
      | ((with_reducible refine sl_i ?_ ?_); focus kernel_rfl)
      | ((with_reducible refine ro_i ?_ ?_); focus kernel_rfl)
      | ((with_reducible refine sl_e ?_); kernel_rfl)
      | ((with_reducible refine ro_e ?_); kernel_rfl)
      | ((first | (with_reducible refine gS_d ?_ ?_) | (with_reducible refine gS_dn ?_ ?_) | (with_reducible refine gS_i ?_ ?_)) <;> intro hg <;> (try simp -dsimp (maxSteps := 1000000) only [go_sem, List.forall_mem_nil, ↓reduceIte, Nat.reduceEqDiff, Nat.reduceLT, Nat.reduceLeDiff, Nat.reduceAdd, Nat.reduceMul, reduceCtorEq, Try.f70, badF, rowsM_len, Bool.true_or, Bool.false_or, e1, e2, e3, e4, *])))
  have e4 := eq_false p4
  by_cases p5 : c < 0
  · have e5 := eq_true p5
    clear p5
    try simp -dsimp (maxSteps := 1000000) only [go_sem, List.forall_mem_nil, ↓reduceIte, Nat.reduceEqDiff, Nat.reduceLT, Nat.reduceLeDiff, Nat.reduceAdd, Nat.reduceMul, reduceCtorEq, Try.f70, badF, rowsM_len, Bool.true_or, Bool.false_or, e1, e2, e3, e4, e5]
    repeat' (first
      | ((with_reducible refine sl_i ?_ ?_); focus kernel_rfl)
      | ((with_reducible refine ro_i ?_ ?_); focus kernel_rfl)
      | ((with_reducible refine sl_e ?_); kernel_rfl)
      | ((with_reducible refine ro_e ?_); kernel_rfl)
      | ((first | (with_reducible refine gS_d ?_ ?_) | (with_reducible refine gS_dn ?_ ?_) | (with_reducible refine gS_i ?_ ?_)) <;> intro hg <;> (try simp -dsimp (maxSteps := 1000000) only [go_sem, List.forall_mem_nil, ↓reduceIte, Nat.reduceEqDiff, Nat.reduceLT, Nat.reduceLeDiff, Nat.reduceAdd, Nat.reduceMul, reduceCtorEq, Try.f70, badF, rowsM_len, Bool.true_or, Bool.false_or, e1, e2, e3, e4, e5, *])))
  have e5 := eq_false p5
  by_cases p6 : d < c
  · have e6 := eq_true p6
    clear p6
    try simp -dsimp (maxSteps := 1000000) only [go_sem, List.forall_mem_nil, ↓reduceIte, Nat.reduceEqDiff, Nat.reduceLT, Nat.reduceLeDiff, Nat.reduceAdd, Nat.reduceMul, reduceCtorEq, Try.f70, badF, rowsM_len, Bool.true_or, Bool.false_or, e1, e2, e3, e4, e5, e6]
    repeat' (first
      | ((with_reducible refine sl_i ?_ ?_); focus kernel_rfl)
      | ((with_reducible refine ro_i ?_ ?_); focus kernel_rfl)
      | ((with_reducible refine sl_e ?_); kernel_rfl)
      | ((with_reducible refine ro_e ?_); kernel_rfl)
      | ((first | (with_reducible refine gS_d ?_ ?_) | (with_reducible refine gS_dn ?_ ?_) | (with_reducible refine gS_i ?_ ?_)) <;> intro hg <;> (try simp -dsimp (maxSteps := 1000000) only [go_sem, List.forall_mem_nil, ↓reduceIte, Nat.reduceEqDiff, Nat.reduceLT, Nat.reduceLeDiff, Nat.reduceAdd, Nat.reduceMul, reduceCtorEq, Try.f70, badF, rowsM_len, Bool.true_or, Bool.false_or, e1, e2, e3, e4, e5, e6, *])))
  have e6 := eq_false p6
  by_cases p7 : 500 < d
  · have e7 := eq_true p7
    clear p7
    try simp -dsimp (maxSteps := 1000000) only [go_sem, List.forall_mem_nil, ↓reduceIte, Nat.reduceEqDiff, Nat.reduceLT, Nat.reduceLeDiff, Nat.reduceAdd, Nat.reduceMul, reduceCtorEq, Try.f70, badF, rowsM_len, Bool.true_or, Bool.false_or, e1, e2, e3, e4, e5, e6, e7]
    repeat' (first
      | ((with_reducible refine sl_i ?_ ?_); focus kernel_rfl)
      | ((with_reducible refine ro_i ?_ ?_); focus kernel_rfl)
      | ((with_reducible refine sl_e ?_); kernel_rfl)
      | ((with_reducible refine ro_e ?_); kernel_rfl)
      | ((first | (with_reducible refine gS_d ?_ ?_) | (with_reducible refine gS_dn ?_ ?_) | (with_reducible refine gS_i ?_ ?_)) <;> intro hg <;> (try simp -dsimp (maxSteps := 1000000) only [go_sem, List.forall_mem_nil, ↓reduceIte, Nat.reduceEqDiff, Nat.reduceLT, Nat.reduceLeDiff, Nat.reduceAdd, Nat.reduceMul, reduceCtorEq, Try.f70, badF, rowsM_len, Bool.true_or, Bool.false_or, e1, e2, e3, e4, e5, e6, e7, *])))
  have e7 := eq_false p7
  clear p1 p2 p3 p4 p5 p6 p7
  try simp -dsimp (maxSteps := 1000000) only [go_sem, List.forall_mem_nil, ↓reduceIte, Nat.reduceEqDiff, Nat.reduceLT, Nat.reduceLeDiff, Nat.reduceAdd, Nat.reduceMul, reduceCtorEq, Try.f70, badF, rowsM_len, e1, e2, e3, e4, e5, e6, e7, Bool.false_or]
  repeat' (first
    | ((with_reducible refine sl_i ?_ ?_); focus kernel_rfl)
    | ((with_reducible refine ro_i ?_ ?_); focus kernel_rfl)
    | ((with_reducible refine sl_e ?_); kernel_rfl)
    | ((with_reducible refine ro_e ?_); kernel_rfl)
    | ((first | (with_reducible refine gS_d ?_ ?_) | (with_reducible refine gS_dn ?_ ?_) | (with_reducible refine gS_i ?_ ?_)) <;> intro hg <;> (try simp -dsimp (maxSteps := 1000000) only [go_sem, List.forall_mem_nil, ↓reduceIte, Nat.reduceEqDiff, Nat.reduceLT, Nat.reduceLeDiff, Nat.reduceAdd, Nat.reduceMul, reduceCtorEq, Try.f70, badF, rowsM_len, e1, e2, e3, e4, e5, e6, e7, Bool.false_or, *])))

structure AIf where
  ms : List Mod
  cs : List Cbl
  l : List Fa
  ll : l.length ≤ sm
noncomputable def ct_IndexFunc_Fault : Ct := fam false (fun x : AIf => ([.c (.im (.sl 4 (rowsFa x.l))), .c (.fn (.func 70) [.ptr 0 0 0 0])], hsA x.ms x.cs)) (fun x => .one { val := .c (.im (.int .i64 (idxF (badF x.ms.length) x.l 0))), places := hsA x.ms x.cs })
theorem AIf_inj : ∀ a b : AIf, ([D.c (.im (.sl 4 (rowsFa a.l))), .c (.fn (.func 70) [.ptr 0 0 0 0])], hsA a.ms a.cs) = ([D.c (.im (.sl 4 (rowsFa b.l))), .c (.fn (.func 70) [.ptr 0 0 0 0])], hsA b.ms b.cs) → a = b := by
  rintro ⟨a, b, c, _⟩ ⟨a', b', c', _⟩ h
  simp only [Prod.mk.injEq, List.cons.injEq, D.c.injEq, C.im.injEq, I.sl.injEq, true_and, and_true] at h
  obtain ⟨rfl, rfl⟩ := hsA_inj h.2
  have := rowsFa_inj h.1
  subst this; rfl
theorem run_IndexFunc_Fault {ms : List Mod} {cs : List Cbl} {l : List Fa} (h : l.length ≤ sm) : ct_IndexFunc_Fault.run [.c (.im (.sl 4 (rowsFa l))), .c (.fn (.func 70) [.ptr 0 0 0 0])] [[.t (.im (.sl 11 (rowsM ms))), .t (.im (.sl 2 (rowsC cs)))]] = some (.one { val := .c (.im (.int .i64 (idxF (badF ms.length) l 0))), places := hsA ms cs }) := fam_run' AIf_inj ⟨ms, cs, l, h⟩
set_option maxRecDepth 100000 in
set_option maxHeartbeats 4000000 in
theorem law_IndexFunc_Fault : Law Try.prog 93 ct_IndexFunc_Fault := by
  refine fam_law (Env_cons law_bad Env_nil) hmixA Try.func93 rfl rfl (fun ⟨ms, cs, l, hl⟩ => ⟨okO (okR_hsA okDi), by simp [Try.f93], ?_⟩)
  simp only [hsA]
  try simp -dsimp (maxSteps := 1000000) only [go_sem, List.forall_mem_nil, ↓reduceIte, Nat.reduceEqDiff, Nat.reduceLT, Nat.reduceLeDiff, Nat.reduceAdd, Nat.reduceMul, reduceCtorEq, Try.f93, rowsFa_len]
  repeat' (first
    | ((with_reducible refine sl_i ?_ ?_); focus kernel_rfl)
    | ((with_reducible refine ro_i ?_ ?_); focus kernel_rfl)
    | ((with_reducible refine sl_e ?_); kernel_rfl)
    | ((with_reducible refine ro_e ?_); kernel_rfl)
    | ((first | (with_reducible refine gS_d ?_ ?_) | (with_reducible refine gS_dn ?_ ?_) | (with_reducible refine gS_i ?_ ?_)) <;> intro hg <;> (try simp -dsimp (maxSteps := 1000000) only [go_sem, List.forall_mem_nil, ↓reduceIte, Nat.reduceEqDiff, Nat.reduceLT, Nat.reduceLeDiff, Nat.reduceAdd, Nat.reduceMul, reduceCtorEq, Try.f93, rowsFa_len, *])))
  refine loop_i (ι := { k : Nat // k ≤ l.length ∧ idxF (badF ms.length) l 0 = idxF (badF ms.length) (l.drop k) k }) (fun k => ⟨[(0, some (.c (.im (.sl 4 (rowsFa l))))), (1, some (.c (.fn (.func 70) [.ptr 0 0 0 0]))), (7, some (.c (.im (.int .i64 (l.length : Int))))), (8, some (.c (.im (.int .i64 (k.1 : Int)))))],
    [(0, some (.box [.t (.im (.sl 11 (rowsM ms))), .t (.im (.sl 2 (rowsC cs)))]))], 1⟩) (fun k => l.length - k.1) ⟨0, by simp⟩ ⟨[], [], by ((simp only [ne_eq, eq_self, subF, folds, wk1, subOk, sOk, hOk, nms, reF, rho, mapD, mapC, mapC1, NmD, NmC, NmC1, mapR, mapB, mapTt, NmR, NmB, NmT, MvRb, MvRn, MvRt, lk, ins, Root.get, Root.setT, List.map_cons, List.map_nil, List.nodup_cons, List.nodup_nil, List.not_mem_nil, List.mem_cons, not_false_eq_true, and_self, and_true, true_and, true_or, or_true, false_or, or_false, ↓reduceIte, Nat.reduceEqDiff, Nat.reduceLT, Nat.reduceLeDiff, reduceCtorEq, Option.isSome_some, List.forall_mem_cons, List.forall_mem_nil, implies_true, forall_const, Nat.le_refl, Nat.zero_le, false_implies, List.mem_singleton, MvB_im, MvB_nil, Mv_im, Option.some.injEq, D.c.injEq, C.im.injEq, I.int.injEq, List.getElem?_cons_zero, List.getElem?_cons_succ, List.set_cons_zero, List.set_cons_succ, List.length_cons, List.length_nil, Nat.zero_add]) <;> (try (simp -dsimp only [ne_eq, eq_self, subF, folds, wk1, subOk, sOk, hOk, nms, reF, rho, mapD, mapC, mapC1, NmD, NmC, NmC1, mapR, mapB, mapTt, NmR, NmB, NmT, MvRb, MvRn, MvRt, lk, ins, Root.get, Root.setT, List.map_cons, List.map_nil, List.nodup_cons, List.nodup_nil, List.not_mem_nil, List.mem_cons, not_false_eq_true, and_self, and_true, true_and, true_or, or_true, false_or, or_false, ↓reduceIte, Nat.reduceEqDiff, Nat.reduceLT, Nat.reduceLeDiff, reduceCtorEq, Option.isSome_some, List.forall_mem_cons, List.forall_mem_nil, implies_true, forall_const, Nat.le_refl, Nat.zero_le, false_implies, List.mem_singleton, MvB_im, MvB_nil, Mv_im, Option.some.injEq, D.c.injEq, C.im.injEq, I.int.injEq, List.getElem?_cons_zero, List.getElem?_cons_succ, List.set_cons_zero, List.set_cons_succ, List.length_cons, List.length_nil, Nat.zero_add]))) <;> simp⟩ (fun ⟨k, hk, hinv⟩ => ?_)
  by_cases hlt : k < l.length
  · obtain ⟨p, hp⟩ : ∃ p, l[k]? = some p := ⟨_, List.getElem?_eq_getElem hlt⟩
    have hrow := rowsFa_at hp
    have hI : ((k : Int) < (l.length : Int)) = True := by simp; omega
    have h0 : (0 ≤ (k : Int)) = True := by simp
    have hidx := idxF_drop (f := badF ms.length) hp
    have hwr := lt_sm hl hlt
    obtain ⟨a, b, c, d⟩ := p
    simp only at hrow
    cases hq : badF ms.length ⟨a, b, c, d⟩ with
    | true =>
      simp only [hq, if_true] at hidx
      rw [hidx] at hinv
      clear hidx
      try simp -dsimp (maxSteps := 1000000) only [go_sem, List.forall_mem_nil, ↓reduceIte, Nat.reduceEqDiff, Nat.reduceLT, Nat.reduceLeDiff, Nat.reduceAdd, Nat.reduceMul, reduceCtorEq, Try.f93, hI, h0, Int.toNat_natCast, hrow, run_bad, hq, hinv, hsA, rowsFa_len]
      repeat' (first
        | ((with_reducible refine sl_i ?_ ?_); focus kernel_rfl)
        | ((with_reducible refine ro_i ?_ ?_); focus kernel_rfl)
        | ((with_reducible refine sl_e ?_); kernel_rfl)
        | ((with_reducible refine ro_e ?_); kernel_rfl)
        | ((first | (with_reducible refine gS_d ?_ ?_) | (with_reducible refine gS_dn ?_ ?_) | (with_reducible refine gS_i ?_ ?_)) <;> intro hg <;> (try simp -dsimp (maxSteps := 1000000) only [go_sem, List.forall_mem_nil, ↓reduceIte, Nat.reduceEqDiff, Nat.reduceLT, Nat.reduceLeDiff, Nat.reduceAdd, Nat.reduceMul, reduceCtorEq, Try.f93, hI, h0, Int.toNat_natCast, hrow, run_bad, hq, hinv, hsA, rowsFa_len, *])))
    | false =>
      simp only [hq, if_false, Bool.false_eq_true] at hidx
      rw [hidx] at hinv
      clear hidx
      try simp -dsimp (maxSteps := 1000000) only [go_sem, List.forall_mem_nil, ↓reduceIte, Nat.reduceEqDiff, Nat.reduceLT, Nat.reduceLeDiff, Nat.reduceAdd, Nat.reduceMul, reduceCtorEq, Try.f93, hI, h0, Int.toNat_natCast, hrow, run_bad, hq, hwr, hsA, rowsFa_len]
      repeat' (first
        | ((with_reducible refine sl_i ?_ ?_); focus kernel_rfl)
        | ((with_reducible refine ro_i ?_ ?_); focus kernel_rfl)
        | ((with_reducible refine sl_e ?_); kernel_rfl)
        | ((with_reducible refine ro_e ?_); kernel_rfl)
        | ((first | (with_reducible refine gS_d ?_ ?_) | (with_reducible refine gS_dn ?_ ?_) | (with_reducible refine gS_i ?_ ?_)) <;> intro hg <;> (try simp -dsimp (maxSteps := 1000000) only [go_sem, List.forall_mem_nil, ↓reduceIte, Nat.reduceEqDiff, Nat.reduceLT, Nat.reduceLeDiff, Nat.reduceAdd, Nat.reduceMul, reduceCtorEq, Try.f93, hI, h0, Int.toNat_natCast, hrow, run_bad, hq, hwr, hsA, rowsFa_len, *])))
      exact ⟨⟨k + 1, by omega, hinv⟩, by simp only []; omega, [], [], by ((simp only [ne_eq, eq_self, subF, folds, wk1, subOk, sOk, hOk, nms, reF, rho, mapD, mapC, mapC1, NmD, NmC, NmC1, mapR, mapB, mapTt, NmR, NmB, NmT, MvRb, MvRn, MvRt, lk, ins, Root.get, Root.setT, List.map_cons, List.map_nil, List.nodup_cons, List.nodup_nil, List.not_mem_nil, List.mem_cons, not_false_eq_true, and_self, and_true, true_and, true_or, or_true, false_or, or_false, ↓reduceIte, Nat.reduceEqDiff, Nat.reduceLT, Nat.reduceLeDiff, reduceCtorEq, Option.isSome_some, List.forall_mem_cons, List.forall_mem_nil, implies_true, forall_const, Nat.le_refl, Nat.zero_le, false_implies, List.mem_singleton, MvB_im, MvB_nil, Mv_im, Option.some.injEq, D.c.injEq, C.im.injEq, I.int.injEq, List.getElem?_cons_zero, List.getElem?_cons_succ, List.set_cons_zero, List.set_cons_succ, List.length_cons, List.length_nil, Nat.zero_add]) <;> (try (simp -dsimp only [ne_eq, eq_self, subF, folds, wk1, subOk, sOk, hOk, nms, reF, rho, mapD, mapC, mapC1, NmD, NmC, NmC1, mapR, mapB, mapTt, NmR, NmB, NmT, MvRb, MvRn, MvRt, lk, ins, Root.get, Root.setT, List.map_cons, List.map_nil, List.nodup_cons, List.nodup_nil, List.not_mem_nil, List.mem_cons, not_false_eq_true, and_self, and_true, true_and, true_or, or_true, false_or, or_false, ↓reduceIte, Nat.reduceEqDiff, Nat.reduceLT, Nat.reduceLeDiff, reduceCtorEq, Option.isSome_some, List.forall_mem_cons, List.forall_mem_nil, implies_true, forall_const, Nat.le_refl, Nat.zero_le, false_implies, List.mem_singleton, MvB_im, MvB_nil, Mv_im, Option.some.injEq, D.c.injEq, C.im.injEq, I.int.injEq, List.getElem?_cons_zero, List.getElem?_cons_succ, List.set_cons_zero, List.set_cons_succ, List.length_cons, List.length_nil, Nat.zero_add]))) <;> simp⟩
  · have hI : ((k : Int) < (l.length : Int)) = False := by simp; omega
    have hkl : k = l.length := by omega
    subst hkl
    rw [List.drop_length] at hinv
    try simp -dsimp (maxSteps := 1000000) only [go_sem, List.forall_mem_nil, ↓reduceIte, Nat.reduceEqDiff, Nat.reduceLT, Nat.reduceLeDiff, Nat.reduceAdd, Nat.reduceMul, reduceCtorEq, Try.f93, hI, hinv, idxF, rowsFa_len]
    repeat' (first
      | ((with_reducible refine sl_i ?_ ?_); focus kernel_rfl)
      | ((with_reducible refine ro_i ?_ ?_); focus kernel_rfl)
      | ((with_reducible refine sl_e ?_); kernel_rfl)
      | ((with_reducible refine ro_e ?_); kernel_rfl)
      | ((first | (with_reducible refine gS_d ?_ ?_) | (with_reducible refine gS_dn ?_ ?_) | (with_reducible refine gS_i ?_ ?_)) <;> intro hg <;> (try simp -dsimp (maxSteps := 1000000) only [go_sem, List.forall_mem_nil, ↓reduceIte, Nat.reduceEqDiff, Nat.reduceLT, Nat.reduceLeDiff, Nat.reduceAdd, Nat.reduceMul, reduceCtorEq, Try.f93, hI, hinv, idxF, rowsFa_len, *])))
noncomputable def ct_ContainsFunc_Fault : Ct := fam false (fun x : AIf => ([.c (.im (.sl 4 (rowsFa x.l))), .c (.fn (.func 70) [.ptr 0 0 0 0])], hsA x.ms x.cs)) (fun x => .one { val := .c (.im (.bool (decide (0 ≤ idxF (badF x.ms.length) x.l 0)))), places := hsA x.ms x.cs })
theorem run_ContainsFunc_Fault {ms : List Mod} {cs : List Cbl} {l : List Fa} (h : l.length ≤ sm) : ct_ContainsFunc_Fault.run [.c (.im (.sl 4 (rowsFa l))), .c (.fn (.func 70) [.ptr 0 0 0 0])] [[.t (.im (.sl 11 (rowsM ms))), .t (.im (.sl 2 (rowsC cs)))]] = some (.one { val := .c (.im (.bool (decide (0 ≤ idxF (badF ms.length) l 0)))), places := hsA ms cs }) := fam_run' AIf_inj ⟨ms, cs, l, h⟩
set_option maxRecDepth 100000 in
theorem law_ContainsFunc_Fault : Law Try.prog 69 ct_ContainsFunc_Fault := by
  refine fam_law (Env_cons law_IndexFunc_Fault Env_nil) hmixA Try.func69 rfl rfl (fun ⟨ms, cs, l, hl⟩ => ⟨okO (okR_hsA okDi), by simp [Try.f69], ?_⟩)
  simp only [hsA]
  try simp -dsimp (maxSteps := 1000000) only [go_sem, List.forall_mem_nil, ↓reduceIte, Nat.reduceEqDiff, Nat.reduceLT, Nat.reduceLeDiff, Nat.reduceAdd, Nat.reduceMul, reduceCtorEq, Try.f69, run_IndexFunc_Fault hl, hsA]
  repeat' (first
    | ((with_reducible refine sl_i ?_ ?_); focus kernel_rfl)
    | ((with_reducible refine ro_i ?_ ?_); focus kernel_rfl)
    | ((with_reducible refine sl_e ?_); kernel_rfl)
    | ((with_reducible refine ro_e ?_); kernel_rfl)
    | ((first | (with_reducible refine gS_d ?_ ?_) | (with_reducible refine gS_dn ?_ ?_) | (with_reducible refine gS_i ?_ ?_)) <;> intro hg <;> (try simp -dsimp (maxSteps := 1000000) only [go_sem, List.forall_mem_nil, ↓reduceIte, Nat.reduceEqDiff, Nat.reduceLT, Nat.reduceLeDiff, Nat.reduceAdd, Nat.reduceMul, reduceCtorEq, Try.f69, run_IndexFunc_Fault hl, hsA, *])))
  all_goals simp_all
def areF (ms : List Mod) (cs : List Cbl) (l : List Fa) : Bool := isRackF ms cs && (decide ((l.length : Int) ≤ 20) && !(decide (0 ≤ idxF (badF ms.length) l 0)))
structure AAf where
  ms : List Mod
  cs : List Cbl
  l : List Fa
  ml : ms.length ≤ sm
  cl : cs.length ≤ sm
  ok : ∀ m ∈ ms, OkM m
  ll : l.length ≤ sm
noncomputable def ct_AreFaults : Ct := fam true (fun x : AAf => ([.agg [.im (.sl 11 (rowsM x.ms)), .im (.sl 2 (rowsC x.cs))], .c (.im (.sl 4 (rowsFa x.l)))], [])) (fun x => .one { val := .c (.im (.bool (areF x.ms x.cs x.l))) })
theorem run_AreFaults {ms : List Mod} {cs : List Cbl} {l : List Fa} (h1 : ms.length ≤ sm) (h2 : cs.length ≤ sm) (h5 : ∀ m ∈ ms, OkM m) (h : l.length ≤ sm) : ct_AreFaults.run [.agg [.im (.sl 11 (rowsM ms)), .im (.sl 2 (rowsC cs))], .c (.im (.sl 4 (rowsFa l)))] [] = some (.one { val := .c (.im (.bool (areF ms cs l))) }) := by
  refine fam_run' (args := fun x : AAf => ([D.agg [.im (.sl 11 (rowsM x.ms)), .im (.sl 2 (rowsC x.cs))], .c (.im (.sl 4 (rowsFa x.l)))], [])) ?_ ⟨ms, cs, l, h1, h2, h5, h⟩
  rintro ⟨a, b, c, _, _, _, _⟩ ⟨a', b', c', _, _, _, _⟩ h
  simp only [Prod.mk.injEq, List.cons.injEq, D.c.injEq, D.agg.injEq, C.im.injEq, I.sl.injEq, true_and, and_true, rowsM_eq, rowsC_eq] at h
  obtain ⟨⟨rfl, rfl⟩, h3⟩ := h
  have := rowsFa_inj h3
  subst this; rfl
theorem sc_AreFaults : (ct_AreFaults.sc = true) = True := by simp [ct_AreFaults, fam]
set_option maxRecDepth 100000 in
set_option maxHeartbeats 4000000 in
theorem law_AreFaults : Law Try.prog 51 ct_AreFaults := by
  refine fam_law (Env_cons law_IsRack (Env_cons law_ContainsFunc_Fault Env_nil)) hmixA Try.func51 rfl rfl (fun ⟨ms, cs, l, h1, h2, h5, hl⟩ => ⟨okO_im rfl, by simp [Try.f51], ?_⟩)
  simp only
  cases hr : isRackF ms cs with
  | false =>
    try simp -dsimp (maxSteps := 1000000) only [go_sem, List.forall_mem_nil, ↓reduceIte, Nat.reduceEqDiff, Nat.reduceLT, Nat.reduceLeDiff, Nat.reduceAdd, Nat.reduceMul, reduceCtorEq, Try.f51, run_IsRack h1 h2 h5, hr, areF, Bool.false_and]
    repeat' (first
      | ((with_reducible refine sl_i ?_ ?_); focus kernel_rfl)
      | ((with_reducible refine ro_i ?_ ?_); focus kernel_rfl)
      | ((with_reducible refine sl_e ?_); kernel_rfl)
      | ((with_reducible refine ro_e ?_); kernel_rfl)
      | ((first | (with_reducible refine gS_d ?_ ?_) | (with_reducible refine gS_dn ?_ ?_) | (with_reducible refine gS_i ?_ ?_)) <;> intro hg <;> (try simp -dsimp (maxSteps := 1000000) only [go_sem, List.forall_mem_nil, ↓reduceIte, Nat.reduceEqDiff, Nat.reduceLT, Nat.reduceLeDiff, Nat.reduceAdd, Nat.reduceMul, reduceCtorEq, Try.f51, run_IsRack h1 h2 h5, hr, areF, Bool.false_and, *])))
  | true =>
    by_cases h20 : (l.length : Int) ≤ 20
    · have h20' := eq_true h20
      try simp -dsimp (maxSteps := 1000000) only [go_sem, List.forall_mem_nil, ↓reduceIte, Nat.reduceEqDiff, Nat.reduceLT, Nat.reduceLeDiff, Nat.reduceAdd, Nat.reduceMul, reduceCtorEq, Try.f51, run_IsRack h1 h2 h5, hr, h20', run_ContainsFunc_Fault hl, hsA, rowsFa_len, areF, Bool.true_and]
      repeat' (first
        | ((with_reducible refine sl_i ?_ ?_); focus kernel_rfl)
        | ((with_reducible refine ro_i ?_ ?_); focus kernel_rfl)
        | ((with_reducible refine sl_e ?_); kernel_rfl)
        | ((with_reducible refine ro_e ?_); kernel_rfl)
        | ((first | (with_reducible refine gS_d ?_ ?_) | (with_reducible refine gS_dn ?_ ?_) | (with_reducible refine gS_i ?_ ?_)) <;> intro hg <;> (try simp -dsimp (maxSteps := 1000000) only [go_sem, List.forall_mem_nil, ↓reduceIte, Nat.reduceEqDiff, Nat.reduceLT, Nat.reduceLeDiff, Nat.reduceAdd, Nat.reduceMul, reduceCtorEq, Try.f51, run_IsRack h1 h2 h5, hr, h20', run_ContainsFunc_Fault hl, hsA, rowsFa_len, areF, Bool.true_and, *])))
      all_goals simp_all
    · have h20' := eq_false h20
      try simp -dsimp (maxSteps := 1000000) only [go_sem, List.forall_mem_nil, ↓reduceIte, Nat.reduceEqDiff, Nat.reduceLT, Nat.reduceLeDiff, Nat.reduceAdd, Nat.reduceMul, reduceCtorEq, Try.f51, run_IsRack h1 h2 h5, hr, h20', rowsFa_len, areF, Bool.true_and, Bool.false_and]
      repeat' (first
        | ((with_reducible refine sl_i ?_ ?_); focus kernel_rfl)
        | ((with_reducible refine ro_i ?_ ?_); focus kernel_rfl)
        | ((with_reducible refine sl_e ?_); kernel_rfl)
        | ((with_reducible refine ro_e ?_); kernel_rfl)
        | ((first | (with_reducible refine gS_d ?_ ?_) | (with_reducible refine gS_dn ?_ ?_) | (with_reducible refine gS_i ?_ ?_)) <;> intro hg <;> (try simp -dsimp (maxSteps := 1000000) only [go_sem, List.forall_mem_nil, ↓reduceIte, Nat.reduceEqDiff, Nat.reduceLT, Nat.reduceLeDiff, Nat.reduceAdd, Nat.reduceMul, reduceCtorEq, Try.f51, run_IsRack h1 h2 h5, hr, h20', rowsFa_len, areF, Bool.true_and, Bool.false_and, *])))
end Go.SX
