/-
  RunFaults$1: what an output becomes while faults last.
  No condition.
-/
import Derived.Test.YtbhnlplbfhomcaaRlD
import Derived.Test.YtbhnlplbfhomcaaRlH
set_option linter.unusedVariables false
set_option linter.unusedSimpArgs false
namespace Go.SX
open Go Go.Proofs

/-- A fault: its kind, its module, from, to. -/
structure Fa where
  kind : Int
  md : Int
  fr : Int
  to_ : Int
def rowsFa (l : List Fa) : List (List I) := l.map fun f => [.int .i64 f.kind, .int .i64 f.md, .int .i64 f.fr, .int .i64 f.to_]
theorem rowsFa_len (l : List Fa) : (rowsFa l).length = l.length := by simp [rowsFa]
theorem rowsFa_at {l : List Fa} {k : Nat} {f : Fa} (h : l[k]? = some f) : (rowsFa l)[k]? = some [.int .i64 f.kind, .int .i64 f.md, .int .i64 f.fr, .int .i64 f.to_] := by simp [rowsFa, h]
theorem rowsFa_inj {a b : List Fa} (h : rowsFa a = rowsFa b) : a = b := by
  induction a generalizing b with
  | nil => cases b with
    | nil => rfl
    | cons y b => simp [rowsFa] at h
  | cons x a ih => cases b with
    | nil => simp [rowsFa] at h
    | cons y b =>
      simp only [rowsFa, List.map_cons, List.cons.injEq, I.int.injEq, true_and, and_true] at h
      obtain ⟨⟨h1, h2, h3, h4⟩, h5⟩ := h
      rw [ih h5]
      obtain ⟨k, m, f, t⟩ := x
      obtain ⟨k', m', f', t'⟩ := y
      simp only at h1 h2 h3 h4
      subst h1 h2 h3 h4; rfl
def bec1 (i : Int) (last : List Pt) (n : Int) (z : Pt) (f : Fa) : Pt :=
  if f.md = n ∧ ¬ i < f.fr ∧ ¬ f.to_ ≤ i then
    if f.kind = 1 then (0, 0) else if f.kind = 2 then last.getD n.toNat (0, 0) else if f.kind = 3 then (flushF z.1, flushF z.2) else z
  else z
def becF (fs : List Fa) (i : Int) (last : List Pt) (n : Int) (p : Pt) : Pt := fs.foldl (bec1 i last n) p
theorem bec_next {fs : List Fa} {i : Int} {last : List Pt} {n : Int} {p : Pt} {k : Nat} {f : Fa} (h : fs[k]? = some f) : becF (fs.take (k + 1)) i last n p = bec1 i last n (becF (fs.take k) i last n p) f := by
  simp only [becF]
  rw [take_snoc h, List.foldl_append]; rfl
def hsF (fs : List Fa) (i : Int) (last : List Pt) : List (List B) := [[.t (.im (.sl 4 (rowsFa fs)))], [.t (.im (.int .i64 i))], [.t (.own 1 (tI (rowsZ last)))]]
structure ABec where
  fs : List Fa
  i : Int
  last : List Pt
  n : Int
  p : Pt
  fl : fs.length ≤ sm
  n0 : 0 ≤ n
  n1 : n < last.length
theorem hsF_inj {fs gs : List Fa} {i j : Int} {l m : List Pt} (h : hsF fs i l = hsF gs j m) : fs = gs ∧ i = j ∧ l = m := by
  simp only [hsF, List.cons.injEq, B.t.injEq, T.im.injEq, T.own.injEq, I.sl.injEq, I.int.injEq, true_and, and_true] at h
  exact ⟨rowsFa_inj h.1, h.2.1, rowsZ_inj (tI_inj h.2.2)⟩
theorem okR_bec {v : D} {fs : List Fa} {i : Int} {last : List Pt} (hv : OkD false 0 v) : OkR false { val := v, places := hsF fs i last } := by
  refine ⟨hv, by simp, fun c hc x hx => ?_⟩
  simp only [hsF, List.mem_cons, List.not_mem_nil, or_false] at hc
  rcases hc with rfl | rfl | rfl <;> simp only [List.mem_cons, List.not_mem_nil, or_false] at hx <;> subst hx
  · exact .t _ (.im _ (.inl rfl))
  · exact .t _ (.im _ (.inl rfl))
  · exact .t _ (mv_own (sc_rowsZ _))
noncomputable def ct_bec : Ct := fam false (fun x : ABec => ([.c (.im (.int .i64 x.n)), .c (.im (.cpx .f32 x.p.1 x.p.2)), .c (.ptr 0 0 0 0), .c (.ptr 1 0 0 0), .c (.ptr 2 0 0 0)], hsF x.fs x.i x.last))
  (fun x => .one { val := .c (.im (.cpx .f32 (becF x.fs x.i x.last x.n x.p).1 (becF x.fs x.i x.last x.n x.p).2)), places := hsF x.fs x.i x.last })
theorem run_bec {fs : List Fa} {i n : Int} {last : List Pt} {u v : Nat} (h1 : fs.length ≤ sm) (h2 : 0 ≤ n) (h3 : n < last.length) : ct_bec.run [.c (.im (.int .i64 n)), .c (.im (.cpx .f32 u v)), .c (.ptr 0 0 0 0), .c (.ptr 1 0 0 0), .c (.ptr 2 0 0 0)] [[.t (.im (.sl 4 (rowsFa fs)))], [.t (.im (.int .i64 i))], [.t (.own 1 (tI (rowsZ last)))]] =
    some (.one { val := .c (.im (.cpx .f32 (becF fs i last n (u, v)).1 (becF fs i last n (u, v)).2)), places := hsF fs i last }) := by
  refine fam_run' (args := fun x : ABec => ([D.c (.im (.int .i64 x.n)), .c (.im (.cpx .f32 x.p.1 x.p.2)), .c (.ptr 0 0 0 0), .c (.ptr 1 0 0 0), .c (.ptr 2 0 0 0)], hsF x.fs x.i x.last)) ?_ ⟨fs, i, last, n, (u, v), h1, h2, h3⟩
  rintro ⟨fs, i, l, n, p, _, _, _⟩ ⟨fs', i', l', n', p', _, _, _⟩ h
  simp only [Prod.mk.injEq, List.cons.injEq, D.c.injEq, C.im.injEq, I.cpx.injEq, I.int.injEq, true_and, and_true] at h
  obtain ⟨⟨rfl, hp1, hp2⟩, h4⟩ := h
  obtain ⟨rfl, rfl, rfl⟩ := hsF_inj h4
  have : p = p' := Prod.ext hp1 hp2
  subst this; rfl
set_option maxRecDepth 100000 in
set_option maxHeartbeats 8000000 in
theorem law_bec : Law Try.prog 52 ct_bec := by
  refine fam_lawF (Env_cons law_flush Env_nil) hmixA Try.func52 rfl rfl (fun ⟨fs, i, last, n, ⟨u, v⟩, h1, h2, h3⟩ => ⟨okO (okR_bec okDi), by simp [Try.f52], ?_⟩)
  simp only [hsF]
  obtain ⟨N, rfl⟩ := Int.eq_ofNat_of_zero_le h2
  have hN : N < last.length := by omega
  obtain ⟨⟨q1, q2⟩, hq⟩ : ∃ p, last[N]? = some p := ⟨_, List.getElem?_eq_getElem hN⟩
  have hql := tIZ_at hq
  have hqd : last.getD (N : Int).toNat (0, 0) = (q1, q2) := by rw [Int.toNat_natCast, List.getD_eq_getElem?_getD, hq]; rfl
  have hn0 : (0 ≤ (N : Int)) = True := by simp
  have hn1 : ((N : Int) < (last.length : Int)) = True := eq_true (by omega)
  simp only at hql
  try simp -dsimp (maxSteps := 1000000) only [go_sem, List.forall_mem_nil, ↓reduceIte, Nat.reduceEqDiff, Nat.reduceLT, Nat.reduceLeDiff, Nat.reduceAdd, Nat.reduceMul, reduceCtorEq, Try.f52, rowsFa_len]
  repeat' (first
    | ((with_reducible refine sl_i ?_ ?_); focus kernel_rfl)
    | ((with_reducible refine ro_i ?_ ?_); focus kernel_rfl)
    | ((with_reducible refine sl_e ?_); kernel_rfl)
    | ((with_reducible refine ro_e ?_); kernel_rfl)
    | ((first | (with_reducible refine gS_d ?_ ?_) | (with_reducible refine gS_dn ?_ ?_) | (with_reducible refine gS_i ?_ ?_)) <;> intro hg <;> (try simp -dsimp (maxSteps := 1000000) only [go_sem, List.forall_mem_nil, ↓reduceIte, Nat.reduceEqDiff, Nat.reduceLT, Nat.reduceLeDiff, Nat.reduceAdd, Nat.reduceMul, reduceCtorEq, Try.f52, rowsFa_len, *])))
  refine loop_i (ι := { k : Nat // k ≤ fs.length }) (fun k => ⟨[(0, some (.c (.im (.int .i64 (N : Int))))), (1, some (.c (.im (.cpx .f32 (becF (fs.take k.1) i last N (u, v)).1 (becF (fs.take k.1) i last N (u, v)).2)))), (3, some (.c (.ptr 1 0 0 0))), (4, some (.c (.ptr 2 0 0 0))), (10, some (.c (.im (.sl 4 (rowsFa fs))))), (11, some (.c (.im (.int .i64 (fs.length : Int))))), (12, some (.c (.im (.int .i64 (k.1 : Int)))))],
    [(0, some (.box [.t (.im (.sl 4 (rowsFa fs)))])), (1, some (.box [.t (.im (.int .i64 i))])), (2, some (.box [.t (.own 1 (tI (rowsZ last)))]))], 3⟩) (fun k => fs.length - k.1) ⟨0, by simp⟩ ⟨[], [0, 1, 2], by ((simp only [ne_eq, eq_self, subF, folds, wk1, subOk, sOk, hOk, nms, reF, rho, mapD, mapC, mapC1, NmD, NmC, NmC1, mapR, mapB, mapTt, NmR, NmB, NmT, MvRb, MvRn, MvRt, lk, ins, Root.get, Root.setT, List.map_cons, List.map_nil, List.nodup_cons, List.nodup_nil, List.not_mem_nil, List.mem_cons, not_false_eq_true, and_self, and_true, true_and, true_or, or_true, false_or, or_false, ↓reduceIte, Nat.reduceEqDiff, Nat.reduceLT, Nat.reduceLeDiff, reduceCtorEq, Option.isSome_some, List.forall_mem_cons, List.forall_mem_nil, implies_true, forall_const, Nat.le_refl, Nat.zero_le, false_implies, List.mem_singleton, MvB_im, MvB_nil, Mv_im, Option.some.injEq, D.c.injEq, C.im.injEq, I.int.injEq, List.getElem?_cons_zero, List.getElem?_cons_succ, List.set_cons_zero, List.set_cons_succ, List.length_cons, List.length_nil, Nat.zero_add, MvB_Z]) <;> (try (simp -dsimp only [ne_eq, eq_self, subF, folds, wk1, subOk, sOk, hOk, nms, reF, rho, mapD, mapC, mapC1, NmD, NmC, NmC1, mapR, mapB, mapTt, NmR, NmB, NmT, MvRb, MvRn, MvRt, lk, ins, Root.get, Root.setT, List.map_cons, List.map_nil, List.nodup_cons, List.nodup_nil, List.not_mem_nil, List.mem_cons, not_false_eq_true, and_self, and_true, true_and, true_or, or_true, false_or, or_false, ↓reduceIte, Nat.reduceEqDiff, Nat.reduceLT, Nat.reduceLeDiff, reduceCtorEq, Option.isSome_some, List.forall_mem_cons, List.forall_mem_nil, implies_true, forall_const, Nat.le_refl, Nat.zero_le, false_implies, List.mem_singleton, MvB_im, MvB_nil, Mv_im, Option.some.injEq, D.c.injEq, C.im.injEq, I.int.injEq, List.getElem?_cons_zero, List.getElem?_cons_succ, List.set_cons_zero, List.set_cons_succ, List.length_cons, List.length_nil, Nat.zero_add, MvB_Z]))) <;> simp [lk, MvB_im, MvB_Z, becF]⟩ (fun ⟨k, hk⟩ => ?_)
  simp only
  by_cases hlt : k < fs.length
  rotate_left
  · have hI : ((k : Int) < (fs.length : Int)) = False := eq_false (by omega)
    obtain rfl : k = fs.length := by omega
    rw [List.take_length]
    try simp -dsimp (maxSteps := 1000000) only [go_sem, List.forall_mem_nil, ↓reduceIte, Nat.reduceEqDiff, Nat.reduceLT, Nat.reduceLeDiff, Nat.reduceAdd, Nat.reduceMul, reduceCtorEq, Try.f52, hI]
    repeat' (first
      | ((with_reducible refine sl_i ?_ ?_); focus kernel_rfl)
      | ((with_reducible refine ro_i ?_ ?_); focus kernel_rfl)
      | ((with_reducible refine sl_e ?_); kernel_rfl)
      | ((with_reducible refine ro_e ?_); kernel_rfl)
      | ((first | (with_reducible refine gS_d ?_ ?_) | (with_reducible refine gS_dn ?_ ?_) | (with_reducible refine gS_i ?_ ?_)) <;> intro hg <;> (try simp -dsimp (maxSteps := 1000000) only [go_sem, List.forall_mem_nil, ↓reduceIte, Nat.reduceEqDiff, Nat.reduceLT, Nat.reduceLeDiff, Nat.reduceAdd, Nat.reduceMul, reduceCtorEq, Try.f52, hI, *])))
    refine finF_i [] ?_
    simp -dsimp (maxSteps := 1000000) only [go_sem, List.forall_mem_nil, ↓reduceIte, Nat.reduceEqDiff, Nat.reduceLT, Nat.reduceLeDiff, Nat.reduceAdd, Nat.reduceMul, reduceCtorEq, hsF]
  have hI : ((k : Int) < (fs.length : Int)) = True := eq_true (by omega)
  obtain ⟨f, hf⟩ : ∃ f, fs[k]? = some f := ⟨_, List.getElem?_eq_getElem hlt⟩
  have hrow := rowsFa_at hf
  have h0 : (0 ≤ (k : Int)) = True := by simp
  have hwr := lt_sm h1 hlt
  have hnx := bec_next (i := i) (last := last) (n := (N : Int)) (p := (u, v)) hf
  generalize becF (fs.take k) i last N (u, v) = z at *
  obtain ⟨z1, z2⟩ := z
  obtain ⟨kd, md, fr, to_⟩ := f
  simp only at hrow hnx ⊢
  by_cases hc : md = (N : Int) ∧ ¬ i < fr ∧ ¬ to_ ≤ i
  rotate_left
  · have e : becF (fs.take (k + 1)) i last N (u, v) = (z1, z2) := by rw [hnx]; simp only [bec1, hc, if_false]
    by_cases c1 : md = (N : Int)
    · have c1' := eq_true c1
      by_cases c2 : i < fr
      · have c2' := eq_true c2
        clear hc c1 c2
        try simp -dsimp (maxSteps := 1000000) only [go_sem, List.forall_mem_nil, ↓reduceIte, Nat.reduceEqDiff, Nat.reduceLT, Nat.reduceLeDiff, Nat.reduceAdd, Nat.reduceMul, reduceCtorEq, Try.f52, hI, h0, hrow, hwr, c1', c2', Int.toNat_natCast]
        repeat' (first
          | ((with_reducible refine sl_i ?_ ?_); focus kernel_rfl)
          | ((with_reducible refine ro_i ?_ ?_); focus kernel_rfl)
          | ((with_reducible refine sl_e ?_); kernel_rfl)
          | ((with_reducible refine ro_e ?_); kernel_rfl)
          | ((first | (with_reducible refine gS_d ?_ ?_) | (with_reducible refine gS_dn ?_ ?_) | (with_reducible refine gS_i ?_ ?_)) <;> intro hg <;> (try simp -dsimp (maxSteps := 1000000) only [go_sem, List.forall_mem_nil, ↓reduceIte, Nat.reduceEqDiff, Nat.reduceLT, Nat.reduceLeDiff, Nat.reduceAdd, Nat.reduceMul, reduceCtorEq, Try.f52, hI, h0, hrow, hwr, c1', c2', Int.toNat_natCast, *])))
        exact ⟨⟨k + 1, by omega⟩, by simp only []; omega, [], [0, 1, 2], by ((simp only [ne_eq, eq_self, subF, folds, wk1, subOk, sOk, hOk, nms, reF, rho, mapD, mapC, mapC1, NmD, NmC, NmC1, mapR, mapB, mapTt, NmR, NmB, NmT, MvRb, MvRn, MvRt, lk, ins, Root.get, Root.setT, List.map_cons, List.map_nil, List.nodup_cons, List.nodup_nil, List.not_mem_nil, List.mem_cons, not_false_eq_true, and_self, and_true, true_and, true_or, or_true, false_or, or_false, ↓reduceIte, Nat.reduceEqDiff, Nat.reduceLT, Nat.reduceLeDiff, reduceCtorEq, Option.isSome_some, List.forall_mem_cons, List.forall_mem_nil, implies_true, forall_const, Nat.le_refl, Nat.zero_le, false_implies, List.mem_singleton, MvB_im, MvB_nil, Mv_im, Option.some.injEq, D.c.injEq, C.im.injEq, I.int.injEq, List.getElem?_cons_zero, List.getElem?_cons_succ, List.set_cons_zero, List.set_cons_succ, List.length_cons, List.length_nil, Nat.zero_add, MvB_Z, e]) <;> (try (simp -dsimp only [ne_eq, eq_self, subF, folds, wk1, subOk, sOk, hOk, nms, reF, rho, mapD, mapC, mapC1, NmD, NmC, NmC1, mapR, mapB, mapTt, NmR, NmB, NmT, MvRb, MvRn, MvRt, lk, ins, Root.get, Root.setT, List.map_cons, List.map_nil, List.nodup_cons, List.nodup_nil, List.not_mem_nil, List.mem_cons, not_false_eq_true, and_self, and_true, true_and, true_or, or_true, false_or, or_false, ↓reduceIte, Nat.reduceEqDiff, Nat.reduceLT, Nat.reduceLeDiff, reduceCtorEq, Option.isSome_some, List.forall_mem_cons, List.forall_mem_nil, implies_true, forall_const, Nat.le_refl, Nat.zero_le, false_implies, List.mem_singleton, MvB_im, MvB_nil, Mv_im, Option.some.injEq, D.c.injEq, C.im.injEq, I.int.injEq, List.getElem?_cons_zero, List.getElem?_cons_succ, List.set_cons_zero, List.set_cons_succ, List.length_cons, List.length_nil, Nat.zero_add, MvB_Z, e]))) <;> simp [lk, MvB_im, MvB_Z]⟩
      · have c2' := eq_false c2
        have c3' : (to_ ≤ i) = True := eq_true (by
          by_cases c3 : to_ ≤ i
          · exact c3
          · exact absurd ⟨c1, c2, c3⟩ hc)
        clear hc c1 c2
        try simp -dsimp (maxSteps := 1000000) only [go_sem, List.forall_mem_nil, ↓reduceIte, Nat.reduceEqDiff, Nat.reduceLT, Nat.reduceLeDiff, Nat.reduceAdd, Nat.reduceMul, reduceCtorEq, Try.f52, hI, h0, hrow, hwr, c1', c2', c3', Int.toNat_natCast]
        repeat' (first
          | ((with_reducible refine sl_i ?_ ?_); focus kernel_rfl)
          | ((with_reducible refine ro_i ?_ ?_); focus kernel_rfl)
          | ((with_reducible refine sl_e ?_); kernel_rfl)
          | ((with_reducible refine ro_e ?_); kernel_rfl)
          | ((first | (with_reducible refine gS_d ?_ ?_) | (with_reducible refine gS_dn ?_ ?_) | (with_reducible refine gS_i ?_ ?_)) <;> intro hg <;> (try simp -dsimp (maxSteps := 1000000) only [go_sem, List.forall_mem_nil, ↓reduceIte, Nat.reduceEqDiff, Nat.reduceLT, Nat.reduceLeDiff, Nat.reduceAdd, Nat.reduceMul, reduceCtorEq, Try.f52, hI, h0, hrow, hwr, c1', c2', c3', Int.toNat_natCast, *])))
        exact ⟨⟨k + 1, by omega⟩, by simp only []; omega, [], [0, 1, 2], by ((simp only [ne_eq, eq_self, subF, folds, wk1, subOk, sOk, hOk, nms, reF, rho, mapD, mapC, mapC1, NmD, NmC, NmC1, mapR, mapB, mapTt, NmR, NmB, NmT, MvRb, MvRn, MvRt, lk, ins, Root.get, Root.setT, List.map_cons, List.map_nil, List.nodup_cons, List.nodup_nil, List.not_mem_nil, List.mem_cons, not_false_eq_true, and_self, and_true, true_and, true_or, or_true, false_or, or_false, ↓reduceIte, Nat.reduceEqDiff, Nat.reduceLT, Nat.reduceLeDiff, reduceCtorEq, Option.isSome_some, List.forall_mem_cons, List.forall_mem_nil, implies_true, forall_const, Nat.le_refl, Nat.zero_le, false_implies, List.mem_singleton, MvB_im, MvB_nil, Mv_im, Option.some.injEq, D.c.injEq, C.im.injEq, I.int.injEq, List.getElem?_cons_zero, List.getElem?_cons_succ, List.set_cons_zero, List.set_cons_succ, List.length_cons, List.length_nil, Nat.zero_add, MvB_Z, e]) <;> (try (simp -dsimp only [ne_eq, eq_self, subF, folds, wk1, subOk, sOk, hOk, nms, reF, rho, mapD, mapC, mapC1, NmD, NmC, NmC1, mapR, mapB, mapTt, NmR, NmB, NmT, MvRb, MvRn, MvRt, lk, ins, Root.get, Root.setT, List.map_cons, List.map_nil, List.nodup_cons, List.nodup_nil, List.not_mem_nil, List.mem_cons, not_false_eq_true, and_self, and_true, true_and, true_or, or_true, false_or, or_false, ↓reduceIte, Nat.reduceEqDiff, Nat.reduceLT, Nat.reduceLeDiff, reduceCtorEq, Option.isSome_some, List.forall_mem_cons, List.forall_mem_nil, implies_true, forall_const, Nat.le_refl, Nat.zero_le, false_implies, List.mem_singleton, MvB_im, MvB_nil, Mv_im, Option.some.injEq, D.c.injEq, C.im.injEq, I.int.injEq, List.getElem?_cons_zero, List.getElem?_cons_succ, List.set_cons_zero, List.set_cons_succ, List.length_cons, List.length_nil, Nat.zero_add, MvB_Z, e]))) <;> simp [lk, MvB_im, MvB_Z]⟩
    · have c1' := eq_false c1
      clear hc c1
      try simp -dsimp (maxSteps := 1000000) only [go_sem, List.forall_mem_nil, ↓reduceIte, Nat.reduceEqDiff, Nat.reduceLT, Nat.reduceLeDiff, Nat.reduceAdd, Nat.reduceMul, reduceCtorEq, Try.f52, hI, h0, hrow, hwr, c1', Int.toNat_natCast]
      repeat' (first
        | ((with_reducible refine sl_i ?_ ?_); focus kernel_rfl)
        | ((with_reducible refine ro_i ?_ ?_); focus kernel_rfl)
        | ((with_reducible refine sl_e ?_); kernel_rfl)
        | ((with_reducible refine ro_e ?_); kernel_rfl)
        | ((first | (with_reducible refine gS_d ?_ ?_) | (with_reducible refine gS_dn ?_ ?_) | (with_reducible refine gS_i ?_ ?_)) <;> intro hg <;> (try simp -dsimp (maxSteps := 1000000) only [go_sem, List.forall_mem_nil, ↓reduceIte, Nat.reduceEqDiff, Nat.reduceLT, Nat.reduceLeDiff, Nat.reduceAdd, Nat.reduceMul, reduceCtorEq, Try.f52, hI, h0, hrow, hwr, c1', Int.toNat_natCast, *])))
      exact ⟨⟨k + 1, by omega⟩, by simp only []; omega, [], [0, 1, 2], by ((simp only [ne_eq, eq_self, subF, folds, wk1, subOk, sOk, hOk, nms, reF, rho, mapD, mapC, mapC1, NmD, NmC, NmC1, mapR, mapB, mapTt, NmR, NmB, NmT, MvRb, MvRn, MvRt, lk, ins, Root.get, Root.setT, List.map_cons, List.map_nil, List.nodup_cons, List.nodup_nil, List.not_mem_nil, List.mem_cons, not_false_eq_true, and_self, and_true, true_and, true_or, or_true, false_or, or_false, ↓reduceIte, Nat.reduceEqDiff, Nat.reduceLT, Nat.reduceLeDiff, reduceCtorEq, Option.isSome_some, List.forall_mem_cons, List.forall_mem_nil, implies_true, forall_const, Nat.le_refl, Nat.zero_le, false_implies, List.mem_singleton, MvB_im, MvB_nil, Mv_im, Option.some.injEq, D.c.injEq, C.im.injEq, I.int.injEq, List.getElem?_cons_zero, List.getElem?_cons_succ, List.set_cons_zero, List.set_cons_succ, List.length_cons, List.length_nil, Nat.zero_add, MvB_Z, e]) <;> (try (simp -dsimp only [ne_eq, eq_self, subF, folds, wk1, subOk, sOk, hOk, nms, reF, rho, mapD, mapC, mapC1, NmD, NmC, NmC1, mapR, mapB, mapTt, NmR, NmB, NmT, MvRb, MvRn, MvRt, lk, ins, Root.get, Root.setT, List.map_cons, List.map_nil, List.nodup_cons, List.nodup_nil, List.not_mem_nil, List.mem_cons, not_false_eq_true, and_self, and_true, true_and, true_or, or_true, false_or, or_false, ↓reduceIte, Nat.reduceEqDiff, Nat.reduceLT, Nat.reduceLeDiff, reduceCtorEq, Option.isSome_some, List.forall_mem_cons, List.forall_mem_nil, implies_true, forall_const, Nat.le_refl, Nat.zero_le, false_implies, List.mem_singleton, MvB_im, MvB_nil, Mv_im, Option.some.injEq, D.c.injEq, C.im.injEq, I.int.injEq, List.getElem?_cons_zero, List.getElem?_cons_succ, List.set_cons_zero, List.set_cons_succ, List.length_cons, List.length_nil, Nat.zero_add, MvB_Z, e]))) <;> simp [lk, MvB_im, MvB_Z]⟩
  have e : becF (fs.take (k + 1)) i last N (u, v) = if kd = 1 then (0, 0) else if kd = 2 then (q1, q2) else if kd = 3 then (flushF z1, flushF z2) else (z1, z2) := by
    rw [hnx]; simp only [bec1, hc, not_false_eq_true, and_self, if_true, hqd]
  obtain ⟨c1, c2, c3⟩ := hc
  have c1' := eq_true c1
  have c2' := eq_false c2
  have c3' := eq_false c3
  clear c1 c2 c3
  by_cases k1 : kd = 1
  · have k1' := eq_true k1
    rw [if_pos k1] at e
    clear k1
    try simp -dsimp (maxSteps := 1000000) only [go_sem, List.forall_mem_nil, ↓reduceIte, Nat.reduceEqDiff, Nat.reduceLT, Nat.reduceLeDiff, Nat.reduceAdd, Nat.reduceMul, reduceCtorEq, Try.f52, hI, h0, hrow, hwr, c1', c2', c3', k1', Int.toNat_natCast]
    repeat' (first
      | ((with_reducible refine sl_i ?_ ?_); focus kernel_rfl)
      | ((with_reducible refine ro_i ?_ ?_); focus kernel_rfl)
      | ((with_reducible refine sl_e ?_); kernel_rfl)
      | ((with_reducible refine ro_e ?_); kernel_rfl)
      | ((first | (with_reducible refine gS_d ?_ ?_) | (with_reducible refine gS_dn ?_ ?_) | (with_reducible refine gS_i ?_ ?_)) <;> intro hg <;> (try simp -dsimp (maxSteps := 1000000) only [go_sem, List.forall_mem_nil, ↓reduceIte, Nat.reduceEqDiff, Nat.reduceLT, Nat.reduceLeDiff, Nat.reduceAdd, Nat.reduceMul, reduceCtorEq, Try.f52, hI, h0, hrow, hwr, c1', c2', c3', k1', Int.toNat_natCast, *])))
    exact ⟨⟨k + 1, by omega⟩, by simp only []; omega, [], [0, 1, 2], by ((simp only [ne_eq, eq_self, subF, folds, wk1, subOk, sOk, hOk, nms, reF, rho, mapD, mapC, mapC1, NmD, NmC, NmC1, mapR, mapB, mapTt, NmR, NmB, NmT, MvRb, MvRn, MvRt, lk, ins, Root.get, Root.setT, List.map_cons, List.map_nil, List.nodup_cons, List.nodup_nil, List.not_mem_nil, List.mem_cons, not_false_eq_true, and_self, and_true, true_and, true_or, or_true, false_or, or_false, ↓reduceIte, Nat.reduceEqDiff, Nat.reduceLT, Nat.reduceLeDiff, reduceCtorEq, Option.isSome_some, List.forall_mem_cons, List.forall_mem_nil, implies_true, forall_const, Nat.le_refl, Nat.zero_le, false_implies, List.mem_singleton, MvB_im, MvB_nil, Mv_im, Option.some.injEq, D.c.injEq, C.im.injEq, I.int.injEq, List.getElem?_cons_zero, List.getElem?_cons_succ, List.set_cons_zero, List.set_cons_succ, List.length_cons, List.length_nil, Nat.zero_add, MvB_Z, e]) <;> (try (simp -dsimp only [ne_eq, eq_self, subF, folds, wk1, subOk, sOk, hOk, nms, reF, rho, mapD, mapC, mapC1, NmD, NmC, NmC1, mapR, mapB, mapTt, NmR, NmB, NmT, MvRb, MvRn, MvRt, lk, ins, Root.get, Root.setT, List.map_cons, List.map_nil, List.nodup_cons, List.nodup_nil, List.not_mem_nil, List.mem_cons, not_false_eq_true, and_self, and_true, true_and, true_or, or_true, false_or, or_false, ↓reduceIte, Nat.reduceEqDiff, Nat.reduceLT, Nat.reduceLeDiff, reduceCtorEq, Option.isSome_some, List.forall_mem_cons, List.forall_mem_nil, implies_true, forall_const, Nat.le_refl, Nat.zero_le, false_implies, List.mem_singleton, MvB_im, MvB_nil, Mv_im, Option.some.injEq, D.c.injEq, C.im.injEq, I.int.injEq, List.getElem?_cons_zero, List.getElem?_cons_succ, List.set_cons_zero, List.set_cons_succ, List.length_cons, List.length_nil, Nat.zero_add, MvB_Z, e]))) <;> simp [lk, MvB_im, MvB_Z]⟩
  rw [if_neg k1] at e
  have k1' := eq_false k1
  clear k1
  by_cases k2 : kd = 2
  · have k2' := eq_true k2
    rw [if_pos k2] at e
    clear k2
    try simp -dsimp (maxSteps := 1000000) only [go_sem, List.forall_mem_nil, ↓reduceIte, Nat.reduceEqDiff, Nat.reduceLT, Nat.reduceLeDiff, Nat.reduceAdd, Nat.reduceMul, reduceCtorEq, Try.f52, hI, h0, hrow, hwr, c1', c2', c3', k1', k2', hn0, hn1, hql, tI_len, rowsZ_len, Int.toNat_natCast]
    repeat' (first
      | ((with_reducible refine sl_i ?_ ?_); focus kernel_rfl)
      | ((with_reducible refine ro_i ?_ ?_); focus kernel_rfl)
      | ((with_reducible refine sl_e ?_); kernel_rfl)
      | ((with_reducible refine ro_e ?_); kernel_rfl)
      | ((first | (with_reducible refine gS_d ?_ ?_) | (with_reducible refine gS_dn ?_ ?_) | (with_reducible refine gS_i ?_ ?_)) <;> intro hg <;> (try simp -dsimp (maxSteps := 1000000) only [go_sem, List.forall_mem_nil, ↓reduceIte, Nat.reduceEqDiff, Nat.reduceLT, Nat.reduceLeDiff, Nat.reduceAdd, Nat.reduceMul, reduceCtorEq, Try.f52, hI, h0, hrow, hwr, c1', c2', c3', k1', k2', hn0, hn1, hql, tI_len, rowsZ_len, Int.toNat_natCast, *])))
    exact ⟨⟨k + 1, by omega⟩, by simp only []; omega, [.fold 2 0 0], [0, 1, 2], by ((simp only [ne_eq, eq_self, subF, folds, wk1, subOk, sOk, hOk, nms, reF, rho, mapD, mapC, mapC1, NmD, NmC, NmC1, mapR, mapB, mapTt, NmR, NmB, NmT, MvRb, MvRn, MvRt, lk, ins, Root.get, Root.setT, List.map_cons, List.map_nil, List.nodup_cons, List.nodup_nil, List.not_mem_nil, List.mem_cons, not_false_eq_true, and_self, and_true, true_and, true_or, or_true, false_or, or_false, ↓reduceIte, Nat.reduceEqDiff, Nat.reduceLT, Nat.reduceLeDiff, reduceCtorEq, Option.isSome_some, List.forall_mem_cons, List.forall_mem_nil, implies_true, forall_const, Nat.le_refl, Nat.zero_le, false_implies, List.mem_singleton, MvB_im, MvB_nil, Mv_im, Option.some.injEq, D.c.injEq, C.im.injEq, I.int.injEq, List.getElem?_cons_zero, List.getElem?_cons_succ, List.set_cons_zero, List.set_cons_succ, List.length_cons, List.length_nil, Nat.zero_add, MvB_Z, e, Option.map_some, tI_len, rowsZ_len]) <;> (try (simp -dsimp only [ne_eq, eq_self, subF, folds, wk1, subOk, sOk, hOk, nms, reF, rho, mapD, mapC, mapC1, NmD, NmC, NmC1, mapR, mapB, mapTt, NmR, NmB, NmT, MvRb, MvRn, MvRt, lk, ins, Root.get, Root.setT, List.map_cons, List.map_nil, List.nodup_cons, List.nodup_nil, List.not_mem_nil, List.mem_cons, not_false_eq_true, and_self, and_true, true_and, true_or, or_true, false_or, or_false, ↓reduceIte, Nat.reduceEqDiff, Nat.reduceLT, Nat.reduceLeDiff, reduceCtorEq, Option.isSome_some, List.forall_mem_cons, List.forall_mem_nil, implies_true, forall_const, Nat.le_refl, Nat.zero_le, false_implies, List.mem_singleton, MvB_im, MvB_nil, Mv_im, Option.some.injEq, D.c.injEq, C.im.injEq, I.int.injEq, List.getElem?_cons_zero, List.getElem?_cons_succ, List.set_cons_zero, List.set_cons_succ, List.length_cons, List.length_nil, Nat.zero_add, MvB_Z, e, Option.map_some, tI_len, rowsZ_len]))) <;> simp [lk, MvB_im, MvB_Z]⟩
  rw [if_neg k2] at e
  have k2' := eq_false k2
  clear k2
  by_cases k3 : kd = 3
  · have k3' := eq_true k3
    rw [if_pos k3] at e
    clear k3
    try simp -dsimp (maxSteps := 1000000) only [go_sem, List.forall_mem_nil, ↓reduceIte, Nat.reduceEqDiff, Nat.reduceLT, Nat.reduceLeDiff, Nat.reduceAdd, Nat.reduceMul, reduceCtorEq, Try.f52, hI, h0, hrow, hwr, c1', c2', c3', k1', k2', k3', run_flush, Int.toNat_natCast]
    repeat' (first
      | ((with_reducible refine sl_i ?_ ?_); focus kernel_rfl)
      | ((with_reducible refine ro_i ?_ ?_); focus kernel_rfl)
      | ((with_reducible refine sl_e ?_); kernel_rfl)
      | ((with_reducible refine ro_e ?_); kernel_rfl)
      | ((first | (with_reducible refine gS_d ?_ ?_) | (with_reducible refine gS_dn ?_ ?_) | (with_reducible refine gS_i ?_ ?_)) <;> intro hg <;> (try simp -dsimp (maxSteps := 1000000) only [go_sem, List.forall_mem_nil, ↓reduceIte, Nat.reduceEqDiff, Nat.reduceLT, Nat.reduceLeDiff, Nat.reduceAdd, Nat.reduceMul, reduceCtorEq, Try.f52, hI, h0, hrow, hwr, c1', c2', c3', k1', k2', k3', run_flush, Int.toNat_natCast, *])))
    exact ⟨⟨k + 1, by omega⟩, by simp only []; omega, [], [0, 1, 2], by ((simp only [ne_eq, eq_self, subF, folds, wk1, subOk, sOk, hOk, nms, reF, rho, mapD, mapC, mapC1, NmD, NmC, NmC1, mapR, mapB, mapTt, NmR, NmB, NmT, MvRb, MvRn, MvRt, lk, ins, Root.get, Root.setT, List.map_cons, List.map_nil, List.nodup_cons, List.nodup_nil, List.not_mem_nil, List.mem_cons, not_false_eq_true, and_self, and_true, true_and, true_or, or_true, false_or, or_false, ↓reduceIte, Nat.reduceEqDiff, Nat.reduceLT, Nat.reduceLeDiff, reduceCtorEq, Option.isSome_some, List.forall_mem_cons, List.forall_mem_nil, implies_true, forall_const, Nat.le_refl, Nat.zero_le, false_implies, List.mem_singleton, MvB_im, MvB_nil, Mv_im, Option.some.injEq, D.c.injEq, C.im.injEq, I.int.injEq, List.getElem?_cons_zero, List.getElem?_cons_succ, List.set_cons_zero, List.set_cons_succ, List.length_cons, List.length_nil, Nat.zero_add, MvB_Z, e]) <;> (try (simp -dsimp only [ne_eq, eq_self, subF, folds, wk1, subOk, sOk, hOk, nms, reF, rho, mapD, mapC, mapC1, NmD, NmC, NmC1, mapR, mapB, mapTt, NmR, NmB, NmT, MvRb, MvRn, MvRt, lk, ins, Root.get, Root.setT, List.map_cons, List.map_nil, List.nodup_cons, List.nodup_nil, List.not_mem_nil, List.mem_cons, not_false_eq_true, and_self, and_true, true_and, true_or, or_true, false_or, or_false, ↓reduceIte, Nat.reduceEqDiff, Nat.reduceLT, Nat.reduceLeDiff, reduceCtorEq, Option.isSome_some, List.forall_mem_cons, List.forall_mem_nil, implies_true, forall_const, Nat.le_refl, Nat.zero_le, false_implies, List.mem_singleton, MvB_im, MvB_nil, Mv_im, Option.some.injEq, D.c.injEq, C.im.injEq, I.int.injEq, List.getElem?_cons_zero, List.getElem?_cons_succ, List.set_cons_zero, List.set_cons_succ, List.length_cons, List.length_nil, Nat.zero_add, MvB_Z, e]))) <;> simp [lk, MvB_im, MvB_Z]⟩
  rw [if_neg k3] at e
  have k3' := eq_false k3
  clear k3
  try simp -dsimp (maxSteps := 1000000) only [go_sem, List.forall_mem_nil, ↓reduceIte, Nat.reduceEqDiff, Nat.reduceLT, Nat.reduceLeDiff, Nat.reduceAdd, Nat.reduceMul, reduceCtorEq, Try.f52, hI, h0, hrow, hwr, c1', c2', c3', k1', k2', k3', Int.toNat_natCast]
  repeat' (first
    | ((with_reducible refine sl_i ?_ ?_); focus kernel_rfl)
    | ((with_reducible refine ro_i ?_ ?_); focus kernel_rfl)
    | ((with_reducible refine sl_e ?_); kernel_rfl)
    | ((with_reducible refine ro_e ?_); kernel_rfl)
    | ((first | (with_reducible refine gS_d ?_ ?_) | (with_reducible refine gS_dn ?_ ?_) | (with_reducible refine gS_i ?_ ?_)) <;> intro hg <;> (try simp -dsimp (maxSteps := 1000000) only [go_sem, List.forall_mem_nil, ↓reduceIte, Nat.reduceEqDiff, Nat.reduceLT, Nat.reduceLeDiff, Nat.reduceAdd, Nat.reduceMul, reduceCtorEq, Try.f52, hI, h0, hrow, hwr, c1', c2', c3', k1', k2', k3', Int.toNat_natCast, *])))
  exact ⟨⟨k + 1, by omega⟩, by simp only []; omega, [], [0, 1, 2], by ((simp only [ne_eq, eq_self, subF, folds, wk1, subOk, sOk, hOk, nms, reF, rho, mapD, mapC, mapC1, NmD, NmC, NmC1, mapR, mapB, mapTt, NmR, NmB, NmT, MvRb, MvRn, MvRt, lk, ins, Root.get, Root.setT, List.map_cons, List.map_nil, List.nodup_cons, List.nodup_nil, List.not_mem_nil, List.mem_cons, not_false_eq_true, and_self, and_true, true_and, true_or, or_true, false_or, or_false, ↓reduceIte, Nat.reduceEqDiff, Nat.reduceLT, Nat.reduceLeDiff, reduceCtorEq, Option.isSome_some, List.forall_mem_cons, List.forall_mem_nil, implies_true, forall_const, Nat.le_refl, Nat.zero_le, false_implies, List.mem_singleton, MvB_im, MvB_nil, Mv_im, Option.some.injEq, D.c.injEq, C.im.injEq, I.int.injEq, List.getElem?_cons_zero, List.getElem?_cons_succ, List.set_cons_zero, List.set_cons_succ, List.length_cons, List.length_nil, Nat.zero_add, MvB_Z, e]) <;> (try (simp -dsimp only [ne_eq, eq_self, subF, folds, wk1, subOk, sOk, hOk, nms, reF, rho, mapD, mapC, mapC1, NmD, NmC, NmC1, mapR, mapB, mapTt, NmR, NmB, NmT, MvRb, MvRn, MvRt, lk, ins, Root.get, Root.setT, List.map_cons, List.map_nil, List.nodup_cons, List.nodup_nil, List.not_mem_nil, List.mem_cons, not_false_eq_true, and_self, and_true, true_and, true_or, or_true, false_or, or_false, ↓reduceIte, Nat.reduceEqDiff, Nat.reduceLT, Nat.reduceLeDiff, reduceCtorEq, Option.isSome_some, List.forall_mem_cons, List.forall_mem_nil, implies_true, forall_const, Nat.le_refl, Nat.zero_le, false_implies, List.mem_singleton, MvB_im, MvB_nil, Mv_im, Option.some.injEq, D.c.injEq, C.im.injEq, I.int.injEq, List.getElem?_cons_zero, List.getElem?_cons_succ, List.set_cons_zero, List.set_cons_succ, List.length_cons, List.length_nil, Nat.zero_add, MvB_Z, e]))) <;> simp [lk, MvB_im, MvB_Z]⟩
end Go.SX
