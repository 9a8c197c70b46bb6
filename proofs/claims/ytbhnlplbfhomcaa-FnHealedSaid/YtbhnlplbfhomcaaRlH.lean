/-
  MakeWhole, laws.fresh.
  No condition.
-/
import Derived.Test.YtbhnlplbfhomcaaRlG
set_option linter.unusedVariables false
set_option linter.unusedSimpArgs false
namespace Go.SX
open Go Go.Proofs

abbrev WP := Int × Int
def wP (p : WP) : Pt := (wI p.1, wI p.2)
def wL (l : List WP) : List Pt := l.map wP
def inW (N : Int) (p : WP) : Prop := -N ≤ p.1 ∧ p.1 ≤ N ∧ -N ≤ p.2 ∧ p.2 ≤ N
abbrev QWhole (n : Nat) := { zs : List WP // zs.length ≤ n ∧ ∀ p ∈ zs, inW 3 p }
def oWhole (n : Nat) : Outs := .any (QWhole n) (fun q => rNew 1 (rowsZ (wL q.1)))
abbrev N100' := { n : Nat // n ≤ 100 }
noncomputable def ct_MakeWhole : Ct := fam true (fun x : ABw × N100' => ([.c (.im (.sl 1 (rowsB x.1.l))), .c (.im (.int .i64 (x.2.1 : Int)))], [])) (fun x => oWhole x.2.1)
theorem run_MakeWhole {l : List Int} (h1 : l.length ≤ 1048576) (h2 : ∀ b ∈ l, 0 ≤ b ∧ b < 256) {n : Nat} (h3 : n ≤ 100) : ct_MakeWhole.run [.c (.im (.sl 1 (rowsB l))), .c (.im (.int .i64 (n : Int)))] [] = some (oWhole n) := by
  refine fam_run' (args := fun x : ABw × N100' => ([D.c (.im (.sl 1 (rowsB x.1.l))), .c (.im (.int .i64 (x.2.1 : Int)))], [])) (fun x y h => ?_) (⟨l, h1, h2⟩, ⟨n, h3⟩)
  simp only [Prod.mk.injEq, List.cons.injEq, D.c.injEq, C.im.injEq, I.sl.injEq, I.int.injEq, true_and, and_true] at h
  exact Prod.ext (ABw_ext (rowsB_inj h.1)) (Subtype.ext (by omega))
theorem sc_MakeWhole : (ct_MakeWhole.sc = true) = True := by simp [ct_MakeWhole, fam]
theorem ne_whole (n : Nat) : Nonempty (QWhole n) = True := by simp only [eq_iff_iff, iff_true]; exact ⟨⟨[], by simp⟩⟩
theorem MvR_Z (l : List Pt) : MvR false (.arr 1 (tI (rowsZ l))) = True := eq_true (sc_false _ _)
theorem wL_len (l : List WP) : (wL l).length = l.length := by simp [wL]
theorem wL_app (l : List WP) (p : WP) : wL l ++ [(wI p.1, wI p.2)] = wL (l ++ [p]) := by simp [wL, wP]
set_option maxRecDepth 100000 in
set_option maxHeartbeats 4000000 in
theorem law_MakeWhole : Law Try.prog 26 ct_MakeWhole := by
  refine fam_law (Env_cons law_l01New (Env_cons law_l01Below (Env_cons law_l2Small Env_nil))) hmixA Try.func26 rfl rfl (fun ⟨⟨l, h1, h2⟩, ⟨n, h3⟩⟩ => ⟨okA (fun o => okR_new (sc_rowsZ _)), by simp [Try.f26], ?_⟩)
  simp only [oWhole, rNew]
  have hn : IntKind.i64.wrap ((n : Int) + 1) = (n : Int) + 1 := wrap_id (by omega) (by omega)
  have hm1 : (100 < (n : Int)) = False := eq_false (by omega)
  have hm2 : (if (n : Int) > 0 then (n : Int) else 0) = (n : Int) := by split <;> omega
  try simp -dsimp (maxSteps := 1000000) only [go_sem, List.forall_mem_nil, ↓reduceIte, Nat.reduceEqDiff, Nat.reduceLT, Nat.reduceLeDiff, Nat.reduceAdd, Nat.reduceMul, reduceCtorEq, Try.f26, hn, hm1, hm2, run_l01New h1 h2, oKNew, ne_int]
  repeat' (first
    | ((with_reducible refine sl_i ?_ ?_); focus kernel_rfl)
    | ((with_reducible refine ro_i ?_ ?_); focus kernel_rfl)
    | ((with_reducible refine sl_e ?_); kernel_rfl)
    | ((with_reducible refine ro_e ?_); kernel_rfl)
    | ((first | (with_reducible refine gS_d ?_ ?_) | (with_reducible refine gS_dn ?_ ?_) | (with_reducible refine gS_i ?_ ?_)) <;> intro hg <;> (try simp -dsimp (maxSteps := 1000000) only [go_sem, List.forall_mem_nil, ↓reduceIte, Nat.reduceEqDiff, Nat.reduceLT, Nat.reduceLeDiff, Nat.reduceAdd, Nat.reduceMul, reduceCtorEq, Try.f26, hn, hm1, hm2, run_l01New h1 h2, oKNew, ne_int, *])))
  intro h
  try simp -dsimp (maxSteps := 1000000) only [go_sem, List.forall_mem_nil, ↓reduceIte, Nat.reduceEqDiff, Nat.reduceLT, Nat.reduceLeDiff, Nat.reduceAdd, Nat.reduceMul, reduceCtorEq, Try.f26, hn, hm1, hm2, run_l01Below h1 h2 (a := 0) (h := h) (n := (n : Int) + 1) (by omega) (by omega) (by omega) (by omega), oBelow, hsK, ne_below l (n := (n : Int) + 1) (by omega)]
  repeat' (first
    | ((with_reducible refine sl_i ?_ ?_); focus kernel_rfl)
    | ((with_reducible refine ro_i ?_ ?_); focus kernel_rfl)
    | ((with_reducible refine sl_e ?_); kernel_rfl)
    | ((with_reducible refine ro_e ?_); kernel_rfl)
    | ((first | (with_reducible refine gS_d ?_ ?_) | (with_reducible refine gS_dn ?_ ?_) | (with_reducible refine gS_i ?_ ?_)) <;> intro hg <;> (try simp -dsimp (maxSteps := 1000000) only [go_sem, List.forall_mem_nil, ↓reduceIte, Nat.reduceEqDiff, Nat.reduceLT, Nat.reduceLeDiff, Nat.reduceAdd, Nat.reduceMul, reduceCtorEq, Try.f26, hn, hm1, hm2, run_l01Below h1 h2 (a := 0) (h := h) (n := (n : Int) + 1) (by omega) (by omega) (by omega) (by omega), oBelow, hsK, ne_below l (n := (n : Int) + 1) (by omega), *])))
  rintro ⟨⟨k0, ⟨⟨a0, g0⟩, b0⟩⟩, k1, k2⟩
  obtain ⟨K, rfl⟩ := Int.eq_ofNat_of_zero_le k1
  try simp -dsimp (maxSteps := 1000000) only [go_sem, List.forall_mem_nil, ↓reduceIte, Nat.reduceEqDiff, Nat.reduceLT, Nat.reduceLeDiff, Nat.reduceAdd, Nat.reduceMul, reduceCtorEq, Try.f26, hn, hsK]
  repeat' (first
    | ((with_reducible refine sl_i ?_ ?_); focus kernel_rfl)
    | ((with_reducible refine ro_i ?_ ?_); focus kernel_rfl)
    | ((with_reducible refine sl_e ?_); kernel_rfl)
    | ((with_reducible refine ro_e ?_); kernel_rfl)
    | ((first | (with_reducible refine gS_d ?_ ?_) | (with_reducible refine gS_dn ?_ ?_) | (with_reducible refine gS_i ?_ ?_)) <;> intro hg <;> (try simp -dsimp (maxSteps := 1000000) only [go_sem, List.forall_mem_nil, ↓reduceIte, Nat.reduceEqDiff, Nat.reduceLT, Nat.reduceLeDiff, Nat.reduceAdd, Nat.reduceMul, reduceCtorEq, Try.f26, hn, hsK, *])))
  refine loop_i (ι := { x : (List WP × SK l) × Nat // x.1.1.length + x.2 ≤ n ∧ ∀ p ∈ x.1.1, inW 3 p }) (fun x => ⟨[(5, some (.c (.ptr 0 0 0 0))), (6, some (.c (.view 1 1 0 x.1.1.1.length))), (7, some (.c (.im (.int .i64 (x.1.2 : Int)))))],
    [(0, some (.box [.t (.im (.sl 1 (rowsB l))), .t (.im (.int .i64 x.1.1.2.1.1)), .t (.im (.int .i64 x.1.1.2.1.2))])), (1, some (.arr 1 (tI (rowsZ (wL x.1.1.1)))))], 2⟩) (fun x => x.1.2) ⟨(([], ⟨(a0, g0), b0⟩), K), by simp at k2 ⊢; omega⟩ ⟨[], [0, 1], by ((simp only [ne_eq, eq_self, subF, folds, wk1, subOk, sOk, hOk, nms, reF, rho, mapD, mapC, mapC1, NmD, NmC, NmC1, mapR, mapB, mapTt, NmR, NmB, NmT, MvRb, MvRn, MvRt, lk, ins, Root.get, Root.setT, List.map_cons, List.map_nil, List.nodup_cons, List.nodup_nil, List.not_mem_nil, List.mem_cons, not_false_eq_true, and_self, and_true, true_and, true_or, or_true, false_or, or_false, ↓reduceIte, Nat.reduceEqDiff, Nat.reduceLT, Nat.reduceLeDiff, reduceCtorEq, Option.isSome_some, List.forall_mem_cons, List.forall_mem_nil, implies_true, forall_const, Nat.le_refl, Nat.zero_le, false_implies, List.mem_singleton, MvB_im, MvB_nil, Mv_im, Option.some.injEq, D.c.injEq, C.im.injEq, I.int.injEq, List.getElem?_cons_zero, List.getElem?_cons_succ, List.set_cons_zero, List.set_cons_succ, List.length_cons, List.length_nil, Nat.zero_add, MvR_Z]) <;> (try (simp -dsimp only [ne_eq, eq_self, subF, folds, wk1, subOk, sOk, hOk, nms, reF, rho, mapD, mapC, mapC1, NmD, NmC, NmC1, mapR, mapB, mapTt, NmR, NmB, NmT, MvRb, MvRn, MvRt, lk, ins, Root.get, Root.setT, List.map_cons, List.map_nil, List.nodup_cons, List.nodup_nil, List.not_mem_nil, List.mem_cons, not_false_eq_true, and_self, and_true, true_and, true_or, or_true, false_or, or_false, ↓reduceIte, Nat.reduceEqDiff, Nat.reduceLT, Nat.reduceLeDiff, reduceCtorEq, Option.isSome_some, List.forall_mem_cons, List.forall_mem_nil, implies_true, forall_const, Nat.le_refl, Nat.zero_le, false_implies, List.mem_singleton, MvB_im, MvB_nil, Mv_im, Option.some.injEq, D.c.injEq, C.im.injEq, I.int.injEq, List.getElem?_cons_zero, List.getElem?_cons_succ, List.set_cons_zero, List.set_cons_succ, List.length_cons, List.length_nil, Nat.zero_add, MvR_Z]))) <;> simp [lk, wL, rowsZ, tI]⟩ (fun ⟨⟨⟨zs, ⟨⟨a, g⟩, b⟩⟩, k⟩, hz, hin⟩ => ?_)
  simp only at hz hin b ⊢
  match k with
  | 0 =>
    have c0 : ((0 : Nat) : Int) = 0 := rfl
    have d0 : ((0 : Int) < 0) = False := by simp
    try simp -dsimp (maxSteps := 1000000) only [go_sem, List.forall_mem_nil, ↓reduceIte, Nat.reduceEqDiff, Nat.reduceLT, Nat.reduceLeDiff, Nat.reduceAdd, Nat.reduceMul, reduceCtorEq, Try.f26, c0, d0, rowsZ_len, wL_len]
    repeat' (first
      | ((with_reducible refine sl_i ?_ ?_); focus kernel_rfl)
      | ((with_reducible refine ro_i ?_ ?_); focus kernel_rfl)
      | ((with_reducible refine sl_e ?_); kernel_rfl)
      | ((with_reducible refine ro_e ?_); kernel_rfl)
      | ((first | (with_reducible refine gS_d ?_ ?_) | (with_reducible refine gS_dn ?_ ?_) | (with_reducible refine gS_i ?_ ?_)) <;> intro hg <;> (try simp -dsimp (maxSteps := 1000000) only [go_sem, List.forall_mem_nil, ↓reduceIte, Nat.reduceEqDiff, Nat.reduceLT, Nat.reduceLeDiff, Nat.reduceAdd, Nat.reduceMul, reduceCtorEq, Try.f26, c0, d0, rowsZ_len, wL_len, *])))
    exact ⟨⟨zs, by omega, hin⟩, [1], by simp, by simp, by simp [rtOk], rfl⟩
  | k + 1 =>
    have d0 : ((0 : Int) < ((k + 1 : Nat) : Int)) = True := eq_true (by omega)
    have hk : IntKind.i64.wrap (((k + 1 : Nat) : Int) - 1) = (k : Int) := by rw [wrap_id (by omega) (by omega)]; omega
    have hby : ((zs.length + 1) * 8 ≤ 140737488355328) = True := bytes_sm (by have : sm = 16777216 := rfl; omega) (by decide)
    try simp -dsimp (maxSteps := 1000000) only [go_sem, List.forall_mem_nil, ↓reduceIte, Nat.reduceEqDiff, Nat.reduceLT, Nat.reduceLeDiff, Nat.reduceAdd, Nat.reduceMul, reduceCtorEq, Try.f26, d0, hk, run_l2Small h1 h2 b.1 b.2, oSmall, hsK, ne_small]
    repeat' (first
      | ((with_reducible refine sl_i ?_ ?_); focus kernel_rfl)
      | ((with_reducible refine ro_i ?_ ?_); focus kernel_rfl)
      | ((with_reducible refine sl_e ?_); kernel_rfl)
      | ((with_reducible refine ro_e ?_); kernel_rfl)
      | ((first | (with_reducible refine gS_d ?_ ?_) | (with_reducible refine gS_dn ?_ ?_) | (with_reducible refine gS_i ?_ ?_)) <;> intro hg <;> (try simp -dsimp (maxSteps := 1000000) only [go_sem, List.forall_mem_nil, ↓reduceIte, Nat.reduceEqDiff, Nat.reduceLT, Nat.reduceLeDiff, Nat.reduceAdd, Nat.reduceMul, reduceCtorEq, Try.f26, d0, hk, run_l2Small h1 h2 b.1 b.2, oSmall, hsK, ne_small, *])))
    rintro ⟨⟨⟨u, v⟩, ⟨⟨a2, g2⟩, b2⟩⟩, u1, u2, v1, v2⟩
    have hap := wL_app zs (u, v)
    simp only at hap
    try simp -dsimp (maxSteps := 1000000) only [go_sem, List.forall_mem_nil, ↓reduceIte, Nat.reduceEqDiff, Nat.reduceLT, Nat.reduceLeDiff, Nat.reduceAdd, Nat.reduceMul, reduceCtorEq, Try.f26, d0, hk, hsK, hby, tIZ_app, hap, wL_len, tI_len, rowsZ_len, appendH, srcRows, List.take_succ_cons, List.take_zero, List.all_cons, List.all_nil, okT, Bool.and_true, List.length_append]
    repeat' (first
      | ((with_reducible refine sl_i ?_ ?_); focus kernel_rfl)
      | ((with_reducible refine ro_i ?_ ?_); focus kernel_rfl)
      | ((with_reducible refine sl_e ?_); kernel_rfl)
      | ((with_reducible refine ro_e ?_); kernel_rfl)
      | ((first | (with_reducible refine gS_d ?_ ?_) | (with_reducible refine gS_dn ?_ ?_) | (with_reducible refine gS_i ?_ ?_)) <;> intro hg <;> (try simp -dsimp (maxSteps := 1000000) only [go_sem, List.forall_mem_nil, ↓reduceIte, Nat.reduceEqDiff, Nat.reduceLT, Nat.reduceLeDiff, Nat.reduceAdd, Nat.reduceMul, reduceCtorEq, Try.f26, d0, hk, hsK, hby, tIZ_app, hap, wL_len, tI_len, rowsZ_len, appendH, srcRows, List.take_succ_cons, List.take_zero, List.all_cons, List.all_nil, okT, Bool.and_true, List.length_append, *])))
    refine ⟨⟨((zs ++ [(u, v)], ⟨(a2, g2), b2⟩), k), by simp; omega, fun p hp => ?_⟩, by simp, [], [0, 3], by ((simp only [ne_eq, eq_self, subF, folds, wk1, subOk, sOk, hOk, nms, reF, rho, mapD, mapC, mapC1, NmD, NmC, NmC1, mapR, mapB, mapTt, NmR, NmB, NmT, MvRb, MvRn, MvRt, lk, ins, Root.get, Root.setT, List.map_cons, List.map_nil, List.nodup_cons, List.nodup_nil, List.not_mem_nil, List.mem_cons, not_false_eq_true, and_self, and_true, true_and, true_or, or_true, false_or, or_false, ↓reduceIte, Nat.reduceEqDiff, Nat.reduceLT, Nat.reduceLeDiff, reduceCtorEq, Option.isSome_some, List.forall_mem_cons, List.forall_mem_nil, implies_true, forall_const, Nat.le_refl, Nat.zero_le, false_implies, List.mem_singleton, MvB_im, MvB_nil, Mv_im, Option.some.injEq, D.c.injEq, C.im.injEq, I.int.injEq, List.getElem?_cons_zero, List.getElem?_cons_succ, List.set_cons_zero, List.set_cons_succ, List.length_cons, List.length_nil, Nat.zero_add, MvR_Z]) <;> (try (simp -dsimp only [ne_eq, eq_self, subF, folds, wk1, subOk, sOk, hOk, nms, reF, rho, mapD, mapC, mapC1, NmD, NmC, NmC1, mapR, mapB, mapTt, NmR, NmB, NmT, MvRb, MvRn, MvRt, lk, ins, Root.get, Root.setT, List.map_cons, List.map_nil, List.nodup_cons, List.nodup_nil, List.not_mem_nil, List.mem_cons, not_false_eq_true, and_self, and_true, true_and, true_or, or_true, false_or, or_false, ↓reduceIte, Nat.reduceEqDiff, Nat.reduceLT, Nat.reduceLeDiff, reduceCtorEq, Option.isSome_some, List.forall_mem_cons, List.forall_mem_nil, implies_true, forall_const, Nat.le_refl, Nat.zero_le, false_implies, List.mem_singleton, MvB_im, MvB_nil, Mv_im, Option.some.injEq, D.c.injEq, C.im.injEq, I.int.injEq, List.getElem?_cons_zero, List.getElem?_cons_succ, List.set_cons_zero, List.set_cons_succ, List.length_cons, List.length_nil, Nat.zero_add, MvR_Z]))) <;> simp [lk]⟩
    rcases List.mem_append.1 hp with hp | hp
    · exact hin p hp
    · simp at hp; subst hp; exact ⟨u1, u2, v1, v2⟩

/-! ### laws.fresh -/
abbrev QFresh := { l : List Int // l.length ≤ 601 ∧ ∀ b ∈ l, 0 ≤ b ∧ b < 256 }
def oFresh : Outs := .any QFresh (fun q => rNew 1 (rowsB q.1))
abbrev ABs := ABw × { s : Int // 0 ≤ s ∧ s ≤ 1000 }
noncomputable def ct_fresh : Ct := fam true (fun x : ABs => ([.c (.im (.sl 1 (rowsB x.1.l))), .c (.im (.int .i64 x.2.1))], [])) (fun _ => oFresh)
theorem run_fresh {l : List Int} (h1 : l.length ≤ 1048576) (h2 : ∀ b ∈ l, 0 ≤ b ∧ b < 256) {s : Int} (h3 : 0 ≤ s) (h4 : s ≤ 1000) : ct_fresh.run [.c (.im (.sl 1 (rowsB l))), .c (.im (.int .i64 s))] [] = some oFresh := by
  refine fam_run' (args := fun x : ABs => ([D.c (.im (.sl 1 (rowsB x.1.l))), .c (.im (.int .i64 x.2.1))], [])) (fun x y h => ?_) (⟨l, h1, h2⟩, ⟨s, h3, h4⟩)
  simp only [Prod.mk.injEq, List.cons.injEq, D.c.injEq, C.im.injEq, I.sl.injEq, I.int.injEq, true_and, and_true] at h
  exact Prod.ext (ABw_ext (rowsB_inj h.1)) (Subtype.ext h.2)
theorem sc_fresh : (ct_fresh.sc = true) = True := by simp [ct_fresh, fam]
theorem ne_fresh : Nonempty QFresh = True := by simp only [eq_iff_iff, iff_true]; exact ⟨⟨[], by simp⟩⟩
theorem sc_rowsB (l : List Int) : ∀ r ∈ rowsB l, ∀ i ∈ r, scI i = true := by
  intro r hr i hi
  simp only [rowsB, List.mem_map] at hr
  obtain ⟨p, _, rfl⟩ := hr
  simp at hi; subst hi; rfl
theorem MvR_B (l : List Int) : MvR false (.arr 1 (tI (rowsB l))) = True := eq_true (sc_false _ _)
theorem tIB_app (l : List Int) (x : Int) : tI (rowsB l) ++ [[T.im (.int .u8 x)]] = tI (rowsB (l ++ [x])) := by simp [tI, rowsB]
theorem u8_rng (x : Int) : 0 ≤ IntKind.u8.wrap x ∧ IntKind.u8.wrap x < 256 := by
  show 0 ≤ x % 256 ∧ x % 256 < 256
  omega
set_option maxRecDepth 100000 in
set_option maxHeartbeats 4000000 in
theorem law_fresh : Law Try.prog 27 ct_fresh := by
  refine fam_law Env_nil hmixA Try.func27 rfl rfl (fun ⟨⟨l, h1, h2⟩, ⟨s, s1, s2⟩⟩ => ⟨okA (fun o => okR_new (sc_rowsB _)), by simp [Try.f27], ?_⟩)
  simp only [oFresh, rNew]
  obtain ⟨e, he⟩ : ∃ e, IntKind.u8.wrap s = e := ⟨_, rfl⟩
  have her := u8_rng s
  rw [he] at her
  try simp -dsimp (maxSteps := 1000000) only [go_sem, List.forall_mem_nil, ↓reduceIte, Nat.reduceEqDiff, Nat.reduceLT, Nat.reduceLeDiff, Nat.reduceAdd, Nat.reduceMul, reduceCtorEq, Try.f27, he]
  repeat' (first
    | ((with_reducible refine sl_i ?_ ?_); focus kernel_rfl)
    | ((with_reducible refine ro_i ?_ ?_); focus kernel_rfl)
    | ((with_reducible refine sl_e ?_); kernel_rfl)
    | ((with_reducible refine ro_e ?_); kernel_rfl)
    | ((first | (with_reducible refine gS_d ?_ ?_) | (with_reducible refine gS_dn ?_ ?_) | (with_reducible refine gS_i ?_ ?_)) <;> intro hg <;> (try simp -dsimp (maxSteps := 1000000) only [go_sem, List.forall_mem_nil, ↓reduceIte, Nat.reduceEqDiff, Nat.reduceLT, Nat.reduceLeDiff, Nat.reduceAdd, Nat.reduceMul, reduceCtorEq, Try.f27, he, *])))
  refine loop_i (ι := { x : List Int × Nat // x.1.length = x.2 + 1 ∧ x.2 ≤ 600 ∧ x.2 ≤ l.length ∧ ∀ b ∈ x.1, 0 ≤ b ∧ b < 256 }) (fun x => ⟨[(0, some (.c (.im (.sl 1 (rowsB l))))), (1, some (.c (.im (.int .i64 s)))), (5, some (.c (.view 0 1 0 x.1.1.length))), (6, some (.c (.im (.int .i64 (x.1.2 : Int)))))],
    [(0, some (.arr 1 (tI (rowsB x.1.1))))], 1⟩) (fun x => l.length - x.1.2) ⟨([e], 0), by simp; exact her⟩ ⟨[], [0], by ((simp only [ne_eq, eq_self, subF, folds, wk1, subOk, sOk, hOk, nms, reF, rho, mapD, mapC, mapC1, NmD, NmC, NmC1, mapR, mapB, mapTt, NmR, NmB, NmT, MvRb, MvRn, MvRt, lk, ins, Root.get, Root.setT, List.map_cons, List.map_nil, List.nodup_cons, List.nodup_nil, List.not_mem_nil, List.mem_cons, not_false_eq_true, and_self, and_true, true_and, true_or, or_true, false_or, or_false, ↓reduceIte, Nat.reduceEqDiff, Nat.reduceLT, Nat.reduceLeDiff, reduceCtorEq, Option.isSome_some, List.forall_mem_cons, List.forall_mem_nil, implies_true, forall_const, Nat.le_refl, Nat.zero_le, false_implies, List.mem_singleton, MvB_im, MvB_nil, Mv_im, Option.some.injEq, D.c.injEq, C.im.injEq, I.int.injEq, List.getElem?_cons_zero, List.getElem?_cons_succ, List.set_cons_zero, List.set_cons_succ, List.length_cons, List.length_nil, Nat.zero_add, MvR_B]) <;> (try (simp -dsimp only [ne_eq, eq_self, subF, folds, wk1, subOk, sOk, hOk, nms, reF, rho, mapD, mapC, mapC1, NmD, NmC, NmC1, mapR, mapB, mapTt, NmR, NmB, NmT, MvRb, MvRn, MvRt, lk, ins, Root.get, Root.setT, List.map_cons, List.map_nil, List.nodup_cons, List.nodup_nil, List.not_mem_nil, List.mem_cons, not_false_eq_true, and_self, and_true, true_and, true_or, or_true, false_or, or_false, ↓reduceIte, Nat.reduceEqDiff, Nat.reduceLT, Nat.reduceLeDiff, reduceCtorEq, Option.isSome_some, List.forall_mem_cons, List.forall_mem_nil, implies_true, forall_const, Nat.le_refl, Nat.zero_le, false_implies, List.mem_singleton, MvB_im, MvB_nil, Mv_im, Option.some.injEq, D.c.injEq, C.im.injEq, I.int.injEq, List.getElem?_cons_zero, List.getElem?_cons_succ, List.set_cons_zero, List.set_cons_succ, List.length_cons, List.length_nil, Nat.zero_add, MvR_B]))) <;> simp [lk, rowsB, tI]⟩ (fun ⟨⟨out, k⟩, hz, hk6, hkl, hin⟩ => ?_)
  simp only at hz hk6 hkl hin ⊢
  by_cases hlt : k < l.length
  rotate_left
  · have hI : ((k : Int) < (l.length : Int)) = False := eq_false (by omega)
    try simp -dsimp (maxSteps := 1000000) only [go_sem, List.forall_mem_nil, ↓reduceIte, Nat.reduceEqDiff, Nat.reduceLT, Nat.reduceLeDiff, Nat.reduceAdd, Nat.reduceMul, reduceCtorEq, Try.f27, rowsB_len, hI]
    repeat' (first
      | ((with_reducible refine sl_i ?_ ?_); focus kernel_rfl)
      | ((with_reducible refine ro_i ?_ ?_); focus kernel_rfl)
      | ((with_reducible refine sl_e ?_); kernel_rfl)
      | ((with_reducible refine ro_e ?_); kernel_rfl)
      | ((first | (with_reducible refine gS_d ?_ ?_) | (with_reducible refine gS_dn ?_ ?_) | (with_reducible refine gS_i ?_ ?_)) <;> intro hg <;> (try simp -dsimp (maxSteps := 1000000) only [go_sem, List.forall_mem_nil, ↓reduceIte, Nat.reduceEqDiff, Nat.reduceLT, Nat.reduceLeDiff, Nat.reduceAdd, Nat.reduceMul, reduceCtorEq, Try.f27, rowsB_len, hI, *])))
    exact ⟨⟨out, by omega, hin⟩, [0], by simp, by simp, by simp [rtOk], rfl⟩
  have hI : ((k : Int) < (l.length : Int)) = True := eq_true (by omega)
  by_cases h6 : k < 600
  rotate_left
  · have hJ : ((k : Int) < 600) = False := eq_false (by omega)
    try simp -dsimp (maxSteps := 1000000) only [go_sem, List.forall_mem_nil, ↓reduceIte, Nat.reduceEqDiff, Nat.reduceLT, Nat.reduceLeDiff, Nat.reduceAdd, Nat.reduceMul, reduceCtorEq, Try.f27, rowsB_len, hI, hJ]
    repeat' (first
      | ((with_reducible refine sl_i ?_ ?_); focus kernel_rfl)
      | ((with_reducible refine ro_i ?_ ?_); focus kernel_rfl)
      | ((with_reducible refine sl_e ?_); kernel_rfl)
      | ((with_reducible refine ro_e ?_); kernel_rfl)
      | ((first | (with_reducible refine gS_d ?_ ?_) | (with_reducible refine gS_dn ?_ ?_) | (with_reducible refine gS_i ?_ ?_)) <;> intro hg <;> (try simp -dsimp (maxSteps := 1000000) only [go_sem, List.forall_mem_nil, ↓reduceIte, Nat.reduceEqDiff, Nat.reduceLT, Nat.reduceLeDiff, Nat.reduceAdd, Nat.reduceMul, reduceCtorEq, Try.f27, rowsB_len, hI, hJ, *])))
    exact ⟨⟨out, by omega, hin⟩, [0], by simp, by simp, by simp [rtOk], rfl⟩
  have hJ : ((k : Int) < 600) = True := eq_true (by omega)
  obtain ⟨b, hb⟩ : ∃ b, l[k]? = some b := ⟨_, List.getElem?_eq_getElem (by omega)⟩
  have hrow := rowsB_at hb
  have h0 : (0 ≤ (k : Int)) = True := by simp
  have h7 : ((7 : Int) = 0) = False := by simp
  have hwr : IntKind.i64.wrap ((k : Int) + 1) = (k : Int) + 1 := wrap_id (by omega) (by omega)
  obtain ⟨U1, hU1⟩ : ∃ x, IntKind.i64.wrap (IntKind.i64.wrap b * 3) = x := ⟨_, rfl⟩
  obtain ⟨U2, hU2⟩ : ∃ x, IntKind.i64.wrap ((k : Int).tmod 7 + 1) = x := ⟨_, rfl⟩
  obtain ⟨U3, hU3⟩ : ∃ x, IntKind.i64.wrap (s * U2) = x := ⟨_, rfl⟩
  obtain ⟨U4, hU4⟩ : ∃ x, IntKind.i64.wrap (U1 + U3) = x := ⟨_, rfl⟩
  obtain ⟨U5, hU5⟩ : ∃ x, IntKind.u8.wrap U4 = x := ⟨_, rfl⟩
  have hur := u8_rng U4
  rw [hU5] at hur
  have hby : ((out.length + 1) * 1 ≤ 140737488355328) = True := bytes_sm (by have : sm = 16777216 := rfl; omega) (by decide)
  try simp -dsimp (maxSteps := 1000000) only [go_sem, List.forall_mem_nil, ↓reduceIte, Nat.reduceEqDiff, Nat.reduceLT, Nat.reduceLeDiff, Nat.reduceAdd, Nat.reduceMul, reduceCtorEq, Try.f27, rowsB_len, hI, hJ, hrow, h0, h7, hwr, hU1, hU2, hU3, hU4, hU5, hby, tIB_app, tI_len, appendH, srcRows, List.take_succ_cons, List.take_zero, List.all_cons, List.all_nil, okT, Bool.and_true, List.length_append, Int.toNat_natCast]
  repeat' (first
    | ((with_reducible refine sl_i ?_ ?_); focus kernel_rfl)
    | ((with_reducible refine ro_i ?_ ?_); focus kernel_rfl)
    | ((with_reducible refine sl_e ?_); kernel_rfl)
    | ((with_reducible refine ro_e ?_); kernel_rfl)
    | ((first | (with_reducible refine gS_d ?_ ?_) | (with_reducible refine gS_dn ?_ ?_) | (with_reducible refine gS_i ?_ ?_)) <;> intro hg <;> (try simp -dsimp (maxSteps := 1000000) only [go_sem, List.forall_mem_nil, ↓reduceIte, Nat.reduceEqDiff, Nat.reduceLT, Nat.reduceLeDiff, Nat.reduceAdd, Nat.reduceMul, reduceCtorEq, Try.f27, rowsB_len, hI, hJ, hrow, h0, h7, hwr, hU1, hU2, hU3, hU4, hU5, hby, tIB_app, tI_len, appendH, srcRows, List.take_succ_cons, List.take_zero, List.all_cons, List.all_nil, okT, Bool.and_true, List.length_append, Int.toNat_natCast, *])))
  refine ⟨⟨(out ++ [U5], k + 1), by simp; omega, by simp only []; omega, by simp only []; omega, fun p hp => ?_⟩, by simp only []; omega, [], [2], by ((simp only [ne_eq, eq_self, subF, folds, wk1, subOk, sOk, hOk, nms, reF, rho, mapD, mapC, mapC1, NmD, NmC, NmC1, mapR, mapB, mapTt, NmR, NmB, NmT, MvRb, MvRn, MvRt, lk, ins, Root.get, Root.setT, List.map_cons, List.map_nil, List.nodup_cons, List.nodup_nil, List.not_mem_nil, List.mem_cons, not_false_eq_true, and_self, and_true, true_and, true_or, or_true, false_or, or_false, ↓reduceIte, Nat.reduceEqDiff, Nat.reduceLT, Nat.reduceLeDiff, reduceCtorEq, Option.isSome_some, List.forall_mem_cons, List.forall_mem_nil, implies_true, forall_const, Nat.le_refl, Nat.zero_le, false_implies, List.mem_singleton, MvB_im, MvB_nil, Mv_im, Option.some.injEq, D.c.injEq, C.im.injEq, I.int.injEq, List.getElem?_cons_zero, List.getElem?_cons_succ, List.set_cons_zero, List.set_cons_succ, List.length_cons, List.length_nil, Nat.zero_add, MvR_B]) <;> (try (simp -dsimp only [ne_eq, eq_self, subF, folds, wk1, subOk, sOk, hOk, nms, reF, rho, mapD, mapC, mapC1, NmD, NmC, NmC1, mapR, mapB, mapTt, NmR, NmB, NmT, MvRb, MvRn, MvRt, lk, ins, Root.get, Root.setT, List.map_cons, List.map_nil, List.nodup_cons, List.nodup_nil, List.not_mem_nil, List.mem_cons, not_false_eq_true, and_self, and_true, true_and, true_or, or_true, false_or, or_false, ↓reduceIte, Nat.reduceEqDiff, Nat.reduceLT, Nat.reduceLeDiff, reduceCtorEq, Option.isSome_some, List.forall_mem_cons, List.forall_mem_nil, implies_true, forall_const, Nat.le_refl, Nat.zero_le, false_implies, List.mem_singleton, MvB_im, MvB_nil, Mv_im, Option.some.injEq, D.c.injEq, C.im.injEq, I.int.injEq, List.getElem?_cons_zero, List.getElem?_cons_succ, List.set_cons_zero, List.set_cons_succ, List.length_cons, List.length_nil, Nat.zero_add, MvR_B]))) <;> simp [lk]⟩
  rcases List.mem_append.1 hp with hp | hp
  · exact hin p hp
  · simp at hp; subst hp; exact hur
end Go.SX
