/-
  spec: l6Rack, MakeRack: a rack whose modules are drawn, and which is one.
  RunFaults$1: what an output becomes while faults last.
  A rack's step where outputs become others (by 'bec'): the plain words.
  stepRack where outputs become others by RunFaults$1: the walk.
  AreFaults.
  RunFaults.
  FnMuted: the plain words.
  FnMuted: what the outputs of a rack are under one fault.
  No condition.
-/
import Derived.Test.YtojcifdnmihebaaGreatPkG
set_option linter.unusedVariables false
set_option linter.unusedSimpArgs false
namespace Go.SX
open Go Go.Proofs
theorem good_nil {ms : List Mod} (h : ∀ m ∈ ms, Drawn m) (hl : ms.length ≤ 16) : GoodRk ms [] := by
  refine ⟨h, ?_⟩
  have ho : orderF ms [] = some (iL ms.length) := order_fwd (by simp)
  simp only [isRackF, ho, Option.isSome_some, List.all_nil, Bool.true_and, Bool.and_true, Bool.and_eq_true, decide_eq_true_eq, List.all_eq_true, List.length_nil]
  exact ⟨hl, by omega, fun m hm => (h m hm).mod⟩
abbrev QRk (n : Nat) := { r : List Mod × List Cbl // GoodRk r.1 r.2 ∧ r.1.length ≤ n }
def oDRk (l : List Int) (n : Nat) : Outs := .any (QRk n × SK l) (fun q => { val := .agg [.im (.sl 11 (rowsM q.1.1.1)), .im (.sl 2 (rowsC q.1.1.2))], places := hsK l q.2.1.1 q.2.1.2 })
theorem ne_ork (l : List Int) (n : Nat) : Nonempty (QRk n × SK l) = True := by simp only [eq_iff_iff, iff_true]; exact ⟨(⟨([], []), good_nil (by simp) (by simp), by simp⟩, ⟨(0, 0), by simp⟩)⟩
abbrev N10 := { n : Nat // n ≤ 10 }
noncomputable def ct_l6Rack : Ct := fam false (fun x : AKn × N10 => ([.c (.ptr 0 0 0 0), .c (.im (.int .i64 (x.2.1 : Int)))], hsK x.1.l x.1.a x.1.h)) (fun x => oDRk x.1.l x.2.1)
theorem run_l6Rack {l : List Int} {a h : Int} {n : Nat} (h1 : l.length ≤ 1048576) (h2 : ∀ b ∈ l, 0 ≤ b ∧ b < 256) (h3 : 0 ≤ a) (h4 : a ≤ l.length) (h5 : n ≤ 10) : ct_l6Rack.run [.c (.ptr 0 0 0 0), .c (.im (.int .i64 (n : Int)))] [[.t (.im (.sl 1 (rowsB l))), .t (.im (.int .i64 a)), .t (.im (.int .i64 h))]] = some (oDRk l n) := by
  refine fam_run' (args := fun x : AKn × N10 => ([D.c (.ptr 0 0 0 0), .c (.im (.int .i64 (x.2.1 : Int)))], hsK x.1.l x.1.a x.1.h)) (fun x y h => ?_) (⟨l, h1, h2, a, h, h3, h4⟩, ⟨n, h5⟩)
  simp only [Prod.mk.injEq, List.cons.injEq, D.c.injEq, C.im.injEq, I.int.injEq, true_and, and_true] at h
  exact Prod.ext (AKn_ext (hsK_inj h.2)) (Subtype.ext (by omega))
set_option maxRecDepth 100000 in
set_option maxHeartbeats 8000000 in
theorem law_l6Rack : Law Tryz.prog 28 ct_l6Rack := by
  refine fam_lawF (Env_cons law_l01Below (Env_cons law_l5Module (Env_cons law_sAddCable Env_nil))) hmixA Tryz.func28 rfl rfl (fun ⟨⟨l, h1, h2, a, h, h3, h4⟩, ⟨n, h5⟩⟩ => ⟨okA (fun o => okK (n := 0) okAgg2), by simp [Tryz.f28], ?_⟩)
  simp only [oDRk, hsK]
  have hn : IntKind.i64.wrap ((n : Int) + 1) = (n : Int) + 1 := wrap_id (by omega) (by omega)
  try simp -dsimp (maxSteps := 1000000) only [go_sem, List.forall_mem_nil, ↓reduceIte, Nat.reduceEqDiff, Nat.reduceLT, Nat.reduceLeDiff, Nat.reduceAdd, Nat.reduceMul, reduceCtorEq, Tryz.f28, hn, run_l01Below h1 h2 h3 h4 (n := (n : Int) + 1) (by omega) (by omega), oBelow, hsK, ne_below l (n := (n : Int) + 1) (by omega)]
  rintro ⟨⟨k0, ⟨⟨a0, g0⟩, b0⟩⟩, r1, r2⟩
  simp only at r1 r2 b0
  obtain ⟨K, rfl⟩ := Int.eq_ofNat_of_zero_le r1
  try simp -dsimp (maxSteps := 1000000) only [go_sem, List.forall_mem_nil, ↓reduceIte, Nat.reduceEqDiff, Nat.reduceLT, Nat.reduceLeDiff, Nat.reduceAdd, Nat.reduceMul, reduceCtorEq, Tryz.f28, hsK]
  refine loop_i (ι := { x : (List Mod × SK l) × Nat // (∀ m ∈ x.1.1, Drawn m) ∧ x.1.1.length + x.2 ≤ n }) (fun x => ⟨[(0, some (.c (.ptr 0 0 0 0))), (4, some (.c (.ptr 1 0 0 0))), (5, some (.c (.ptr 2 0 0 0))), (6, some (.c (.im (.int .i64 (x.1.2 : Int)))))],
    [(0, some (.box [.t (.im (.sl 1 (rowsB l))), .t (.im (.int .i64 x.1.1.2.1.1)), .t (.im (.int .i64 x.1.1.2.1.2))])), (1, some (.box [.t .nil, .t .nil])), (2, some (.box [.t (.lent 3 11 x.1.1.1.length), .t .nil])), (3, some (.arr 11 (tI (rowsM x.1.1.1))))], 4⟩) (fun x => x.1.2) ⟨(([], ⟨(a0, g0), b0⟩), K), by simp, by simp; omega⟩ ⟨[.nilT 2 0 0 11, .unf 2 0 0], [0, 1, 2, 3], by ((simp only [go_sem, eq_self, MvRb, MvRn, MvRt, List.nodup_cons, List.nodup_nil, ↓reduceIte, Nat.reduceEqDiff, Nat.reduceLT, Nat.reduceLeDiff, reduceCtorEq, List.forall_mem_nil, Nat.zero_le, false_implies, List.mem_singleton, Option.map_some, MvR_Mi]) <;> (try (simp -dsimp only [go_sem, eq_self, MvRb, MvRn, MvRt, List.nodup_cons, List.nodup_nil, ↓reduceIte, Nat.reduceEqDiff, Nat.reduceLT, Nat.reduceLeDiff, reduceCtorEq, List.forall_mem_nil, Nat.zero_le, false_implies, List.mem_singleton, Option.map_some, MvR_Mi]))) <;> simp [lk, MvB_im, tI, rowsM, MvRt]⟩ (fun ⟨⟨⟨ms, ⟨⟨a, g⟩, b⟩⟩, k⟩, hD, hl⟩ => ?_)
  simp only at hD hl b ⊢
  match k with
  | k + 1 =>
    have d0 : ((0 : Int) < ((k + 1 : Nat) : Int)) = True := eq_true (by omega)
    have hk : IntKind.i64.wrap (((k + 1 : Nat) : Int) - 1) = (k : Int) := by rw [wrap_id (by omega) (by omega)]; omega
    have hby : ((ms.length + 1) * 136 ≤ 140737488355328) = True := eq_true (by omega)
    have ll : (tI (rowsM ms)).length = ms.length := by rw [tI_len, rowsM_len]
    try simp -dsimp (maxSteps := 1000000) only [go_sem, List.forall_mem_nil, ↓reduceIte, Nat.reduceEqDiff, Nat.reduceLT, Nat.reduceLeDiff, Nat.reduceAdd, Nat.reduceMul, reduceCtorEq, Tryz.f28, d0, hk, run_l5Module h1 h2 b.1 b.2, oMod, ne_mod, hsK]
    repeat' ((with_reducible refine sl_i ?_ ?_); focus kernel_rfl)
    rintro ⟨⟨m, hm⟩, ⟨⟨a2, g2⟩, b2⟩⟩
    have happ := tIM_app ms m
    have ll2 : (tI (rowsM (ms ++ [m]))).length = ms.length + 1 := by rw [tI_len, rowsM_len]; simp
    try simp -dsimp (maxSteps := 1000000) only [go_sem, List.forall_mem_nil, ↓reduceIte, Nat.reduceEqDiff, Nat.reduceLT, Nat.reduceLeDiff, Nat.reduceAdd, Nat.reduceMul, reduceCtorEq, Tryz.f28, d0, hk, hsK, modC, hby, happ, ll, ll2, appendH, srcRows, List.take_succ_cons, List.take_zero, List.all_cons, List.all_nil, okT, Bool.and_true]
    repeat' ((with_reducible refine ro_i ?_ ?_); focus kernel_rfl)
    exact ⟨⟨((ms ++ [m], ⟨(a2, g2), b2⟩), k), by
      intro x hx
      rcases List.mem_append.1 hx with hx | hx
      · exact hD x hx
      · simp at hx; subst hx; exact hm, by simp; omega⟩, by simp, [], [0, 1, 2, 44], by (simp only [go_sem, eq_self, MvRb, MvRn, MvRt, List.nodup_cons, List.nodup_nil, ↓reduceIte, Nat.reduceEqDiff, Nat.reduceLT, Nat.reduceLeDiff, reduceCtorEq, List.forall_mem_nil, Nat.zero_le, false_implies, List.mem_singleton, MvR_Mi, List.length_append]) <;> simp [lk, MvB_im]⟩
  | 0 =>
    have c0 : ((0 : Nat) : Int) = 0 := rfl
    have d0 : ((0 : Int) < 0) = False := by simp
    have w1 : IntKind.i64.wrap (3 * (ms.length : Int)) = 3 * (ms.length : Int) := wrap_id (by omega) (by omega)
    have w2 : IntKind.i64.wrap (3 * (ms.length : Int) + 1) = 3 * (ms.length : Int) + 1 := wrap_id (by omega) (by omega)
    try simp -dsimp (maxSteps := 1000000) only [go_sem, List.forall_mem_nil, ↓reduceIte, Nat.reduceEqDiff, Nat.reduceLT, Nat.reduceLeDiff, Nat.reduceAdd, Nat.reduceMul, reduceCtorEq, Tryz.f28, c0, d0, w1, w2, run_l01Below h1 h2 b.1 b.2 (n := 3 * (ms.length : Int) + 1) (by omega) (by omega), oBelow, hsK, ne_below l (n := 3 * (ms.length : Int) + 1) (by omega)]
    rintro ⟨⟨k2, ⟨⟨a0, g0⟩, b0⟩⟩, r1, r2⟩
    simp only at r1 r2 b0
    obtain ⟨K2, rfl⟩ := Int.eq_ofNat_of_zero_le r1
    try simp -dsimp (maxSteps := 1000000) only [go_sem, List.forall_mem_nil, ↓reduceIte, Nat.reduceEqDiff, Nat.reduceLT, Nat.reduceLeDiff, Nat.reduceAdd, Nat.reduceMul, reduceCtorEq, Tryz.f28, hsK]
    have hG0 : GoodRk ms [] := good_nil hD (by omega)
    have hl0 : ms.length ≤ n := by omega
    have hk20 : K2 = 0 ∨ 1 ≤ ms.length := by omega
    have hk30 : K2 ≤ 30 := by omega
    have hmm : mapO (mapO imT) (tI (rowsM ms)) = some (rowsM ms) := tI_imT _
    have ll : (tI (rowsM ms)).length = ms.length := by rw [tI_len, rowsM_len]
    refine loop_i (ι := { x : (QRk n × SK l) × Nat // (x.2 = 0 ∨ 1 ≤ x.1.1.1.1.length) ∧ x.2 ≤ 30 }) (fun x => ⟨[(0, some (.c (.ptr 0 0 0 0))), (4, some (.c (.ptr 1 0 0 0))), (5, some (.c (.ptr 2 0 0 0))), (7, some (.c (.im (.int .i64 (x.1.2 : Int)))))],
      [(0, some (.box [.t (.im (.sl 1 (rowsB l))), .t (.im (.int .i64 x.1.1.2.1.1)), .t (.im (.int .i64 x.1.1.2.1.2))])), (1, some (.box [.t .nil, .t .nil])), (2, some (.box [.t (.im (.sl 11 (rowsM x.1.1.1.1.1))), .t (.im (.sl 2 (rowsC x.1.1.1.1.2)))]))], 3⟩) (fun x => x.1.2) ⟨((⟨(ms, []), hG0, hl0⟩, ⟨(a0, g0), b0⟩), K2), hk20, hk30⟩ ⟨[.frz 3 [.b 2 0 0], .nilI 2 [.b 2 0 1]], [0, 1, 2], by (simp only [go_sem, eq_self, MvRb, MvRn, MvRt, List.nodup_cons, List.nodup_nil, ↓reduceIte, Nat.reduceEqDiff, Nat.reduceLT, Nat.reduceLeDiff, reduceCtorEq, List.forall_mem_nil, Nat.zero_le, false_implies, List.mem_singleton, frzLs, frT, hmm, ll, rowsC_nil]) <;> simp [lk, MvB_im]⟩ (fun ⟨⟨⟨⟨⟨ms, cs⟩, hG, hl⟩, ⟨⟨a, g⟩, b⟩⟩, k⟩, hk0, hk3⟩ => ?_)
    simp only at hG hl b hk0 hk3 ⊢
    match k with
    | 0 =>
      have c0 : ((0 : Nat) : Int) = 0 := rfl
      have d0 : ((0 : Int) < 0) = False := by simp
      try simp -dsimp (maxSteps := 1000000) only [go_sem, List.forall_mem_nil, ↓reduceIte, Nat.reduceEqDiff, Nat.reduceLT, Nat.reduceLeDiff, Nat.reduceAdd, Nat.reduceMul, reduceCtorEq, Tryz.f28, c0, d0]
      refine finF_i [] ?_
      simp -dsimp (maxSteps := 1000000) only [go_sem, List.forall_mem_nil, ↓reduceIte, Nat.reduceEqDiff, Nat.reduceLT, Nat.reduceLeDiff, Nat.reduceAdd, Nat.reduceMul, reduceCtorEq]
      exact ⟨(⟨(ms, cs), hG, hl⟩, ⟨(a, g), b⟩), rfl, rfl, rfl⟩
    | k + 1 =>
      have d0 : ((0 : Int) < ((k + 1 : Nat) : Int)) = True := eq_true (by omega)
      have hk : IntKind.i64.wrap (((k + 1 : Nat) : Int) - 1) = (k : Int) := by rw [wrap_id (by omega) (by omega)]; omega
      have hl1 : 1 ≤ ms.length := by omega
      have rb : ∀ (a h : Int), 0 ≤ a → a ≤ l.length → ct_l01Below.run [.c (.ptr 0 0 0 0), .c (.im (.int .i64 (ms.length : Int)))] [[.t (.im (.sl 1 (rowsB l))), .t (.im (.int .i64 a)), .t (.im (.int .i64 h))]] = some (oBelow l (ms.length : Int)) := fun a h q1 q2 => run_l01Below h1 h2 q1 q2 (n := (ms.length : Int)) (by omega) (by omega)
      have nb := ne_below l (n := (ms.length : Int)) (by omega)
      try simp -dsimp (maxSteps := 1000000) only [go_sem, List.forall_mem_nil, ↓reduceIte, Nat.reduceEqDiff, Nat.reduceLT, Nat.reduceLeDiff, Nat.reduceAdd, Nat.reduceMul, reduceCtorEq, Tryz.f28, d0, rowsM_len, rb a g b.1 b.2, oBelow, nb, hsK]
      repeat' ((with_reducible refine sl_i ?_ ?_); focus kernel_rfl)
      rintro ⟨⟨f, ⟨⟨a2, g2⟩, b2⟩⟩, f1, f2⟩
      try simp -dsimp (maxSteps := 1000000) only [go_sem, List.forall_mem_nil, ↓reduceIte, Nat.reduceEqDiff, Nat.reduceLT, Nat.reduceLeDiff, Nat.reduceAdd, Nat.reduceMul, reduceCtorEq, Tryz.f28, rowsM_len, rb a2 g2 b2.1 b2.2, oBelow, nb, hsK]
      rintro ⟨⟨t, ⟨⟨a3, g3⟩, b3⟩⟩, t1, t2⟩
      cases hr : isRackF ms (cs ++ [(f, t)]) with
      | true =>
        try simp -dsimp (maxSteps := 1000000) only [go_sem, List.forall_mem_nil, ↓reduceIte, Nat.reduceEqDiff, Nat.reduceLT, Nat.reduceLeDiff, Nat.reduceAdd, Nat.reduceMul, reduceCtorEq, Tryz.f28, run_sAddCable hG, sc_sAddCable, addR', hr, rRO, hk, hsK]
        repeat' ((with_reducible refine ro_i ?_ ?_); focus kernel_rfl)
        exact ⟨⟨((⟨(ms, cs ++ [(f, t)]), ⟨hG.dr, hr⟩, hl⟩, ⟨(a3, g3), b3⟩), k), .inr hl1, by simp only []; omega⟩, by simp, [], [0, 1, 2], by (simp only [go_sem, eq_self, MvRb, MvRn, MvRt, List.nodup_cons, List.nodup_nil, ↓reduceIte, Nat.reduceEqDiff, Nat.reduceLT, Nat.reduceLeDiff, reduceCtorEq, List.forall_mem_nil, Nat.zero_le, false_implies, List.mem_singleton]) <;> simp [lk, MvB_im]⟩
      | false =>
        try simp -dsimp (maxSteps := 1000000) only [go_sem, List.forall_mem_nil, ↓reduceIte, Nat.reduceEqDiff, Nat.reduceLT, Nat.reduceLeDiff, Nat.reduceAdd, Nat.reduceMul, reduceCtorEq, Tryz.f28, run_sAddCable hG, sc_sAddCable, addR', hr, rRO, hk, hsK, rowsM_nil, rowsC_nil]
        repeat' ((with_reducible refine ro_i ?_ ?_); focus kernel_rfl)
        exact ⟨⟨((⟨(ms, cs), hG, hl⟩, ⟨(a3, g3), b3⟩), k), .inr hl1, by simp only []; omega⟩, by simp, [], [0, 1, 2], by (simp only [go_sem, eq_self, MvRb, MvRn, MvRt, List.nodup_cons, List.nodup_nil, ↓reduceIte, Nat.reduceEqDiff, Nat.reduceLT, Nat.reduceLeDiff, reduceCtorEq, List.forall_mem_nil, Nat.zero_le, false_implies, List.mem_singleton]) <;> simp [lk, MvB_im]⟩
abbrev QRk1 (n : Nat) := { r : List Mod × List Cbl // GoodRk r.1 r.2 ∧ 1 ≤ r.1.length ∧ r.1.length ≤ max n 1 }
def oMk (n : Nat) : Outs := .any (QRk1 n) (fun q => { val := .agg [.im (.sl 11 (rowsM q.1.1)), .im (.sl 2 (rowsC q.1.2))] })
theorem ne_omk (n : Nat) : Nonempty (QRk1 n) = True := by simp only [eq_iff_iff, iff_true]; exact ⟨⟨([mSum'], []), good_nil (by simp [drawn_sum]) (by simp), by simp; omega⟩⟩
noncomputable def ct_MakeRack : Ct := fam false (fun x : ABw × N10 => ([.c (.im (.sl 1 (rowsB x.1.l))), .c (.im (.int .i64 (x.2.1 : Int)))], [])) (fun x => oMk x.2.1)
theorem run_MakeRack {l : List Int} (h1 : l.length ≤ 1048576) (h2 : ∀ b ∈ l, 0 ≤ b ∧ b < 256) {n : Nat} (h3 : n ≤ 10) : ct_MakeRack.run [.c (.im (.sl 1 (rowsB l))), .c (.im (.int .i64 (n : Int)))] [] = some (oMk n) := by
  refine fam_run' (args := fun x : ABw × N10 => ([D.c (.im (.sl 1 (rowsB x.1.l))), .c (.im (.int .i64 (x.2.1 : Int)))], [])) (fun x y h => ?_) (⟨l, h1, h2⟩, ⟨n, h3⟩)
  simp only [Prod.mk.injEq, List.cons.injEq, D.c.injEq, C.im.injEq, I.sl.injEq, I.int.injEq, true_and, and_true] at h
  exact Prod.ext (ABw_ext (rowsB_inj h.1)) (Subtype.ext (by omega))
set_option maxRecDepth 100000 in
set_option maxHeartbeats 8000000 in
theorem law_MakeRack : Law Tryz.prog 6 ct_MakeRack := by
  refine fam_lawF (Env_cons law_l01New (Env_cons law_l6Rack (Env_cons law_sSource Env_nil))) hmixA Tryz.func6 rfl rfl (fun ⟨⟨l, h1, h2⟩, ⟨n, h3⟩⟩ => ⟨okA (fun o => ⟨okAgg2, by simp, by simp⟩), by simp [Tryz.f6], ?_⟩)
  simp only [oMk]
  have m1 : ((10 : Int) < (n : Int)) = False := eq_false (by omega)
  have m2 : (if (n : Int) > 0 then (n : Int) else 0) = (n : Int) := by split <;> omega
  try simp -dsimp (maxSteps := 1000000) only [go_sem, List.forall_mem_nil, ↓reduceIte, Nat.reduceEqDiff, Nat.reduceLT, Nat.reduceLeDiff, Nat.reduceAdd, Nat.reduceMul, reduceCtorEq, Tryz.f6, run_l01New h1 h2, oKNew, ne_int]
  intro h
  try simp -dsimp (maxSteps := 1000000) only [go_sem, List.forall_mem_nil, ↓reduceIte, Nat.reduceEqDiff, Nat.reduceLT, Nat.reduceLeDiff, Nat.reduceAdd, Nat.reduceMul, reduceCtorEq, Tryz.f6, m1, m2, run_l6Rack h1 h2 (a := 0) (h := h) (n := n) (by omega) (by omega) h3, oDRk, ne_ork, hsK]
  rintro ⟨⟨⟨ms, cs⟩, hG, hl⟩, ⟨⟨a1, g1⟩, b1⟩⟩
  simp only at hG hl
  by_cases h0 : ms.length = 0
  rotate_left
  · have h0' : ((ms.length : Int) = 0) = False := eq_false (by omega)
    try simp -dsimp (maxSteps := 1000000) only [go_sem, List.forall_mem_nil, ↓reduceIte, Nat.reduceEqDiff, Nat.reduceLT, Nat.reduceLeDiff, Nat.reduceAdd, Nat.reduceMul, reduceCtorEq, Tryz.f6, hsK, rowsM_len, h0']
    refine finF_i [] ?_
    simp -dsimp (maxSteps := 1000000) only [go_sem, List.forall_mem_nil, ↓reduceIte, Nat.reduceEqDiff, Nat.reduceLT, Nat.reduceLeDiff, Nat.reduceAdd, Nat.reduceMul, reduceCtorEq]
    exact ⟨⟨(ms, cs), hG, by simp only []; omega, by simp only []; omega⟩, rfl, rfl⟩
  have h0' : ((ms.length : Int) = 0) = True := eq_true (by omega)
  have hms : ms = [] := List.eq_nil_of_length_eq_zero h0
  have hcs : cs = [] := by
    have := hG.rk
    subst hms
    simp only [isRackF, Bool.and_eq_true, List.all_eq_true] at this
    obtain ⟨_, _, _, hc, _⟩ := this
    cases cs with
    | nil => rfl
    | cons c cs =>
      have := hc c (by simp)
      rw [cab_has] at this
      simp [hasR] at this
      omega
  subst hcs
  try simp -dsimp (maxSteps := 1000000) only [go_sem, List.forall_mem_nil, ↓reduceIte, Nat.reduceEqDiff, Nat.reduceLT, Nat.reduceLeDiff, Nat.reduceAdd, Nat.reduceMul, reduceCtorEq, Tryz.f6, hsK, rowsM_len, h0', run_sSource, rM, modC, mSrc']
  refine finF_i [.frz 3 [.b 0 0 0]] ?_
  simp -dsimp (maxSteps := 1000000) only [go_sem, List.forall_mem_nil, ↓reduceIte, Nat.reduceEqDiff, Nat.reduceLT, Nat.reduceLeDiff, Nat.reduceAdd, Nat.reduceMul, reduceCtorEq]
  exact ⟨⟨([mSrc' (0, 1065353216) (1065353216, 0)], []), good_nil (by intro m hm; simp at hm; subst hm; exact drawn_src _ _) (by simp), by simp, by simp; omega⟩, rfl, rfl⟩
end Go.SX
set_option linter.unusedVariables false
set_option linter.unusedSimpArgs false
namespace Go.SX
open Go Go.Proofs
structure Fa where
  kind : Int
  md : Int
  fr : Int
  to_ : Int
def rowsFa (l : List Fa) : List (List I) := l.map fun f => [.int .i64 f.kind, .int .i64 f.md, .int .i64 f.fr, .int .i64 f.to_]
theorem rowsFa_len (l : List Fa) : (rowsFa l).length = l.length := by simp [rowsFa]
theorem rowsFa_at {l : List Fa} {k : Nat} {f : Fa} (h : l[k]? = some f) : (rowsFa l)[k]? = some [.int .i64 f.kind, .int .i64 f.md, .int .i64 f.fr, .int .i64 f.to_] := by simp [rowsFa, h]
theorem rowsFa_inj {a b : List Fa} (h : rowsFa a = rowsFa b) : a = b := by
  induction a generalizing b with
  | nil => cases b with
    | nil => rfl
    | cons y b => simp [rowsFa] at h
  | cons x a ih => cases b with
    | nil => simp [rowsFa] at h
    | cons y b =>
      simp only [rowsFa, List.map_cons, List.cons.injEq, I.int.injEq, true_and, and_true] at h
      obtain ⟨⟨h1, h2, h3, h4⟩, h5⟩ := h
      rw [ih h5]
      obtain ⟨k, m, f, t⟩ := x
      obtain ⟨k', m', f', t'⟩ := y
      simp only at h1 h2 h3 h4
      subst h1 h2 h3 h4; rfl
def bec1 (i : Int) (last : List Pt) (n : Int) (z : Pt) (f : Fa) : Pt :=
  if f.md = n ∧ ¬ i < f.fr ∧ ¬ f.to_ ≤ i then
    if f.kind = 1 then (0, 0) else if f.kind = 2 then last.getD n.toNat (0, 0) else if f.kind = 3 then (flushF z.1, flushF z.2) else z
  else z
def becF (fs : List Fa) (i : Int) (last : List Pt) (n : Int) (p : Pt) : Pt := fs.foldl (bec1 i last n) p
theorem bec_next {fs : List Fa} {i : Int} {last : List Pt} {n : Int} {p : Pt} {k : Nat} {f : Fa} (h : fs[k]? = some f) : becF (fs.take (k + 1)) i last n p = bec1 i last n (becF (fs.take k) i last n p) f := by
  simp only [becF]
  rw [take_snoc h, List.foldl_append]; rfl
def hsF (fs : List Fa) (i : Int) (last : List Pt) : List (List B) := [[.t (.im (.sl 4 (rowsFa fs)))], [.t (.im (.int .i64 i))], [.t (.own 1 (tI (rowsZ last)))]]
structure ABec where
  fs : List Fa
  i : Int
  last : List Pt
  n : Int
  p : Pt
  fl : fs.length ≤ sm
  n0 : 0 ≤ n
  n1 : n < last.length
theorem hsF_inj {fs gs : List Fa} {i j : Int} {l m : List Pt} (h : hsF fs i l = hsF gs j m) : fs = gs ∧ i = j ∧ l = m := by
  simp only [hsF, List.cons.injEq, B.t.injEq, T.im.injEq, T.own.injEq, I.sl.injEq, I.int.injEq, true_and, and_true] at h
  exact ⟨rowsFa_inj h.1, h.2.1, rowsZ_inj (tI_inj h.2.2)⟩
theorem okR_bec {v : D} {fs : List Fa} {i : Int} {last : List Pt} (hv : OkD false 0 v) : OkR false { val := v, places := hsF fs i last } := by
  refine ⟨hv, by simp, fun c hc x hx => ?_⟩
  simp only [hsF, List.mem_cons, List.not_mem_nil, or_false] at hc
  rcases hc with rfl | rfl | rfl <;> simp only [List.mem_cons, List.not_mem_nil, or_false] at hx <;> subst hx
  · exact .t _ (.im _ (.inl rfl))
  · exact .t _ (.im _ (.inl rfl))
  · exact .t _ (mv_own (sc_rowsZ _))
noncomputable def ct_bec : Ct := fam false (fun x : ABec => ([.c (.im (.int .i64 x.n)), .c (.im (.cpx .f32 x.p.1 x.p.2)), .c (.ptr 0 0 0 0), .c (.ptr 1 0 0 0), .c (.ptr 2 0 0 0)], hsF x.fs x.i x.last))
  (fun x => .one { val := .c (.im (.cpx .f32 (becF x.fs x.i x.last x.n x.p).1 (becF x.fs x.i x.last x.n x.p).2)), places := hsF x.fs x.i x.last })
theorem run_bec {fs : List Fa} {i n : Int} {last : List Pt} {u v : Nat} (h1 : fs.length ≤ sm) (h2 : 0 ≤ n) (h3 : n < last.length) : ct_bec.run [.c (.im (.int .i64 n)), .c (.im (.cpx .f32 u v)), .c (.ptr 0 0 0 0), .c (.ptr 1 0 0 0), .c (.ptr 2 0 0 0)] [[.t (.im (.sl 4 (rowsFa fs)))], [.t (.im (.int .i64 i))], [.t (.own 1 (tI (rowsZ last)))]] =
    some (.one { val := .c (.im (.cpx .f32 (becF fs i last n (u, v)).1 (becF fs i last n (u, v)).2)), places := hsF fs i last }) := by
  refine fam_run' (args := fun x : ABec => ([D.c (.im (.int .i64 x.n)), .c (.im (.cpx .f32 x.p.1 x.p.2)), .c (.ptr 0 0 0 0), .c (.ptr 1 0 0 0), .c (.ptr 2 0 0 0)], hsF x.fs x.i x.last)) ?_ ⟨fs, i, last, n, (u, v), h1, h2, h3⟩
  rintro ⟨fs, i, l, n, p, _, _, _⟩ ⟨fs', i', l', n', p', _, _, _⟩ h
  simp only [Prod.mk.injEq, List.cons.injEq, D.c.injEq, C.im.injEq, I.cpx.injEq, I.int.injEq, true_and, and_true] at h
  obtain ⟨⟨rfl, hp1, hp2⟩, h4⟩ := h
  obtain ⟨rfl, rfl, rfl⟩ := hsF_inj h4
  have : p = p' := Prod.ext hp1 hp2
  subst this; rfl
set_option maxRecDepth 100000 in
set_option maxHeartbeats 8000000 in
theorem law_bec : Law Tryz.prog 45 ct_bec := by
  refine fam_lawF (Env_cons law_flush Env_nil) hmixA Tryz.func45 rfl rfl (fun ⟨fs, i, last, n, ⟨u, v⟩, h1, h2, h3⟩ => ⟨okO (okR_bec okDi), by simp [Tryz.f45], ?_⟩)
  simp only [hsF]
  obtain ⟨N, rfl⟩ := Int.eq_ofNat_of_zero_le h2
  have hN : N < last.length := by omega
  obtain ⟨⟨q1, q2⟩, hq⟩ : ∃ p, last[N]? = some p := ⟨_, List.getElem?_eq_getElem hN⟩
  have hql := tIZ_at hq
  have hqd : last.getD (N : Int).toNat (0, 0) = (q1, q2) := by rw [Int.toNat_natCast, List.getD_eq_getElem?_getD, hq]; rfl
  have hn0 : (0 ≤ (N : Int)) = True := by simp
  have hn1 : ((N : Int) < (last.length : Int)) = True := eq_true (by omega)
  simp only at hql
  try simp -dsimp (maxSteps := 1000000) only [go_sem, List.forall_mem_nil, ↓reduceIte, Nat.reduceEqDiff, Nat.reduceLT, Nat.reduceLeDiff, Nat.reduceAdd, Nat.reduceMul, reduceCtorEq, Tryz.f45, rowsFa_len]
  refine loop_i (ι := { k : Nat // k ≤ fs.length }) (fun k => ⟨[(0, some (.c (.im (.int .i64 (N : Int))))), (1, some (.c (.im (.cpx .f32 (becF (fs.take k.1) i last N (u, v)).1 (becF (fs.take k.1) i last N (u, v)).2)))), (3, some (.c (.ptr 1 0 0 0))), (4, some (.c (.ptr 2 0 0 0))), (10, some (.c (.im (.sl 4 (rowsFa fs))))), (11, some (.c (.im (.int .i64 (fs.length : Int))))), (12, some (.c (.im (.int .i64 (k.1 : Int)))))],
    [(0, some (.box [.t (.im (.sl 4 (rowsFa fs)))])), (1, some (.box [.t (.im (.int .i64 i))])), (2, some (.box [.t (.own 1 (tI (rowsZ last)))]))], 3⟩) (fun k => fs.length - k.1) ⟨0, by simp⟩ ⟨[], [0, 1, 2], by ((simp only [go_sem, eq_self, MvRb, MvRn, MvRt, List.nodup_cons, List.nodup_nil, ↓reduceIte, Nat.reduceEqDiff, Nat.reduceLT, Nat.reduceLeDiff, reduceCtorEq, List.forall_mem_nil, Nat.zero_le, false_implies, List.mem_singleton, MvB_Z]) <;> (try (simp -dsimp only [go_sem, eq_self, MvRb, MvRn, MvRt, List.nodup_cons, List.nodup_nil, ↓reduceIte, Nat.reduceEqDiff, Nat.reduceLT, Nat.reduceLeDiff, reduceCtorEq, List.forall_mem_nil, Nat.zero_le, false_implies, List.mem_singleton, MvB_Z]))) <;> simp [lk, MvB_im, MvB_Z, becF]⟩ (fun ⟨k, hk⟩ => ?_)
  simp only
  by_cases hlt : k < fs.length
  rotate_left
  · have hI : ((k : Int) < (fs.length : Int)) = False := eq_false (by omega)
    obtain rfl : k = fs.length := by omega
    rw [List.take_length]
    try simp -dsimp (maxSteps := 1000000) only [go_sem, List.forall_mem_nil, ↓reduceIte, Nat.reduceEqDiff, Nat.reduceLT, Nat.reduceLeDiff, Nat.reduceAdd, Nat.reduceMul, reduceCtorEq, Tryz.f45, hI]
    refine finF_i [] ?_
    simp -dsimp (maxSteps := 1000000) only [go_sem, List.forall_mem_nil, ↓reduceIte, Nat.reduceEqDiff, Nat.reduceLT, Nat.reduceLeDiff, Nat.reduceAdd, Nat.reduceMul, reduceCtorEq, hsF]
  have hI : ((k : Int) < (fs.length : Int)) = True := eq_true (by omega)
  obtain ⟨f, hf⟩ : ∃ f, fs[k]? = some f := ⟨_, List.getElem?_eq_getElem hlt⟩
  have hrow := rowsFa_at hf
  have h0 : (0 ≤ (k : Int)) = True := by simp
  have hwr := lt_sm h1 hlt
  have hnx := bec_next (i := i) (last := last) (n := (N : Int)) (p := (u, v)) hf
  generalize becF (fs.take k) i last N (u, v) = z at *
  obtain ⟨z1, z2⟩ := z
  obtain ⟨kd, md, fr, to_⟩ := f
  simp only at hrow hnx ⊢
  by_cases hc : md = (N : Int) ∧ ¬ i < fr ∧ ¬ to_ ≤ i
  rotate_left
  · have e : becF (fs.take (k + 1)) i last N (u, v) = (z1, z2) := by rw [hnx]; simp only [bec1, hc, if_false]
    by_cases c1 : md = (N : Int)
    · have c1' := eq_true c1
      by_cases c2 : i < fr
      · have c2' := eq_true c2
        clear hc c1 c2
        try simp -dsimp (maxSteps := 1000000) only [go_sem, List.forall_mem_nil, ↓reduceIte, Nat.reduceEqDiff, Nat.reduceLT, Nat.reduceLeDiff, Nat.reduceAdd, Nat.reduceMul, reduceCtorEq, Tryz.f45, hI, h0, hrow, hwr, c1', c2', Int.toNat_natCast]
        exact ⟨⟨k + 1, by omega⟩, by simp only []; omega, [], [0, 1, 2], by (simp only [go_sem, eq_self, MvRb, MvRn, MvRt, List.nodup_cons, List.nodup_nil, ↓reduceIte, Nat.reduceEqDiff, Nat.reduceLT, Nat.reduceLeDiff, reduceCtorEq, List.forall_mem_nil, Nat.zero_le, false_implies, List.mem_singleton, MvB_Z, e]) <;> simp [lk, MvB_im, MvB_Z]⟩
      · have c2' := eq_false c2
        have c3' : (to_ ≤ i) = True := eq_true (by
          by_cases c3 : to_ ≤ i
          · exact c3
          · exact absurd ⟨c1, c2, c3⟩ hc)
        clear hc c1 c2
        try simp -dsimp (maxSteps := 1000000) only [go_sem, List.forall_mem_nil, ↓reduceIte, Nat.reduceEqDiff, Nat.reduceLT, Nat.reduceLeDiff, Nat.reduceAdd, Nat.reduceMul, reduceCtorEq, Tryz.f45, hI, h0, hrow, hwr, c1', c2', c3', Int.toNat_natCast]
        exact ⟨⟨k + 1, by omega⟩, by simp only []; omega, [], [0, 1, 2], by (simp only [go_sem, eq_self, MvRb, MvRn, MvRt, List.nodup_cons, List.nodup_nil, ↓reduceIte, Nat.reduceEqDiff, Nat.reduceLT, Nat.reduceLeDiff, reduceCtorEq, List.forall_mem_nil, Nat.zero_le, false_implies, List.mem_singleton, MvB_Z, e]) <;> simp [lk, MvB_im, MvB_Z]⟩
    · have c1' := eq_false c1
      clear hc c1
      try simp -dsimp (maxSteps := 1000000) only [go_sem, List.forall_mem_nil, ↓reduceIte, Nat.reduceEqDiff, Nat.reduceLT, Nat.reduceLeDiff, Nat.reduceAdd, Nat.reduceMul, reduceCtorEq, Tryz.f45, hI, h0, hrow, hwr, c1', Int.toNat_natCast]
      exact ⟨⟨k + 1, by omega⟩, by simp only []; omega, [], [0, 1, 2], by (simp only [go_sem, eq_self, MvRb, MvRn, MvRt, List.nodup_cons, List.nodup_nil, ↓reduceIte, Nat.reduceEqDiff, Nat.reduceLT, Nat.reduceLeDiff, reduceCtorEq, List.forall_mem_nil, Nat.zero_le, false_implies, List.mem_singleton, MvB_Z, e]) <;> simp [lk, MvB_im, MvB_Z]⟩
  have e : becF (fs.take (k + 1)) i last N (u, v) = if kd = 1 then (0, 0) else if kd = 2 then (q1, q2) else if kd = 3 then (flushF z1, flushF z2) else (z1, z2) := by
    rw [hnx]; simp only [bec1, hc, not_false_eq_true, and_self, if_true, hqd]
  obtain ⟨c1, c2, c3⟩ := hc
  have c1' := eq_true c1
  have c2' := eq_false c2
  have c3' := eq_false c3
  clear c1 c2 c3
  by_cases k1 : kd = 1
  · have k1' := eq_true k1
    rw [if_pos k1] at e
    clear k1
    try simp -dsimp (maxSteps := 1000000) only [go_sem, List.forall_mem_nil, ↓reduceIte, Nat.reduceEqDiff, Nat.reduceLT, Nat.reduceLeDiff, Nat.reduceAdd, Nat.reduceMul, reduceCtorEq, Tryz.f45, hI, h0, hrow, hwr, c1', c2', c3', k1', Int.toNat_natCast]
    exact ⟨⟨k + 1, by omega⟩, by simp only []; omega, [], [0, 1, 2], by (simp only [go_sem, eq_self, MvRb, MvRn, MvRt, List.nodup_cons, List.nodup_nil, ↓reduceIte, Nat.reduceEqDiff, Nat.reduceLT, Nat.reduceLeDiff, reduceCtorEq, List.forall_mem_nil, Nat.zero_le, false_implies, List.mem_singleton, MvB_Z, e]) <;> simp [lk, MvB_im, MvB_Z]⟩
  rw [if_neg k1] at e
  have k1' := eq_false k1
  clear k1
  by_cases k2 : kd = 2
  · have k2' := eq_true k2
    rw [if_pos k2] at e
    clear k2
    try simp -dsimp (maxSteps := 1000000) only [go_sem, List.forall_mem_nil, ↓reduceIte, Nat.reduceEqDiff, Nat.reduceLT, Nat.reduceLeDiff, Nat.reduceAdd, Nat.reduceMul, reduceCtorEq, Tryz.f45, hI, h0, hrow, hwr, c1', c2', c3', k1', k2', hn0, hn1, hql, tI_len, rowsZ_len, Int.toNat_natCast]
    exact ⟨⟨k + 1, by omega⟩, by simp only []; omega, [.fold 2 0 0], [0, 1, 2], by (simp only [go_sem, eq_self, MvRb, MvRn, MvRt, List.nodup_cons, List.nodup_nil, ↓reduceIte, Nat.reduceEqDiff, Nat.reduceLT, Nat.reduceLeDiff, reduceCtorEq, List.forall_mem_nil, Nat.zero_le, false_implies, List.mem_singleton, MvB_Z, e, Option.map_some, tI_len, rowsZ_len]) <;> simp [lk, MvB_im, MvB_Z]⟩
  rw [if_neg k2] at e
  have k2' := eq_false k2
  clear k2
  by_cases k3 : kd = 3
  · have k3' := eq_true k3
    rw [if_pos k3] at e
    clear k3
    try simp -dsimp (maxSteps := 1000000) only [go_sem, List.forall_mem_nil, ↓reduceIte, Nat.reduceEqDiff, Nat.reduceLT, Nat.reduceLeDiff, Nat.reduceAdd, Nat.reduceMul, reduceCtorEq, Tryz.f45, hI, h0, hrow, hwr, c1', c2', c3', k1', k2', k3', run_flush, Int.toNat_natCast]
    exact ⟨⟨k + 1, by omega⟩, by simp only []; omega, [], [0, 1, 2], by (simp only [go_sem, eq_self, MvRb, MvRn, MvRt, List.nodup_cons, List.nodup_nil, ↓reduceIte, Nat.reduceEqDiff, Nat.reduceLT, Nat.reduceLeDiff, reduceCtorEq, List.forall_mem_nil, Nat.zero_le, false_implies, List.mem_singleton, MvB_Z, e]) <;> simp [lk, MvB_im, MvB_Z]⟩
  rw [if_neg k3] at e
  have k3' := eq_false k3
  clear k3
  try simp -dsimp (maxSteps := 1000000) only [go_sem, List.forall_mem_nil, ↓reduceIte, Nat.reduceEqDiff, Nat.reduceLT, Nat.reduceLeDiff, Nat.reduceAdd, Nat.reduceMul, reduceCtorEq, Tryz.f45, hI, h0, hrow, hwr, c1', c2', c3', k1', k2', k3', Int.toNat_natCast]
  exact ⟨⟨k + 1, by omega⟩, by simp only []; omega, [], [0, 1, 2], by (simp only [go_sem, eq_self, MvRb, MvRn, MvRt, List.nodup_cons, List.nodup_nil, ↓reduceIte, Nat.reduceEqDiff, Nat.reduceLT, Nat.reduceLeDiff, reduceCtorEq, List.forall_mem_nil, Nat.zero_le, false_implies, List.mem_singleton, MvB_Z, e]) <;> simp [lk, MvB_im, MvB_Z]⟩
end Go.SX
set_option linter.unusedVariables false
set_option linter.unusedSimpArgs false
namespace Go.SX
open Go Go.Proofs
def outG (bec : Int → Pt → Pt) (i : Nat) (m : Mod) : Pt := if m.kind = 4 then bec (i : Int) (m.store.getD m.rat.toNat (0, 0)) else (0, 0)
def outsG (bec : Int → Pt → Pt) (ms : List Mod) (k : Nat) : List Pt := (List.range k).map (fun i => outG bec i (ms.getD i dMod)) ++ List.replicate (ms.length - k) (0, 0)
def outs0G (bec : Int → Pt → Pt) (ms : List Mod) : List Pt := outsG bec ms ms.length
theorem outsG_0 (bec : Int → Pt → Pt) (ms : List Mod) : outsG bec ms 0 = List.replicate ms.length (0, 0) := by simp [outsG]
theorem outsG_len {bec : Int → Pt → Pt} {ms : List Mod} {k : Nat} (h : k ≤ ms.length) : (outsG bec ms k).length = ms.length := by simp [outsG]; omega
theorem outsG_set {bec : Int → Pt → Pt} {ms : List Mod} {k : Nat} {m : Mod} (h : ms[k]? = some m) : (outsG bec ms k).set k (outG bec k m) = outsG bec ms (k + 1) := by
  have hlt : k < ms.length := (List.getElem?_eq_some_iff.1 h).1
  have e : ms.length - k = (ms.length - (k + 1)) + 1 := by omega
  have hl : ((List.range k).map (fun i => outG bec i (ms.getD i dMod))).length = k := by simp
  have hm : ms.getD k dMod = m := by rw [List.getD_eq_getElem?_getD, h]; rfl
  rw [outsG, outsG, e, List.replicate_succ, List.range_succ, List.map_append, List.append_assoc]
  rw [List.set_append_right _ _ (by omega), hl, Nat.sub_self]
  simp only [List.map_cons, List.map_nil, hm]
  rfl
theorem outsG_at {bec : Int → Pt → Pt} {ms : List Mod} {k : Nat} (h : k < ms.length) : (outsG bec ms k)[k]? = some (0, 0) := by
  have e : ms.length - k = (ms.length - (k + 1)) + 1 := by omega
  have hl : ((List.range k).map (fun i => outG bec i (ms.getD i dMod))).length = k := by simp
  rw [outsG, e, List.replicate_succ, List.getElem?_append_right (by omega), hl, Nat.sub_self]
  rfl
theorem outsG_no {bec : Int → Pt → Pt} {ms : List Mod} {k : Nat} {m : Mod} (h : ms[k]? = some m) (h4 : ¬ m.kind = 4) : outsG bec ms (k + 1) = outsG bec ms k := by
  rw [← outsG_set h]
  have : outG bec k m = (0, 0) := by simp [outG, h4]
  rw [this]
  have hlt : k < ms.length := (List.getElem?_eq_some_iff.1 h).1
  exact List.ext_getElem? (fun n => by
    by_cases e : k = n
    · subst e; rw [List.getElem?_set_self (by rw [outsG_len (by omega)]; exact hlt), outsG_at hlt]
    · rw [List.getElem?_set_ne e])
def sweepG1 (bec : Int → Pt → Pt) (o : Or) (cs : List Cbl) (inn : Int) (z : Pt) (i : Int) (s : List Mod × List Pt) : List Mod × List Pt :=
  (s.1.set i.toNat (stepF o (s.1.getD i.toNat dMod) (inSum cs i inn z s.2)).1, if (s.1.getD i.toNat dMod).kind = 4 then s.2 else s.2.set i.toNat (bec i (stepF o (s.1.getD i.toNat dMod) (inSum cs i inn z s.2)).2))
def sweepG (bec : Int → Pt → Pt) (o : Nat → Or) (cs : List Cbl) (inn : Int) (z : Pt) : List Int → Nat → List Mod × List Pt → List Mod × List Pt
  | [], _, s => s
  | i :: l, j, s => sweepG bec o cs inn z l (j + 1) (sweepG1 bec (o j) cs inn z i s)
def stepRackG (bec : Int → Pt → Pt) (o : Nat → Or) (cs : List Cbl) (inn : Int) (z : Pt) (ms : List Mod) : List Mod × List Pt := sweepG bec o cs inn z (ordL ms cs) 0 (ms, outs0G bec ms)
theorem sweepG_congr {bec : Int → Pt → Pt} {o o' : Nat → Or} {cs : List Cbl} {inn : Int} {z : Pt} : ∀ (l : List Int) (j : Nat) (s : List Mod × List Pt), (∀ n, j ≤ n → n < j + l.length → o n = o' n) → sweepG bec o cs inn z l j s = sweepG bec o' cs inn z l j s
  | [], _, _, _ => rfl
  | i :: l, j, s, h => by
    simp only [sweepG]
    rw [h j (Nat.le_refl _) (by simp)]
    exact sweepG_congr l (j + 1) _ (fun n h1 h2 => h n (by omega) (by simp; omega))
theorem sweepG_app {bec : Int → Pt → Pt} {o : Nat → Or} {cs : List Cbl} {inn : Int} {z : Pt} : ∀ (l : List Int) (j : Nat) (s : List Mod × List Pt) (i : Int), sweepG bec o cs inn z (l ++ [i]) j s = sweepG1 bec (o (j + l.length)) cs inn z i (sweepG bec o cs inn z l j s)
  | [], j, s, i => by simp [sweepG]
  | k :: l, j, s, i => by
    simp only [List.cons_append, sweepG]
    rw [sweepG_app l (j + 1)]
    simp [Nat.add_assoc, Nat.add_comm 1]
theorem sweepG1_len {bec : Int → Pt → Pt} {o : Or} {cs : List Cbl} {inn : Int} {z : Pt} {i : Int} {s : List Mod × List Pt} : (sweepG1 bec o cs inn z i s).1.length = s.1.length ∧ (sweepG1 bec o cs inn z i s).2.length = s.2.length := by
  simp only [sweepG1, List.length_set, true_and]
  split <;> simp
theorem sweepG_len {bec : Int → Pt → Pt} {o : Nat → Or} {cs : List Cbl} {inn : Int} {z : Pt} : ∀ (l : List Int) (j : Nat) (s : List Mod × List Pt), (sweepG bec o cs inn z l j s).1.length = s.1.length ∧ (sweepG bec o cs inn z l j s).2.length = s.2.length
  | [], _, _ => ⟨rfl, rfl⟩
  | i :: l, j, s => by
    simp only [sweepG]
    have h1 := sweepG_len (bec := bec) (o := o) (cs := cs) (inn := inn) (z := z) l (j + 1) (sweepG1 bec (o j) cs inn z i s)
    have h2 := sweepG1_len (bec := bec) (o := o j) (cs := cs) (inn := inn) (z := z) (i := i) (s := s)
    exact ⟨h1.1.trans h2.1, h1.2.trans h2.2⟩
theorem sweepG_ok {bec : Int → Pt → Pt} {o : Nat → Or} {cs : List Cbl} {inn : Int} {z : Pt} : ∀ (l : List Int) (j : Nat) (s : List Mod × List Pt), (∀ i ∈ l, 0 ≤ i ∧ i < s.1.length) → (∀ m ∈ s.1, OkS m) → ∀ m ∈ (sweepG bec o cs inn z l j s).1, OkS m
  | [], _, _, _, h => h
  | i :: l, j, s, hl, h => by
    simp only [sweepG]
    refine sweepG_ok l (j + 1) _ (fun k hk => ?_) (fun m hm => ?_)
    · rw [sweepG1_len.1]; exact hl k (.tail _ hk)
    · simp only [sweepG1] at hm
      obtain ⟨h0, h1⟩ := hl i (.head _)
      have hi : i.toNat < s.1.length := by omega
      rcases List.mem_or_eq_of_mem_set hm with hm | rfl
      · exact h m hm
      · refine stepF_ok (h _ ?_)
        rw [List.getD_eq_getElem?_getD, List.getElem?_eq_getElem hi]
        exact List.getElem_mem _
theorem sweepG_next {bec : Int → Pt → Pt} {o : Nat → Or} {cs : List Cbl} {inn : Int} {z : Pt} {L : List Int} {j : Nat} {s0 : List Mod × List Pt} {i : Int} (h : L[j]? = some i) (q : Or) :
    sweepG bec (fun n => if n = j then q else o n) cs inn z (L.take (j + 1)) 0 s0 = sweepG1 bec q cs inn z i (sweepG bec o cs inn z (L.take j) 0 s0) := by
  have hlt : j < L.length := (List.getElem?_eq_some_iff.1 h).1
  have hl : (L.take j).length = j := by rw [List.length_take]; omega
  rw [take_snoc h, sweepG_app, hl]
  simp only [Nat.zero_add, if_true]
  rw [sweepG_congr (o' := o) (L.take j) 0 s0 (fun n _ h2 => by rw [hl] at h2; simp; omega)]
theorem stepRackG_len {bec : Int → Pt → Pt} {o : Nat → Or} {cs : List Cbl} {inn : Int} {z : Pt} {ms : List Mod} : (stepRackG bec o cs inn z ms).1.length = ms.length ∧ (stepRackG bec o cs inn z ms).2.length = ms.length := by
  have h := sweepG_len (bec := bec) (o := o) (cs := cs) (inn := inn) (z := z) (ordL ms cs) 0 (ms, outs0G bec ms)
  exact ⟨h.1, h.2.trans (outsG_len (Nat.le_refl _))⟩
theorem stepRackG_ok {bec : Int → Pt → Pt} {o : Nat → Or} {cs : List Cbl} {inn : Int} {z : Pt} {ms : List Mod} (h : ∀ m ∈ ms, OkS m) : ∀ m ∈ (stepRackG bec o cs inn z ms).1, OkS m :=
  sweepG_ok (ordL ms cs) 0 (ms, outs0G bec ms) (fun i hi => ordL_lt i hi) h
structure AStG where
  ms : List Mod
  cs : List Cbl
  inn : Int
  z : Pt
  fs : List Fa
  i : Int
  last : List Pt
  ml : ms.length ≤ 16
  cl : cs.length ≤ sm
  ok : ∀ m ∈ ms, OkS m
  cr : ∀ c ∈ cs, 0 ≤ c.1 ∧ c.1 < ms.length
  fl : fs.length ≤ sm
  ll : last.length = ms.length
def hsG (ms : List Mod) (cs : List Cbl) (fs : List Fa) (i : Int) (last : List Pt) : List (List B) := [[.t (.own 11 (tM ms)), .t (.own 2 (tI (rowsC cs)))], [.t (.im (.sl 4 (rowsFa fs)))], [.t (.im (.int .i64 i))], [.t (.own 1 (tI (rowsZ last)))]]
def oRkG (ms : List Mod) (cs : List Cbl) (inn : Int) (z : Pt) (fs : List Fa) (i : Int) (last : List Pt) : Outs := .any (Nat → Or) (fun o => { val := .c (.view 0 1 0 ms.length), roots := [.arr 1 (tI (rowsZ (stepRackG (becF fs i last) o cs inn z ms).2))], places := hsG (stepRackG (becF fs i last) o cs inn z ms).1 cs fs i last })
noncomputable def ct_stepRackG : Ct := fam false (fun x : AStG => ([.c (.ptr 0 0 0 0), .c (.im (.int .i64 x.inn)), .c (.im (.cpx .f32 x.z.1 x.z.2)), .c (.fn (.func 45) [.ptr 1 0 0 0, .ptr 2 0 0 0, .ptr 3 0 0 0])], hsG x.ms x.cs x.fs x.i x.last)) (fun x => oRkG x.ms x.cs x.inn x.z x.fs x.i x.last)
theorem run_stepRackG {ms : List Mod} {cs : List Cbl} {fs : List Fa} {i : Int} {last : List Pt} (h1 : ms.length ≤ 16) (h2 : cs.length ≤ sm) (h3 : ∀ m ∈ ms, OkS m) (h4 : ∀ c ∈ cs, 0 ≤ c.1 ∧ c.1 < ms.length) (h5 : fs.length ≤ sm) (h6 : last.length = ms.length) (inn : Int) (u v : Nat) :
    ct_stepRackG.run [.c (.ptr 0 0 0 0), .c (.im (.int .i64 inn)), .c (.im (.cpx .f32 u v)), .c (.fn (.func 45) [.ptr 1 0 0 0, .ptr 2 0 0 0, .ptr 3 0 0 0])] (hsG ms cs fs i last) = some (oRkG ms cs inn (u, v) fs i last) := by
  refine fam_run' (args := fun x : AStG => ([D.c (.ptr 0 0 0 0), .c (.im (.int .i64 x.inn)), .c (.im (.cpx .f32 x.z.1 x.z.2)), .c (.fn (.func 45) [.ptr 1 0 0 0, .ptr 2 0 0 0, .ptr 3 0 0 0])], hsG x.ms x.cs x.fs x.i x.last)) ?_ ⟨ms, cs, inn, (u, v), fs, i, last, h1, h2, h3, h4, h5, h6⟩
  rintro ⟨ms, cs, i, z, fs, j, l, _, _, _, _, _, _⟩ ⟨ms', cs', i', z', fs', j', l', _, _, _, _, _, _⟩ h
  simp only [hsG, Prod.mk.injEq, List.cons.injEq, D.c.injEq, C.im.injEq, I.cpx.injEq, I.int.injEq, B.t.injEq, T.own.injEq, T.im.injEq, I.sl.injEq, true_and, and_true] at h
  obtain ⟨⟨rfl, hz1, hz2⟩, ⟨hm, hc⟩, hfs, rfl, hl⟩ := h
  have e1 := tM_inj hm
  have e2 := tI_inj hc
  simp only [rowsC_eq] at e2
  have e3 := rowsFa_inj hfs
  have e4 := rowsZ_inj (tI_inj hl)
  subst e1 e2 e3 e4
  have : z = z' := Prod.ext hz1 hz2
  subst this
  rfl
theorem okR_rkG {ms : List Mod} {cs : List Cbl} {fs : List Fa} {i : Int} {last : List Pt} {n : Nat} {zs : List Pt} : OkR false { val := .c (.view 0 1 0 n), roots := [.arr 1 (tI (rowsZ zs))], places := hsG ms cs fs i last } := by
  refine ⟨.c _ (.view _ _ _ _ (by simp)), fun r hr => ?_, fun c hc x hx => ?_⟩
  · simp only [List.mem_cons, List.not_mem_nil, or_false] at hr
    subst hr
    exact sc_false _ _
  · simp only [hsG, List.mem_cons, List.not_mem_nil, or_false] at hc
    rcases hc with rfl | rfl | rfl | rfl <;> simp only [List.mem_cons, List.not_mem_nil, or_false] at hx
    · rcases hx with rfl | rfl
      · exact of_eq_true (MvB_M ms)
      · exact of_eq_true (MvB_C cs)
    · subst hx; exact .t _ (.im _ (.inl rfl))
    · subst hx; exact .t _ (.im _ (.inl rfl))
    · subst hx; exact .t _ (mv_own (sc_rowsZ _))
end Go.SX
set_option linter.unusedVariables false
set_option linter.unusedSimpArgs false
namespace Go.SX
open Go Go.Proofs
set_option maxRecDepth 100000 in
set_option maxHeartbeats 8000000 in
theorem law_stepRackG : Law Tryz.prog 47 ct_stepRackG := by
  refine fam_lawU (Env_cons law_order (Env_cons law_add (Env_cons law_feeds (Env_cons law_step (Env_cons law_bec Env_nil))))) hmixA Tryz.func47 rfl rfl (fun _ => [.unf 0 0 0, .unf 0 0 1]) (fun ⟨ms, cs, inn, ⟨u, v⟩, fs, ti, last, h1, h2, h3, h4, h5, h6⟩ => ⟨okA (fun o => okR_rkG), by simp [Tryz.f47], ?_⟩)
  have hsm : sm = 16777216 := rfl
  have h1' : ms.length ≤ sm := by omega
  simp only [oRkG, hsG]
  have hk1 : (0 ≤ (ms.length : Int)) = True := eq_true (by omega)
  have hk2 : ((ms.length : Int) ≤ 9223372036854775807) = True := eq_true (by omega)
  have hk3 : (((8 : Nat) : Int) * (ms.length : Int) ≤ 281474976710656) = True := eq_true (by omega)
  try simp -dsimp (maxSteps := 1000000) only [go_sem, List.forall_mem_nil, ↓reduceIte, Nat.reduceEqDiff, Nat.reduceLT, Nat.reduceLeDiff, Nat.reduceAdd, Nat.reduceMul, reduceCtorEq, Tryz.f47, tM_len, tI_len, rowsC_len, rep_Z, hk1, hk2, hk3, Int.toNat_natCast, List.length_replicate, rowsZ_len]
  refine loop_i (ι := { k : Nat // k ≤ ms.length }) (fun k => ⟨[(0, some (.c (.ptr 0 0 0 0))), (1, some (.c (.im (.int .i64 inn)))), (2, some (.c (.im (.cpx .f32 u v)))), (3, some (.c (.fn (.func 45) [.ptr 1 0 0 0, .ptr 2 0 0 0, .ptr 3 0 0 0]))), (9, some (.c (.view 6 1 0 ms.length))), (29, some (.c (.view 4 11 0 ms.length))), (30, some (.c (.im (.int .i64 (ms.length : Int))))), (31, some (.c (.im (.int .i64 (k.1 : Int)))))],
    [(0, some (.box [.t (.lent 4 11 ms.length), .t (.lent 5 2 cs.length)])), (1, some (.box [.t (.im (.sl 4 (rowsFa fs)))])), (2, some (.box [.t (.im (.int .i64 ti))])), (3, some (.box [.t (.own 1 (tI (rowsZ last)))])), (4, some (.arr 11 (tM ms))), (5, some (.arr 2 (tI (rowsC cs)))), (6, some (.arr 1 (tI (rowsZ (outsG (becF fs ti last) ms k.1)))))], 7⟩) (fun k => ms.length - k.1) ⟨0, by simp⟩ ⟨[], [0, 1, 2, 3, 4, 5, 6], by ((simp only [go_sem, eq_self, MvRb, MvRn, MvRt, List.nodup_cons, List.nodup_nil, ↓reduceIte, Nat.reduceEqDiff, Nat.reduceLT, Nat.reduceLeDiff, reduceCtorEq, List.forall_mem_nil, Nat.zero_le, false_implies, List.mem_singleton, outsG_0, MvB_Z, MvRt, MvR_M]) <;> (try (simp -dsimp only [go_sem, eq_self, MvRb, MvRn, MvRt, List.nodup_cons, List.nodup_nil, ↓reduceIte, Nat.reduceEqDiff, Nat.reduceLT, Nat.reduceLeDiff, reduceCtorEq, List.forall_mem_nil, Nat.zero_le, false_implies, List.mem_singleton, outsG_0, MvB_Z, MvRt, MvR_M]))) <;> simp [lk, MvB_Z, MvB_im, outsG_0]⟩ (fun ⟨k, hk⟩ => ?_)
  by_cases hlt : k < ms.length
  · obtain ⟨m, hp⟩ : ∃ p, ms[k]? = some p := ⟨_, List.getElem?_eq_getElem hlt⟩
    obtain ⟨hok, hring, _⟩ := h3 m (List.mem_of_getElem? hp)
    have hgm := tM_at hp
    have hgs : ∀ X, ((tM ms).set k X)[k]? = some X := fun X => List.getElem?_set_self (by rw [tM_len]; exact hlt)
    have hself := set_self hgm
    have hmv : MvR false (.arr 11 (tM ms)) = True := eq_true (mvR_tM _)
    simp only [modT] at hgm hself
    have hI : ((k : Int) < (ms.length : Int)) = True := by simp; omega
    have h0 : (0 ≤ (k : Int)) = True := by simp
    have hwr := lt_sm h1' hlt
    by_cases hk4 : m.kind = 4
    · obtain ⟨hr0, hr1⟩ := hring hk4
      obtain ⟨n, hn⟩ := Int.eq_ofNat_of_zero_le hr0
      have hnl : n < m.store.length := by omega
      obtain ⟨p, hpp⟩ : ∃ p, m.store[n]? = some p := ⟨_, List.getElem?_eq_getElem hnl⟩
      have hrow := tIZ_at hpp
      have hI2 : ((n : Int) < (m.store.length : Int)) = True := by simp; omega
      have h02 : (0 ≤ (n : Int)) = True := by simp
      have hof : outG (becF fs ti last) k m = (((becF fs ti last) (k : Int) (p.1, p.2)).1, ((becF fs ti last) (k : Int) (p.1, p.2)).2) := by simp [outG, hk4, hn, List.getD, hpp]
      have hbec := fun a b : Nat => run_bec (fs := fs) (i := ti) (n := (k : Int)) (last := last) (u := a) (v := b) h5 (by omega) (by omega)
      have hset := outsG_set (bec := (becF fs ti last)) hp
      have hro := tIZ_at (outsG_at (bec := (becF fs ti last)) hlt)
      simp only at hro
      rw [hof] at hset
      rw [hk4, hn] at hgm hself
      try simp -dsimp (maxSteps := 1000000) only [go_sem, List.forall_mem_nil, ↓reduceIte, Nat.reduceEqDiff, Nat.reduceLT, Nat.reduceLeDiff, Nat.reduceAdd, Nat.reduceMul, reduceCtorEq, Tryz.f47, tM_len, tI_len, rowsC_len, rowsZ_len, rowsN_len, outsG_len hk, hI, h0, hI2, h02, hgm, hgs, hrow, hro, hbec, hsF, MvB_Z, tI_setZ, hset, hwr, List.set_set, Int.toNat_natCast]
      refine ⟨⟨k + 1, by omega⟩, by simp only []; omega, [.fold 4 k 4, .fold 4 k 7, .fold 4 k 8], [0, 1, 2, 3, 4, 5, 6], ?_⟩
      (simp only [go_sem, eq_self, MvRb, MvRn, MvRt, List.nodup_cons, List.nodup_nil, ↓reduceIte, Nat.reduceEqDiff, Nat.reduceLT, Nat.reduceLeDiff, reduceCtorEq, List.forall_mem_nil, Nat.zero_le, false_implies, List.mem_singleton, Option.map_some, forall_eq_or_imp, forall_eq, tI_len, rowsZ_len, rowsN_len, hgs, List.set_set, hself, MvB_Z, MvRt, hmv])
      all_goals simp [lk, MvB_Z, MvB_im]
    · have hset := outsG_no (bec := (becF fs ti last)) hp hk4
      have hk4' := eq_false hk4
      clear hk4
      try simp -dsimp (maxSteps := 1000000) only [go_sem, List.forall_mem_nil, ↓reduceIte, Nat.reduceEqDiff, Nat.reduceLT, Nat.reduceLeDiff, Nat.reduceAdd, Nat.reduceMul, reduceCtorEq, Tryz.f47, tM_len, tI_len, rowsC_len, rowsZ_len, rowsN_len, outsG_len hk, hI, h0, hgm, hgs, hk4', hwr, List.set_set, Int.toNat_natCast]
      refine ⟨⟨k + 1, by omega⟩, by simp only []; omega, [.fold 4 k 4, .fold 4 k 7, .fold 4 k 8], [0, 1, 2, 3, 4, 5, 6], ?_⟩
      (simp only [go_sem, eq_self, MvRb, MvRn, MvRt, List.nodup_cons, List.nodup_nil, ↓reduceIte, Nat.reduceEqDiff, Nat.reduceLT, Nat.reduceLeDiff, reduceCtorEq, List.forall_mem_nil, Nat.zero_le, false_implies, List.mem_singleton, Option.map_some, forall_eq_or_imp, forall_eq, tI_len, rowsZ_len, rowsN_len, hgs, List.set_set, hself, hset, MvB_Z, MvRt, hmv])
      all_goals simp [lk, MvB_Z, MvB_im]
  have hI : ((k : Int) < (ms.length : Int)) = False := eq_false (by omega)
  have hkl : k = ms.length := by omega
  subst hkl
  simp only [show outsG (becF fs ti last) ms ms.length = outs0G (becF fs ti last) ms from rfl]
  have hmvM := MvB_M ms
  have hmvC := MvB_C cs
  cases ho : orderF ms cs with
  | none =>
    have hro := run_order h1 h2 h4
    rw [ho] at hro
    have hL : ordL ms cs = [] := by simp [ordL, ho]
    have hS : ∀ o, stepRackG (becF fs ti last) o cs inn (u, v) ms = (ms, outs0G (becF fs ti last) ms) := fun o => by simp only [stepRackG, hL, sweepG]
    try simp -dsimp (maxSteps := 1000000) only [go_sem, List.forall_mem_nil, ↓reduceIte, Nat.reduceEqDiff, Nat.reduceLT, Nat.reduceLeDiff, Nat.reduceAdd, Nat.reduceMul, reduceCtorEq, Tryz.f47, hI, sc_order, hro, oOrder, tM_len, tI_len, rowsC_len, tI_toI, tM_toI, take_M, take_C, rowsM_len]
    refine loop_i (ι := Unit) (fun _ => ⟨[(0, some (.c (.ptr 0 0 0 0))), (1, some (.c (.im (.int .i64 inn)))), (2, some (.c (.im (.cpx .f32 u v)))), (3, some (.c (.fn (.func 45) [.ptr 1 0 0 0, .ptr 2 0 0 0, .ptr 3 0 0 0]))), (9, some (.c (.view 6 1 0 ms.length))), (61, some (.c .nil)), (62, some (.c (.im (.int .i64 0)))), (63, some (.c (.im (.int .i64 0))))],
      [(0, some (.box [.t (.lent 4 11 ms.length), .t (.lent 5 2 cs.length)])), (1, some (.box [.t (.im (.sl 4 (rowsFa fs)))])), (2, some (.box [.t (.im (.int .i64 ti))])), (3, some (.box [.t (.own 1 (tI (rowsZ last)))])), (4, some (.arr 11 (tM ms))), (5, some (.arr 2 (tI (rowsC cs)))), (6, some (.arr 1 (tI (rowsZ (outs0G (becF fs ti last) ms)))))], 7⟩) (fun _ => 0) () ⟨[], [0, 1, 2, 3, 4, 5, 6], by (simp only [go_sem, eq_self, MvRb, MvRn, MvRt, List.nodup_cons, List.nodup_nil, ↓reduceIte, Nat.reduceEqDiff, Nat.reduceLT, Nat.reduceLeDiff, reduceCtorEq, List.forall_mem_nil, Nat.zero_le, false_implies, List.mem_singleton, MvB_Z, MvRt, MvR_M]) <;> simp [lk, MvB_Z, MvB_im]⟩ (fun _ => ?_)
    try simp -dsimp (maxSteps := 1000000) only [go_sem, List.forall_mem_nil, ↓reduceIte, Nat.reduceEqDiff, Nat.reduceLT, Nat.reduceLeDiff, Nat.reduceAdd, Nat.reduceMul, reduceCtorEq, Tryz.f47, Int.lt_irrefl]
    refine finF_i [.fold 0 0 0, .fold 0 0 1] ?_
    simp -dsimp (maxSteps := 1000000) only [go_sem, List.forall_mem_nil, ↓reduceIte, Nat.reduceEqDiff, Nat.reduceLT, Nat.reduceLeDiff, Nat.reduceAdd, Nat.reduceMul, reduceCtorEq, tI_len, tM_len, rowsC_len, hS]
    refine ⟨[6], ?_, ?_, ?_, rfl⟩ <;> simp [rtOk]
  | some L =>
    have hro := run_order h1 h2 h4
    rw [ho] at hro
    try simp -dsimp (maxSteps := 1000000) only [go_sem, List.forall_mem_nil, ↓reduceIte, Nat.reduceEqDiff, Nat.reduceLT, Nat.reduceLeDiff, Nat.reduceAdd, Nat.reduceMul, reduceCtorEq, Tryz.f47, hI, sc_order, hro, oOrder, tM_len, tI_len, rowsC_len, tI_toI, tM_toI, take_M, take_C, rowsM_len]
    have hL : ordL ms cs = L := by simp [ordL, ho]
    have hLl : ∀ i ∈ L, 0 ≤ i ∧ i < ms.length := fun i hi => ordL_lt i (by rw [hL]; exact hi)
    have hLs : L.length ≤ ms.length := by rw [← hL]; exact ordL_len ms cs
    refine loop_i (ι := { x : Nat × (Nat → Or) // x.1 ≤ L.length }) (fun x => ⟨[(0, some (.c (.ptr 0 0 0 0))), (1, some (.c (.im (.int .i64 inn)))), (2, some (.c (.im (.cpx .f32 u v)))), (3, some (.c (.fn (.func 45) [.ptr 1 0 0 0, .ptr 2 0 0 0, .ptr 3 0 0 0]))), (9, some (.c (.view 6 1 0 ms.length))), (61, some (.c (.view 7 1 0 L.length))), (62, some (.c (.im (.int .i64 (L.length : Int))))), (63, some (.c (.im (.int .i64 (x.1.1 : Int)))))],
      [(0, some (.box [.t (.lent 4 11 ms.length), .t (.lent 5 2 cs.length)])), (1, some (.box [.t (.im (.sl 4 (rowsFa fs)))])), (2, some (.box [.t (.im (.int .i64 ti))])), (3, some (.box [.t (.own 1 (tI (rowsZ last)))])), (4, some (.arr 11 (tM (sweepG (becF fs ti last) x.1.2 cs inn (u, v) (L.take x.1.1) 0 (ms, outs0G (becF fs ti last) ms)).1))), (5, some (.arr 2 (tI (rowsC cs)))), (6, some (.arr 1 (tI (rowsZ (sweepG (becF fs ti last) x.1.2 cs inn (u, v) (L.take x.1.1) 0 (ms, outs0G (becF fs ti last) ms)).2)))), (7, some (.arr 1 (tI (rowsN L))))], 8⟩) (fun x => L.length - x.1.1) ⟨(0, fun _ => ((0, 0), (0, 0))), by simp⟩ ⟨[], [0, 1, 2, 3, 4, 5, 6, 7], by ((simp only [go_sem, eq_self, MvRb, MvRn, MvRt, List.nodup_cons, List.nodup_nil, ↓reduceIte, Nat.reduceEqDiff, Nat.reduceLT, Nat.reduceLeDiff, reduceCtorEq, List.forall_mem_nil, Nat.zero_le, false_implies, List.mem_singleton, MvB_Z, MvRt, MvR_M, List.take_zero, sweepG]) <;> (try (simp -dsimp only [go_sem, eq_self, MvRb, MvRn, MvRt, List.nodup_cons, List.nodup_nil, ↓reduceIte, Nat.reduceEqDiff, Nat.reduceLT, Nat.reduceLeDiff, reduceCtorEq, List.forall_mem_nil, Nat.zero_le, false_implies, List.mem_singleton, MvB_Z, MvRt, MvR_M, List.take_zero, sweepG]))) <;> simp [lk, MvB_Z, MvB_im]⟩ (fun ⟨⟨j, o⟩, hj⟩ => ?_)
    have hSl := sweepG_len (bec := (becF fs ti last)) (o := o) (cs := cs) (inn := inn) (z := (u, v)) (L.take j) 0 (ms, outs0G (becF fs ti last) ms)
    have hSo := sweepG_ok (bec := (becF fs ti last)) (o := o) (cs := cs) (inn := inn) (z := (u, v)) (L.take j) 0 (ms, outs0G (becF fs ti last) ms) (fun i hi => hLl i (List.mem_of_mem_take hi)) h3
    have hnx := fun (i : Int) (hi : L[j]? = some i) => sweepG_next (bec := (becF fs ti last)) (o := o) (cs := cs) (inn := inn) (z := (u, v)) (s0 := (ms, outs0G (becF fs ti last) ms)) hi
    have hfin : j = L.length → stepRackG (becF fs ti last) o cs inn (u, v) ms = sweepG (becF fs ti last) o cs inn (u, v) (L.take j) 0 (ms, outs0G (becF fs ti last) ms) := fun e => by subst e; simp only [stepRackG, hL, List.take_length]
    simp only
    generalize hs : sweepG (becF fs ti last) o cs inn (u, v) (L.take j) 0 (ms, outs0G (becF fs ti last) ms) = s at *
    obtain ⟨a, b⟩ := s
    simp only at hSl hSo hnx ⊢
    have hal : a.length = ms.length := hSl.1
    have hbl : b.length = ms.length := by rw [hSl.2]; simp [outs0G, outsG]
    have htk : (tM a).take ms.length = tM a := by rw [← hal]; exact take_M a
    by_cases hlt : j < L.length
    rotate_left
    · have hI : ((j : Int) < (L.length : Int)) = False := eq_false (by omega)
      have hf := hfin (by omega)
      try simp -dsimp (maxSteps := 1000000) only [go_sem, List.forall_mem_nil, ↓reduceIte, Nat.reduceEqDiff, Nat.reduceLT, Nat.reduceLeDiff, Nat.reduceAdd, Nat.reduceMul, reduceCtorEq, Tryz.f47, hI]
      refine finF_i [.fold 0 0 0, .fold 0 0 1] ?_
      simp -dsimp (maxSteps := 1000000) only [go_sem, List.forall_mem_nil, ↓reduceIte, Nat.reduceEqDiff, Nat.reduceLT, Nat.reduceLeDiff, Nat.reduceAdd, Nat.reduceMul, reduceCtorEq, tI_len, tM_len, rowsC_len, hal]
      refine ⟨o, ?_⟩
      rw [hf]
      refine ⟨rfl, [6], ?_, ?_, ?_, rfl⟩ <;> simp [rtOk]
    obtain ⟨i, hi⟩ : ∃ i, L[j]? = some i := ⟨_, List.getElem?_eq_getElem hlt⟩
    obtain ⟨hi0, hi1⟩ := hLl i (List.mem_of_getElem? hi)
    obtain ⟨n, rfl⟩ := Int.eq_ofNat_of_zero_le hi0
    have hnl : n < ms.length := by omega
    obtain ⟨m, hm⟩ : ∃ m, a[n]? = some m := ⟨_, List.getElem?_eq_getElem (by omega)⟩
    obtain ⟨p0, hp0⟩ : ∃ p, b[n]? = some p := ⟨_, List.getElem?_eq_getElem (by omega)⟩
    have hrow := tIN_at hi
    have hI : ((j : Int) < (L.length : Int)) = True := by simp; omega
    have h0 : (0 ≤ (j : Int)) = True := by simp
    have hIn : ((n : Int) < (ms.length : Int)) = True := by simp; omega
    have h0n : (0 ≤ (n : Int)) = True := by simp
    have hwr := lt_sm (by omega : L.length ≤ sm) hlt
    have hrf := run_feeds (ms := a) h2 n
    have hFl : (feedsF cs n).length ≤ sm := Nat.le_trans (feeds_le _ _) h2
    have hFm := feeds_mem (i := (n : Int)) h4
    have hsK := fun (k : Nat) (f : Int) (hf : (feedsF cs n)[k]? = some f) => inSumK_s (cs := cs) (i := n) (inn := inn) (z := (u, v)) (outs := b) hf
    have hsN := inSumK_n (cs := cs) (i := (n : Int)) (inn := inn) (z := (u, v)) (outs := b)
    have hgm := tM_at hm
    simp only [modT] at hgm
    have hgs : ∀ m' : Mod, (tM (a.set n m'))[n]? = some (modT m') := fun m' => tM_at (List.getElem?_set_self (by omega))
    have htS : ∀ m' : Mod, (tM a).set n (modT m') = tM (a.set n m') := fun m' => tM_set a n m'
    simp only [modT] at hgs htS
    have hrs : ∀ w1 w2 : Nat, ct_step.run [.c (.ptr 0 0 0 0), .c (.im (.cpx .f32 w1 w2))] [modB m] = some (oStep m (w1, w2)) := fun w1 w2 => run_step (hSo m (List.mem_of_getElem? hm)) w1 w2
    simp only [modB] at hrs
    have hro := tIZ_at hp0
    have hkS : ∀ (o1 : Or) (w : Pt), (stepF o1 m w).1.kind = m.kind := fun o1 w => stepF_kind o1 m w
    by_cases hin : (n : Int) = inn
    · have hin' := eq_true hin
      have hz0 : inSumK cs n inn (u, v) b 0 = addPt (0, 0) (u, v) := by simp only [inSumK, List.take_zero, List.foldl_nil, hin', if_true]
      clear hin
      try simp -dsimp (maxSteps := 1000000) only [go_sem, List.forall_mem_nil, ↓reduceIte, Nat.reduceEqDiff, Nat.reduceLT, Nat.reduceLeDiff, Nat.reduceAdd, Nat.reduceMul, reduceCtorEq, Tryz.f47, hI, h0, hrow, hin', hrf, run_add, sc_feeds, tI_toI, tM_toI, htk, take_C, rowsM_len, rowsN_len, tM_len, tI_len, rowsC_len, hal, rNew, Int.toNat_natCast]
      refine loop_i (ι := { k : Nat // k ≤ (feedsF cs n).length }) (fun k => ⟨[(0, some (.c (.ptr 0 0 0 0))), (1, some (.c (.im (.int .i64 inn)))), (2, some (.c (.im (.cpx .f32 u v)))), (3, some (.c (.fn (.func 45) [.ptr 1 0 0 0, .ptr 2 0 0 0, .ptr 3 0 0 0]))), (9, some (.c (.view 6 1 0 ms.length))), (15, some (.c (.im (.int .i64 (n : Int))))), (16, some (.c (.im (.cpx .f32 (inSumK cs n inn (u, v) b k.1).1 (inSumK cs n inn (u, v) b k.1).2)))), (61, some (.c (.view 7 1 0 L.length))), (62, some (.c (.im (.int .i64 (L.length : Int))))), (63, some (.c (.im (.int .i64 (j : Int))))), (77, some (.c (.view 8 1 0 (feedsF cs n).length))), (78, some (.c (.im (.int .i64 ((feedsF cs n).length : Int))))), (79, some (.c (.im (.int .i64 (k.1 : Int)))))],
        [(0, some (.box [.t (.lent 4 11 ms.length), .t (.lent 5 2 cs.length)])), (1, some (.box [.t (.im (.sl 4 (rowsFa fs)))])), (2, some (.box [.t (.im (.int .i64 ti))])), (3, some (.box [.t (.own 1 (tI (rowsZ last)))])), (4, some (.arr 11 (tM a))), (5, some (.arr 2 (tI (rowsC cs)))), (6, some (.arr 1 (tI (rowsZ b)))), (7, some (.arr 1 (tI (rowsN L)))), (8, some (.arr 1 (tI (rowsN (feedsF cs n)))))], 9⟩) (fun k => (feedsF cs n).length - k.1) ⟨0, by simp⟩ ⟨[], [0, 1, 2, 3, 4, 5, 6, 7, 8], by ((simp only [go_sem, eq_self, MvRb, MvRn, MvRt, List.nodup_cons, List.nodup_nil, ↓reduceIte, Nat.reduceEqDiff, Nat.reduceLT, Nat.reduceLeDiff, reduceCtorEq, List.forall_mem_nil, Nat.zero_le, false_implies, List.mem_singleton, MvB_Z, MvRt, MvR_M, hz0]) <;> (try (simp -dsimp only [go_sem, eq_self, MvRb, MvRn, MvRt, List.nodup_cons, List.nodup_nil, ↓reduceIte, Nat.reduceEqDiff, Nat.reduceLT, Nat.reduceLeDiff, reduceCtorEq, List.forall_mem_nil, Nat.zero_le, false_implies, List.mem_singleton, MvB_Z, MvRt, MvR_M, hz0]))) <;> simp [lk, MvB_Z, MvB_im]⟩ (fun ⟨k, hk⟩ => ?_)
      by_cases hkl : k < (feedsF cs n).length
      · obtain ⟨f, hf⟩ : ∃ f, (feedsF cs n)[k]? = some f := ⟨_, List.getElem?_eq_getElem hkl⟩
        obtain ⟨hf0, hf1⟩ := hFm f (List.mem_of_getElem? hf)
        obtain ⟨q, rfl⟩ := Int.eq_ofNat_of_zero_le hf0
        have hql : q < ms.length := by omega
        obtain ⟨p, hp⟩ : ∃ p, b[q]? = some p := ⟨_, List.getElem?_eq_getElem (by omega)⟩
        have hrow3 := tIN_at hf
        have hrow4 := tIZ_at hp
        have hI3 : ((k : Int) < ((feedsF cs n).length : Int)) = True := by simp; omega
        have h03 : (0 ≤ (k : Int)) = True := by simp
        have hIq : ((q : Int) < (ms.length : Int)) = True := by simp; omega
        have h0q : (0 ≤ (q : Int)) = True := by simp
        have hwr3 := lt_sm hFl hkl
        have hs1 := hsK k q hf
        rw [show b.getD (q : Int).toNat (0, 0) = p by simp [List.getD, hp]] at hs1
        try simp -dsimp (maxSteps := 1000000) only [go_sem, List.forall_mem_nil, ↓reduceIte, Nat.reduceEqDiff, Nat.reduceLT, Nat.reduceLeDiff, Nat.reduceAdd, Nat.reduceMul, reduceCtorEq, Tryz.f47, hI3, h03, hIq, h0q, hrow3, hrow4, hwr3, run_add, Int.toNat_natCast]
        exact ⟨⟨k + 1, by omega⟩, by simp only []; omega, [], [0, 1, 2, 3, 4, 5, 6, 7, 8], by (simp only [go_sem, eq_self, MvRb, MvRn, MvRt, List.nodup_cons, List.nodup_nil, ↓reduceIte, Nat.reduceEqDiff, Nat.reduceLT, Nat.reduceLeDiff, reduceCtorEq, List.forall_mem_nil, Nat.zero_le, false_implies, List.mem_singleton, MvB_Z, MvRt, MvR_M, hs1]) <;> simp [lk, MvB_Z, MvB_im]⟩
      have hI3 : ((k : Int) < ((feedsF cs n).length : Int)) = False := eq_false (by omega)
      have hkl2 : k = (feedsF cs n).length := by omega
      clear hkl
      subst hkl2
      rw [hsN]
      have hs1 := hnx n hi
      simp only [sweepG1, Int.toNat_natCast, show a.getD n dMod = m by simp [List.getD, hm]] at hs1
      generalize inSum cs n inn (u, v) b = zz at *
      obtain ⟨z1, z2⟩ := zz
      by_cases hk4 : m.kind = 4
      · have hk4' : ∀ o1 : Or, ((stepF o1 m (z1, z2)).1.kind = 4) = True := fun o1 => eq_true (by rw [hkS]; exact hk4)
        simp only [hk4, if_true] at hs1
        try simp -dsimp (maxSteps := 1000000) only [go_sem, List.forall_mem_nil, ↓reduceIte, Nat.reduceEqDiff, Nat.reduceLT, Nat.reduceLeDiff, Nat.reduceAdd, Nat.reduceMul, reduceCtorEq, Tryz.f47, hI3, hIn, h0n, hgm, hrs, oStep, ne_or, modB, hgs, htS, hk4', hwr, hal, MvB_Z, MvB_N, Int.toNat_natCast]
        intro o1
        refine ⟨⟨(j + 1, fun q => if q = j then o1 else o q), by simp only []; omega⟩, by simp only []; omega, [], [0, 1, 2, 3, 4, 5, 6, 7], ?_⟩
        simp only [hs1 o1]
        (simp only [go_sem, eq_self, MvRb, MvRn, MvRt, List.nodup_cons, List.nodup_nil, ↓reduceIte, Nat.reduceEqDiff, Nat.reduceLT, Nat.reduceLeDiff, reduceCtorEq, List.forall_mem_nil, Nat.zero_le, false_implies, List.mem_singleton, MvB_Z, MvRt, MvR_M])
        all_goals simp [lk, MvB_Z, MvB_im]
      · have hbec := fun a b : Nat => run_bec (fs := fs) (i := ti) (n := (n : Int)) (last := last) (u := a) (v := b) h5 (by omega) (by omega)
        have hk4' : ∀ o1 : Or, ((stepF o1 m (z1, z2)).1.kind = 4) = False := fun o1 => eq_false (by rw [hkS]; exact hk4)
        simp only [hk4, if_false] at hs1
        try simp -dsimp (maxSteps := 1000000) only [go_sem, List.forall_mem_nil, ↓reduceIte, Nat.reduceEqDiff, Nat.reduceLT, Nat.reduceLeDiff, Nat.reduceAdd, Nat.reduceMul, reduceCtorEq, Tryz.f47, hI3, hIn, h0n, hgm, hrs, oStep, ne_or, modB, hgs, htS, hk4', hro, hwr, hal, MvB_Z, MvB_N, hbec, hsF, MvB_Z, tI_setZ, Int.toNat_natCast]
        intro o1
        refine ⟨⟨(j + 1, fun q => if q = j then o1 else o q), by simp only []; omega⟩, by simp only []; omega, [], [0, 1, 2, 3, 4, 5, 6, 7], ?_⟩
        simp only [hs1 o1]
        (simp only [go_sem, eq_self, MvRb, MvRn, MvRt, List.nodup_cons, List.nodup_nil, ↓reduceIte, Nat.reduceEqDiff, Nat.reduceLT, Nat.reduceLeDiff, reduceCtorEq, List.forall_mem_nil, Nat.zero_le, false_implies, List.mem_singleton, MvB_Z, MvRt, MvR_M])
        all_goals simp [lk, MvB_Z, MvB_im]
    · have hin' := eq_false hin
      have hz0 : inSumK cs n inn (u, v) b 0 = (0, 0) := by simp only [inSumK, List.take_zero, List.foldl_nil, hin', if_false]
      clear hin
      try simp -dsimp (maxSteps := 1000000) only [go_sem, List.forall_mem_nil, ↓reduceIte, Nat.reduceEqDiff, Nat.reduceLT, Nat.reduceLeDiff, Nat.reduceAdd, Nat.reduceMul, reduceCtorEq, Tryz.f47, hI, h0, hrow, hin', hrf, run_add, sc_feeds, tI_toI, tM_toI, htk, take_C, rowsM_len, rowsN_len, tM_len, tI_len, rowsC_len, hal, rNew, Int.toNat_natCast]
      refine loop_i (ι := { k : Nat // k ≤ (feedsF cs n).length }) (fun k => ⟨[(0, some (.c (.ptr 0 0 0 0))), (1, some (.c (.im (.int .i64 inn)))), (2, some (.c (.im (.cpx .f32 u v)))), (3, some (.c (.fn (.func 45) [.ptr 1 0 0 0, .ptr 2 0 0 0, .ptr 3 0 0 0]))), (9, some (.c (.view 6 1 0 ms.length))), (15, some (.c (.im (.int .i64 (n : Int))))), (16, some (.c (.im (.cpx .f32 (inSumK cs n inn (u, v) b k.1).1 (inSumK cs n inn (u, v) b k.1).2)))), (61, some (.c (.view 7 1 0 L.length))), (62, some (.c (.im (.int .i64 (L.length : Int))))), (63, some (.c (.im (.int .i64 (j : Int))))), (77, some (.c (.view 8 1 0 (feedsF cs n).length))), (78, some (.c (.im (.int .i64 ((feedsF cs n).length : Int))))), (79, some (.c (.im (.int .i64 (k.1 : Int)))))],
        [(0, some (.box [.t (.lent 4 11 ms.length), .t (.lent 5 2 cs.length)])), (1, some (.box [.t (.im (.sl 4 (rowsFa fs)))])), (2, some (.box [.t (.im (.int .i64 ti))])), (3, some (.box [.t (.own 1 (tI (rowsZ last)))])), (4, some (.arr 11 (tM a))), (5, some (.arr 2 (tI (rowsC cs)))), (6, some (.arr 1 (tI (rowsZ b)))), (7, some (.arr 1 (tI (rowsN L)))), (8, some (.arr 1 (tI (rowsN (feedsF cs n)))))], 9⟩) (fun k => (feedsF cs n).length - k.1) ⟨0, by simp⟩ ⟨[], [0, 1, 2, 3, 4, 5, 6, 7, 8], by ((simp only [go_sem, eq_self, MvRb, MvRn, MvRt, List.nodup_cons, List.nodup_nil, ↓reduceIte, Nat.reduceEqDiff, Nat.reduceLT, Nat.reduceLeDiff, reduceCtorEq, List.forall_mem_nil, Nat.zero_le, false_implies, List.mem_singleton, MvB_Z, MvRt, MvR_M, hz0]) <;> (try (simp -dsimp only [go_sem, eq_self, MvRb, MvRn, MvRt, List.nodup_cons, List.nodup_nil, ↓reduceIte, Nat.reduceEqDiff, Nat.reduceLT, Nat.reduceLeDiff, reduceCtorEq, List.forall_mem_nil, Nat.zero_le, false_implies, List.mem_singleton, MvB_Z, MvRt, MvR_M, hz0]))) <;> simp [lk, MvB_Z, MvB_im]⟩ (fun ⟨k, hk⟩ => ?_)
      by_cases hkl : k < (feedsF cs n).length
      · obtain ⟨f, hf⟩ : ∃ f, (feedsF cs n)[k]? = some f := ⟨_, List.getElem?_eq_getElem hkl⟩
        obtain ⟨hf0, hf1⟩ := hFm f (List.mem_of_getElem? hf)
        obtain ⟨q, rfl⟩ := Int.eq_ofNat_of_zero_le hf0
        have hql : q < ms.length := by omega
        obtain ⟨p, hp⟩ : ∃ p, b[q]? = some p := ⟨_, List.getElem?_eq_getElem (by omega)⟩
        have hrow3 := tIN_at hf
        have hrow4 := tIZ_at hp
        have hI3 : ((k : Int) < ((feedsF cs n).length : Int)) = True := by simp; omega
        have h03 : (0 ≤ (k : Int)) = True := by simp
        have hIq : ((q : Int) < (ms.length : Int)) = True := by simp; omega
        have h0q : (0 ≤ (q : Int)) = True := by simp
        have hwr3 := lt_sm hFl hkl
        have hs1 := hsK k q hf
        rw [show b.getD (q : Int).toNat (0, 0) = p by simp [List.getD, hp]] at hs1
        try simp -dsimp (maxSteps := 1000000) only [go_sem, List.forall_mem_nil, ↓reduceIte, Nat.reduceEqDiff, Nat.reduceLT, Nat.reduceLeDiff, Nat.reduceAdd, Nat.reduceMul, reduceCtorEq, Tryz.f47, hI3, h03, hIq, h0q, hrow3, hrow4, hwr3, run_add, Int.toNat_natCast]
        exact ⟨⟨k + 1, by omega⟩, by simp only []; omega, [], [0, 1, 2, 3, 4, 5, 6, 7, 8], by (simp only [go_sem, eq_self, MvRb, MvRn, MvRt, List.nodup_cons, List.nodup_nil, ↓reduceIte, Nat.reduceEqDiff, Nat.reduceLT, Nat.reduceLeDiff, reduceCtorEq, List.forall_mem_nil, Nat.zero_le, false_implies, List.mem_singleton, MvB_Z, MvRt, MvR_M, hs1]) <;> simp [lk, MvB_Z, MvB_im]⟩
      have hI3 : ((k : Int) < ((feedsF cs n).length : Int)) = False := eq_false (by omega)
      have hkl2 : k = (feedsF cs n).length := by omega
      clear hkl
      subst hkl2
      rw [hsN]
      have hs1 := hnx n hi
      simp only [sweepG1, Int.toNat_natCast, show a.getD n dMod = m by simp [List.getD, hm]] at hs1
      generalize inSum cs n inn (u, v) b = zz at *
      obtain ⟨z1, z2⟩ := zz
      by_cases hk4 : m.kind = 4
      · have hk4' : ∀ o1 : Or, ((stepF o1 m (z1, z2)).1.kind = 4) = True := fun o1 => eq_true (by rw [hkS]; exact hk4)
        simp only [hk4, if_true] at hs1
        try simp -dsimp (maxSteps := 1000000) only [go_sem, List.forall_mem_nil, ↓reduceIte, Nat.reduceEqDiff, Nat.reduceLT, Nat.reduceLeDiff, Nat.reduceAdd, Nat.reduceMul, reduceCtorEq, Tryz.f47, hI3, hIn, h0n, hgm, hrs, oStep, ne_or, modB, hgs, htS, hk4', hwr, hal, MvB_Z, MvB_N, Int.toNat_natCast]
        intro o1
        refine ⟨⟨(j + 1, fun q => if q = j then o1 else o q), by simp only []; omega⟩, by simp only []; omega, [], [0, 1, 2, 3, 4, 5, 6, 7], ?_⟩
        simp only [hs1 o1]
        (simp only [go_sem, eq_self, MvRb, MvRn, MvRt, List.nodup_cons, List.nodup_nil, ↓reduceIte, Nat.reduceEqDiff, Nat.reduceLT, Nat.reduceLeDiff, reduceCtorEq, List.forall_mem_nil, Nat.zero_le, false_implies, List.mem_singleton, MvB_Z, MvRt, MvR_M])
        all_goals simp [lk, MvB_Z, MvB_im]
      · have hbec := fun a b : Nat => run_bec (fs := fs) (i := ti) (n := (n : Int)) (last := last) (u := a) (v := b) h5 (by omega) (by omega)
        have hk4' : ∀ o1 : Or, ((stepF o1 m (z1, z2)).1.kind = 4) = False := fun o1 => eq_false (by rw [hkS]; exact hk4)
        simp only [hk4, if_false] at hs1
        try simp -dsimp (maxSteps := 1000000) only [go_sem, List.forall_mem_nil, ↓reduceIte, Nat.reduceEqDiff, Nat.reduceLT, Nat.reduceLeDiff, Nat.reduceAdd, Nat.reduceMul, reduceCtorEq, Tryz.f47, hI3, hIn, h0n, hgm, hrs, oStep, ne_or, modB, hgs, htS, hk4', hro, hwr, hal, MvB_Z, MvB_N, hbec, hsF, MvB_Z, tI_setZ, Int.toNat_natCast]
        intro o1
        refine ⟨⟨(j + 1, fun q => if q = j then o1 else o q), by simp only []; omega⟩, by simp only []; omega, [], [0, 1, 2, 3, 4, 5, 6, 7], ?_⟩
        simp only [hs1 o1]
        (simp only [go_sem, eq_self, MvRb, MvRn, MvRt, List.nodup_cons, List.nodup_nil, ↓reduceIte, Nat.reduceEqDiff, Nat.reduceLT, Nat.reduceLeDiff, reduceCtorEq, List.forall_mem_nil, Nat.zero_le, false_implies, List.mem_singleton, MvB_Z, MvRt, MvR_M])
        all_goals simp [lk, MvB_Z, MvB_im]
end Go.SX
set_option linter.unusedVariables false
set_option linter.unusedSimpArgs false
namespace Go.SX
open Go Go.Proofs
def badF (n : Nat) (f : Fa) : Bool := decide (f.kind < 1) || (decide (3 < f.kind) || (decide (f.md < 0) || (decide ((n : Int) ≤ f.md) || (decide (f.fr < 0) || (decide (f.to_ < f.fr) || decide (500 < f.to_))))))
def hsA (ms : List Mod) (cs : List Cbl) : List (List B) := [[.t (.im (.sl 11 (rowsM ms))), .t (.im (.sl 2 (rowsC cs)))]]
theorem hsA_inj {a b : List Mod} {c d : List Cbl} (h : hsA a c = hsA b d) : a = b ∧ c = d := by
  simp only [hsA, List.cons.injEq, B.t.injEq, T.im.injEq, I.sl.injEq, true_and, and_true, rowsM_eq, rowsC_eq] at h
  exact h
theorem okR_hsA {v : D} {ms : List Mod} {cs : List Cbl} (hv : OkD false 0 v) : OkR false { val := v, places := hsA ms cs } := by
  refine ⟨hv, by simp, fun c hc x hx => ?_⟩
  simp only [hsA, List.mem_cons, List.not_mem_nil, or_false] at hc
  subst hc
  simp only [List.mem_cons, List.not_mem_nil, or_false] at hx
  rcases hx with rfl | rfl <;> exact .t _ (.im _ (.inl rfl))
structure ABad where
  ms : List Mod
  cs : List Cbl
  f : Fa
noncomputable def ct_bad : Ct := fam false (fun x : ABad => ([.agg [.im (.int .i64 x.f.kind), .im (.int .i64 x.f.md), .im (.int .i64 x.f.fr), .im (.int .i64 x.f.to_)], .c (.ptr 0 0 0 0)], hsA x.ms x.cs)) (fun x => .one { val := .c (.im (.bool (badF x.ms.length x.f))), places := hsA x.ms x.cs })
theorem run_bad {ms : List Mod} {cs : List Cbl} {a b c d : Int} : ct_bad.run [.agg [.im (.int .i64 a), .im (.int .i64 b), .im (.int .i64 c), .im (.int .i64 d)], .c (.ptr 0 0 0 0)] [[.t (.im (.sl 11 (rowsM ms))), .t (.im (.sl 2 (rowsC cs)))]] = some (.one { val := .c (.im (.bool (badF ms.length ⟨a, b, c, d⟩))), places := hsA ms cs }) := by
  refine fam_run' (args := fun x : ABad => ([D.agg [.im (.int .i64 x.f.kind), .im (.int .i64 x.f.md), .im (.int .i64 x.f.fr), .im (.int .i64 x.f.to_)], .c (.ptr 0 0 0 0)], hsA x.ms x.cs)) ?_ ⟨ms, cs, ⟨a, b, c, d⟩⟩
  rintro ⟨m, c, ⟨a1, a2, a3, a4⟩⟩ ⟨m', c', ⟨b1, b2, b3, b4⟩⟩ h
  simp only [Prod.mk.injEq, List.cons.injEq, D.agg.injEq, C.im.injEq, I.int.injEq, true_and, and_true] at h
  obtain ⟨⟨rfl, rfl, rfl, rfl⟩, h2⟩ := h
  obtain ⟨rfl, rfl⟩ := hsA_inj h2
  rfl
set_option maxRecDepth 100000 in
set_option maxHeartbeats 8000000 in
theorem law_bad : Law Tryz.prog 90 ct_bad := by
  refine fam_law Env_nil hmixA Tryz.func90 rfl rfl (fun ⟨ms, cs, ⟨a, b, c, d⟩⟩ => ⟨okO (okR_hsA okDi), by simp [Tryz.f90], ?_⟩)
  simp only [hsA]
  by_cases p1 : a < 1
  · have e1 := eq_true p1
    clear p1
    try simp -dsimp (maxSteps := 1000000) only [go_sem, List.forall_mem_nil, ↓reduceIte, Nat.reduceEqDiff, Nat.reduceLT, Nat.reduceLeDiff, Nat.reduceAdd, Nat.reduceMul, reduceCtorEq, Tryz.f90, badF, rowsM_len, Bool.true_or, Bool.false_or, e1]
  have e1 := eq_false p1
  by_cases p2 : 3 < a
  · have e2 := eq_true p2
    clear p2
    try simp -dsimp (maxSteps := 1000000) only [go_sem, List.forall_mem_nil, ↓reduceIte, Nat.reduceEqDiff, Nat.reduceLT, Nat.reduceLeDiff, Nat.reduceAdd, Nat.reduceMul, reduceCtorEq, Tryz.f90, badF, rowsM_len, Bool.true_or, Bool.false_or, e1, e2]
  have e2 := eq_false p2
  by_cases p3 : b < 0
  · have e3 := eq_true p3
    clear p3
    try simp -dsimp (maxSteps := 1000000) only [go_sem, List.forall_mem_nil, ↓reduceIte, Nat.reduceEqDiff, Nat.reduceLT, Nat.reduceLeDiff, Nat.reduceAdd, Nat.reduceMul, reduceCtorEq, Tryz.f90, badF, rowsM_len, Bool.true_or, Bool.false_or, e1, e2, e3]
  have e3 := eq_false p3
  by_cases p4 : (ms.length : Int) ≤ b
  · have e4 := eq_true p4
    clear p4
    try simp -dsimp (maxSteps := 1000000) only [go_sem, List.forall_mem_nil, ↓reduceIte, Nat.reduceEqDiff, Nat.reduceLT, Nat.reduceLeDiff, Nat.reduceAdd, Nat.reduceMul, reduceCtorEq, Tryz.f90, badF, rowsM_len, Bool.true_or, Bool.false_or, e1, e2, e3, e4]
  have e4 := eq_false p4
  by_cases p5 : c < 0
  · have e5 := eq_true p5
    clear p5
    try simp -dsimp (maxSteps := 1000000) only [go_sem, List.forall_mem_nil, ↓reduceIte, Nat.reduceEqDiff, Nat.reduceLT, Nat.reduceLeDiff, Nat.reduceAdd, Nat.reduceMul, reduceCtorEq, Tryz.f90, badF, rowsM_len, Bool.true_or, Bool.false_or, e1, e2, e3, e4, e5]
  have e5 := eq_false p5
  by_cases p6 : d < c
  · have e6 := eq_true p6
    clear p6
    try simp -dsimp (maxSteps := 1000000) only [go_sem, List.forall_mem_nil, ↓reduceIte, Nat.reduceEqDiff, Nat.reduceLT, Nat.reduceLeDiff, Nat.reduceAdd, Nat.reduceMul, reduceCtorEq, Tryz.f90, badF, rowsM_len, Bool.true_or, Bool.false_or, e1, e2, e3, e4, e5, e6]
  have e6 := eq_false p6
  by_cases p7 : 500 < d
  · have e7 := eq_true p7
    clear p7
    try simp -dsimp (maxSteps := 1000000) only [go_sem, List.forall_mem_nil, ↓reduceIte, Nat.reduceEqDiff, Nat.reduceLT, Nat.reduceLeDiff, Nat.reduceAdd, Nat.reduceMul, reduceCtorEq, Tryz.f90, badF, rowsM_len, Bool.true_or, Bool.false_or, e1, e2, e3, e4, e5, e6, e7]
  have e7 := eq_false p7
  clear p1 p2 p3 p4 p5 p6 p7
  try simp -dsimp (maxSteps := 1000000) only [go_sem, List.forall_mem_nil, ↓reduceIte, Nat.reduceEqDiff, Nat.reduceLT, Nat.reduceLeDiff, Nat.reduceAdd, Nat.reduceMul, reduceCtorEq, Tryz.f90, badF, rowsM_len, e1, e2, e3, e4, e5, e6, e7, Bool.false_or]
structure AIf where
  ms : List Mod
  cs : List Cbl
  l : List Fa
  ll : l.length ≤ sm
noncomputable def ct_IndexFunc_Fault : Ct := fam false (fun x : AIf => ([.c (.im (.sl 4 (rowsFa x.l))), .c (.fn (.func 90) [.ptr 0 0 0 0])], hsA x.ms x.cs)) (fun x => .one { val := .c (.im (.int .i64 (idxF (badF x.ms.length) x.l 0))), places := hsA x.ms x.cs })
theorem AIf_inj : ∀ a b : AIf, ([D.c (.im (.sl 4 (rowsFa a.l))), .c (.fn (.func 90) [.ptr 0 0 0 0])], hsA a.ms a.cs) = ([D.c (.im (.sl 4 (rowsFa b.l))), .c (.fn (.func 90) [.ptr 0 0 0 0])], hsA b.ms b.cs) → a = b := by
  rintro ⟨a, b, c, _⟩ ⟨a', b', c', _⟩ h
  simp only [Prod.mk.injEq, List.cons.injEq, D.c.injEq, C.im.injEq, I.sl.injEq, true_and, and_true] at h
  obtain ⟨rfl, rfl⟩ := hsA_inj h.2
  have := rowsFa_inj h.1
  subst this; rfl
theorem run_IndexFunc_Fault {ms : List Mod} {cs : List Cbl} {l : List Fa} (h : l.length ≤ sm) : ct_IndexFunc_Fault.run [.c (.im (.sl 4 (rowsFa l))), .c (.fn (.func 90) [.ptr 0 0 0 0])] [[.t (.im (.sl 11 (rowsM ms))), .t (.im (.sl 2 (rowsC cs)))]] = some (.one { val := .c (.im (.int .i64 (idxF (badF ms.length) l 0))), places := hsA ms cs }) := fam_run' AIf_inj ⟨ms, cs, l, h⟩
set_option maxRecDepth 100000 in
set_option maxHeartbeats 4000000 in
theorem law_IndexFunc_Fault : Law Tryz.prog 129 ct_IndexFunc_Fault := by
  refine fam_law (Env_cons law_bad Env_nil) hmixA Tryz.func129 rfl rfl (fun ⟨ms, cs, l, hl⟩ => ⟨okO (okR_hsA okDi), by simp [Tryz.f129], ?_⟩)
  simp only [hsA]
  try simp -dsimp (maxSteps := 1000000) only [go_sem, List.forall_mem_nil, ↓reduceIte, Nat.reduceEqDiff, Nat.reduceLT, Nat.reduceLeDiff, Nat.reduceAdd, Nat.reduceMul, reduceCtorEq, Tryz.f129, rowsFa_len]
  refine loop_i (ι := { k : Nat // k ≤ l.length ∧ idxF (badF ms.length) l 0 = idxF (badF ms.length) (l.drop k) k }) (fun k => ⟨[(0, some (.c (.im (.sl 4 (rowsFa l))))), (1, some (.c (.fn (.func 90) [.ptr 0 0 0 0]))), (7, some (.c (.im (.int .i64 (l.length : Int))))), (8, some (.c (.im (.int .i64 (k.1 : Int)))))],
    [(0, some (.box [.t (.im (.sl 11 (rowsM ms))), .t (.im (.sl 2 (rowsC cs)))]))], 1⟩) (fun k => l.length - k.1) ⟨0, by simp⟩ ⟨[], [], by ((simp only [go_sem, eq_self, MvRb, MvRn, MvRt, List.nodup_cons, List.nodup_nil, ↓reduceIte, Nat.reduceEqDiff, Nat.reduceLT, Nat.reduceLeDiff, reduceCtorEq, List.forall_mem_nil, Nat.zero_le, false_implies, List.mem_singleton]) <;> (try (simp -dsimp only [go_sem, eq_self, MvRb, MvRn, MvRt, List.nodup_cons, List.nodup_nil, ↓reduceIte, Nat.reduceEqDiff, Nat.reduceLT, Nat.reduceLeDiff, reduceCtorEq, List.forall_mem_nil, Nat.zero_le, false_implies, List.mem_singleton]))) <;> simp⟩ (fun ⟨k, hk, hinv⟩ => ?_)
  by_cases hlt : k < l.length
  · obtain ⟨p, hp⟩ : ∃ p, l[k]? = some p := ⟨_, List.getElem?_eq_getElem hlt⟩
    have hrow := rowsFa_at hp
    have hI : ((k : Int) < (l.length : Int)) = True := by simp; omega
    have h0 : (0 ≤ (k : Int)) = True := by simp
    have hidx := idxF_drop (f := badF ms.length) hp
    have hwr := lt_sm hl hlt
    obtain ⟨a, b, c, d⟩ := p
    simp only at hrow
    cases hq : badF ms.length ⟨a, b, c, d⟩ with
    | true =>
      simp only [hq, if_true] at hidx
      rw [hidx] at hinv
      clear hidx
      try simp -dsimp (maxSteps := 1000000) only [go_sem, List.forall_mem_nil, ↓reduceIte, Nat.reduceEqDiff, Nat.reduceLT, Nat.reduceLeDiff, Nat.reduceAdd, Nat.reduceMul, reduceCtorEq, Tryz.f129, hI, h0, Int.toNat_natCast, hrow, run_bad, hq, hinv, hsA, rowsFa_len]
    | false =>
      simp only [hq, if_false, Bool.false_eq_true] at hidx
      rw [hidx] at hinv
      clear hidx
      try simp -dsimp (maxSteps := 1000000) only [go_sem, List.forall_mem_nil, ↓reduceIte, Nat.reduceEqDiff, Nat.reduceLT, Nat.reduceLeDiff, Nat.reduceAdd, Nat.reduceMul, reduceCtorEq, Tryz.f129, hI, h0, Int.toNat_natCast, hrow, run_bad, hq, hwr, hsA, rowsFa_len]
      exact ⟨⟨k + 1, by omega, hinv⟩, by simp only []; omega, [], [], by (simp only [go_sem, eq_self, MvRb, MvRn, MvRt, List.nodup_cons, List.nodup_nil, ↓reduceIte, Nat.reduceEqDiff, Nat.reduceLT, Nat.reduceLeDiff, reduceCtorEq, List.forall_mem_nil, Nat.zero_le, false_implies, List.mem_singleton]) <;> simp⟩
  · have hI : ((k : Int) < (l.length : Int)) = False := by simp; omega
    have hkl : k = l.length := by omega
    subst hkl
    rw [List.drop_length] at hinv
    try simp -dsimp (maxSteps := 1000000) only [go_sem, List.forall_mem_nil, ↓reduceIte, Nat.reduceEqDiff, Nat.reduceLT, Nat.reduceLeDiff, Nat.reduceAdd, Nat.reduceMul, reduceCtorEq, Tryz.f129, hI, hinv, idxF, rowsFa_len]
noncomputable def ct_ContainsFunc_Fault : Ct := fam false (fun x : AIf => ([.c (.im (.sl 4 (rowsFa x.l))), .c (.fn (.func 90) [.ptr 0 0 0 0])], hsA x.ms x.cs)) (fun x => .one { val := .c (.im (.bool (decide (0 ≤ idxF (badF x.ms.length) x.l 0)))), places := hsA x.ms x.cs })
theorem run_ContainsFunc_Fault {ms : List Mod} {cs : List Cbl} {l : List Fa} (h : l.length ≤ sm) : ct_ContainsFunc_Fault.run [.c (.im (.sl 4 (rowsFa l))), .c (.fn (.func 90) [.ptr 0 0 0 0])] [[.t (.im (.sl 11 (rowsM ms))), .t (.im (.sl 2 (rowsC cs)))]] = some (.one { val := .c (.im (.bool (decide (0 ≤ idxF (badF ms.length) l 0)))), places := hsA ms cs }) := fam_run' AIf_inj ⟨ms, cs, l, h⟩
set_option maxRecDepth 100000 in
theorem law_ContainsFunc_Fault : Law Tryz.prog 89 ct_ContainsFunc_Fault := by
  refine fam_law (Env_cons law_IndexFunc_Fault Env_nil) hmixA Tryz.func89 rfl rfl (fun ⟨ms, cs, l, hl⟩ => ⟨okO (okR_hsA okDi), by simp [Tryz.f89], ?_⟩)
  simp only [hsA]
  try simp -dsimp (maxSteps := 1000000) only [go_sem, List.forall_mem_nil, ↓reduceIte, Nat.reduceEqDiff, Nat.reduceLT, Nat.reduceLeDiff, Nat.reduceAdd, Nat.reduceMul, reduceCtorEq, Tryz.f89, run_IndexFunc_Fault hl, hsA]
  all_goals simp_all
def areF (ms : List Mod) (cs : List Cbl) (l : List Fa) : Bool := isRackF ms cs && (decide ((l.length : Int) ≤ 20) && !(decide (0 ≤ idxF (badF ms.length) l 0)))
structure AAf where
  ms : List Mod
  cs : List Cbl
  l : List Fa
  ml : ms.length ≤ sm
  cl : cs.length ≤ sm
  ok : ∀ m ∈ ms, OkM m
  ll : l.length ≤ sm
noncomputable def ct_AreFaults : Ct := fam true (fun x : AAf => ([.agg [.im (.sl 11 (rowsM x.ms)), .im (.sl 2 (rowsC x.cs))], .c (.im (.sl 4 (rowsFa x.l)))], [])) (fun x => .one { val := .c (.im (.bool (areF x.ms x.cs x.l))) })
theorem run_AreFaults {ms : List Mod} {cs : List Cbl} {l : List Fa} (h1 : ms.length ≤ sm) (h2 : cs.length ≤ sm) (h5 : ∀ m ∈ ms, OkM m) (h : l.length ≤ sm) : ct_AreFaults.run [.agg [.im (.sl 11 (rowsM ms)), .im (.sl 2 (rowsC cs))], .c (.im (.sl 4 (rowsFa l)))] [] = some (.one { val := .c (.im (.bool (areF ms cs l))) }) := by
  refine fam_run' (args := fun x : AAf => ([D.agg [.im (.sl 11 (rowsM x.ms)), .im (.sl 2 (rowsC x.cs))], .c (.im (.sl 4 (rowsFa x.l)))], [])) ?_ ⟨ms, cs, l, h1, h2, h5, h⟩
  rintro ⟨a, b, c, _, _, _, _⟩ ⟨a', b', c', _, _, _, _⟩ h
  simp only [Prod.mk.injEq, List.cons.injEq, D.c.injEq, D.agg.injEq, C.im.injEq, I.sl.injEq, true_and, and_true, rowsM_eq, rowsC_eq] at h
  obtain ⟨⟨rfl, rfl⟩, h3⟩ := h
  have := rowsFa_inj h3
  subst this; rfl
set_option maxRecDepth 100000 in
set_option maxHeartbeats 4000000 in
theorem law_AreFaults : Law Tryz.prog 43 ct_AreFaults := by
  refine fam_law (Env_cons law_IsRack (Env_cons law_ContainsFunc_Fault Env_nil)) hmixA Tryz.func43 rfl rfl (fun ⟨ms, cs, l, h1, h2, h5, hl⟩ => ⟨okO_im rfl, by simp [Tryz.f43], ?_⟩)
  simp only
  cases hr : isRackF ms cs with
  | false =>
    try simp -dsimp (maxSteps := 1000000) only [go_sem, List.forall_mem_nil, ↓reduceIte, Nat.reduceEqDiff, Nat.reduceLT, Nat.reduceLeDiff, Nat.reduceAdd, Nat.reduceMul, reduceCtorEq, Tryz.f43, run_IsRack h1 h2 h5, hr, areF, Bool.false_and]
  | true =>
    by_cases h20 : (l.length : Int) ≤ 20
    · have h20' := eq_true h20
      try simp -dsimp (maxSteps := 1000000) only [go_sem, List.forall_mem_nil, ↓reduceIte, Nat.reduceEqDiff, Nat.reduceLT, Nat.reduceLeDiff, Nat.reduceAdd, Nat.reduceMul, reduceCtorEq, Tryz.f43, run_IsRack h1 h2 h5, hr, h20', run_ContainsFunc_Fault hl, hsA, rowsFa_len, areF, Bool.true_and]
      all_goals simp_all
    · have h20' := eq_false h20
      try simp -dsimp (maxSteps := 1000000) only [go_sem, List.forall_mem_nil, ↓reduceIte, Nat.reduceEqDiff, Nat.reduceLT, Nat.reduceLeDiff, Nat.reduceAdd, Nat.reduceMul, reduceCtorEq, Tryz.f43, run_IsRack h1 h2 h5, hr, h20', rowsFa_len, areF, Bool.true_and, Bool.false_and]
end Go.SX
set_option linter.unusedVariables false
set_option linter.unusedSimpArgs false
namespace Go.SX
open Go Go.Proofs
def runG (O : Nat → Nat → Or) (cs : List Cbl) (a b : Int) (xs : List Pt) (fs : List Fa) (ms : List Mod) : Nat → (List Mod × List Pt) × List Pt
  | 0 => ((ms, List.replicate ms.length (0, 0)), [])
  | k + 1 => (stepRackG (becF fs (k : Int) (runG O cs a b xs fs ms k).1.2) (O k) cs a (xs.getD k (0, 0)) (runG O cs a b xs fs ms k).1.1,
      (runG O cs a b xs fs ms k).2 ++ [(stepRackG (becF fs (k : Int) (runG O cs a b xs fs ms k).1.2) (O k) cs a (xs.getD k (0, 0)) (runG O cs a b xs fs ms k).1.1).2.getD b.toNat (0, 0)])
theorem runG_congr {O O' : Nat → Nat → Or} {cs : List Cbl} {a b : Int} {xs : List Pt} {fs : List Fa} {ms : List Mod} : ∀ k, (∀ i, i < k → O i = O' i) → runG O cs a b xs fs ms k = runG O' cs a b xs fs ms k
  | 0, _ => rfl
  | k + 1, h => by simp only [runG, runG_congr k (fun i hi => h i (by omega)), h k (by omega)]
theorem runG_ok {O : Nat → Nat → Or} {cs : List Cbl} {a b : Int} {xs : List Pt} {fs : List Fa} {ms : List Mod} (h : ∀ m ∈ ms, OkS m) : ∀ k, (runG O cs a b xs fs ms k).1.1.length = ms.length ∧ (runG O cs a b xs fs ms k).1.2.length = ms.length ∧ (runG O cs a b xs fs ms k).2.length = k ∧ ∀ m ∈ (runG O cs a b xs fs ms k).1.1, OkS m
  | 0 => ⟨rfl, by simp [runG], rfl, h⟩
  | k + 1 => by
    obtain ⟨h1, h2, h3, h4⟩ := runG_ok (O := O) (cs := cs) (a := a) (b := b) (xs := xs) (fs := fs) h k
    refine ⟨?_, ?_, ?_, ?_⟩
    · simp only [runG]; rw [stepRackG_len.1]; exact h1
    · simp only [runG]; rw [stepRackG_len.2]; exact h1
    · simp only [runG, List.length_append, h3, List.length_cons, List.length_nil, Nat.zero_add]
    · simp only [runG]; exact stepRackG_ok h4
theorem runG_next {O : Nat → Nat → Or} {cs : List Cbl} {a b : Int} {xs : List Pt} {fs : List Fa} {ms : List Mod} {k : Nat} (o : Nat → Or) : runG (fun i => if i = k then o else O i) cs a b xs fs ms (k + 1) =
    (stepRackG (becF fs (k : Int) (runG O cs a b xs fs ms k).1.2) o cs a (xs.getD k (0, 0)) (runG O cs a b xs fs ms k).1.1,
      (runG O cs a b xs fs ms k).2 ++ [(stepRackG (becF fs (k : Int) (runG O cs a b xs fs ms k).1.2) o cs a (xs.getD k (0, 0)) (runG O cs a b xs fs ms k).1.1).2.getD b.toNat (0, 0)]) := by
  simp only [runG, if_true]
  rw [runG_congr (O' := O) k (fun i hi => by simp; omega)]
structure ARf where
  ms : List Mod
  cs : List Cbl
  a : Int
  b : Int
  xs : List Pt
  fs : List Fa
  n : Int
  ml : ms.length ≤ sm
  cl : cs.length ≤ sm
  xl : xs.length ≤ sm
  fl : fs.length ≤ sm
  ok : ∀ m ∈ ms, OkM m
def canRfF (ms : List Mod) (cs : List Cbl) (fs : List Fa) (a b n : Int) : Bool := areF ms cs fs && canRunF ms cs a b n
def oRf (ms : List Mod) (cs : List Cbl) (a b : Int) (xs : List Pt) (fs : List Fa) (n : Int) : Outs := .any (Nat → Nat → Or) (fun O => if canRfF ms cs fs a b n = true then rRun (runG O cs a b xs fs ms n.toNat).1.1 cs (runG O cs a b xs fs ms n.toNat).2 else rNo)
noncomputable def ct_RunFaults : Ct := fam true (fun x : ARf => ([.agg [.im (.sl 11 (rowsM x.ms)), .im (.sl 2 (rowsC x.cs))], .agg [.im (.int .i64 x.a), .im (.int .i64 x.b)], .c (.im (.sl 1 (rowsZ x.xs))), .c (.im (.sl 4 (rowsFa x.fs))), .c (.im (.int .i64 x.n))], [])) (fun x => oRf x.ms x.cs x.a x.b x.xs x.fs x.n)
theorem run_RunFaults {ms : List Mod} {cs : List Cbl} {xs : List Pt} {fs : List Fa} (h1 : ms.length ≤ sm) (h2 : cs.length ≤ sm) (h3 : xs.length ≤ sm) (h4 : fs.length ≤ sm) (h5 : ∀ m ∈ ms, OkM m) (a b n : Int) : ct_RunFaults.run [.agg [.im (.sl 11 (rowsM ms)), .im (.sl 2 (rowsC cs))], .agg [.im (.int .i64 a), .im (.int .i64 b)], .c (.im (.sl 1 (rowsZ xs))), .c (.im (.sl 4 (rowsFa fs))), .c (.im (.int .i64 n))] [] = some (oRf ms cs a b xs fs n) := by
  refine fam_run' (args := fun x : ARf => ([D.agg [.im (.sl 11 (rowsM x.ms)), .im (.sl 2 (rowsC x.cs))], .agg [.im (.int .i64 x.a), .im (.int .i64 x.b)], .c (.im (.sl 1 (rowsZ x.xs))), .c (.im (.sl 4 (rowsFa x.fs))), .c (.im (.int .i64 x.n))], [])) ?_ ⟨ms, cs, a, b, xs, fs, n, h1, h2, h3, h4, h5⟩
  rintro ⟨a, b, c, d, e, f, g, _, _, _, _, _⟩ ⟨a', b', c', d', e', f', g', _, _, _, _, _⟩ h
  simp only [Prod.mk.injEq, List.cons.injEq, D.c.injEq, D.agg.injEq, C.im.injEq, I.sl.injEq, I.int.injEq, true_and, and_true, rowsM_eq, rowsC_eq, rowsZ_eq] at h
  obtain ⟨⟨rfl, rfl⟩, ⟨rfl, rfl⟩, rfl, h4, rfl⟩ := h
  have := rowsFa_inj h4
  subst this; rfl
theorem sc_RunFaults : (ct_RunFaults.sc = true) = True := by simp [ct_RunFaults, fam]
set_option maxRecDepth 100000 in
set_option maxHeartbeats 40000000 in
theorem law_RunFaults : Law Tryz.prog 19 ct_RunFaults := by
  refine fam_lawF (Env_cons law_AreFaults (Env_cons law_canRun (Env_cons law_copyRack (Env_cons law_sample (Env_cons law_stepRackG Env_nil))))) hmixA Tryz.func19 rfl rfl (fun ⟨ms, cs, a, b, xs, fs, n, h1, h2, h3, h4, h5⟩ => ⟨okA (fun o => by split; exact okR_run; exact okR_no), by simp [Tryz.f19], ?_⟩)
  simp only [oRf]
  cases hf : areF ms cs fs with
  | false =>
    have hc : canRfF ms cs fs a b n = false := by simp [canRfF, hf]
    simp only [hc, Bool.false_eq_true, if_false, rNo]
    try simp -dsimp (maxSteps := 1000000) only [go_sem, List.forall_mem_nil, ↓reduceIte, Nat.reduceEqDiff, Nat.reduceLT, Nat.reduceLeDiff, Nat.reduceAdd, Nat.reduceMul, reduceCtorEq, Tryz.f19, run_AreFaults h1 h2 h5 h4, hf]
    refine finF_i [] ?_
    simp -dsimp (maxSteps := 1000000) only [go_sem, List.forall_mem_nil, ↓reduceIte, Nat.reduceEqDiff, Nat.reduceLT, Nat.reduceLeDiff, Nat.reduceAdd, Nat.reduceMul, reduceCtorEq, hc, rNo]
  | true =>
    cases hr : canRunF ms cs a b n with
    | false =>
      have hc : canRfF ms cs fs a b n = false := by simp [canRfF, hr]
      simp only [hc, Bool.false_eq_true, if_false, rNo]
      try simp -dsimp (maxSteps := 1000000) only [go_sem, List.forall_mem_nil, ↓reduceIte, Nat.reduceEqDiff, Nat.reduceLT, Nat.reduceLeDiff, Nat.reduceAdd, Nat.reduceMul, reduceCtorEq, Tryz.f19, run_AreFaults h1 h2 h5 h4, hf, run_canRun h1 h2 h5, hr]
      refine finF_i [] ?_
      simp -dsimp (maxSteps := 1000000) only [go_sem, List.forall_mem_nil, ↓reduceIte, Nat.reduceEqDiff, Nat.reduceLT, Nat.reduceLeDiff, Nat.reduceAdd, Nat.reduceMul, reduceCtorEq, hc, rNo]
    | true =>
      have hc : canRfF ms cs fs a b n = true := by simp [canRfF, hr, hf]
      have hk1 : (0 ≤ (ms.length : Int)) = True := eq_true (by omega)
      have hk2 : ((ms.length : Int) ≤ 9223372036854775807) = True := eq_true (by have : sm = 16777216 := rfl; omega)
      have hk3 : (((8 : Nat) : Int) * (ms.length : Int) ≤ 281474976710656) = True := eq_true (by have : sm = 16777216 := rfl; omega)
      have hc2 := hr
      simp only [canRunF, plugF, Bool.and_eq_true, decide_eq_true_eq] at hc2
      obtain ⟨hrk, ⟨hp1, hp2, hp3, hp4⟩, hn0, hn1⟩ := hc2
      obtain ⟨ml, cl, ok, cr⟩ := RackOk_of h5 hrk
      simp only [hc, if_true, rRun]
      try simp -dsimp (maxSteps := 1000000) only [go_sem, List.forall_mem_nil, ↓reduceIte, Nat.reduceEqDiff, Nat.reduceLT, Nat.reduceLeDiff, Nat.reduceAdd, Nat.reduceMul, reduceCtorEq, Tryz.f19, run_AreFaults h1 h2 h5 h4, hf, run_canRun h1 h2 h5, hr, run_copyRack h1 h2 h5, rRack, rowsM_len, hk1, hk2, hk3, rep_Z, Int.toNat_natCast, List.length_replicate]
      repeat' (first
        | ((with_reducible refine sl_i ?_ ?_); focus kernel_rfl)
        | ((with_reducible refine ro_i ?_ ?_); focus kernel_rfl))
      obtain ⟨N, rfl⟩ := Int.eq_ofNat_of_zero_le hn0
      obtain ⟨B', rfl⟩ := Int.eq_ofNat_of_zero_le hp3
      have hN : N ≤ sm := by have : sm = 16777216 := rfl; omega
      have hb : B' < ms.length := by omega
      simp only [Int.toNat_natCast]
      clear hr hrk hf hp1 hp2 hp3 hp4 hn0 hn1 hk1 hk2 hk3
      refine loop_i (ι := { x : Nat × (Nat → Nat → Or) // x.1 ≤ N }) (fun x => ⟨[(2, some (.c (.im (.sl 1 (rowsZ xs))))), (6, some (.c (.ptr 1 0 0 0))), (8, some (.c (.ptr 2 0 0 0))), (10, some (.c (.ptr 3 0 0 0))), (13, some (.c (.ptr 4 0 0 0))), (14, some (.c (.view 6 1 0 (runG x.1.2 cs a B' xs fs ms x.1.1).2.length))), (15, some (.c (.ptr 5 0 0 0))), (37, some (.c (.im (.int .i64 (N : Int))))), (38, some (.c (.im (.int .i64 (x.1.1 : Int)))))],
        [(1, some (.box [.t (.im (.int .i64 a)), .t (.im (.int .i64 (B' : Int)))])), (2, some (.box [.t (.im (.sl 4 (rowsFa fs)))])), (3, some (.box [.t .nil, .t .nil])), (4, some (.box [.t (.own 11 (tM (runG x.1.2 cs a B' xs fs ms x.1.1).1.1)), .t (.own 2 (tI (rowsC cs)))])), (5, some (.box [.t (.own 1 (tI (rowsZ (runG x.1.2 cs a B' xs fs ms x.1.1).1.2)))])), (6, some (.arr 1 (tI (rowsZ (runG x.1.2 cs a B' xs fs ms x.1.1).2))))], 7⟩) (fun x => N - x.1.1) ⟨(0, fun _ _ => ((0, 0), (0, 0))), by simp⟩ ⟨[.fold 60 0 0, .fold 60 0 1, .fold 68 0 0], [1, 2, 3, 60, 68, 20], by ((simp only [go_sem, eq_self, MvRb, MvRn, MvRt, List.nodup_cons, List.nodup_nil, ↓reduceIte, Nat.reduceEqDiff, Nat.reduceLT, Nat.reduceLeDiff, reduceCtorEq, List.forall_mem_nil, Nat.zero_le, false_implies, List.mem_singleton, Option.map_some, forall_eq_or_imp, forall_eq, tM_len, tI_len, rowsC_len, rowsZ_len, List.length_replicate, runG, tI_nil, MvRn, MvB_M, MvB_C, MvB_Z]) <;> (try (simp -dsimp only [go_sem, eq_self, MvRb, MvRn, MvRt, List.nodup_cons, List.nodup_nil, ↓reduceIte, Nat.reduceEqDiff, Nat.reduceLT, Nat.reduceLeDiff, reduceCtorEq, List.forall_mem_nil, Nat.zero_le, false_implies, List.mem_singleton, Option.map_some, forall_eq_or_imp, forall_eq, tM_len, tI_len, rowsC_len, rowsZ_len, List.length_replicate, runG, tI_nil, MvRn, MvB_M, MvB_C, MvB_Z]))) <;> simp [lk, MvB_im, MvB_M, MvB_C, MvB_Z]⟩ (fun ⟨⟨k, O⟩, hk⟩ => ?_)
      have hok := runG_ok (O := O) (cs := cs) (a := a) (b := (B' : Int)) (xs := xs) (fs := fs) ok k
      have hnx := fun o => runG_next (O := O) (cs := cs) (a := a) (b := (B' : Int)) (xs := xs) (fs := fs) (ms := ms) (k := k) o
      have hfin : k = N → ∃ O', runG O' cs a B' xs fs ms N = runG O cs a B' xs fs ms k := fun e => by subst e; exact ⟨O, rfl⟩
      simp only
      generalize hs : runG O cs a B' xs fs ms k = s at *
      obtain ⟨⟨M, last⟩, out⟩ := s
      simp only at hok hnx hfin ⊢
      obtain ⟨hM, hlast, ho, hokM⟩ := hok
      by_cases hlt : k < N
      rotate_left
      · have hI : ((k : Int) < (N : Int)) = False := eq_false (by omega)
        obtain ⟨O', hO⟩ := hfin (by omega)
        try simp -dsimp (maxSteps := 1000000) only [go_sem, List.forall_mem_nil, ↓reduceIte, Nat.reduceEqDiff, Nat.reduceLT, Nat.reduceLeDiff, Nat.reduceAdd, Nat.reduceMul, reduceCtorEq, Tryz.f19, hI, tM_len, tI_len, rowsC_len]
        refine finF_i [] ?_
        simp -dsimp (maxSteps := 1000000) only [go_sem, List.forall_mem_nil, ↓reduceIte, Nat.reduceEqDiff, Nat.reduceLT, Nat.reduceLeDiff, Nat.reduceAdd, Nat.reduceMul, reduceCtorEq]
        refine ⟨O', ?_⟩
        simp only [hc, if_true, hO]
        refine ⟨trivial, [7, 8, 6], ?_, ?_, ?_, rfl⟩ <;> simp [rtOk]
      have hI : ((k : Int) < (N : Int)) = True := by simp; omega
      have hwr := lt_sm hN hlt
      obtain ⟨x1, x2⟩ : ∃ x1 x2, xs.getD k (0, 0) = (x1, x2) := ⟨_, _, rfl⟩
      obtain ⟨x2, hx⟩ := x2
      have hrun := run_stepRackG (ms := M) (cs := cs) (fs := fs) (i := (k : Int)) (last := last) (by omega) h2 hokM (fun c hc => by rw [hM]; exact ⟨(cr c hc).1, (cr c hc).2.1⟩) h4 (by omega) a x1 x2
      simp only [hsG] at hrun
      have hrS : ∀ o, (tI (rowsZ (stepRackG (becF fs (k : Int) last) o cs a (x1, x2) M).2))[B']? = some [T.im (.cpx .f32 ((stepRackG (becF fs (k : Int) last) o cs a (x1, x2) M).2.getD B' (0, 0)).1 ((stepRackG (becF fs (k : Int) last) o cs a (x1, x2) M).2.getD B' (0, 0)).2)] := fun o => by
        have hl : B' < (stepRackG (becF fs (k : Int) last) o cs a (x1, x2) M).2.length := by rw [stepRackG_len.2, hM]; exact hb
        rw [tIZ_at (List.getElem?_eq_getElem hl), List.getD_eq_getElem?_getD, List.getElem?_eq_getElem hl]
        rfl
      have hIb : ((B' : Int) < (M.length : Int)) = True := by simp; omega
      have h0b : (0 ≤ (B' : Int)) = True := by simp
      have hby : ∀ q : Pt, ((out ++ [q]).length * 8 ≤ 140737488355328) = True := fun q => bytes_sm (by simp; omega) (by decide)
      rw [hx] at hnx
      simp only [Int.toNat_natCast] at hnx
      try simp -dsimp (maxSteps := 1000000) only [go_sem, List.forall_mem_nil, ↓reduceIte, Nat.reduceEqDiff, Nat.reduceLT, Nat.reduceLeDiff, Nat.reduceAdd, Nat.reduceMul, reduceCtorEq, Tryz.f19, hI, hx, run_sample h3 k, hrun, oRkG, hsG, ne_orN, hrS, hIb, h0b, hwr, hby, MvB_M, MvB_C, MvB_Z, tI_len, rowsZ_len, appendH, srcRows, List.take_succ_cons, List.take_zero, List.all_cons, List.all_nil, okT, Bool.and_true, tIZ_app, Int.toNat_natCast]
      repeat' ((with_reducible refine sl_i ?_ ?_); focus kernel_rfl)
      intro o1
      try simp -dsimp (maxSteps := 1000000) only [go_sem, List.forall_mem_nil, ↓reduceIte, Nat.reduceEqDiff, Nat.reduceLT, Nat.reduceLeDiff, Nat.reduceAdd, Nat.reduceMul, reduceCtorEq, Tryz.f19]
      repeat' ((with_reducible refine ro_i ?_ ?_); focus kernel_rfl)
      refine ⟨⟨(k + 1, fun i => if i = k then o1 else O i), by simp only []; omega⟩, by simp only []; omega, [.fold 5 0 0], [1, 2, 3, 4, 5, 73], ?_⟩
      simp only [hnx o1]
      (simp only [go_sem, eq_self, MvRb, MvRn, MvRt, List.nodup_cons, List.nodup_nil, ↓reduceIte, Nat.reduceEqDiff, Nat.reduceLT, Nat.reduceLeDiff, reduceCtorEq, List.forall_mem_nil, Nat.zero_le, false_implies, List.mem_singleton, MvRt, MvB_M, MvB_C, MvB_Z, Option.map_some, forall_eq_or_imp, forall_eq, tI_len, rowsZ_len, stepRackG_len.2])
      all_goals simp [lk, MvB_im, MvB_M, MvB_C, MvB_Z]
end Go.SX
set_option linter.unusedVariables false
set_option linter.unusedSimpArgs false
namespace Go.SX
open Go Ieee Go.Proofs
theorem isSubn_flush (x : Nat) : isSubn (flushF x) = false := by
  unfold flushF
  by_cases h : isSubn x = true
  · rw [if_pos h]
    unfold isSubn
    have : x / 2147483648 % 2 * 2147483648 % 2147483648 = 0 := by omega
    rw [this]; rfl
  · rw [if_neg h]; simpa using h
theorem neg_read {x : Nat} {s : Bool} {m : Nat} {e : Int} (h : single.read x = .number s m e) : single.read (Op.negFloat .f32 x) = .number (!s) m e := by
  have e5 : single.signWeight = 2 ^ 31 := by decide
  have hx : Op.negFloat .f32 x = x ^^^ 2 ^ 31 := rfl
  have h1 : (x ^^^ 2 ^ 31) % 2 ^ 31 = x % 2 ^ 31 := by rw [Nat.xor_mod_two_pow]; simp
  have h2 : ((x ^^^ 2 ^ 31) / 2 ^ 31 % 2 == 1) = !(x / 2 ^ 31 % 2 == 1) := by
    have a : ∀ y : Nat, (y / 2 ^ 31 % 2 == 1) = y.testBit 31 := fun y => by rw [Nat.testBit_eq_decide_div_mod_eq]; rfl
    rw [a, a, Nat.testBit_xor, Nat.testBit_two_pow_self, Bool.xor_true]
  rw [hx]
  unfold Format.read at h ⊢
  simp only [e5] at h ⊢
  rw [h1, h2]
  split at h
  · rename_i q; rw [if_pos q]; injection h with a b c; subst a b c; rfl
  · rename_i q; rw [if_neg q]
    split at h
    · rename_i q2; rw [if_pos q2]; injection h with a b c; subst a b c; rfl
    · split at h <;> cases h
theorem double_big {m : Nat} {e : Int} (h0 : 8388608 ≤ m) (hm : m < 16777216) (h1 : -149 ≤ e) (h2 : e ≤ 104) : fcmp .lss .f64 (double.write (.number false m e)) 4039728865751334912 = false := by
  have hl : m.log2 = 23 := by
    have a := (Nat.log2_lt (n := m) (k := 24) (by omega)).2 (by omega)
    have b := (Nat.le_log2 (n := m) (k := 23) (by omega)).2 (by omega)
    omega
  have e2 : double.leastPlace = -1074 := by decide
  have e3 : double.binade = 4503599627370496 := by decide
  have e4 : double.infRung = 2047 * 4503599627370496 := by decide
  have e5 : double.signWeight = 2048 * 4503599627370496 := by decide
  have e6 : (double.fractionBits : Int) = 52 := rfl
  obtain ⟨E, hE⟩ : ∃ E : Nat, e = (E : Int) - 149 := ⟨(e + 149).toNat, by omega⟩
  have hw : double.write (.number false m e) = (E + 896) * 4503599627370496 + m * 536870912 := by
    show double.nearest false m e = _
    unfold Format.nearest
    rw [if_neg (by omega)]
    have hlast : max (e + m.log2 - (double.fractionBits : Int)) double.leastPlace = e - 29 := by rw [e2, e6, hl]; omega
    simp only [hlast]
    have d0 : (e - 29 - e).toNat = 0 := by omega
    have d1 : (e - (e - 29)).toNat = 29 := by omega
    rw [d0, d1]
    have hk : Toward.even.cut false (m <<< 29) 0 = m * 536870912 := by simp [Toward.cut, Nat.mod_one, Nat.shiftLeft_eq]
    rw [hk, e2, e3, e4]
    have d2 : (e - 29 - -1074).toNat = E + 896 := by omega
    have d3 : ∀ k, double.word false k = k := fun k => by simp [Format.word]
    rw [d2, d3, Nat.min_eq_left (by omega)]
  have hr : double.read ((E + 896) * 4503599627370496 + m * 536870912) = .number false (m * 536870912) ((E : Int) - 178) := by
    unfold Format.read
    simp only [e3, e4, e5, e2]
    have q1 : ((E + 896) * 4503599627370496 + m * 536870912) % (2048 * 4503599627370496) = (E + 896) * 4503599627370496 + m * 536870912 := Nat.mod_eq_of_lt (by omega)
    have q2 : ((E + 896) * 4503599627370496 + m * 536870912) / (2048 * 4503599627370496) = 0 := Nat.div_eq_of_lt (by omega)
    rw [q1, q2, if_neg (by omega), if_pos (by omega)]
    have q3 : ((E + 896) * 4503599627370496 + m * 536870912) % 4503599627370496 = m * 536870912 - 4503599627370496 := by omega
    have q4 : ((E + 896) * 4503599627370496 + m * 536870912) / 4503599627370496 = E + 897 := by omega
    have q5 : 4503599627370496 + (m * 536870912 - 4503599627370496) = m * 536870912 := by omega
    have q6 : (-1074 : Int) + ((E + 897 - 1 : Nat) : Int) = (E : Int) - 178 := by omega
    have q7 : ((0 : Nat) % 2 == 1) = false := by decide
    rw [q3, q4, q5, q6, q7]
  have hc : double.read 4039728865751334912 = .number false 4503599627370496 (-178) := by decide +kernel
  show (double.order _ _ == some .lt) = false
  unfold Format.order
  rw [hw, hr, hc]
  simp only [Datum.order]
  have m1 : min ((E : Int) - 178) (-178) = -178 := by omega
  rw [m1]
  have m2 : ((E : Int) - 178 - -178).toNat = E := by omega
  have m3 : ((-178 : Int) - -178).toNat = 0 := by omega
  rw [m2, m3]
  simp only [signed, Bool.false_eq_true, if_false, Nat.shiftLeft_eq, Nat.pow_zero, Nat.mul_one]
  have hp : 1 ≤ 2 ^ E := Nat.one_le_two_pow
  have hge : 4503599627370496 ≤ m * 536870912 * 2 ^ E := Nat.le_trans (by omega) (Nat.le_mul_of_pos_right _ hp)
  have hi : ¬ ((m * 536870912 * 2 ^ E : Nat) : Int) < ((4503599627370496 : Nat) : Int) := by omega
  have : compare ((m * 536870912 * 2 ^ E : Nat) : Int) ((4503599627370496 : Nat) : Int) ≠ .lt := by
    simp only [compare, compareOfLessAndEq]
    rw [if_neg hi]
    split <;> simp
  cases hcmp : compare ((m * 536870912 * 2 ^ E : Nat) : Int) ((4503599627370496 : Nat) : Int) with
  | lt => exact absurd hcmp this
  | eq => rfl
  | gt => rfl
theorem fcmp_nan {x c : Nat} {s : Bool} {t : Nat} (h : single.read x = .nan s t) : fcmp .lss .f32 x c = false ∧ fcmp .eql .f32 x c = false := by
  have : single.order x c = none := by unfold Format.order; rw [h]; rfl
  exact ⟨by show (single.order x c == some .lt) = false; rw [this]; rfl, by show (single.order x c == some .eq) = false; rw [this]; rfl⟩
theorem subn_no {x : Nat} (h : isSubn x = false) : subnS x = false := by
  have e1 : single.binade = 8388608 := by decide
  have e2 : single.infRung = 2139095040 := by decide
  have e3 : single.leastPlace = -149 := by decide
  have e5 : single.signWeight = 2147483648 := by decide
  have hz : single.read 0 = .number false 0 (-149) := by decide
  cases hr : single.read x with
  | nan s t =>
    obtain ⟨h1, h2⟩ := fcmp_nan (c := 0) hr
    have ha : absS x = x := by simp [absS, h1, h2]
    have hw : w64 x = qn .f64 := by
      have hd : FloatKind.f32.decode x = .nan s t := hr
      simp [w64, fconv, hd]
    have : fcmp .lss .f64 (qn .f64) 4039728865751334912 = false := by decide +kernel
    simp [subnS, ha, hw, this]
  | infinity s =>
    have h1 : fcmp .lss .f32 x 0 = s := by
      show (single.order x 0 == some .lt) = s
      unfold Format.order; rw [hr, hz]
      cases s <;> rfl
    have h2 : fcmp .eql .f32 x 0 = false := by
      show (single.order x 0 == some .eq) = false
      unfold Format.order; rw [hr, hz]
      cases s <;> rfl
    have hi : ∀ y, FloatKind.f32.decode y = .infinity false → fcmp .lss .f64 (w64 y) 4039728865751334912 = false := fun y hy => by
      have : w64 y = FloatKind.f64.encode (.infinity false) := by simp [w64, fconv, hy]
      rw [this]; decide +kernel
    have : FloatKind.f32.decode (absS x) = .infinity false := by
      cases s with
      | false => simp only [absS, h1, h2, Bool.false_eq_true, if_false]; exact hr
      | true =>
        simp only [absS, h1, if_true]
        have hx : x % 2147483648 = 2139095040 ∧ (x / 2147483648 % 2 == 1) = true := by
          unfold Format.read at hr
          simp only [e1, e2, e5] at hr
          split at hr
          · cases hr
          · split at hr
            · cases hr
            · split at hr
              · rename_i q; injection hr with a; exact ⟨q, a⟩
              · cases hr
        have b1 : (x ^^^ 2 ^ 31) % 2 ^ 31 = x % 2 ^ 31 := by rw [Nat.xor_mod_two_pow]; simp
        have b2 : ((x ^^^ 2 ^ 31) / 2 ^ 31 % 2 == 1) = !(x / 2 ^ 31 % 2 == 1) := by
          have a : ∀ y : Nat, (y / 2 ^ 31 % 2 == 1) = y.testBit 31 := fun y => by rw [Nat.testBit_eq_decide_div_mod_eq]; rfl
          rw [a, a, Nat.testBit_xor, Nat.testBit_two_pow_self, Bool.xor_true]
        show single.read (x ^^^ 2 ^ 31) = _
        unfold Format.read
        have e5' : single.signWeight = 2 ^ 31 := by decide
        simp only [e1, e2, e5']
        rw [b1, b2]
        have p : (2 : Nat) ^ 31 = 2147483648 := by decide
        rw [p, hx.1, hx.2]
        rfl
    simp [subnS, hi _ this]
  | number s m e =>
    have hx : (x % 2147483648 < 8388608 ∧ m = x % 2147483648 ∧ e = -149) ∨ (8388608 ≤ m ∧ m < 16777216 ∧ -149 ≤ e ∧ e ≤ 104) := by
      unfold Format.read at hr
      simp only [e1, e2, e3, e5] at hr
      split at hr
      · rename_i q; injection hr with _ a b; exact .inl ⟨q, a.symm, b.symm⟩
      · split at hr
        · rename_i q1 q2; injection hr with _ a b
          refine .inr ⟨by omega, by omega, by omega, by omega⟩
        · split at hr <;> cases hr
    rcases hx with ⟨h1, h2, h3⟩ | ⟨h1, h2, h3, h4⟩
    · have h0 : m = 0 := by
        simp only [isSubn, Bool.and_eq_false_iff, decide_eq_false_iff_not] at h
        omega
      have : fcmp .eql .f32 x 0 = true := by
        show (single.order x 0 == some .eq) = true
        unfold Format.order; rw [hr, hz, h0, h3]
        cases s <;> rfl
      simp [subnS, this]
    · have hpos : 0 < m <<< (e - min e (-149)).toNat := by rw [Nat.shiftLeft_eq]; exact Nat.mul_pos (by omega) (Nat.two_pow_pos _)
      have ho : single.order x 0 = some (if s then .lt else .gt) := by
        unfold Format.order; rw [hr, hz]
        simp only [Datum.order]
        obtain ⟨K, hK⟩ : ∃ K, m <<< (e - min e (-149)).toNat = K := ⟨_, rfl⟩
        rw [hK] at hpos
        have hs0 : signed false 0 (-149 - min e (-149)).toNat = 0 := by simp [signed]
        rw [hs0]
        cases s with
        | false =>
          have : signed false m (e - min e (-149)).toNat = (K : Int) := by simp [signed, hK]
          rw [this]
          simp only [compare, compareOfLessAndEq]
          rw [if_neg (by omega), if_neg (by omega)]; rfl
        | true =>
          have : signed true m (e - min e (-149)).toNat = -(K : Int) := by simp [signed, hK]
          rw [this]
          simp only [compare, compareOfLessAndEq]
          rw [if_pos (by omega)]; rfl
      have l1 : fcmp .lss .f32 x 0 = s := by
        show (single.order x 0 == some .lt) = s
        rw [ho]; cases s <;> rfl
      have l2 : fcmp .eql .f32 x 0 = false := by
        show (single.order x 0 == some .eq) = false
        rw [ho]; cases s <;> rfl
      have ha : single.read (absS x) = .number false m e := by
        cases s with
        | false => simp only [absS, l1, l2, Bool.false_eq_true, if_false]; exact hr
        | true => simp only [absS, l1, if_true]; exact neg_read hr
      have hw : w64 (absS x) = double.write (.number false m e) := by
        have hd : FloatKind.f32.decode (absS x) = .number false m e := ha
        have hb := double_small false m e h2 h3 h4
        have hb' : (FloatKind.f64.decode (FloatKind.f64.encode (.number false m e))).isInfinity = false := hb
        simp only [w64, fconv, hd, hb', Bool.false_eq_true, if_false, Option.getD_some]
        rfl
      simp [subnS, hw, double_big h1 h2 h3 h4]
theorem subn_flush (x : Nat) : subnS (flushF x) = false := subn_no (isSubn_flush x)
end Go.SX
set_option linter.unusedVariables false
set_option linter.unusedSimpArgs false
namespace Go.SX
open Go Go.Proofs
theorem pigeon : ∀ (N : Nat) (L : List Int), L.Nodup → (∀ i ∈ L, 0 ≤ i ∧ i < (N : Int)) → L.length ≤ N
  | 0, L, _, h => by
    cases L with
    | nil => simp
    | cons a L => have := h a (by simp); omega
  | N + 1, L, hn, h => by
    by_cases hm : (N : Int) ∈ L
    · have h1 := pigeon N (L.erase (N : Int)) (hn.erase _) (fun i hi => by
        have h2 := h i (List.mem_of_mem_erase hi)
        have h3 : i ≠ (N : Int) := fun e => by subst e; exact hn.not_mem_erase hi
        omega)
      rw [List.length_erase_of_mem hm] at h1
      omega
    · have := pigeon N L hn (fun i hi => by
        have h2 := h i hi
        have h3 : i ≠ (N : Int) := fun e => by subst e; exact hm hi
        omega)
      omega
theorem covers {N : Nat} {L : List Int} (h1 : L.Nodup) (h2 : ∀ i ∈ L, 0 ≤ i ∧ i < (N : Int)) (h3 : L.length = N) {n : Nat} (hn : n < N) : (n : Int) ∈ L := by
  by_cases hm : (n : Int) ∈ L
  · exact hm
  · have := pigeon N ((n : Int) :: L) (List.nodup_cons.2 ⟨hm, h1⟩) (fun i hi => by
      rcases List.mem_cons.1 hi with rfl | hi
      · omega
      · exact h2 i hi)
    simp at this; omega
theorem readyIdx_ready {ms : List Mod} {cs : List Cbl} {out : List Int} : ∀ f i, readyIdx ms cs out f i = i + f ∨ readyF ms cs out (readyIdx ms cs out f i : Int) = true
  | 0, i => .inl rfl
  | f + 1, i => by
    simp only [readyIdx]
    by_cases h : readyF ms cs out (i : Int) = true
    · rw [if_pos h]; exact .inr h
    · rw [if_neg h]
      rcases readyIdx_ready (ms := ms) (cs := cs) (out := out) f (i + 1) with h | h
      · exact .inl (by omega)
      · exact .inr h
theorem orderGo_nodup {ms : List Mod} {cs : List Cbl} : ∀ (f : Nat) (out l : List Int), out.Nodup → orderGo ms cs f out = some l → l.Nodup
  | 0, out, l, ho, h => by simp only [orderGo, Option.some.injEq] at h; subst h; exact ho
  | f + 1, out, l, ho, h => by
    simp only [orderGo] at h
    split at h
    · cases h
    · rename_i hn
      refine orderGo_nodup f _ l ?_ h
      rcases readyIdx_ready (ms := ms) (cs := cs) (out := out) ms.length 0 with h1 | h1
      · omega
      · simp only [readyF, Bool.and_eq_true, Bool.not_eq_true', ] at h1
        have h2 : ((readyIdx ms cs out ms.length 0 : Nat) : Int) ∉ out := fun e => by
          rw [hasF_iff.2 e] at h1; simp at h1
        rw [List.nodup_append]
        refine ⟨ho, by simp, fun a ha b hb => ?_⟩
        simp at hb; subst hb
        intro e; subst e; exact h2 ha
theorem ord_all {ms : List Mod} {cs : List Cbl} (h : (orderF ms cs).isSome = true) {n : Nat} (hn : n < ms.length) : (n : Int) ∈ ordL ms cs := by
  obtain ⟨L, hL⟩ := Option.isSome_iff_exists.1 h
  have e : ordL ms cs = L := by simp [ordL, hL]
  have h1 := orderGo_nodup _ [] L (by simp) hL
  have h2 := orderGo_len _ [] L hL
  have h3 := orderGo_lt _ [] L (by simp) hL
  rw [e]
  exact covers h1 h3 (by simpa using h2) hn
def KEq (a b : List Mod) : Prop := a.length = b.length ∧ ∀ i : Int, kindOf a i = kindOf b i
theorem ready_kinds {a b : List Mod} (h : KEq a b) {cs : List Cbl} {out : List Int} {i : Int} : readyF a cs out i = readyF b cs out i := by
  have : blocks a out i = blocks b out i := by
    funext c
    simp only [blocks, h.2]
  simp only [readyF, anyF, this]
theorem readyIdx_kinds {a b : List Mod} (h : KEq a b) {cs : List Cbl} {out : List Int} : ∀ f i, readyIdx a cs out f i = readyIdx b cs out f i
  | 0, i => rfl
  | f + 1, i => by simp only [readyIdx, ready_kinds h, readyIdx_kinds h f]
theorem orderGo_kinds {a b : List Mod} (h : KEq a b) {cs : List Cbl} : ∀ f out, orderGo a cs f out = orderGo b cs f out
  | 0, out => rfl
  | f + 1, out => by simp only [orderGo, readyIdx_kinds h, h.1, orderGo_kinds h f]
theorem order_kinds {a b : List Mod} (h : KEq a b) {cs : List Cbl} : orderF a cs = orderF b cs := by
  simp only [orderF, h.1, orderGo_kinds h]
theorem kindOf_set {ms : List Mod} {i : Nat} {o : Or} {z : Pt} (k : Int) : kindOf (ms.set i (stepF o (ms.getD i dMod) z).1) k = kindOf ms k := by
  unfold kindOf
  by_cases e : i = k.toNat
  · by_cases hl : i < ms.length
    · subst e
      rw [List.getElem?_set_self hl, List.getElem?_eq_getElem hl]
      simp only [stepF_kind, List.getD_eq_getElem?_getD, List.getElem?_eq_getElem hl, Option.getD_some]
    · rw [List.getElem?_eq_none (by simp; omega), List.getElem?_eq_none (by omega)]
  · rw [List.getElem?_set_ne e]
theorem sweepG_kinds {bec : Int → Pt → Pt} {o : Nat → Or} {cs : List Cbl} {inn : Int} {z : Pt} : ∀ (l : List Int) (j : Nat) (s : List Mod × List Pt), KEq (sweepG bec o cs inn z l j s).1 s.1
  | [], _, s => ⟨rfl, fun _ => rfl⟩
  | i :: l, j, s => by
    obtain ⟨h1, h2⟩ := sweepG_kinds (bec := bec) (o := o) (cs := cs) (inn := inn) (z := z) l (j + 1) (sweepG1 bec (o j) cs inn z i s)
    simp only [sweepG]
    refine ⟨h1.trans sweepG1_len.1, fun k => (h2 k).trans ?_⟩
    simp only [sweepG1]
    exact kindOf_set k
theorem runG_kinds {O : Nat → Nat → Or} {cs : List Cbl} {a b : Int} {xs : List Pt} {fs : List Fa} {ms : List Mod} : ∀ k, KEq (runG O cs a b xs fs ms k).1.1 ms
  | 0 => ⟨rfl, fun _ => rfl⟩
  | k + 1 => by
    obtain ⟨h1, h2⟩ := runG_kinds (O := O) (cs := cs) (a := a) (b := b) (xs := xs) (fs := fs) (ms := ms) k
    obtain ⟨h3, h4⟩ := sweepG_kinds (bec := becF fs (k : Int) (runG O cs a b xs fs ms k).1.2) (o := O k) (cs := cs) (inn := a) (z := xs.getD k (0, 0)) (ordL (runG O cs a b xs fs ms k).1.1 cs) 0 ((runG O cs a b xs fs ms k).1.1, outs0G (becF fs (k : Int) (runG O cs a b xs fs ms k).1.2) (runG O cs a b xs fs ms k).1.1)
    simp only [runG, stepRackG]
    exact ⟨h3.trans h1, fun i => (h4 i).trans (h2 i)⟩
theorem kindOf_getD {ms : List Mod} {n : Nat} (h : n < ms.length) : kindOf ms (n : Int) = (ms.getD n dMod).kind := by
  simp [kindOf, List.getD_eq_getElem?_getD, List.getElem?_eq_getElem h]
theorem sweepG_out {bec : Int → Pt → Pt} {o : Nat → Or} {cs : List Cbl} {inn : Int} {z : Pt} {n : Nat} : ∀ (l : List Int) (j : Nat) (s : List Mod × List Pt), s.2.length = s.1.length → n < s.1.length → (∀ i ∈ l, 0 ≤ i ∧ i < s.1.length) →
    ((∃ p, s.2.getD n (0, 0) = bec (n : Int) p) ∨ (¬ kindOf s.1 (n : Int) = 4 ∧ (n : Int) ∈ l)) → ∃ p, (sweepG bec o cs inn z l j s).2.getD n (0, 0) = bec (n : Int) p
  | [], _, s, _, _, _, h => by
    rcases h with h | ⟨_, h⟩
    · exact h
    · cases h
  | i :: l, j, s, hs, hn, hl, h => by
    simp only [sweepG]
    obtain ⟨i0, i1⟩ := hl i (by simp)
    refine sweepG_out l (j + 1) _ (by rw [sweepG1_len.1, sweepG1_len.2]; exact hs) (by rw [sweepG1_len.1]; exact hn) (fun k hk => by rw [sweepG1_len.1]; exact hl k (.tail _ hk)) ?_
    have hk : kindOf (sweepG1 bec (o j) cs inn z i s).1 (n : Int) = kindOf s.1 (n : Int) := by simp only [sweepG1]; exact kindOf_set _
    rw [hk]
    by_cases e : i = (n : Int)
    · subst e
      have e2 : (n : Int).toNat = n := by omega
      by_cases h4 : kindOf s.1 (n : Int) = 4
      · left
        rcases h with ⟨p, hp⟩ | ⟨h, _⟩
        · refine ⟨p, ?_⟩
          rw [kindOf_getD hn] at h4
          simp only [sweepG1, e2, h4, if_true]
          exact hp
        · exact absurd h4 h
      · left
        rw [kindOf_getD hn] at h4
        simp only [sweepG1, e2, h4, if_false]
        exact ⟨_, by rw [List.getD_eq_getElem?_getD, List.getElem?_set_self (by omega), Option.getD_some]⟩
    · have e2 : i.toNat ≠ n := by omega
      have hg : (sweepG1 bec (o j) cs inn z i s).2.getD n (0, 0) = s.2.getD n (0, 0) := by
        simp only [sweepG1]
        split
        · rfl
        · rw [List.getD_eq_getElem?_getD, List.getElem?_set_ne e2, ← List.getD_eq_getElem?_getD]
      rw [hg]
      rcases h with h | ⟨h1, h2⟩
      · exact .inl h
      · refine .inr ⟨h1, ?_⟩
        rcases List.mem_cons.1 h2 with h2 | h2
        · exact absurd h2.symm e
        · exact h2
theorem outs0G_at {bec : Int → Pt → Pt} {ms : List Mod} {n : Nat} (hn : n < ms.length) : (outs0G bec ms).getD n (0, 0) = outG bec n (ms.getD n dMod) := by
  simp only [outs0G, outsG, Nat.sub_self, List.replicate_zero, List.append_nil]
  rw [List.getD_eq_getElem?_getD, List.getElem?_map, List.getElem?_range hn]
  rfl
theorem stepRackG_out {bec : Int → Pt → Pt} {o : Nat → Or} {cs : List Cbl} {inn : Int} {z : Pt} {ms : List Mod} {n : Nat} (hn : n < ms.length) (ho : (orderF ms cs).isSome = true) : ∃ p, (stepRackG bec o cs inn z ms).2.getD n (0, 0) = bec (n : Int) p := by
  refine sweepG_out (ordL ms cs) 0 (ms, outs0G bec ms) (outsG_len (Nat.le_refl _)) hn (fun i hi => ordL_lt i hi) ?_
  by_cases h4 : kindOf ms (n : Int) = 4
  · left
    rw [kindOf_getD hn] at h4
    exact ⟨(ms.getD n dMod).store.getD (ms.getD n dMod).rat.toNat (0, 0), by
      show (outs0G bec ms).getD n (0, 0) = _
      rw [outs0G_at hn]
      simp only [outG, h4, if_true]⟩
  · exact .inr ⟨h4, ord_all ho hn⟩
theorem runG_out {O : Nat → Nat → Or} {cs : List Cbl} {a : Int} {b : Nat} {xs : List Pt} {fs : List Fa} {ms : List Mod} (hb : b < ms.length) (ho : (orderF ms cs).isSome = true) (k : Nat) :
    ∃ p, (runG O cs a (b : Int) xs fs ms (k + 1)).1.2.getD b (0, 0) = becF fs (k : Int) (runG O cs a (b : Int) xs fs ms k).1.2 (b : Int) p := by
  obtain ⟨h1, h2⟩ := runG_kinds (O := O) (cs := cs) (a := a) (b := (b : Int)) (xs := xs) (fs := fs) (ms := ms) k
  simp only [runG]
  exact stepRackG_out (by omega) (by rw [order_kinds ⟨h1, h2⟩]; exact ho)
theorem runG_len2 {O : Nat → Nat → Or} {cs : List Cbl} {a b : Int} {xs : List Pt} {fs : List Fa} {ms : List Mod} : ∀ k, (runG O cs a b xs fs ms k).2.length = k
  | 0 => rfl
  | k + 1 => by simp only [runG, List.length_append, runG_len2 k, List.length_cons, List.length_nil]
theorem runG_at {O : Nat → Nat → Or} {cs : List Cbl} {a : Int} {b : Nat} {xs : List Pt} {fs : List Fa} {ms : List Mod} {i : Nat} : ∀ k, i < k → (runG O cs a (b : Int) xs fs ms k).2.getD i (0, 0) = (runG O cs a (b : Int) xs fs ms (i + 1)).1.2.getD b (0, 0)
  | k + 1, h => by
    by_cases e : i = k
    · subst e
      simp only [runG, Int.toNat_natCast]
      rw [List.getD_eq_getElem?_getD, List.getElem?_append_right (by rw [runG_len2]; omega), runG_len2, Nat.sub_self]
      rfl
    · have := runG_at (O := O) (cs := cs) (a := a) (b := b) (xs := xs) (fs := fs) (ms := ms) (i := i) k (by omega)
      rw [← this]
      conv => lhs; rw [runG]
      simp only []
      rw [List.getD_eq_getElem?_getD, List.getElem?_append_left (by rw [runG_len2]; omega), ← List.getD_eq_getElem?_getD]
theorem muted {O : Nat → Nat → Or} {cs : List Cbl} {a : Int} {b : Nat} {xs : List Pt} {f : Fa} {ms : List Mod} (hb : b < ms.length) (ho : (orderF ms cs).isSome = true) (hm : f.md = (b : Int)) {i k : Nat} (hi : i < k) (h1 : f.fr ≤ (i : Int)) (h2 : (i : Int) < f.to_) :
    (f.kind = 1 → (runG O cs a (b : Int) xs [f] ms k).2.getD i (0, 0) = (0, 0)) ∧
    (f.kind = 2 → (runG O cs a (b : Int) xs [f] ms k).2.getD i (0, 0) = if 0 < i then (runG O cs a (b : Int) xs [f] ms k).2.getD (i - 1) (0, 0) else (0, 0)) ∧
    (f.kind = 3 → subnS ((runG O cs a (b : Int) xs [f] ms k).2.getD i (0, 0)).1 = false ∧ subnS ((runG O cs a (b : Int) xs [f] ms k).2.getD i (0, 0)).2 = false) := by
  obtain ⟨p, hp⟩ := runG_out (O := O) (a := a) (xs := xs) (fs := [f]) hb ho i
  have hin : f.md = (b : Int) ∧ ¬ (i : Int) < f.fr ∧ ¬ f.to_ ≤ (i : Int) := ⟨hm, by omega, by omega⟩
  rw [runG_at k hi, hp]
  simp only [becF, List.foldl_cons, List.foldl_nil, bec1]
  rw [if_pos hin]
  refine ⟨fun e => by rw [if_pos e], fun e => ?_, fun e => ?_⟩
  · rw [if_neg (by omega), if_pos e, Int.toNat_natCast]
    by_cases h0 : 0 < i
    · rw [if_pos h0, runG_at k (by omega), show i - 1 + 1 = i by omega]
    · rw [if_neg h0]
      obtain rfl : i = 0 := by omega
      simp only [runG]
      rw [List.getD_eq_getElem?_getD, List.getElem?_replicate]
      split <;> rfl
  · rw [if_neg (by omega), if_neg (by omega), if_pos e]
    exact ⟨subn_flush _, subn_flush _⟩
theorem GoodRk.ord {ms : List Mod} {cs : List Cbl} (h : GoodRk ms cs) : (orderF ms cs).isSome = true := by
  have := h.rk
  simp only [isRackF, Bool.and_eq_true] at this
  exact this.2.2.2.2
end Go.SX
