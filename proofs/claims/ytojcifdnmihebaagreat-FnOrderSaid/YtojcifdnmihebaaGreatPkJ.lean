/-
  FnOrder: ReachOf: the walk.
  slices.Sort at ints: the shelf's contract, and what the engine asks.
  A law over one []byte: what the frame asks, from the law's contract.
  laws.FnOrder: plain words, and the walk.
  FnOrder: the given statement: the law returns true at every input, which reads behind the call as it did. The frame: the lines of the kit's printed shell for a law over a slice.
  No condition.
-/
import Derived.Test.YtojcifdnmihebaaGreatProg
import Derived.Shelf.Sort.Plain
import Derived.Shelf.Slices.In.SortNone
import Derived.WalkKit
import Derived.ProofKit
import Derived.Test.YtojcifdnmihebaaGreatRows
import Derived.OpenShut
import Derived.ShutString
import Derived.ChangeOld
import Derived.Below
import Derived.Test.YtojcifdnmihebaaGreatPkI
set_option linter.unusedVariables false
set_option linter.unusedSimpArgs false
namespace Go.SX
open Go Go.Proofs
theorem dropN' (k : Nat) (r : List Int) : List.drop k (tI (rowsN r)) = tI (rowsN (r.drop k)) := by simp [tI, rowsN, List.map_drop]
def oRch (cs : List Cbl) (n i : Nat) : Outs := .any { L : List Int // Rch cs n (i : Int) L } (fun q => { val := .tup [.c (.view 0 1 0 q.1.length), .c (.im (.bool true))], roots := [.arr 1 (tI (rowsN q.1))] })
theorem okR_rch {sc : Bool} {L : List Int} : OkR sc { val := .tup [.c (.view 0 1 0 L.length), .c (.im (.bool true))], roots := [.arr 1 (tI (rowsN L))] } :=
  ⟨.tup _ (by intro d hd; simp at hd; rcases hd with rfl | rfl; exact .inl ⟨_, rfl, .view _ _ _ _ (by simp)⟩; exact .inl ⟨_, rfl, okC_sc rfl⟩), by intro r hr; simp at hr; subst hr; exact mvR_tI (sc_rowsN _), by simp⟩
noncomputable def ct_ReachOf : Ct := fam true (fun x : AFe => ([.agg [.im (.sl 11 (rowsM x.ms)), .im (.sl 2 (rowsC x.cs))], .c (.im (.int .i64 (x.i : Int)))], [])) (fun x => oRch x.cs x.ms.length x.i)
theorem run_ReachOf {ms : List Mod} {cs : List Cbl} {i : Nat} (h5 : ∀ m ∈ ms, OkM m) (r : isRackF ms cs = true) (hi : i < ms.length) : ct_ReachOf.run [.agg [.im (.sl 11 (rowsM ms)), .im (.sl 2 (rowsC cs))], .c (.im (.int .i64 (i : Int)))] [] = some (oRch cs ms.length i) := by
  refine fam_run' (args := fun x : AFe => ([D.agg [.im (.sl 11 (rowsM x.ms)), .im (.sl 2 (rowsC x.cs))], .c (.im (.int .i64 (x.i : Int)))], [])) ?_ ⟨ms, cs, i, h5, r, hi⟩
  rintro ⟨a, b, c, _, _, _⟩ ⟨a', b', c', _, _, _⟩ h
  simp only [Prod.mk.injEq, List.cons.injEq, D.agg.injEq, D.c.injEq, C.im.injEq, I.sl.injEq, I.int.injEq, true_and, and_true, rowsM_eq, rowsC_eq, Int.natCast_inj] at h
  obtain ⟨⟨rfl, rfl⟩, rfl⟩ := h
  rfl
set_option maxRecDepth 100000 in
set_option maxHeartbeats 40000000 in
theorem law_ReachOf (hsort : SortLaw Tryz.prog 57) : Law Tryz.prog 27 ct_ReachOf := by
  refine fam_law (Env_cons law_IsRack (Env_cons law_Contains_int Env_nil)) hmixA Tryz.func27 rfl rfl (fun ⟨ms, cs, i, h5, r, hi⟩ => ⟨okA (fun o => okR_rch), by simp [Tryz.f27], ?_⟩)
  simp only [oRch]
  have hsm : sm = 16777216 := rfl
  have hs' := eq_true hsort
  obtain ⟨p1, p2, pm, pc, po⟩ := isRack_parts.1 r
  have c1 : ((i : Int) < 0) = False := eq_false (by omega)
  have c2 : ((ms.length : Int) ≤ (i : Int)) = False := eq_false (by omega)
  try simp -dsimp (maxSteps := 1000000) only [go_sem, List.forall_mem_nil, ↓reduceIte, Nat.reduceEqDiff, Nat.reduceLT, Nat.reduceLeDiff, Nat.reduceAdd, Nat.reduceMul, reduceCtorEq, Tryz.f27, run_IsRack (show ms.length ≤ sm by omega) (show cs.length ≤ sm by omega) h5, r, c1, c2, rowsM_len, Bool.not_true, Bool.or_self]
  have rgc : ∀ c ∈ cs, 0 ≤ c.2 ∧ c.2 < (ms.length : Int) := fun c hc => (pc c hc).2.2
  have hir : (i : Int) < (ms.length : Int) := by omega
  refine loop_i (ι := { x : List Int × List Int × Nat // x.2.2 ≤ x.2.1.length ∧ Rc cs ms.length (i : Int) x.1 (x.2.1.drop x.2.2) ∧ Cl cs (i : Int) x.1 (x.2.1.drop x.2.2) ∧ x.2.1.length ≤ 1 + x.1.length }) (fun x => ⟨[(2, some (.c (.ptr 0 0 0 0))), (6, some (.c (.view 1 1 0 x.1.1.length))), (7, some (.c (.view 2 1 x.1.2.2 (x.1.2.1.length - x.1.2.2))))],
    [(0, some (.box [.t (.im (.sl 11 (rowsM ms))), .t (.im (.sl 2 (rowsC cs)))])), (1, some (.arr 1 (tI (rowsN x.1.1)))), (2, some (.arr 1 (tI (rowsN x.1.2.1))))], 3⟩) (fun x => ms.length + (x.1.2.1.length - x.1.2.2) - x.1.1.length) ⟨([], [(i : Int)], 0), by simp, Rc.start, Cl.start, by simp⟩ ⟨[], [0, 1, 2], by ((simp only [go_sem, eq_self, MvRb, MvRn, MvRt, List.nodup_cons, List.nodup_nil, ↓reduceIte, Nat.reduceEqDiff, Nat.reduceLT, Nat.reduceLeDiff, reduceCtorEq, List.forall_mem_nil, Nat.zero_le, false_implies, List.mem_singleton, MvR_Nn]) <;> (try (simp -dsimp only [go_sem, eq_self, MvRb, MvRn, MvRt, List.nodup_cons, List.nodup_nil, ↓reduceIte, Nat.reduceEqDiff, Nat.reduceLT, Nat.reduceLeDiff, reduceCtorEq, List.forall_mem_nil, Nat.zero_le, false_implies, List.mem_singleton, MvR_Nn]))) <;> simp [lk, MvB_im, tI, rowsN]⟩ (fun ⟨⟨out, rl, lo⟩, hlo, hR, hC, hsz⟩ => ?_)
  simp only at hlo hR hC hsz ⊢
  have hol := hR.len
  by_cases hend : rl.length - lo = 0
  · have hI : ((0 : Int) < ((rl.length - lo : Nat) : Int)) = False := eq_false (by omega)
    have hd : rl.drop lo = [] := List.eq_nil_of_length_eq_zero (by rw [List.length_drop]; exact hend)
    rw [hd] at hR hC
    have hsl := srtZ_len out
    have hL := Rch.of hR hC
    try simp -dsimp (maxSteps := 1000000) only [go_sem, List.forall_mem_nil, ↓reduceIte, Nat.reduceEqDiff, Nat.reduceLT, Nat.reduceLeDiff, Nat.reduceAdd, Nat.reduceMul, reduceCtorEq, Tryz.f27, hI, hs', sortH, srtR_N, tI_len, rowsN_len, show out.length ≤ 16777216 from by omega]
    exact ⟨⟨srtZ out, hL⟩, [1], by simp, by simp, by simp [rtOk], by simp [hsl]⟩
  have hI : ((0 : Int) < ((rl.length - lo : Nat) : Int)) = True := eq_true (by omega)
  obtain ⟨x0, tl, hx0⟩ : ∃ x0 tl, rl.drop lo = x0 :: tl := by
    cases h : rl.drop lo with
    | nil => have := congrArg List.length h; simp at this; omega
    | cons a b => exact ⟨a, b, rfl⟩
  try simp -dsimp (maxSteps := 1000000) only [go_sem, List.forall_mem_nil, ↓reduceIte, Nat.reduceEqDiff, Nat.reduceLT, Nat.reduceLeDiff, Nat.reduceAdd, Nat.reduceMul, reduceCtorEq, Tryz.f27, hI, rowsC_len]
  refine loop_i (ι := { x : (List Int × List Int × Nat) × Nat // x.1.2.2 ≤ x.1.2.1.length ∧ x.2 ≤ cs.length ∧ Rc cs ms.length (i : Int) x.1.1 (x.1.2.1.drop x.1.2.2) ∧ Cl cs (i : Int) x.1.1 (x.1.2.1.drop x.1.2.2) ∧ (∃ tl, x.1.2.1.drop x.1.2.2 = x0 :: tl) ∧ (∀ c ∈ cs.take x.2, c.1 = x0 → c.2 ∈ x.1.1) ∧
      (x.1.2.1.length - x.1.2.2) + out.length = (rl.length - lo) + x.1.1.length ∧ x.1.2.1.length ≤ 1 + x.1.1.length }) (fun x => ⟨[(2, some (.c (.ptr 0 0 0 0))), (6, some (.c (.view 1 1 0 x.1.1.1.length))), (7, some (.c (.view 2 1 x.1.1.2.2 (x.1.1.2.1.length - x.1.1.2.2)))), (33, some (.c (.im (.sl 2 (rowsC cs))))), (34, some (.c (.im (.int .i64 (cs.length : Int))))), (35, some (.c (.im (.int .i64 (x.1.2 : Int)))))],
    [(0, some (.box [.t (.im (.sl 11 (rowsM ms))), .t (.im (.sl 2 (rowsC cs)))])), (1, some (.arr 1 (tI (rowsN x.1.1.1)))), (2, some (.arr 1 (tI (rowsN x.1.1.2.1))))], 3⟩) (fun x => cs.length - x.1.2) ⟨((out, rl, lo), 0), hlo, by simp, hR, hC, ⟨tl, hx0⟩, by simp, rfl, hsz⟩ ⟨[], [0, 1, 2], by ((simp only [go_sem, eq_self, MvRb, MvRn, MvRt, List.nodup_cons, List.nodup_nil, ↓reduceIte, Nat.reduceEqDiff, Nat.reduceLT, Nat.reduceLeDiff, reduceCtorEq, List.forall_mem_nil, Nat.zero_le, false_implies, List.mem_singleton, MvR_Nn]) <;> (try (simp -dsimp only [go_sem, eq_self, MvRb, MvRn, MvRt, List.nodup_cons, List.nodup_nil, ↓reduceIte, Nat.reduceEqDiff, Nat.reduceLT, Nat.reduceLeDiff, reduceCtorEq, List.forall_mem_nil, Nat.zero_le, false_implies, List.mem_singleton, MvR_Nn]))) <;> simp [lk, MvB_im]⟩ (fun ⟨⟨⟨out', rl', lo'⟩, j⟩, hlo', hj, hR', hC', ⟨tl', hx'⟩, hdn, hsz', hrl'⟩ => ?_)
  simp only at hlo' hj hR' hC' hx' hdn hsz' hrl' ⊢
  have hol' := hR'.len
  have hne : 1 ≤ rl'.length - lo' := by have := congrArg List.length hx'; simp at this; omega
  by_cases hjl : j < cs.length
  case neg =>
    have hJ : ((j : Int) < (cs.length : Int)) = False := eq_false (by omega)
    have hd1 : rl'.drop (lo' + 1) = tl' := by rw [← List.drop_drop, hx']; rfl
    rw [hx'] at hR' hC'
    have hdall : ∀ c ∈ cs, c.1 = x0 → c.2 ∈ out' := by
      rw [List.take_of_length_le (by omega)] at hdn
      exact hdn
    have q1 : ((1 : Int) ≤ ((rl'.length - lo' : Nat) : Int)) = True := eq_true (by omega)
    have q2 : rl'.length - lo' - 1 = rl'.length - (lo' + 1) := by omega
    try simp -dsimp (maxSteps := 1000000) only [go_sem, List.forall_mem_nil, ↓reduceIte, Nat.reduceEqDiff, Nat.reduceLT, Nat.reduceLeDiff, Nat.reduceAdd, Nat.reduceMul, reduceCtorEq, Tryz.f27, hJ, q1, q2, Int.reduceLE, Int.reduceToNat, Int.toNat_natCast, Int.toNat_one]
    refine ⟨⟨(out', rl', lo' + 1), by simp only []; omega, by simp only []; rw [hd1]; exact hR'.tail, by simp only []; rw [hd1]; exact hC'.tail hdall, by simp only []; omega⟩, by simp only []; omega, [], [0, 1, 2], ?_⟩
    (simp only [go_sem, eq_self, MvRb, MvRn, MvRt, List.nodup_cons, List.nodup_nil, ↓reduceIte, Nat.reduceEqDiff, Nat.reduceLT, Nat.reduceLeDiff, reduceCtorEq, List.forall_mem_nil, Nat.zero_le, false_implies, List.mem_singleton, MvR_Nn])
    all_goals simp [lk, MvB_im]
  have hJ : ((j : Int) < (cs.length : Int)) = True := eq_true (by omega)
  have b0 : (0 ≤ (j : Int)) = True := eq_true (by omega)
  have hwr : IntKind.i64.wrap ((j : Int) + 1) = ((j + 1 : Nat) : Int) := by rw [wrap_id (by omega) (by omega)]; omega
  obtain ⟨⟨p, q⟩, hpq⟩ : ∃ c, cs[j]? = some c := ⟨cs[j], List.getElem?_eq_getElem hjl⟩
  have hmem := List.mem_of_getElem? hpq
  have hrow := rowsC_at hpq
  have hxr : rl'[lo']? = some x0 := by have := congrArg (fun l => l[0]?) hx'; simpa using this
  have hxt : (tI (rowsN rl'))[lo']? = some [T.im (.int .i64 x0)] := by simp [tI, rowsN, hxr]
  have q0 : ((0 : Int) < ((rl'.length - lo' : Nat) : Int)) = True := eq_true (by omega)
  have hct := run_Contains_int (l := out') (by omega) q
  have tko : List.take out'.length (tI (rowsN out')) = tI (rowsN out') := List.take_of_length_le (by rw [tI_len, rowsN_len]; omega)
  have htk := take_snoc hpq
  by_cases hp : p = x0
  case neg =>
    have hp' := eq_false hp
    try simp -dsimp (maxSteps := 1000000) only [go_sem, List.forall_mem_nil, ↓reduceIte, Nat.reduceEqDiff, Nat.reduceLT, Nat.reduceLeDiff, Nat.reduceAdd, Nat.reduceMul, reduceCtorEq, Tryz.f27, hJ, b0, hwr, hrow, hxt, q0, hp', hct, sc_Contains_int, tko, tI_toI, tI_len, rowsN_len, rowsC_len, Int.toNat_natCast, Int.toNat_zero, Nat.add_zero]
    repeat' (first
      | ((with_reducible refine sl_i ?_ ?_); focus kernel_rfl)
      | ((with_reducible refine ro_i ?_ ?_); focus kernel_rfl))
    refine ⟨⟨((out', rl', lo'), j + 1), hlo', by simp only []; omega, hR', hC', ⟨tl', hx'⟩, fun c hc h1 => ?_, hsz', hrl'⟩, by simp only []; omega, [], [0, 1, 2], ?_⟩
    · simp only at hc
      rw [htk] at hc
      rcases List.mem_append.1 hc with hc | hc
      · exact hdn c hc h1
      · simp only [List.mem_singleton] at hc
        subst hc
        exact absurd h1 hp
    · (simp only [go_sem, eq_self, MvRb, MvRn, MvRt, List.nodup_cons, List.nodup_nil, ↓reduceIte, Nat.reduceEqDiff, Nat.reduceLT, Nat.reduceLeDiff, reduceCtorEq, List.forall_mem_nil, Nat.zero_le, false_implies, List.mem_singleton, MvR_Nn])
      all_goals simp [lk, MvB_im]
  have hp' := eq_true hp
  cases hq : hasF out' q with
  | true =>
    rw [hq] at hct
    try simp -dsimp (maxSteps := 1000000) only [go_sem, List.forall_mem_nil, ↓reduceIte, Nat.reduceEqDiff, Nat.reduceLT, Nat.reduceLeDiff, Nat.reduceAdd, Nat.reduceMul, reduceCtorEq, Tryz.f27, hJ, b0, hwr, hrow, hxt, q0, hp', hct, sc_Contains_int, tko, tI_toI, tI_len, rowsN_len, rowsC_len, Int.toNat_natCast, Int.toNat_zero, Nat.add_zero, Bool.not_true]
    repeat' (first
      | ((with_reducible refine sl_i ?_ ?_); focus kernel_rfl)
      | ((with_reducible refine ro_i ?_ ?_); focus kernel_rfl))
    refine ⟨⟨((out', rl', lo'), j + 1), hlo', by simp only []; omega, hR', hC', ⟨tl', hx'⟩, fun c hc h1 => ?_, hsz', hrl'⟩, by simp only []; omega, [], [0, 1, 2], ?_⟩
    · simp only at hc
      rw [htk] at hc
      rcases List.mem_append.1 hc with hc | hc
      · exact hdn c hc h1
      · simp only [List.mem_singleton] at hc
        subst hc
        exact hasF_iff.1 hq
    · (simp only [go_sem, eq_self, MvRb, MvRn, MvRt, List.nodup_cons, List.nodup_nil, ↓reduceIte, Nat.reduceEqDiff, Nat.reduceLT, Nat.reduceLeDiff, reduceCtorEq, List.forall_mem_nil, Nat.zero_le, false_implies, List.mem_singleton, MvR_Nn])
      all_goals simp [lk, MvB_im]
  | false =>
    rw [hq] at hct
    have hno : q ∉ out' := fun h => by rw [hasF_iff.2 h] at hq; cases hq
    have hfx : p = (i : Int) ∨ p ∈ out' := by rw [hp]; exact hR'.rw x0 (by rw [hx']; simp)
    have hR2 := hR'.add hmem (rgc _ hmem) hfx hno
    have hC2 := hC'.add (k := q)
    simp only at hR2
    have hdn2 : ∀ c ∈ cs.take (j + 1), c.1 = x0 → c.2 ∈ out' ++ [q] := fun c hc h1 => by
      rw [htk] at hc
      rcases List.mem_append.1 hc with hc | hc
      · exact List.mem_append_left _ (hdn c hc h1)
      · simp only [List.mem_singleton] at hc
        subst hc
        exact List.mem_append_right _ (by simp)
    have hb1 : ((out'.length + 1) * 8 ≤ 140737488355328) = True := eq_true (by omega)
    have hb2 : ((rl'.length + 1) * 8 ≤ 140737488355328) = True := eq_true (by omega)
    have hdap : (rl' ++ [q]).drop lo' = rl'.drop lo' ++ [q] := List.drop_append_of_le_length hlo'
    have htl : ∃ t, (rl' ++ [q]).drop lo' = x0 :: t := ⟨tl' ++ [q], by rw [hdap, hx']; rfl⟩
    have hl1 : (out' ++ [q]).length = out'.length + 1 := by simp
    have hl2 : (rl' ++ [q]).length = rl'.length + 1 := by simp
    cases lo' with
    | zero =>
      have q00 : ((0 : Int) < (rl'.length : Int)) = True := eq_true (by omega)
      try simp -dsimp (maxSteps := 1000000) only [go_sem, List.forall_mem_nil, ↓reduceIte, Nat.reduceEqDiff, Nat.reduceLT, Nat.reduceLeDiff, Nat.reduceAdd, Nat.reduceMul, reduceCtorEq, Tryz.f27, hJ, b0, hwr, hrow, hxt, q0, q00, hp', hct, sc_Contains_int, tko, tI_toI, tI_len, rowsN_len, rowsC_len, tIN_app, hb1, hb2, appendH, srcRows, List.take_succ_cons, List.take_zero, List.all_cons, List.all_nil, okT, Bool.and_true, List.length_append, Nat.sub_zero, Int.toNat_natCast, Int.toNat_zero, Nat.add_zero, Bool.not_false]
      repeat' (first
        | ((with_reducible refine sl_i ?_ ?_); focus kernel_rfl)
        | ((with_reducible refine ro_i ?_ ?_); focus kernel_rfl))
      refine ⟨⟨((out' ++ [q], rl' ++ [q], 0), j + 1), by simp, by simp only []; omega, by simp only []; rw [hdap]; exact hR2, by simp only []; rw [hdap]; exact hC2, htl, hdn2, by simp only []; omega, by simp only []; omega⟩, by simp only []; omega, [], [0, 140, 180], ?_⟩
      (simp only [go_sem, eq_self, MvRb, MvRn, MvRt, List.nodup_cons, List.nodup_nil, ↓reduceIte, Nat.reduceEqDiff, Nat.reduceLT, Nat.reduceLeDiff, reduceCtorEq, List.forall_mem_nil, Nat.zero_le, false_implies, List.mem_singleton, MvR_Nn, List.length_append, Nat.sub_zero])
      all_goals simp [lk, MvB_im]
    | succ l =>
      have hsum : (rl'.length = l + 1 + (rl'.length - (l + 1))) = True := eq_true (by omega)
      try simp -dsimp (maxSteps := 1000000) only [go_sem, List.forall_mem_nil, ↓reduceIte, Nat.reduceEqDiff, Nat.reduceLT, Nat.reduceLeDiff, Nat.reduceAdd, Nat.reduceMul, reduceCtorEq, Tryz.f27, hJ, b0, hwr, hrow, hxt, q0, hp', hct, sc_Contains_int, tko, tI_toI, tI_len, tI_imT, rowsN_len, rowsC_len, tIN_app, dropN', hsum, hb1, hb2, appendT, appendH, srcRows, List.take_succ_cons, List.take_zero, List.all_cons, List.all_nil, okT, Bool.and_true, List.length_append, Int.toNat_natCast, Int.toNat_zero, Nat.add_zero, Bool.not_false]
      repeat' (first
        | ((with_reducible refine sl_i ?_ ?_); focus kernel_rfl)
        | ((with_reducible refine ro_i ?_ ?_); focus kernel_rfl))
      refine ⟨⟨by kernel_rfl, ?_⟩, ⟨by kernel_rfl, ?_⟩⟩
      · have hla : (rl'.drop (l + 1) ++ [q]).length = rl'.length - (l + 1) + 1 := by simp
        refine ⟨⟨((out' ++ [q], rl'.drop (l + 1) ++ [q], 0), j + 1), by simp, by simp only []; omega, by simpa using hR2, by simpa using hC2, ⟨tl' ++ [q], by simp [hx']⟩, hdn2, by simp only []; omega, by simp only []; omega⟩, by simp only []; omega, [], [0, 140, 180], ?_⟩
        (simp only [go_sem, eq_self, MvRb, MvRn, MvRt, List.nodup_cons, List.nodup_nil, ↓reduceIte, Nat.reduceEqDiff, Nat.reduceLT, Nat.reduceLeDiff, reduceCtorEq, List.forall_mem_nil, Nat.zero_le, false_implies, List.mem_singleton, MvR_Nn, hla, hl1, Nat.sub_zero])
        all_goals simp [lk, MvB_im]
      · have hle : rl'.length - (l + 1) + 1 = rl'.length + 1 - (l + 1) := by omega
        refine ⟨⟨((out' ++ [q], rl' ++ [q], l + 1), j + 1), by simp only []; omega, by simp only []; omega, by simp only []; rw [hdap]; exact hR2, by simp only []; rw [hdap]; exact hC2, htl, hdn2, by simp only []; omega, by simp only []; omega⟩, by simp only []; omega, [], [0, 140, 180], ?_⟩
        (simp only [go_sem, eq_self, MvRb, MvRn, MvRt, List.nodup_cons, List.nodup_nil, ↓reduceIte, Nat.reduceEqDiff, Nat.reduceLT, Nat.reduceLeDiff, reduceCtorEq, List.forall_mem_nil, Nat.zero_le, false_implies, List.mem_singleton, MvR_Nn, hl1, hl2, hle])
        all_goals simp [lk, MvB_im]
end Go.SX
set_option linter.unusedVariables false
set_option linter.unusedSimpArgs false
namespace Go.Proofs
open Go.Shelf
def Tryz.lays189_ren : Go.Shelf.Ren := ⟨fun | 189 => 57 | 125 => 102 | 257 => 101 | 128 => 144 | 129 => 145 | 294 => 135 | 295 => 136 | 296 => 137 | 297 => 138 | 298 => 139 | 299 => 140 | 216 => 141 | 300 => 142 | 301 => 143 | 328 => 155 | 329 => 156 | 330 => 157 | 331 => 158 | 332 => 159 | 215 => 160 | 343 => 166 | n => n, fun | 28 => 33 | 3 => 3 | 46 => 141 | 0 => 0 | 51 => 131 | 53 => 174 | 4 => 4 | 183 => 166 | 182 => 165 | 131 => 161 | 5 => 5 | 9 => 9 | 218 => 181 | 222 => 185 | 228 => 188 | 229 => 189 | n => n, fun | n => n⟩
theorem Tryz.lays189 : Lays.n189 Tryz.prog Tryz.lays189_ren := {
  mixed := by kernel_rfl,
  f125 := Tryz.func102.trans (congrArg some (by kernel_rfl)),
  f128 := Tryz.func144.trans (congrArg some (by kernel_rfl)),
  f129 := Tryz.func145.trans (congrArg some (by kernel_rfl)),
  f189 := Tryz.func57.trans (congrArg some (by kernel_rfl)),
  f215 := Tryz.func160.trans (congrArg some (by kernel_rfl)),
  f216 := Tryz.func141.trans (congrArg some (by kernel_rfl)),
  f257 := Tryz.func101.trans (congrArg some (by kernel_rfl)),
  f294 := Tryz.func135.trans (congrArg some (by kernel_rfl)),
  f295 := Tryz.func136.trans (congrArg some (by kernel_rfl)),
  f296 := Tryz.func137.trans (congrArg some (by kernel_rfl)),
  f297 := Tryz.func138.trans (congrArg some (by kernel_rfl)),
  f298 := Tryz.func139.trans (congrArg some (by kernel_rfl)),
  f299 := Tryz.func140.trans (congrArg some (by kernel_rfl)),
  f300 := Tryz.func142.trans (congrArg some (by kernel_rfl)),
  f301 := Tryz.func143.trans (congrArg some (by kernel_rfl)),
  f328 := Tryz.func155.trans (congrArg some (by kernel_rfl)),
  f329 := Tryz.func156.trans (congrArg some (by kernel_rfl)),
  f330 := Tryz.func157.trans (congrArg some (by kernel_rfl)),
  f331 := Tryz.func158.trans (congrArg some (by kernel_rfl)),
  f332 := Tryz.func159.trans (congrArg some (by kernel_rfl)),
  f343 := Tryz.func166.trans (congrArg some (by kernel_rfl)),
  t0 := Tryz.underlying0,
  a0 := Tryz.isAgg0,
  z0 := Tryz.sizeOf0,
  v0 := Tryz.zeroValue0,
  t3 := Tryz.underlying3,
  a3 := Tryz.isAgg3,
  z3 := Tryz.sizeOf3,
  v3 := Tryz.zeroValue3,
  t4 := Tryz.underlying4,
  a4 := Tryz.isAgg4,
  z4 := Tryz.sizeOf4,
  v4 := Tryz.zeroValue4,
  t5 := Tryz.underlying5,
  a5 := Tryz.isAgg5,
  z5 := Tryz.sizeOf5,
  v5 := Tryz.zeroValue5,
  t9 := Tryz.underlying9,
  a9 := Tryz.isAgg9,
  z9 := Tryz.sizeOf9,
  v9 := Tryz.zeroValue9,
  t28 := Tryz.underlying33,
  a28 := Tryz.isAgg33,
  z28 := Tryz.sizeOf33,
  v28 := Tryz.zeroValue33,
  t46 := Tryz.underlying141,
  a46 := Tryz.isAgg141,
  z46 := Tryz.sizeOf141,
  v46 := Tryz.zeroValue141,
  t51 := Tryz.underlying131,
  a51 := Tryz.isAgg131,
  z51 := Tryz.sizeOf131,
  v51 := Tryz.zeroValue131,
  t53 := Tryz.underlying174,
  a53 := Tryz.isAgg174,
  z53 := Tryz.sizeOf174,
  v53 := Tryz.zeroValue174,
  t131 := Tryz.underlying161,
  a131 := Tryz.isAgg161,
  z131 := Tryz.sizeOf161,
  v131 := Tryz.zeroValue161,
  t182 := Tryz.underlying165,
  a182 := Tryz.isAgg165,
  z182 := Tryz.sizeOf165,
  v182 := Tryz.zeroValue165,
  t183 := Tryz.underlying166,
  a183 := Tryz.isAgg166,
  z183 := Tryz.sizeOf166,
  v183 := Tryz.zeroValue166,
  t218 := Tryz.underlying181,
  a218 := Tryz.isAgg181,
  z218 := Tryz.sizeOf181,
  v218 := Tryz.zeroValue181,
  t222 := Tryz.underlying185,
  a222 := Tryz.isAgg185,
  z222 := Tryz.sizeOf185,
  v222 := Tryz.zeroValue185,
  t228 := Tryz.underlying188,
  a228 := Tryz.isAgg188,
  z228 := Tryz.sizeOf188,
  v228 := Tryz.zeroValue188,
  t229 := Tryz.underlying189,
  a229 := Tryz.isAgg189,
  z229 := Tryz.sizeOf189,
  v229 := Tryz.zeroValue189 }
end Go.Proofs
namespace Go.SX
open Go Go.Proofs Go.RowKit
theorem putCells_sets (cs : Array Value) (l : List Int) (h : l.length ≤ cs.size) : Go.Sort.putCells (Value.int .i64) 0 l.toArray cs = setsA cs 0 (l.map (Value.int .i64)) := by
  refine Array.ext_getElem? fun k => ?_
  simp only [Go.Sort.putCells, Array.getElem?_mapIdx]
  by_cases hk : k < l.length
  · have h1 := setsA_in (l.map (Value.int .i64)) cs 0 k (by simp; omega) (by simpa using hk)
    rw [Nat.zero_add] at h1
    rw [h1, List.getElem?_map, List.getElem?_eq_getElem hk, Array.getElem?_eq_getElem (by omega)]
    simp [hk]
  · rw [setsA_out _ _ _ _ (.inr (by simp; omega))]
    cases cs[k]? with
    | none => rfl
    | some v => simp; intro h9; omega
theorem putRow_heap {w : World} {b : Nat} {cs : Array Value} {e : TypeId} (l : List Int) (hb : w.heap[b]? = some (.cells cs e (0, 0))) (h : l.length ≤ cs.size) (n : Nat) :
    (Go.Sort.putRow (Value.int .i64) (Go.Sort.ahead w n) b 0 l.toArray).heap = (w.setRow b (setsA cs 0 (l.map (Value.int .i64)))).heap := by
  refine Array.ext_getElem? fun k => ?_
  simp only [Go.Sort.putRow, Go.Sort.mapBlock, Go.Sort.ahead]
  by_cases e : k = b
  · subst e
    rw [setRow_heap w _ cs _ _ _ hb]
    rw [Array.getElem?_modify]
    simp [hb, Go.Sort.onCells, putCells_sets cs l h]
  · rw [setRow_other w _ _ _ e]
    rw [Array.getElem?_modify, if_neg (fun h => e h.symm)]
theorem sortLaw : SortLaw Tryz.prog 57 := by
  refine ⟨⟨Tryz.f57, Tryz.func57, rfl, rfl⟩, fun p cap w => Any.slices_Sort_int_none Tryz.lays189 p cap w, fun b cs e cap zs w hb hl hs hz => ?_⟩
  have hblk : b < w.heap.size := (Array.getElem?_eq_some_iff.1 hb).1
  have hH : Go.Sort.Holds (Value.int .i64) w b 0 zs.toArray := fun j hj => by
    have hj' : j < zs.length := by simpa using hj
    have := hz j zs[j] (List.getElem?_eq_getElem hj')
    refine ⟨?_, by simp [World.frozen?, hb]⟩
    rw [Nat.zero_add]
    simp [World.cell?, hb, this, hj']
  refine (Any.slices_Sort_int Tryz.lays189 b 0 cap zs w hH hblk (by omega)).mono fun x w' ⟨he, n, os, hw⟩ => ⟨he, ?_⟩
  subst hw
  refine ⟨rfl, rfl, rfl, os, ?_⟩
  have := putRow_heap (srtZ zs) hb (by rw [srtZ_len]; exact hl) n
  simp only [Go.Sort.grow]
  rw [← this]
  rfl
end Go.SX
set_option linter.unusedVariables false
set_option linter.unusedSimpArgs false
namespace Go.SX
open Go Go.Proofs Go.RowKit
theorem run_law {l : List Int} (h : ∀ b ∈ l, 0 ≤ b ∧ b < 256) : ctLaw.run [.c (.im (.sl 1 (rowsB l)))] [] = some (.one { val := .c (.im (.bool true)) }) := by
  refine fam_run' (args := fun x : LB => ([D.c (.im (.sl 1 (rowsB x.1)))], [])) ?_ ⟨l, h⟩
  rintro ⟨a, _⟩ ⟨b, _⟩ h
  simp only [Prod.mk.injEq, List.cons.injEq, D.c.injEq, C.im.injEq, I.sl.injEq, true_and, and_true] at h
  exact Subtype.ext (rowsB_inj h)
theorem wf_u8 {n : Int} (h : (Lit.int .u8 n).wf = true) : 0 ≤ n ∧ n < 256 := by
  simp only [Lit.wf, Bool.and_eq_true, decide_eq_true_eq] at h
  obtain ⟨h1, h2⟩ := h
  have e1 : IntKind.u8.min = 0 := by decide
  have e2 : IntKind.u8.max = 255 := by decide
  omega
theorem row_IR {w : World} {a : Option Addr} {len cap : Nat} {zs : List Int}
    (h : (a = none ∧ len = 0 ∧ cap = 0 ∧ zs = []) ∨
      ∃ x, a = some x ∧ len ≤ cap ∧ cap ≤ maxLen ∧ zs.length = cap ∧ (∀ i, i < zs.length → w.cell? (x.add i) = some (.int .u8 (zs.getD i 0))) ∧ ∀ n ∈ zs, (Lit.int .u8 n).wf = true) :
    ∃ l : List Int, (∀ b ∈ l, 0 ≤ b ∧ b < 256) ∧ IR (stayG w).fz (.sl 1 (rowsB l)) (.slice a len cap) := by
  rcases h with ⟨rfl, rfl, rfl, rfl⟩ | ⟨x, rfl, hl, hm, hz, hx, hw⟩
  · exact ⟨[], by simp, .sl0 _ _ _⟩
  · by_cases h0 : len = 0
    · subst h0; exact ⟨[], by simp, .sl0 _ _ _⟩
    · have hlen : (zs.take len).length = len := by rw [List.length_take]; omega
      refine ⟨zs.take len, fun b hb => wf_u8 (hw b (List.mem_of_mem_take hb)), ?_⟩
      have hspot : x.spot = none := by
        have := hx 0 (by omega)
        simp only [Addr.add, if_true] at this
        unfold World.cell? at this
        split at this
        · split at this
          · cases this
          · rename_i hs; simpa using hs
        · cases this
      obtain ⟨b, o, s⟩ := x
      simp only at hspot
      subst hspot
      have key : ∀ (i : Nat) (r : List I) (j : Nat) (y : I), (rowsB (zs.take len))[i]? = some r → r[j]? = some y → ∃ v, (stayG w).fz b (o + i * 1 + j) = some v ∧ IR (stayG w).fz y v := by
        intro i r j y hr hy
        simp only [rowsB, List.getElem?_map, Option.map_eq_some_iff] at hr
        obtain ⟨p, hp, rfl⟩ := hr
        have hi : i < len := by have := (List.getElem?_eq_some_iff.1 hp).1; omega
        have h1 := hx i (by omega)
        rw [Go.SX.add_plain] at h1
        rw [List.getElem?_take_of_lt hi] at hp
        have hg : zs.getD i 0 = p := by rw [List.getD_eq_getElem?_getD, hp]; rfl
        rw [hg] at h1
        match j, hy with
        | 0, hy => simp at hy; subst hy; exact ⟨_, by rw [Nat.mul_one, Nat.add_zero]; exact h1, .int _ _⟩
        | j + 1, hy => simp at hy
      obtain ⟨vs, hvs⟩ := rows_choose key
      have := IR.sl (fz := (stayG w).fz) 1 (rowsB (zs.take len)) b o cap vs (by rw [rowsB_len, hlen]; exact hl) (fun i r hr => by
        simp only [rowsB, List.getElem?_map, Option.map_eq_some_iff] at hr
        obtain ⟨p, _, rfl⟩ := hr; rfl) (fun i r j y h1 h2 => (hvs i r j y h1 h2).1) (fun i r j y h1 h2 => (hvs i r j y h1 h2).2)
      rw [rowsB_len, hlen] at this
      exact this
theorem law_walk {P : Program} {f : FuncId} (hL : Law P f ctLaw) {w : World} {a : Option Addr} {len cap : Nat} {zs : List Int}
    (h : (a = none ∧ len = 0 ∧ cap = 0 ∧ zs = []) ∨
      ∃ x, a = some x ∧ len ≤ cap ∧ cap ≤ maxLen ∧ zs.length = cap ∧ (∀ i, i < zs.length → w.cell? (x.add i) = some (.int .u8 (zs.getD i 0))) ∧ ∀ n ∈ zs, (Lit.int .u8 n).wf = true) :
    Calls P f #[.slice a len cap] w fun e w' => e = .returned (.bool true) ∧ Below w.heap.size w w' := by
  obtain ⟨l, hl, hir⟩ := row_IR h
  refine (law_calls hL (ds := [.c (.im (.sl 1 (rowsB l)))]) (args := [.slice a len cap]) (i := .bool true) rfl w (run_law hl) rfl (fun t d v hd hv => ?_)).mono fun e w' ⟨v, he, hv, hb⟩ => ?_
  · cases t with
    | zero => simp at hd hv; subst hd; subst hv; exact .c _ _ (.im _ _ hir)
    | succ t => simp at hd
  · rw [hv.bool_inv] at he; exact ⟨he, hb⟩
end Go.SX
set_option linter.unusedVariables false
set_option linter.unusedSimpArgs false
namespace Go.SX
open Go Go.Proofs
theorem plc_from : ∀ (l : List Int) (v : Int) (j : Nat), idxF (fun y => decide (y = v)) l j = if v ∈ l then ((j + l.idxOf v : Nat) : Int) else -1
  | [], v, j => by simp [idxF]
  | a :: l, v, j => by
    simp only [idxF, decide_eq_true_eq]
    by_cases e : a = v
    · subst e; simp
    · rw [if_neg e, plc_from l v (j + 1)]
      by_cases hm : v ∈ l
      · have h2 : (a :: l).idxOf v = l.idxOf v + 1 := by simp [List.idxOf_cons, beq_false_of_ne e]
        rw [if_pos hm, if_pos (List.mem_cons_of_mem _ hm), h2]
        congr 1; omega
      · rw [if_neg hm, if_neg (by simp [hm, Ne.symm e])]
theorem plcF_in {l : List Int} {v : Int} (h : v ∈ l) : plcF l v = (l.idxOf v : Int) := by
  rw [plcF, plc_from, if_pos h, Nat.zero_add]
theorem plcF_out {l : List Int} {v : Int} (h : v ∉ l) : plcF l v = -1 := by
  rw [plcF, plc_from, if_neg h]
theorem ord_facts {ms : List Mod} {cs : List Cbl} (r : isRackF ms cs = true) {L : List Int} (hL : orderF ms cs = some L) :
    L.length = ms.length ∧ ∀ c ∈ cs, c.1 ∈ L ∧ c.2 ∈ L ∧ (L.idxOf c.2 ≤ L.idxOf c.1 → kindOf ms c.1 = 4) := by
  obtain ⟨p1, p2, pm, pc, po⟩ := isRack_parts.1 r
  have ht := orderGo_topo _ [] L (fun i hi => by cases hi) hL
  have hlen := orderGo_len _ [] L hL
  have e : ordL ms cs = L := by simp [ordL, hL]
  have mem : ∀ x : Int, 0 ≤ x → x < (ms.length : Int) → x ∈ L := fun x h0 h1 => by
    have hm := ord_all po (n := x.toNat) (by omega)
    rwa [Int.toNat_of_nonneg h0, e] at hm
  refine ⟨by simpa using hlen, fun c hc => ?_⟩
  obtain ⟨a1, a2, b1, b2⟩ := pc c hc
  refine ⟨mem _ a1 a2, mem _ b1 b2, fun h => ?_⟩
  apply Classical.byContradiction
  intro h4
  have := (ht c.2 (mem _ b1 b2) c hc rfl h4).2
  omega
inductive Rb (cs : List Cbl) (i : Int) : Int → Prop where
  | one (c : Cbl) (h : c ∈ cs) (e : c.1 = i) : Rb cs i c.2
  | more (c : Cbl) (h : c ∈ cs) (e : Rb cs i c.1) : Rb cs i c.2
theorem ne_rch {ms : List Mod} {cs : List Cbl} (r : isRackF ms cs = true) (i : Nat) : Nonempty { L : List Int // Rch cs ms.length (i : Int) L } = True := by
  obtain ⟨p1, p2, pm, pc, po⟩ := isRack_parts.1 r
  simp only [eq_iff_iff, iff_true]
  classical
  have mem : ∀ x : Int, x ∈ ((List.range ms.length).map (fun k : Nat => (k : Int))).filter (fun x => decide (Rb cs (i : Int) x)) ↔ (0 ≤ x ∧ x < (ms.length : Int)) ∧ Rb cs (i : Int) x := fun x => by
    simp only [List.mem_filter, List.mem_map, List.mem_range, decide_eq_true_eq]
    refine and_congr_left fun _ => ⟨?_, fun h => ⟨x.toNat, by omega, by omega⟩⟩
    rintro ⟨k, h1, rfl⟩
    omega
  refine ⟨⟨((List.range ms.length).map (fun k : Nat => (k : Int))).filter (fun x => decide (Rb cs (i : Int) x)), ?_, fun x hx => ((mem x).1 hx).1, fun c hc hp => ?_, fun k hk => ?_⟩⟩
  · refine Nat.le_trans (List.length_filter_le _ _) ?_
    simp
  · rw [mem]
    refine ⟨(pc c hc).2.2, ?_⟩
    rcases hp with hp | hp
    · exact .one c hc hp
    · exact .more c hc ((mem _).1 hp).2
  · have := ((mem k).1 hk).2
    cases this with
    | one c h e => exact ⟨c, h, rfl, .inl e⟩
    | more c h e => exact ⟨c, h, rfl, .inr ((mem _).2 ⟨⟨(pc c h).1, (pc c h).2.1⟩, e⟩)⟩
theorem any_snoc {α : Type} {f : α → Bool} {l : List α} {k : Nat} {x : α} (h : l[k]? = some x) : (l.take (k + 1)).any f = ((l.take k).any f || f x) := by
  rw [take_snoc h, List.any_append]; simp
theorem sum_snoc {gs : List (List Int)} {k : Nat} {g : List Int} (h : gs[k]? = some g) : ((gs.take (k + 1)).map List.length).sum = ((gs.take k).map List.length).sum + g.length := by
  rw [take_snoc h]; simp
theorem sum_le : ∀ (l : List Nat) (k : Nat), (l.take k).sum ≤ l.sum
  | [], k => by simp
  | a :: l, 0 => by simp
  | a :: l, k + 1 => by
    have := sum_le l k
    simp only [List.take_succ_cons, List.sum_cons]; omega
theorem setG_map {gs : List (List Int)} {k n : Nat} (f : Nat → Nat) (hf : f 2 = 2) : List.map (fun r => List.map (mapTt f) r) ((tG gs).set k [T.lent 2 1 n]) = (tG gs).set k [T.lent 2 1 n] := by
  rw [List.map_set]
  congr 1
  · refine List.ext_getElem? fun j => ?_
    simp only [List.getElem?_map, tG]
    cases gs[j]? with
    | none => rfl
    | some g => rfl
  · simp [mapTt, hf]
theorem setG_nm {gs : List (List Int)} {k n : Nat} {H : Nat → Option Root} (h : (H 2).isSome = true) : ∀ r ∈ (tG gs).set k [T.lent 2 1 n], ∀ t ∈ r, NmT H t := by
  intro r hr t ht
  rcases List.mem_or_eq_of_mem_set hr with h1 | rfl
  · have hm := mvR_tG (sc := false) (sz := 1) gs r h1 t ht
    simp only [tG, List.mem_map] at h1
    obtain ⟨g', _, rfl⟩ := h1
    simp only [List.mem_singleton] at ht
    subst ht
    cases hm with
    | own _ _ h2 => exact h2
  · simp only [List.mem_singleton] at ht
    subst ht
    exact h
theorem plcF_t {l : List Int} {v : Int} (h : v ∈ l) : (plcF l v < 0) = False := by rw [plcF_in h]; exact eq_false (by omega)
theorem plcF_ge {l : List Int} {v : Int} (h : v ∈ l) : (0 ≤ plcF l v) = True := by rw [plcF_in h]; exact eq_true (by omega)
theorem plcF_no {l : List Int} {v : Int} (h : v ∉ l) : (0 ≤ plcF l v) = False := by rw [plcF_out h]; exact eq_false (by omega)
set_option maxRecDepth 100000 in
set_option maxHeartbeats 40000000 in
theorem law_FnOrder : Law Tryz.prog 5 ctLaw := by
  refine fam_law (Env_cons law_MakeRack (Env_cons law_at (Env_cons law_OrderOf (Env_cons law_lplace (Env_cons law_JacksOf (Env_cons law_FeedsOf (Env_cons law_ints (Env_cons (law_ReachOf sortLaw) Env_nil)))))))) hmixA Tryz.func5 rfl rfl (fun ⟨l, hb⟩ => ⟨okO_im rfl, by simp [Tryz.f5], ?_⟩)
  simp only
  by_cases hbig : 1048576 < l.length
  · have hI : ((1048576 : Int) < (l.length : Int)) = True := eq_true (by omega)
    clear hbig
    try simp -dsimp (maxSteps := 1000000) only [go_sem, List.forall_mem_nil, ↓reduceIte, Nat.reduceEqDiff, Nat.reduceLT, Nat.reduceLeDiff, Nat.reduceAdd, Nat.reduceMul, reduceCtorEq, Tryz.f5, rowsB_len, hI]
  have hlen : l.length ≤ 1048576 := by omega
  have hI : ((1048576 : Int) < (l.length : Int)) = False := eq_false (by omega)
  have hsm : sm = 16777216 := rfl
  have rk : ct_MakeRack.run [.c (.im (.sl 1 (rowsB l))), .c (.im (.int .i64 8))] [] = some (oMk 8) := run_MakeRack hlen hb (n := 8) (by omega)
  try simp -dsimp (maxSteps := 1000000) only [go_sem, List.forall_mem_nil, ↓reduceIte, Nat.reduceEqDiff, Nat.reduceLT, Nat.reduceLeDiff, Nat.reduceAdd, Nat.reduceMul, reduceCtorEq, Tryz.f5, rowsB_len, hI, rk, oMk, ne_omk]
  rintro ⟨⟨ms, cs⟩, hG, l1, l2⟩
  simp only at hG l1 l2
  have hokm : ∀ x ∈ ms, OkM x := fun x hx => (hG.dr x hx).ok
  have hrk := hG.rk
  obtain ⟨p1, p2, pm, pc, po⟩ := isRack_parts.1 hrk
  obtain ⟨L, hL⟩ := Option.isSome_iff_exists.1 po
  obtain ⟨lL, hLc⟩ := ord_facts hrk hL
  have ro := run_OrderOf hokm hrk
  rw [hL] at ro
  simp only [oOrder] at ro
  have hne : ((L.length : Int) = (ms.length : Int)) = True := eq_true (by omega)
  try simp -dsimp (maxSteps := 1000000) only [go_sem, List.forall_mem_nil, ↓reduceIte, Nat.reduceEqDiff, Nat.reduceLT, Nat.reduceLeDiff, Nat.reduceAdd, Nat.reduceMul, reduceCtorEq, Tryz.f5, ro, rowsM_len, rowsC_len, hne, Bool.not_true, Bool.or_self, not_true_eq_false]
  have tk : ∀ x : List Int, List.take x.length (tI (rowsN x)) = tI (rowsN x) := fun x => List.take_of_length_le (by rw [tI_len, rowsN_len]; omega)
  refine loop_i (ι := { k : Nat // k ≤ cs.length }) (fun k => ⟨[(0, some (.c (.im (.sl 1 (rowsB l))))), (3, some (.c (.ptr 0 0 0 0))), (4, some (.c (.view 1 1 0 L.length))), (52, some (.c (.im (.sl 2 (rowsC cs))))), (53, some (.c (.im (.int .i64 (cs.length : Int))))), (54, some (.c (.im (.int .i64 (k.1 : Int)))))],
    [(0, some (.box [.t (.im (.sl 11 (rowsM ms))), .t (.im (.sl 2 (rowsC cs)))])), (1, some (.arr 1 (tI (rowsN L))))], 2⟩) (fun k => cs.length - k.1) ⟨0, by simp⟩ ⟨[], [0, 1], by ((simp only [go_sem, eq_self, MvRb, MvRn, MvRt, List.nodup_cons, List.nodup_nil, ↓reduceIte, Nat.reduceEqDiff, Nat.reduceLT, Nat.reduceLeDiff, reduceCtorEq, List.forall_mem_nil, Nat.zero_le, false_implies, List.mem_singleton, MvR_Nn]) <;> (try (simp -dsimp only [go_sem, eq_self, MvRb, MvRn, MvRt, List.nodup_cons, List.nodup_nil, ↓reduceIte, Nat.reduceEqDiff, Nat.reduceLT, Nat.reduceLeDiff, reduceCtorEq, List.forall_mem_nil, Nat.zero_le, false_implies, List.mem_singleton, MvR_Nn]))) <;> simp [lk, MvB_im]⟩ (fun ⟨k, hk⟩ => ?_)
  simp only
  by_cases hkl : k < cs.length
  · have hK : ((k : Int) < (cs.length : Int)) = True := eq_true (by omega)
    have b0 : (0 ≤ (k : Int)) = True := eq_true (by omega)
    have hwr : IntKind.i64.wrap ((k : Int) + 1) = ((k + 1 : Nat) : Int) := by rw [wrap_id (by omega) (by omega)]; omega
    obtain ⟨⟨p, q⟩, hpq⟩ : ∃ c, cs[k]? = some c := ⟨cs[k], List.getElem?_eq_getElem hkl⟩
    have hmem := List.mem_of_getElem? hpq
    have hrow := rowsC_at hpq
    obtain ⟨hp, hq, h4⟩ := hLc _ hmem
    simp only at hp hq h4
    obtain ⟨a1, a2, _, _⟩ := pc _ hmem
    simp only at a1 a2
    obtain ⟨pn, rfl⟩ : ∃ n : Nat, p = (n : Int) := ⟨p.toNat, by omega⟩
    have rp1 := run_lplace (l := L) (by omega) (pn : Int)
    have rp2 := run_lplace (l := L) (by omega) q
    rw [plcF_in hp] at rp1
    rw [plcF_in hq] at rp2
    generalize ha : L.idxOf (pn : Int) = a at *
    generalize hb' : L.idxOf q = b at *
    have n1 : ((a : Int) < 0) = False := eq_false (by omega)
    have n2 : ((b : Int) < 0) = False := eq_false (by omega)
    by_cases hab : b ≤ a
    · have hab' : ((b : Int) ≤ (a : Int)) = True := eq_true (by omega)
      have c0 : (0 ≤ (pn : Int)) = True := eq_true (by omega)
      have c1 : ((pn : Int) < (ms.length : Int)) = True := eq_true a2
      obtain ⟨m, hm⟩ : ∃ m, ms[pn]? = some m := ⟨ms[pn]'(by omega), List.getElem?_eq_getElem (by omega)⟩
      have hkd := h4 hab
      simp only [kindOf, Int.toNat_natCast, hm] at hkd
      have hrm := rowsM_at hm
      obtain ⟨kd, ⟨t1, t2⟩, ⟨s1, s2⟩, lv, st, ra, rc, pts, lab, c, lf⟩ := m
      simp only at hkd
      subst hkd
      simp only [modC] at hrm
      try simp -dsimp (maxSteps := 1000000) only [go_sem, List.forall_mem_nil, ↓reduceIte, Nat.reduceEqDiff, Nat.reduceLT, Nat.reduceLeDiff, Nat.reduceAdd, Nat.reduceMul, reduceCtorEq, Tryz.f5, hK, b0, hwr, hrow, rp1, rp2, sc_lplace, tk, tI_toI, tI_len, rowsN_len, rowsC_len, rowsM_len, n1, n2, hab', c0, c1, hrm, Int.toNat_natCast, Bool.or_self, Bool.not_true, not_true_eq_false]
      exact ⟨⟨k + 1, by omega⟩, by simp only []; omega, [], [0, 1], by (simp only [go_sem, eq_self, MvRb, MvRn, MvRt, List.nodup_cons, List.nodup_nil, ↓reduceIte, Nat.reduceEqDiff, Nat.reduceLT, Nat.reduceLeDiff, reduceCtorEq, List.forall_mem_nil, Nat.zero_le, false_implies, List.mem_singleton, MvR_Nn]) <;> simp [lk, MvB_im]⟩
    · have hab' : ((b : Int) ≤ (a : Int)) = False := eq_false (by omega)
      try simp -dsimp (maxSteps := 1000000) only [go_sem, List.forall_mem_nil, ↓reduceIte, Nat.reduceEqDiff, Nat.reduceLT, Nat.reduceLeDiff, Nat.reduceAdd, Nat.reduceMul, reduceCtorEq, Tryz.f5, hK, b0, hwr, hrow, rp1, rp2, sc_lplace, tk, tI_toI, tI_len, rowsN_len, rowsC_len, n1, n2, hab', Int.toNat_natCast, Bool.or_self, Bool.not_true, not_true_eq_false]
      exact ⟨⟨k + 1, by omega⟩, by simp only []; omega, [], [0, 1], by (simp only [go_sem, eq_self, MvRb, MvRn, MvRt, List.nodup_cons, List.nodup_nil, ↓reduceIte, Nat.reduceEqDiff, Nat.reduceLT, Nat.reduceLeDiff, reduceCtorEq, List.forall_mem_nil, Nat.zero_le, false_implies, List.mem_singleton, MvR_Nn]) <;> simp [lk, MvB_im]⟩
  have hK : ((k : Int) < (cs.length : Int)) = False := eq_false (by omega)
  have rj := run_JacksOf hokm hrk
  simp only [oJk] at rj
  try simp -dsimp (maxSteps := 1000000) only [go_sem, List.forall_mem_nil, ↓reduceIte, Nat.reduceEqDiff, Nat.reduceLT, Nat.reduceLeDiff, Nat.reduceAdd, Nat.reduceMul, reduceCtorEq, Tryz.f5, hK, rj, ne_jk]
  rintro ⟨gs, hJ⟩
  try simp -dsimp (maxSteps := 1000000) only [go_sem, List.forall_mem_nil, ↓reduceIte, Nat.reduceEqDiff, Nat.reduceLT, Nat.reduceLeDiff, Nat.reduceAdd, Nat.reduceMul, reduceCtorEq, Tryz.f5]
  have hsum := hJ.sum
  have hall : ((gs.take gs.length).map List.length).sum = ms.length := by rw [List.take_length]; exact hsum
  have hpart : ∀ k, ((gs.take k).map List.length).sum ≤ ms.length := fun k => by
    have := sum_le (gs.map List.length) k
    rw [← List.map_take] at this; omega
  have hgl2 : gs.length ≤ ms.length := hJ.le
  clear hLc hL ro hne rk
  refine loop_i (ι := { k : Nat // k ≤ gs.length }) (fun k => ⟨[(0, some (.c (.im (.sl 1 (rowsB l))))), (3, some (.c (.ptr 0 0 0 0))), (10, some (.c (.im (.int .i64 ((((gs.take k.1).map List.length).sum : Nat) : Int))))), (89, some (.c (.view 1 1 0 gs.length))), (90, some (.c (.im (.int .i64 (gs.length : Int))))), (91, some (.c (.im (.int .i64 (k.1 : Int)))))],
    [(0, some (.box [.t (.im (.sl 11 (rowsM ms))), .t (.im (.sl 2 (rowsC cs)))])), (1, some (.arr 1 (tG gs)))], 2⟩) (fun k => gs.length - k.1) ⟨0, by simp⟩ ⟨[], [0, 2], by ((simp only [go_sem, eq_self, MvRb, MvRn, MvRt, List.nodup_cons, List.nodup_nil, ↓reduceIte, Nat.reduceEqDiff, Nat.reduceLT, Nat.reduceLeDiff, reduceCtorEq, List.forall_mem_nil, Nat.zero_le, false_implies, List.mem_singleton, MvR_G, List.take_zero, List.map_nil, List.sum_nil]) <;> (try (simp -dsimp only [go_sem, eq_self, MvRb, MvRn, MvRt, List.nodup_cons, List.nodup_nil, ↓reduceIte, Nat.reduceEqDiff, Nat.reduceLT, Nat.reduceLeDiff, reduceCtorEq, List.forall_mem_nil, Nat.zero_le, false_implies, List.mem_singleton, MvR_G, List.take_zero, List.map_nil, List.sum_nil]))) <;> simp [lk, MvB_im]⟩ (fun ⟨k, hk⟩ => ?_)
  simp only
  by_cases hkl : k < gs.length
  · have hK : ((k : Int) < (gs.length : Int)) = True := eq_true (by omega)
    have b0 : (0 ≤ (k : Int)) = True := eq_true (by omega)
    have hwr : IntKind.i64.wrap ((k : Int) + 1) = ((k + 1 : Nat) : Int) := by rw [wrap_id (by omega) (by omega)]; omega
    obtain ⟨g, hg⟩ : ∃ g, gs[k]? = some g := ⟨gs[k], List.getElem?_eq_getElem hkl⟩
    have hgt : (tG gs)[k]? = some [T.own 1 (tI (rowsN g))] := by simp [tG, hg]
    obtain ⟨g1, g2, g3⟩ := hJ.gr g (List.mem_of_getElem? hg)
    have hgs : ∀ x, ((tG gs).set k x)[k]? = some x := fun x => List.getElem?_set_self (by rw [tG_len]; exact hkl)
    have hss : ∀ x y, ((tG gs).set k x).set k y = (tG gs).set k y := fun x y => by rw [List.set_set]
    have hback : (tG gs).set k [T.own 1 (tI (rowsN g))] = tG gs := by
      refine List.ext_getElem? fun j => ?_
      by_cases e : k = j
      · subst e; rw [hgs, hgt]
      · rw [List.getElem?_set_ne e]
    have hM := hpart (k + 1)
    rw [sum_snoc hg] at hM
    generalize hMe : ((gs.take k).map List.length).sum = M at *
    have hsn := sum_snoc hg
    rw [hMe] at hsn
    try simp -dsimp (maxSteps := 1000000) only [go_sem, List.forall_mem_nil, ↓reduceIte, Nat.reduceEqDiff, Nat.reduceLT, Nat.reduceLeDiff, Nat.reduceAdd, Nat.reduceMul, reduceCtorEq, Tryz.f5, hK, b0, hgt, hgs, hss, tG_len, tI_len, rowsN_len, Int.toNat_natCast]
    refine loop_i (ι := { j : Nat // j ≤ g.length }) (fun j => ⟨[(0, some (.c (.im (.sl 1 (rowsB l))))), (3, some (.c (.ptr 0 0 0 0))), (10, some (.c (.im (.int .i64 ((M + j.1 : Nat) : Int))))), (12, some (.c (.view 2 1 0 g.length))), (89, some (.c (.view 1 1 0 gs.length))), (90, some (.c (.im (.int .i64 (gs.length : Int))))), (91, some (.c (.im (.int .i64 (k : Int))))), (95, some (.c (.view 2 1 0 g.length))), (96, some (.c (.im (.int .i64 (g.length : Int))))), (97, some (.c (.im (.int .i64 (j.1 : Int)))))],
      [(0, some (.box [.t (.im (.sl 11 (rowsM ms))), .t (.im (.sl 2 (rowsC cs)))])), (1, some (.arr 1 ((tG gs).set k [.lent 2 1 g.length]))), (2, some (.arr 1 (tI (rowsN g))))], 3⟩) (fun j => g.length - j.1) ⟨0, by simp⟩ ⟨[], [0, 1, 2], ?sub1⟩ (fun ⟨j, hj⟩ => ?_)
    case sub1 =>
      ((simp only [go_sem, eq_self, MvRb, MvRn, MvRt, List.nodup_cons, List.nodup_nil, ↓reduceIte, Nat.reduceEqDiff, Nat.reduceLT, Nat.reduceLeDiff, reduceCtorEq, List.forall_mem_nil, Nat.zero_le, false_implies, List.mem_singleton, MvR_Nn, MvR_G]) <;> (try (simp -dsimp only [go_sem, eq_self, MvRb, MvRn, MvRt, List.nodup_cons, List.nodup_nil, ↓reduceIte, Nat.reduceEqDiff, Nat.reduceLT, Nat.reduceLeDiff, reduceCtorEq, List.forall_mem_nil, Nat.zero_le, false_implies, List.mem_singleton, MvR_Nn, MvR_G])))
      exact ⟨rfl, .inr ⟨(congrArg (Root.arr 1) (setG_map _ rfl)).symm, setG_nm (H := lk [(0, some (.box [.t (.im (.sl 11 (rowsM ms))), .t (.im (.sl 2 (rowsC cs)))])), (1, some (.arr 1 ((tG gs).set k [.lent 2 1 g.length]))), (2, some (.arr 1 (tI (rowsN g))))]) rfl⟩⟩
    simp only
    by_cases hjl : j < g.length
    · have hJ2 : ((j : Int) < (g.length : Int)) = True := eq_true (by omega)
      have c0 : (0 ≤ (j : Int)) = True := eq_true (by omega)
      have c1 : ((0 : Int) < (g.length : Int)) = True := eq_true (by omega)
      have hwj : IntKind.i64.wrap ((j : Int) + 1) = ((j + 1 : Nat) : Int) := by rw [wrap_id (by omega) (by omega)]; omega
      have hwM : IntKind.i64.wrap (((M + j : Nat) : Int) + 1) = ((M + (j + 1) : Nat) : Int) := by rw [wrap_id (by omega) (by omega)]; omega
      obtain ⟨x0, hx0⟩ : ∃ x, g[0]? = some x := ⟨g[0], List.getElem?_eq_getElem (by omega)⟩
      obtain ⟨x, hx⟩ : ∃ x, g[j]? = some x := ⟨g[j], List.getElem?_eq_getElem hjl⟩
      obtain ⟨u1, u2, u3⟩ := g3 x (List.mem_of_getElem? hx)
      obtain ⟨v1, v2, v3⟩ := g3 x0 (List.mem_of_getElem? hx0)
      have e0 : feedsF cs x = feedsF cs x0 := u3.trans v3.symm
      obtain ⟨xn, rfl⟩ : ∃ n : Nat, x = (n : Int) := ⟨x.toNat, by omega⟩
      obtain ⟨yn, rfl⟩ : ∃ n : Nat, x0 = (n : Int) := ⟨x0.toNat, by omega⟩
      have hg0 : (tI (rowsN g))[0]? = some [T.im (.int .i64 (yn : Int))] := by simp [tI, rowsN, hx0]
      have hgj : (tI (rowsN g))[j]? = some [T.im (.int .i64 (xn : Int))] := by simp [tI, rowsN, hx]
      have rf0 := run_FeedsOf (i := yn) hokm hrk (by omega)
      have rf1 := run_FeedsOf (i := xn) hokm hrk (by omega)
      simp only [rFe, e0] at rf0 rf1
      have hfl : (feedsF cs (yn : Int)).length ≤ sm := by have := feeds_le cs (yn : Int); omega
      have ri := run_ints hfl
      have tkf : List.take (feedsF cs (yn : Int)).length (tI (rowsN (feedsF cs (yn : Int)))) = tI (rowsN (feedsF cs (yn : Int))) := tk _
      generalize feedsF cs (yn : Int) = F at *
      try simp -dsimp (maxSteps := 1000000) only [go_sem, List.forall_mem_nil, ↓reduceIte, Nat.reduceEqDiff, Nat.reduceLT, Nat.reduceLeDiff, Nat.reduceAdd, Nat.reduceMul, reduceCtorEq, Tryz.f5, hJ2, c0, c1, hwj, hwM, hg0, hgj, rf0, rf1, ri, sc_ints, tkf, tI_toI, tI_len, rowsN_len, Int.toNat_natCast, Int.toNat_zero, Bool.or_self, Bool.not_true, not_true_eq_false]
      repeat' (first
        | ((with_reducible refine sl_i ?_ ?_); focus kernel_rfl)
        | ((with_reducible refine ro_i ?_ ?_); focus kernel_rfl))
      refine ⟨⟨j + 1, by omega⟩, by simp only []; omega, [], [0, 1, 2], ?_⟩
      ((simp only [go_sem, eq_self, MvRb, MvRn, MvRt, List.nodup_cons, List.nodup_nil, ↓reduceIte, Nat.reduceEqDiff, Nat.reduceLT, Nat.reduceLeDiff, reduceCtorEq, List.forall_mem_nil, Nat.zero_le, false_implies, List.mem_singleton, MvR_Nn, MvR_G]) <;> (try (simp -dsimp only [go_sem, eq_self, MvRb, MvRn, MvRt, List.nodup_cons, List.nodup_nil, ↓reduceIte, Nat.reduceEqDiff, Nat.reduceLT, Nat.reduceLeDiff, reduceCtorEq, List.forall_mem_nil, Nat.zero_le, false_implies, List.mem_singleton, MvR_Nn, MvR_G])))
      exact .inr ⟨(congrArg (Root.arr 1) (setG_map _ rfl)).symm, setG_nm (H := lk [(0, some (.box [.t (.im (.sl 11 (rowsM ms))), .t (.im (.sl 2 (rowsC cs)))])), (1, some (.arr 1 ((tG gs).set k [.lent 2 1 g.length]))), (2, some (.arr 1 (tI (rowsN g))))]) rfl⟩
    have hJ2 : ((j : Int) < (g.length : Int)) = False := eq_false (by omega)
    have hje : j = g.length := by omega
    subst hje
    try simp -dsimp (maxSteps := 1000000) only [go_sem, List.forall_mem_nil, ↓reduceIte, Nat.reduceEqDiff, Nat.reduceLT, Nat.reduceLeDiff, Nat.reduceAdd, Nat.reduceMul, reduceCtorEq, Tryz.f5, hJ2, hwr]
    refine ⟨⟨k + 1, by omega⟩, by simp only []; omega, [.fold 1 k 0], [0, 1], ?_⟩
    (simp only [go_sem, eq_self, MvRb, MvRn, MvRt, List.nodup_cons, List.nodup_nil, ↓reduceIte, Nat.reduceEqDiff, Nat.reduceLT, Nat.reduceLeDiff, reduceCtorEq, List.forall_mem_nil, Nat.zero_le, false_implies, List.mem_singleton, Option.map_some, hgs, hss, hback, hsn, MvR_G, tG_len, tI_len, rowsN_len, List.length_set])
    all_goals simp [lk, MvB_im]
  have hK : ((k : Int) < (gs.length : Int)) = False := eq_false (by omega)
  have hke : k = gs.length := by omega
  subst hke
  rw [hall]
  obtain ⟨i, hi, mi⟩ := at_mod hb 1 ms.length (by omega)
  have r1 : ct_at.run [.c (.im (.sl 1 (rowsB l))), .c (.im (.int .i64 1))] [] = some (.one { val := .c (.im (.int .i64 (atF l 1))) }) := run_at hlen hb (i := 1) (by omega)
  have nl : ((ms.length : Int) = 0) = False := eq_false (by omega)
  have rr := run_ReachOf (i := i) hokm hrk mi
  simp only [oRch] at rr
  try simp -dsimp (maxSteps := 1000000) only [go_sem, List.forall_mem_nil, ↓reduceIte, Nat.reduceEqDiff, Nat.reduceLT, Nat.reduceLeDiff, Nat.reduceAdd, Nat.reduceMul, reduceCtorEq, Tryz.f5, hK, r1, hi, nl, rr, ne_rch hrk, rowsM_len, rowsC_len]
  repeat' (first
    | ((with_reducible refine sl_i ?_ ?_); focus kernel_rfl)
    | ((with_reducible refine ro_i ?_ ?_); focus kernel_rfl))
  rintro ⟨R, hR⟩
  try simp -dsimp (maxSteps := 1000000) only [go_sem, List.forall_mem_nil, ↓reduceIte, Nat.reduceEqDiff, Nat.reduceLT, Nat.reduceLeDiff, Nat.reduceAdd, Nat.reduceMul, reduceCtorEq, Tryz.f5, r1, hi, nl, rowsM_len, rowsC_len]
  have hRl := hR.len
  have b1R : R.length ≤ sm := by omega
  refine loop_i (ι := { k : Nat // k ≤ cs.length }) (fun k => ⟨[(3, some (.c (.ptr 0 0 0 0))), (10, some (.c (.im (.int .i64 (ms.length : Int))))), (19, some (.c (.im (.int .i64 (i : Int))))), (20, some (.c (.view 1 1 0 R.length))), (21, some (.c (.im (.bool true)))), (144, some (.c (.im (.sl 2 (rowsC cs))))), (145, some (.c (.im (.int .i64 (cs.length : Int))))), (146, some (.c (.im (.int .i64 (k.1 : Int)))))],
    [(0, some (.box [.t (.im (.sl 11 (rowsM ms))), .t (.im (.sl 2 (rowsC cs)))])), (1, some (.arr 1 (tI (rowsN R))))], 2⟩) (fun k => cs.length - k.1) ⟨0, by simp⟩ ⟨[], [0, 58], by ((simp only [go_sem, eq_self, MvRb, MvRn, MvRt, List.nodup_cons, List.nodup_nil, ↓reduceIte, Nat.reduceEqDiff, Nat.reduceLT, Nat.reduceLeDiff, reduceCtorEq, List.forall_mem_nil, Nat.zero_le, false_implies, List.mem_singleton, MvR_Nn]) <;> (try (simp -dsimp only [go_sem, eq_self, MvRb, MvRn, MvRt, List.nodup_cons, List.nodup_nil, ↓reduceIte, Nat.reduceEqDiff, Nat.reduceLT, Nat.reduceLeDiff, reduceCtorEq, List.forall_mem_nil, Nat.zero_le, false_implies, List.mem_singleton, MvR_Nn]))) <;> simp [lk, MvB_im]⟩ (fun ⟨k, hk⟩ => ?_)
  simp only
  by_cases hkl : k < cs.length
  · have hK : ((k : Int) < (cs.length : Int)) = True := eq_true (by omega)
    have b0 : (0 ≤ (k : Int)) = True := eq_true (by omega)
    have hwr : IntKind.i64.wrap ((k : Int) + 1) = ((k + 1 : Nat) : Int) := by rw [wrap_id (by omega) (by omega)]; omega
    obtain ⟨⟨p, q⟩, hpq⟩ : ∃ c, cs[k]? = some c := ⟨cs[k], List.getElem?_eq_getElem hkl⟩
    have hmem := List.mem_of_getElem? hpq
    have hrow := rowsC_at hpq
    have hcl := hR.cl _ hmem
    simp only at hcl
    have rp1 := run_lplace b1R p
    have rp2 := run_lplace b1R q
    by_cases hp : p = (i : Int)
    · have hp' := eq_true hp
      have n2 := plcF_t (hcl (.inl hp))
      try simp -dsimp (maxSteps := 1000000) only [go_sem, List.forall_mem_nil, ↓reduceIte, Nat.reduceEqDiff, Nat.reduceLT, Nat.reduceLeDiff, Nat.reduceAdd, Nat.reduceMul, reduceCtorEq, Tryz.f5, hK, b0, hwr, hrow, hp', rp2, n2, sc_lplace, tk, tI_toI, tI_len, rowsN_len, rowsC_len, Int.toNat_natCast, Bool.or_self, Bool.not_true, not_true_eq_false]
      exact ⟨⟨k + 1, by omega⟩, by simp only []; omega, [], [0, 1], by (simp only [go_sem, eq_self, MvRb, MvRn, MvRt, List.nodup_cons, List.nodup_nil, ↓reduceIte, Nat.reduceEqDiff, Nat.reduceLT, Nat.reduceLeDiff, reduceCtorEq, List.forall_mem_nil, Nat.zero_le, false_implies, List.mem_singleton, MvR_Nn]) <;> simp [lk, MvB_im]⟩
    have hp' := eq_false hp
    by_cases hpR : p ∈ R
    · have n1 := plcF_ge hpR
      have n2 := plcF_t (hcl (.inr hpR))
      try simp -dsimp (maxSteps := 1000000) only [go_sem, List.forall_mem_nil, ↓reduceIte, Nat.reduceEqDiff, Nat.reduceLT, Nat.reduceLeDiff, Nat.reduceAdd, Nat.reduceMul, reduceCtorEq, Tryz.f5, hK, b0, hwr, hrow, hp', rp1, n1, rp2, n2, sc_lplace, tk, tI_toI, tI_len, rowsN_len, rowsC_len, Int.toNat_natCast, Bool.or_self, Bool.not_true, not_true_eq_false]
      exact ⟨⟨k + 1, by omega⟩, by simp only []; omega, [], [0, 1], by (simp only [go_sem, eq_self, MvRb, MvRn, MvRt, List.nodup_cons, List.nodup_nil, ↓reduceIte, Nat.reduceEqDiff, Nat.reduceLT, Nat.reduceLeDiff, reduceCtorEq, List.forall_mem_nil, Nat.zero_le, false_implies, List.mem_singleton, MvR_Nn]) <;> simp [lk, MvB_im]⟩
    · have n1 := plcF_no hpR
      try simp -dsimp (maxSteps := 1000000) only [go_sem, List.forall_mem_nil, ↓reduceIte, Nat.reduceEqDiff, Nat.reduceLT, Nat.reduceLeDiff, Nat.reduceAdd, Nat.reduceMul, reduceCtorEq, Tryz.f5, hK, b0, hwr, hrow, hp', rp1, n1, sc_lplace, tk, tI_toI, tI_len, rowsN_len, rowsC_len, Int.toNat_natCast, Bool.or_self, Bool.not_true, not_true_eq_false]
      exact ⟨⟨k + 1, by omega⟩, by simp only []; omega, [], [0, 1], by (simp only [go_sem, eq_self, MvRb, MvRn, MvRt, List.nodup_cons, List.nodup_nil, ↓reduceIte, Nat.reduceEqDiff, Nat.reduceLT, Nat.reduceLeDiff, reduceCtorEq, List.forall_mem_nil, Nat.zero_le, false_implies, List.mem_singleton, MvR_Nn]) <;> simp [lk, MvB_im]⟩
  have hK : ((k : Int) < (cs.length : Int)) = False := eq_false (by omega)
  try simp -dsimp (maxSteps := 1000000) only [go_sem, List.forall_mem_nil, ↓reduceIte, Nat.reduceEqDiff, Nat.reduceLT, Nat.reduceLeDiff, Nat.reduceAdd, Nat.reduceMul, reduceCtorEq, Tryz.f5, hK]
  refine loop_i (ι := { k : Nat // k ≤ R.length }) (fun k => ⟨[(3, some (.c (.ptr 0 0 0 0))), (10, some (.c (.im (.int .i64 (ms.length : Int))))), (19, some (.c (.im (.int .i64 (i : Int))))), (20, some (.c (.view 1 1 0 R.length))), (21, some (.c (.im (.bool true)))), (169, some (.c (.view 1 1 0 R.length))), (170, some (.c (.im (.int .i64 (R.length : Int))))), (171, some (.c (.im (.int .i64 (k.1 : Int)))))],
    [(0, some (.box [.t (.im (.sl 11 (rowsM ms))), .t (.im (.sl 2 (rowsC cs)))])), (1, some (.arr 1 (tI (rowsN R))))], 2⟩) (fun k => R.length - k.1) ⟨0, by simp⟩ ⟨[], [0, 1], by ((simp only [go_sem, eq_self, MvRb, MvRn, MvRt, List.nodup_cons, List.nodup_nil, ↓reduceIte, Nat.reduceEqDiff, Nat.reduceLT, Nat.reduceLeDiff, reduceCtorEq, List.forall_mem_nil, Nat.zero_le, false_implies, List.mem_singleton, MvR_Nn]) <;> (try (simp -dsimp only [go_sem, eq_self, MvRb, MvRn, MvRt, List.nodup_cons, List.nodup_nil, ↓reduceIte, Nat.reduceEqDiff, Nat.reduceLT, Nat.reduceLeDiff, reduceCtorEq, List.forall_mem_nil, Nat.zero_le, false_implies, List.mem_singleton, MvR_Nn]))) <;> simp [lk, MvB_im]⟩ (fun ⟨k, hk⟩ => ?_)
  simp only
  by_cases hkl : k < R.length
  · have hK : ((k : Int) < (R.length : Int)) = True := eq_true (by omega)
    have b0 : (0 ≤ (k : Int)) = True := eq_true (by omega)
    have hwr : IntKind.i64.wrap ((k : Int) + 1) = ((k + 1 : Nat) : Int) := by rw [wrap_id (by omega) (by omega)]; omega
    obtain ⟨x, hx⟩ : ∃ x, R[k]? = some x := ⟨R[k], List.getElem?_eq_getElem hkl⟩
    have hxm := List.mem_of_getElem? hx
    obtain ⟨u1, u2⟩ := hR.rg x hxm
    obtain ⟨⟨cp, cq⟩, hcm, hcx, hcp⟩ := hR.fd x hxm
    simp only at hcx hcp
    obtain ⟨xn, rfl⟩ : ∃ n : Nat, x = (n : Int) := ⟨x.toNat, by omega⟩
    have hxt : (tI (rowsN R))[k]? = some [T.im (.int .i64 (xn : Int))] := by simp [tI, rowsN, hx]
    have rf0 := run_FeedsOf (i := xn) hokm hrk (by omega)
    simp only [rFe] at rf0
    have hfl : (feedsF cs (xn : Int)).length ≤ cs.length := feeds_le cs (xn : Int)
    have hcf : cp ∈ feedsF cs (xn : Int) := by
      simp only [feedsF, List.mem_map, List.mem_filter, decide_eq_true_eq]
      exact ⟨(cp, cq), ⟨hcm, hcx⟩, rfl⟩
    generalize feedsF cs (xn : Int) = F at *
    try simp -dsimp (maxSteps := 1000000) only [go_sem, List.forall_mem_nil, ↓reduceIte, Nat.reduceEqDiff, Nat.reduceLT, Nat.reduceLeDiff, Nat.reduceAdd, Nat.reduceMul, reduceCtorEq, Tryz.f5, hK, b0, hxt, rf0, tI_len, rowsN_len, Int.toNat_natCast]
    refine loop_i (ι := { j : Nat // j ≤ F.length }) (fun j => ⟨[(3, some (.c (.ptr 0 0 0 0))), (10, some (.c (.im (.int .i64 (ms.length : Int))))), (19, some (.c (.im (.int .i64 (i : Int))))), (20, some (.c (.view 1 1 0 R.length))), (21, some (.c (.im (.bool true)))), (27, some (.c (.im (.bool true)))), (28, some (.c (.im (.bool ((F.take j.1).any (fun y => decide (y = (i : Int)) || decide (y ∈ R))))))), (169, some (.c (.view 1 1 0 R.length))), (170, some (.c (.im (.int .i64 (R.length : Int))))), (171, some (.c (.im (.int .i64 (k : Int))))), (181, some (.c (.view 2 1 0 F.length))), (182, some (.c (.im (.int .i64 (F.length : Int))))), (183, some (.c (.im (.int .i64 (j.1 : Int)))))],
      [(0, some (.box [.t (.im (.sl 11 (rowsM ms))), .t (.im (.sl 2 (rowsC cs)))])), (1, some (.arr 1 (tI (rowsN R)))), (2, some (.arr 1 (tI (rowsN F))))], 3⟩) (fun j => F.length - j.1) ⟨0, by simp⟩ ⟨[], [0, 1, 2], by ((simp only [go_sem, eq_self, MvRb, MvRn, MvRt, List.nodup_cons, List.nodup_nil, ↓reduceIte, Nat.reduceEqDiff, Nat.reduceLT, Nat.reduceLeDiff, reduceCtorEq, List.forall_mem_nil, Nat.zero_le, false_implies, List.mem_singleton, MvR_Nn, List.take_zero, List.any_nil]) <;> (try (simp -dsimp only [go_sem, eq_self, MvRb, MvRn, MvRt, List.nodup_cons, List.nodup_nil, ↓reduceIte, Nat.reduceEqDiff, Nat.reduceLT, Nat.reduceLeDiff, reduceCtorEq, List.forall_mem_nil, Nat.zero_le, false_implies, List.mem_singleton, MvR_Nn, List.take_zero, List.any_nil]))) <;> simp [lk, MvB_im]⟩ (fun ⟨j, hj⟩ => ?_)
    simp only
    by_cases hjl : j < F.length
    · have hJ2 : ((j : Int) < (F.length : Int)) = True := eq_true (by omega)
      have c0 : (0 ≤ (j : Int)) = True := eq_true (by omega)
      have hwj : IntKind.i64.wrap ((j : Int) + 1) = ((j + 1 : Nat) : Int) := by rw [wrap_id (by omega) (by omega)]; omega
      obtain ⟨y, hy⟩ : ∃ x, F[j]? = some x := ⟨F[j], List.getElem?_eq_getElem hjl⟩
      have hyt : (tI (rowsN F))[j]? = some [T.im (.int .i64 y)] := by simp [tI, rowsN, hy]
      have hsn : (F.take (j + 1)).any (fun y => decide (y = (i : Int)) || decide (y ∈ R)) = ((F.take j).any (fun y => decide (y = (i : Int)) || decide (y ∈ R)) || (decide (y = (i : Int)) || decide (y ∈ R))) := any_snoc hy
      have rp := run_lplace b1R y
      cases hs : (F.take j).any (fun y => decide (y = (i : Int)) || decide (y ∈ R)) with
      | true =>
        rw [hs, Bool.true_or] at hsn
        try simp -dsimp (maxSteps := 1000000) only [go_sem, List.forall_mem_nil, ↓reduceIte, Nat.reduceEqDiff, Nat.reduceLT, Nat.reduceLeDiff, Nat.reduceAdd, Nat.reduceMul, reduceCtorEq, Tryz.f5, hJ2, c0, hwj, hyt, tI_len, rowsN_len, Int.toNat_natCast]
        exact ⟨⟨j + 1, by omega⟩, by simp only []; omega, [], [0, 1, 2], by (simp only [go_sem, eq_self, MvRb, MvRn, MvRt, List.nodup_cons, List.nodup_nil, ↓reduceIte, Nat.reduceEqDiff, Nat.reduceLT, Nat.reduceLeDiff, reduceCtorEq, List.forall_mem_nil, Nat.zero_le, false_implies, List.mem_singleton, MvR_Nn, hsn]) <;> simp [lk, MvB_im]⟩
      | false =>
        rw [hs, Bool.false_or] at hsn
        by_cases hyi : y = (i : Int)
        · have hy' := eq_true hyi
          rw [decide_eq_true hyi, Bool.true_or] at hsn
          try simp -dsimp (maxSteps := 1000000) only [go_sem, List.forall_mem_nil, ↓reduceIte, Nat.reduceEqDiff, Nat.reduceLT, Nat.reduceLeDiff, Nat.reduceAdd, Nat.reduceMul, reduceCtorEq, Tryz.f5, hJ2, c0, hwj, hyt, hy', tI_len, rowsN_len, Int.toNat_natCast]
          exact ⟨⟨j + 1, by omega⟩, by simp only []; omega, [], [0, 1, 2], by (simp only [go_sem, eq_self, MvRb, MvRn, MvRt, List.nodup_cons, List.nodup_nil, ↓reduceIte, Nat.reduceEqDiff, Nat.reduceLT, Nat.reduceLeDiff, reduceCtorEq, List.forall_mem_nil, Nat.zero_le, false_implies, List.mem_singleton, MvR_Nn, hsn]) <;> simp [lk, MvB_im]⟩
        have hy' := eq_false hyi
        rw [decide_eq_false hyi, Bool.false_or] at hsn
        by_cases hyR : y ∈ R
        · have n1 := plcF_ge hyR
          rw [decide_eq_true hyR] at hsn
          try simp -dsimp (maxSteps := 1000000) only [go_sem, List.forall_mem_nil, ↓reduceIte, Nat.reduceEqDiff, Nat.reduceLT, Nat.reduceLeDiff, Nat.reduceAdd, Nat.reduceMul, reduceCtorEq, Tryz.f5, hJ2, c0, hwj, hyt, hy', rp, n1, sc_lplace, tk, tI_toI, tI_len, rowsN_len, Int.toNat_natCast]
          exact ⟨⟨j + 1, by omega⟩, by simp only []; omega, [], [0, 1, 2], by (simp only [go_sem, eq_self, MvRb, MvRn, MvRt, List.nodup_cons, List.nodup_nil, ↓reduceIte, Nat.reduceEqDiff, Nat.reduceLT, Nat.reduceLeDiff, reduceCtorEq, List.forall_mem_nil, Nat.zero_le, false_implies, List.mem_singleton, MvR_Nn, hsn]) <;> simp [lk, MvB_im]⟩
        · have n1 := plcF_no hyR
          rw [decide_eq_false hyR] at hsn
          try simp -dsimp (maxSteps := 1000000) only [go_sem, List.forall_mem_nil, ↓reduceIte, Nat.reduceEqDiff, Nat.reduceLT, Nat.reduceLeDiff, Nat.reduceAdd, Nat.reduceMul, reduceCtorEq, Tryz.f5, hJ2, c0, hwj, hyt, hy', rp, n1, sc_lplace, tk, tI_toI, tI_len, rowsN_len, Int.toNat_natCast]
          exact ⟨⟨j + 1, by omega⟩, by simp only []; omega, [], [0, 1, 2], by (simp only [go_sem, eq_self, MvRb, MvRn, MvRt, List.nodup_cons, List.nodup_nil, ↓reduceIte, Nat.reduceEqDiff, Nat.reduceLT, Nat.reduceLeDiff, reduceCtorEq, List.forall_mem_nil, Nat.zero_le, false_implies, List.mem_singleton, MvR_Nn, hsn]) <;> simp [lk, MvB_im]⟩
    have hJ2 : ((j : Int) < (F.length : Int)) = False := eq_false (by omega)
    have hany : (F.take j).any (fun y => decide (y = (i : Int)) || decide (y ∈ R)) = true := by
      rw [List.take_of_length_le (by omega), List.any_eq_true]
      refine ⟨cp, hcf, ?_⟩
      rcases hcp with h | h <;> simp [h]
    try simp -dsimp (maxSteps := 1000000) only [go_sem, List.forall_mem_nil, ↓reduceIte, Nat.reduceEqDiff, Nat.reduceLT, Nat.reduceLeDiff, Nat.reduceAdd, Nat.reduceMul, reduceCtorEq, Tryz.f5, hJ2, hany, hwr, Bool.or_self, Bool.not_true, not_true_eq_false]
    exact ⟨⟨k + 1, by omega⟩, by simp only []; omega, [], [0, 1], by (simp only [go_sem, eq_self, MvRb, MvRn, MvRt, List.nodup_cons, List.nodup_nil, ↓reduceIte, Nat.reduceEqDiff, Nat.reduceLT, Nat.reduceLeDiff, reduceCtorEq, List.forall_mem_nil, Nat.zero_le, false_implies, List.mem_singleton, MvR_Nn]) <;> simp [lk, MvB_im]⟩
  have hK : ((k : Int) < (R.length : Int)) = False := eq_false (by omega)
  try simp -dsimp (maxSteps := 1000000) only [go_sem, List.forall_mem_nil, ↓reduceIte, Nat.reduceEqDiff, Nat.reduceLT, Nat.reduceLeDiff, Nat.reduceAdd, Nat.reduceMul, reduceCtorEq, Tryz.f5, hK, rowsM_len]
end Go.SX
namespace Go.Proofs.YtojcifdnmihebaaGreat.fnOrder
open Go.ChangeShapes Go.WideShapes Go.ChangeAt Go.RowKit
open Go.ChangeMaps (open_string shut_string)
set_option linter.unusedVariables false
theorem own : ownKnob Tryz.prog.godebug = none := by kernel_rfl
theorem laidOut : laidOutB Tryz.prog = true := by kernel_rfl
def IsRow (k : IntKind) (w : World) (a : Option Addr) (len cap : Nat) (zs : List Int) : Prop :=
  (a = none ∧ len = 0 ∧ cap = 0 ∧ zs = []) ∨
  ∃ x, a = some x ∧ len ≤ cap ∧ cap ≤ maxLen ∧ zs.length = cap ∧ (∀ i, i < zs.length → w.cell? (x.add i) = some (.int k (zs.getD i 0))) ∧ ∀ n ∈ zs, (Lit.int k n).wf = true
theorem walk (a0 : Option Addr) (len0 cap0 : Nat) (z0 : List Int) (w : World) (w0 : IsRow .u8 w a0 len0 cap0 z0) :
    Calls Tryz.prog 5 #[.slice a0 len0 cap0] w fun e w' => e = .returned (.bool true) ∧ Below w.heap.size w w' := by
  exact Go.SX.law_walk Go.SX.law_FnOrder w0
set_option maxRecDepth 100000 in
theorem lifted (os : Os) (started : os.Started) (H : Type) (enc : TypeId × Value → H) :
    ReturnsInHanded {} Tryz.checked os 5 .any (Rows.fnOrderSpec.pre6 enc Tryz.prog Tryz.f5 Rows.fnOrderRow.domain false) (Rows.fnOrderSpec.post enc Tryz.prog Tryz.f5 false true false false) := by
  refine returnsInHanded_of_change (C := Tryz.checked) own started (by kernel_rfl) Tryz.func5
    (ChangeSpec.witness6 (enc := enc) (C := Tryz.checked) false ⟨#[], #[.slice none 0 0], []⟩ 8 (by kernel_rfl) (by kernel_rfl) (by kernel_rfl) (by kernel_rfl)) ?_
  intro W base args ds gs before hval0 hW hcnd _
  have hval : ∀ (j : Nat) t v, Tryz.f5.params[j]? = some t → args[j]? = some v → Value.okWide Tryz.prog W .any base t v := hval0
  have hW' := hW
  obtain ⟨p, q, hA0, hV, rfl, hfz, hnd⟩ := hW
  have hA : DataW.TrodAll enc Tryz.prog W 0 (fun _ => true) true Tryz.f5.params.toList args.toList ds p := hA0
  rw [Tryz.params5] at hA hval
  obtain ⟨v0, vs0, d0, ds0, p0, q0, hargs, rfl, rfl, h0, r0⟩ := trodAll_cons hA
  obtain ⟨rfl, rfl, rfl⟩ := trodAll_nil r0
  obtain rfl : args = #[v0] := by cases args; simp_all
  obtain ⟨rfl, rfl⟩ := trodVars_none hV
  obtain ⟨a0, len0, cap0, rfl⟩ := okWide_slice Tryz.underlying22 (hval 0 22 v0 rfl rfl)
  have k0 := h0
  have lt0 : ∀ x ∈ p0, x.block < W.heap.size := by obtain ⟨m, hm⟩ := k0; exact DataW.trod_lt m _ _ _ hm
  obtain ⟨z0, w0⟩ : ∃ zs, IsRow .u8 W a0 len0 cap0 zs := by
    obtain ⟨fuel, hf⟩ := h0
    rcases open_ints Tryz.underlying22 Tryz.underlying5 (by kernel_rfl) hf with ⟨hcs, _⟩ | ⟨x, l, c, zs, hcs, _, hl, hm, hz, _, hcell, hwz⟩
    · simp [Value.cells] at hcs
      obtain ⟨rfl, rfl, rfl⟩ := hcs
      exact ⟨[], .inl ⟨rfl, rfl, rfl, rfl⟩⟩
    · simp [Value.cells] at hcs
      obtain ⟨rfl, rfl, rfl⟩ := hcs
      exact ⟨zs, .inr ⟨_, rfl, hl, hm, by simpa using hz, hcell, hwz⟩⟩
  clear hA0 hval0
  refine (walk a0 len0 cap0 z0 W w0).mono fun e W' ⟨he, bel⟩ => ?_
  subst he
  exact ⟨_, rfl, _, _, _, [], _, [], hW', trodAll_mk1 (shut_bool Tryz.underlying4 _), (trodAll_cons_mk (Below.trod laidOut (by kernel_rfl) (of_decide_eq_true (by kernel_rfl)) k0 bel lt0) trodAll_mk0), rfl, bel.frame _, fun h => by cases h⟩
theorem over : Rows.fnOrderRow.holds Tryz.pinned (OpenSpec.ofChange Rows.fnOrderSpec) :=
  OpenClaim.holds_of_wide 5 Tryz.f5 rfl rfl rfl rfl rfl rfl rfl ⟨rfl, rfl, rfl, rfl, rfl⟩ rfl rfl rfl rfl rfl (by kernel_rfl) Tryz.func5 (by kernel_rfl)
    (of_decide_eq_true (by kernel_rfl)) (by unfold Func.isWrapper; first | (rw [if_pos (by decide +kernel)]; kernel_rfl) | (rw [if_neg (by decide +kernel)]; exact ⟨rfl, rfl⟩))
    (fun os started H enc _ => lifted os started H enc)
theorem proved : Rows.FnOrderSaid := over
#print axioms proved
end Go.Proofs.YtojcifdnmihebaaGreat.fnOrder
