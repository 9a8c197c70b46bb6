/-
  NewSum, NewSource, NewGain.
  No condition.
-/
import Derived.Test.YtbhnlplbfhomcaaRkU
set_option linter.unusedVariables false
set_option linter.unusedSimpArgs false
namespace Go.SX
open Go Go.Proofs

def mSum : Mod := ⟨5, (0, 0), (0, 0), 0, [], 0, 0, [], [], 0, 0⟩
def mSrc (t s : Pt) : Mod := ⟨1, t, s, 0, [], 0, 0, [], [], 0, 0⟩
def mGain (l : Nat) : Mod := ⟨3, (0, 0), (0, 0), l, [], 0, 0, [], [], 0, 0⟩
noncomputable def ct_NewSum : Ct := fam true (fun _ : Unit => ([], [])) (fun _ => .one (rMod mSum))
theorem run_NewSum : ct_NewSum.run [] [] = some (.one (rMod mSum)) := fam_run' (args := fun _ : Unit => ([], [])) (fun _ _ _ => rfl) ()
set_option maxRecDepth 100000 in
theorem law_NewSum : Law Try.prog 24 ct_NewSum := by
  refine fam_lawF Env_nil hmixA Try.func24 rfl rfl (fun _ => ⟨okO okR_mod, by simp [Try.f24], ?_⟩)
  simp only [mSum, rMod]
  try simp -dsimp (maxSteps := 1000000) only [go_sem, List.forall_mem_nil, ↓reduceIte, Nat.reduceEqDiff, Nat.reduceLT, Nat.reduceLeDiff, Nat.reduceAdd, Nat.reduceMul, reduceCtorEq, Try.f24]
  repeat' (first
    | ((with_reducible refine sl_i ?_ ?_); focus kernel_rfl)
    | ((with_reducible refine ro_i ?_ ?_); focus kernel_rfl)
    | ((with_reducible refine sl_e ?_); kernel_rfl)
    | ((with_reducible refine ro_e ?_); kernel_rfl)
    | ((first | (with_reducible refine gS_d ?_ ?_) | (with_reducible refine gS_dn ?_ ?_) | (with_reducible refine gS_i ?_ ?_)) <;> intro hg <;> (try simp -dsimp (maxSteps := 1000000) only [go_sem, List.forall_mem_nil, ↓reduceIte, Nat.reduceEqDiff, Nat.reduceLT, Nat.reduceLeDiff, Nat.reduceAdd, Nat.reduceMul, reduceCtorEq, Try.f24, *])))
  refine finF_i [.nilT 0 0 4 1, .nilT 0 0 7 1, .nilT 0 0 8 1, .unf 0 0 4, .unf 0 0 7, .unf 0 0 8] ?_
  simp -dsimp (maxSteps := 1000000) only [go_sem, List.forall_mem_nil, ↓reduceIte, Nat.reduceEqDiff, Nat.reduceLT, Nat.reduceLeDiff, Nat.reduceAdd, Nat.reduceMul, reduceCtorEq, Option.map_some]
  refine ⟨[1, 2, 3], ?_, ?_, ?_, rfl, rfl, rfl⟩ <;> simp [rtOk, tI, rowsZ, rowsN]
noncomputable def ct_NewSource : Ct := fam true (fun x : Pt × Pt => ([.c (.im (.cpx .f32 x.1.1 x.1.2)), .c (.im (.cpx .f32 x.2.1 x.2.2))], [])) (fun x => .one (rMod (mSrc x.1 x.2)))
theorem run_NewSource (a b c d : Nat) : ct_NewSource.run [.c (.im (.cpx .f32 a b)), .c (.im (.cpx .f32 c d))] [] = some (.one (rMod (mSrc (a, b) (c, d)))) := fam_run' (by
    intro a b h
    simp only [Prod.mk.injEq, List.cons.injEq, D.c.injEq, D.agg.injEq, C.im.injEq, I.cpx.injEq, I.flt.injEq, I.int.injEq, I.sl.injEq, I.bool.injEq, I.str.injEq, Int.natCast_inj, true_and, and_true] at h
    (try simp only [Prod.ext_iff, Subtype.ext_iff])
    (try simp only [rowsZ_eq, rowsN_eq] at h)
    simp_all) ((a, b), (c, d))
set_option maxRecDepth 100000 in
theorem law_NewSource : Law Try.prog 17 ct_NewSource := by
  refine fam_lawF Env_nil hmixA Try.func17 rfl rfl (fun x => ⟨okO okR_mod, by simp [Try.f17], ?_⟩)
  simp only [mSrc, rMod]
  try simp -dsimp (maxSteps := 1000000) only [go_sem, List.forall_mem_nil, ↓reduceIte, Nat.reduceEqDiff, Nat.reduceLT, Nat.reduceLeDiff, Nat.reduceAdd, Nat.reduceMul, reduceCtorEq, Try.f17]
  repeat' (first
    | ((with_reducible refine sl_i ?_ ?_); focus kernel_rfl)
    | ((with_reducible refine ro_i ?_ ?_); focus kernel_rfl)
    | ((with_reducible refine sl_e ?_); kernel_rfl)
    | ((with_reducible refine ro_e ?_); kernel_rfl)
    | ((first | (with_reducible refine gS_d ?_ ?_) | (with_reducible refine gS_dn ?_ ?_) | (with_reducible refine gS_i ?_ ?_)) <;> intro hg <;> (try simp -dsimp (maxSteps := 1000000) only [go_sem, List.forall_mem_nil, ↓reduceIte, Nat.reduceEqDiff, Nat.reduceLT, Nat.reduceLeDiff, Nat.reduceAdd, Nat.reduceMul, reduceCtorEq, Try.f17, *])))
  refine finF_i [.nilT 0 0 4 1, .nilT 0 0 7 1, .nilT 0 0 8 1, .unf 0 0 4, .unf 0 0 7, .unf 0 0 8] ?_
  simp -dsimp (maxSteps := 1000000) only [go_sem, List.forall_mem_nil, ↓reduceIte, Nat.reduceEqDiff, Nat.reduceLT, Nat.reduceLeDiff, Nat.reduceAdd, Nat.reduceMul, reduceCtorEq, Option.map_some]
  refine ⟨[1, 2, 3], ?_, ?_, ?_, rfl, rfl, rfl⟩ <;> simp [rtOk, tI, rowsZ, rowsN]
noncomputable def ct_NewGain : Ct := fam true (fun x : Nat => ([.c (.im (.flt .f32 x))], [])) (fun x => .one (rMod (mGain x)))
theorem run_NewGain (a : Nat) : ct_NewGain.run [.c (.im (.flt .f32 a))] [] = some (.one (rMod (mGain a))) := fam_run' (by
    intro a b h
    simp only [Prod.mk.injEq, List.cons.injEq, D.c.injEq, D.agg.injEq, C.im.injEq, I.cpx.injEq, I.flt.injEq, I.int.injEq, I.sl.injEq, I.bool.injEq, I.str.injEq, Int.natCast_inj, true_and, and_true] at h
    (try simp only [Prod.ext_iff, Subtype.ext_iff])
    (try simp only [rowsZ_eq, rowsN_eq] at h)
    simp_all) a
set_option maxRecDepth 100000 in
theorem law_NewGain : Law Try.prog 18 ct_NewGain := by
  refine fam_lawF Env_nil hmixA Try.func18 rfl rfl (fun x => ⟨okO okR_mod, by simp [Try.f18], ?_⟩)
  simp only [mGain, rMod]
  try simp -dsimp (maxSteps := 1000000) only [go_sem, List.forall_mem_nil, ↓reduceIte, Nat.reduceEqDiff, Nat.reduceLT, Nat.reduceLeDiff, Nat.reduceAdd, Nat.reduceMul, reduceCtorEq, Try.f18]
  repeat' (first
    | ((with_reducible refine sl_i ?_ ?_); focus kernel_rfl)
    | ((with_reducible refine ro_i ?_ ?_); focus kernel_rfl)
    | ((with_reducible refine sl_e ?_); kernel_rfl)
    | ((with_reducible refine ro_e ?_); kernel_rfl)
    | ((first | (with_reducible refine gS_d ?_ ?_) | (with_reducible refine gS_dn ?_ ?_) | (with_reducible refine gS_i ?_ ?_)) <;> intro hg <;> (try simp -dsimp (maxSteps := 1000000) only [go_sem, List.forall_mem_nil, ↓reduceIte, Nat.reduceEqDiff, Nat.reduceLT, Nat.reduceLeDiff, Nat.reduceAdd, Nat.reduceMul, reduceCtorEq, Try.f18, *])))
  refine finF_i [.nilT 0 0 4 1, .nilT 0 0 7 1, .nilT 0 0 8 1, .unf 0 0 4, .unf 0 0 7, .unf 0 0 8] ?_
  simp -dsimp (maxSteps := 1000000) only [go_sem, List.forall_mem_nil, ↓reduceIte, Nat.reduceEqDiff, Nat.reduceLT, Nat.reduceLeDiff, Nat.reduceAdd, Nat.reduceMul, reduceCtorEq, Option.map_some]
  refine ⟨[1, 2, 3], ?_, ?_, ?_, rfl, rfl, rfl⟩ <;> simp [rtOk, tI, rowsZ, rowsN]
end Go.SX
