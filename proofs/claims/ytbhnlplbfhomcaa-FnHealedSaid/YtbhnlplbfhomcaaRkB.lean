/-
  Points: isNoughts, EqualPoints, add, scaled, DistanceOf, size, MultiplyPoints.
  No condition.
-/
import Derived.Test.YtbhnlplbfhomcaaRkA
import Derived.Test.YtbhnlplbfhomcaaRkF
set_option linter.unusedVariables false
set_option linter.unusedSimpArgs false
namespace Go.SX
open Go Go.Proofs

def nz (x : Nat) : Bool := decide ((x : Int) = 0)
def nzP (p : Pt) : Bool := nz p.1 && nz p.2
noncomputable def ct_isNoughts : Ct := fam true (fun x : Pt => ([.c (.im (.cpx .f32 x.1 x.2))], [])) (fun x => .one { val := .c (.im (.bool (nzP x))) })
theorem run_isNoughts (x y : Nat) : ct_isNoughts.run [.c (.im (.cpx .f32 x y))] [] = some (.one { val := .c (.im (.bool (nzP (x, y)))) }) := fam_run' (by
    intro a b h
    simp only [Prod.mk.injEq, List.cons.injEq, D.c.injEq, D.agg.injEq, C.im.injEq, I.cpx.injEq, I.flt.injEq, I.int.injEq, I.sl.injEq, I.bool.injEq, I.str.injEq, Int.natCast_inj, true_and, and_true] at h
    (try simp only [Prod.ext_iff, Subtype.ext_iff])
    (try simp only [rowsZ_eq, rowsN_eq] at h)
    simp_all) (x, y)
set_option maxRecDepth 100000 in
theorem law_isNoughts : Law Try.prog 95 ct_isNoughts := by
  refine fam_law (Env_cons law_isNought Env_nil) hmixA Try.func95 rfl rfl (fun x => ⟨okO_im rfl, by simp [Try.f95], ?_⟩)
  simp only [nzP, nz]
  try simp -dsimp (maxSteps := 1000000) only [go_sem, List.forall_mem_nil, ↓reduceIte, Nat.reduceEqDiff, Nat.reduceLT, Nat.reduceLeDiff, Nat.reduceAdd, Nat.reduceMul, reduceCtorEq, Try.f95, run_isNought]
  repeat' (first
    | ((with_reducible refine sl_i ?_ ?_); focus kernel_rfl)
    | ((with_reducible refine ro_i ?_ ?_); focus kernel_rfl)
    | ((with_reducible refine sl_e ?_); kernel_rfl)
    | ((with_reducible refine ro_e ?_); kernel_rfl)
    | ((first | (with_reducible refine gS_d ?_ ?_) | (with_reducible refine gS_dn ?_ ?_) | (with_reducible refine gS_i ?_ ?_)) <;> intro hg <;> (try simp -dsimp (maxSteps := 1000000) only [go_sem, List.forall_mem_nil, ↓reduceIte, Nat.reduceEqDiff, Nat.reduceLT, Nat.reduceLeDiff, Nat.reduceAdd, Nat.reduceMul, reduceCtorEq, Try.f95, run_isNought, *])))
  all_goals simp_all

noncomputable def ct_isFinitePoint : Ct := fam true (fun x : Pt => ([.c (.im (.cpx .f32 x.1 x.2))], [])) (fun x => .one { val := .c (.im (.bool (isFin x.1 && isFin x.2))) })
theorem run_isFinitePoint (x y : Nat) : ct_isFinitePoint.run [.c (.im (.cpx .f32 x y))] [] = some (.one { val := .c (.im (.bool (isFin x && isFin y))) }) := fam_run' (by
    intro a b h
    simp only [Prod.mk.injEq, List.cons.injEq, D.c.injEq, D.agg.injEq, C.im.injEq, I.cpx.injEq, I.flt.injEq, I.int.injEq, I.sl.injEq, I.bool.injEq, I.str.injEq, Int.natCast_inj, true_and, and_true] at h
    (try simp only [Prod.ext_iff, Subtype.ext_iff])
    (try simp only [rowsZ_eq, rowsN_eq] at h)
    simp_all) (x, y)
set_option maxRecDepth 100000 in
theorem law_isFinitePoint : Law Try.prog 96 ct_isFinitePoint := by
  refine fam_law (Env_cons law_isFinite Env_nil) hmixA Try.func96 rfl rfl (fun x => ⟨okO_im rfl, by simp [Try.f96], ?_⟩)
  try simp -dsimp (maxSteps := 1000000) only [go_sem, List.forall_mem_nil, ↓reduceIte, Nat.reduceEqDiff, Nat.reduceLT, Nat.reduceLeDiff, Nat.reduceAdd, Nat.reduceMul, reduceCtorEq, Try.f96, run_isFinite]
  repeat' (first
    | ((with_reducible refine sl_i ?_ ?_); focus kernel_rfl)
    | ((with_reducible refine ro_i ?_ ?_); focus kernel_rfl)
    | ((with_reducible refine sl_e ?_); kernel_rfl)
    | ((with_reducible refine ro_e ?_); kernel_rfl)
    | ((first | (with_reducible refine gS_d ?_ ?_) | (with_reducible refine gS_dn ?_ ?_) | (with_reducible refine gS_i ?_ ?_)) <;> intro hg <;> (try simp -dsimp (maxSteps := 1000000) only [go_sem, List.forall_mem_nil, ↓reduceIte, Nat.reduceEqDiff, Nat.reduceLT, Nat.reduceLeDiff, Nat.reduceAdd, Nat.reduceMul, reduceCtorEq, Try.f96, run_isFinite, *])))
  all_goals simp_all

def eqPt (p q : Pt) : Bool := fcmp .eql .f32 p.1 q.1 && fcmp .eql .f32 p.2 q.2
noncomputable def ct_EqualPoints : Ct := fam true (fun x : Pt × Pt => ([.c (.im (.cpx .f32 x.1.1 x.1.2)), .c (.im (.cpx .f32 x.2.1 x.2.2))], [])) (fun x => .one { val := .c (.im (.bool (eqPt x.1 x.2))) })
theorem run_EqualPoints (x y u v : Nat) : ct_EqualPoints.run [.c (.im (.cpx .f32 x y)), .c (.im (.cpx .f32 u v))] [] = some (.one { val := .c (.im (.bool (eqPt (x, y) (u, v)))) }) := fam_run' (by
    intro a b h
    simp only [Prod.mk.injEq, List.cons.injEq, D.c.injEq, D.agg.injEq, C.im.injEq, I.cpx.injEq, I.flt.injEq, I.int.injEq, I.sl.injEq, I.bool.injEq, I.str.injEq, Int.natCast_inj, true_and, and_true] at h
    (try simp only [Prod.ext_iff, Subtype.ext_iff])
    (try simp only [rowsZ_eq, rowsN_eq] at h)
    simp_all) ((x, y), (u, v))
set_option maxRecDepth 100000 in
theorem law_EqualPoints : Law Try.prog 110 ct_EqualPoints := by
  refine fam_law Env_nil hmixA Try.func110 rfl rfl (fun x => ⟨okO_im rfl, by simp [Try.f110], ?_⟩)
  simp only [eqPt]
  try simp -dsimp (maxSteps := 1000000) only [go_sem, List.forall_mem_nil, ↓reduceIte, Nat.reduceEqDiff, Nat.reduceLT, Nat.reduceLeDiff, Nat.reduceAdd, Nat.reduceMul, reduceCtorEq, Try.f110]
  repeat' (first
    | ((with_reducible refine sl_i ?_ ?_); focus kernel_rfl)
    | ((with_reducible refine ro_i ?_ ?_); focus kernel_rfl)
    | ((with_reducible refine sl_e ?_); kernel_rfl)
    | ((with_reducible refine ro_e ?_); kernel_rfl)
    | ((first | (with_reducible refine gS_d ?_ ?_) | (with_reducible refine gS_dn ?_ ?_) | (with_reducible refine gS_i ?_ ?_)) <;> intro hg <;> (try simp -dsimp (maxSteps := 1000000) only [go_sem, List.forall_mem_nil, ↓reduceIte, Nat.reduceEqDiff, Nat.reduceLT, Nat.reduceLeDiff, Nat.reduceAdd, Nat.reduceMul, reduceCtorEq, Try.f110, *])))
  all_goals simp_all

def addPt (p q : Pt) : Pt := (fop .add .f32 p.1 q.1, fop .add .f32 p.2 q.2)
noncomputable def ct_add : Ct := fam true (fun x : Pt × Pt => ([.c (.im (.cpx .f32 x.1.1 x.1.2)), .c (.im (.cpx .f32 x.2.1 x.2.2))], [])) (fun x => .one { val := .c (.im (.cpx .f32 (addPt x.1 x.2).1 (addPt x.1 x.2).2)) })
theorem run_add (x y u v : Nat) : ct_add.run [.c (.im (.cpx .f32 x y)), .c (.im (.cpx .f32 u v))] [] = some (.one { val := .c (.im (.cpx .f32 (addPt (x, y) (u, v)).1 (addPt (x, y) (u, v)).2)) }) := fam_run' (by
    intro a b h
    simp only [Prod.mk.injEq, List.cons.injEq, D.c.injEq, D.agg.injEq, C.im.injEq, I.cpx.injEq, I.flt.injEq, I.int.injEq, I.sl.injEq, I.bool.injEq, I.str.injEq, Int.natCast_inj, true_and, and_true] at h
    (try simp only [Prod.ext_iff, Subtype.ext_iff])
    (try simp only [rowsZ_eq, rowsN_eq] at h)
    simp_all) ((x, y), (u, v))
set_option maxRecDepth 100000 in
theorem law_add : Law Try.prog 64 ct_add := by
  refine fam_law Env_nil hmixA Try.func64 rfl rfl (fun x => ⟨okO_im rfl, by simp [Try.f64], ?_⟩)
  simp only [addPt]
  try simp -dsimp (maxSteps := 1000000) only [go_sem, List.forall_mem_nil, ↓reduceIte, Nat.reduceEqDiff, Nat.reduceLT, Nat.reduceLeDiff, Nat.reduceAdd, Nat.reduceMul, reduceCtorEq, Try.f64]
  repeat' (first
    | ((with_reducible refine sl_i ?_ ?_); focus kernel_rfl)
    | ((with_reducible refine ro_i ?_ ?_); focus kernel_rfl)
    | ((with_reducible refine sl_e ?_); kernel_rfl)
    | ((with_reducible refine ro_e ?_); kernel_rfl)
    | ((first | (with_reducible refine gS_d ?_ ?_) | (with_reducible refine gS_dn ?_ ?_) | (with_reducible refine gS_i ?_ ?_)) <;> intro hg <;> (try simp -dsimp (maxSteps := 1000000) only [go_sem, List.forall_mem_nil, ↓reduceIte, Nat.reduceEqDiff, Nat.reduceLT, Nat.reduceLeDiff, Nat.reduceAdd, Nat.reduceMul, reduceCtorEq, Try.f64, *])))

def scaleF (p : Pt) (l : Nat) : Pt := (flushF (fop .mul .f32 p.1 l), flushF (fop .mul .f32 p.2 l))
noncomputable def ct_scaled : Ct := fam true (fun x : Pt × Nat => ([.c (.im (.cpx .f32 x.1.1 x.1.2)), .c (.im (.flt .f32 x.2))], [])) (fun x => .one { val := .c (.im (.cpx .f32 (scaleF x.1 x.2).1 (scaleF x.1 x.2).2)) })
theorem run_scaled (x y u : Nat) : ct_scaled.run [.c (.im (.cpx .f32 x y)), .c (.im (.flt .f32 u))] [] = some (.one { val := .c (.im (.cpx .f32 (scaleF (x, y) u).1 (scaleF (x, y) u).2)) }) := fam_run' (by
    intro a b h
    simp only [Prod.mk.injEq, List.cons.injEq, D.c.injEq, D.agg.injEq, C.im.injEq, I.cpx.injEq, I.flt.injEq, I.int.injEq, I.sl.injEq, I.bool.injEq, I.str.injEq, Int.natCast_inj, true_and, and_true] at h
    (try simp only [Prod.ext_iff, Subtype.ext_iff])
    (try simp only [rowsZ_eq, rowsN_eq] at h)
    simp_all) ((x, y), u)
set_option maxRecDepth 100000 in
theorem law_scaled : Law Try.prog 90 ct_scaled := by
  refine fam_law (Env_cons law_flush Env_nil) hmixA Try.func90 rfl rfl (fun x => ⟨okO_im rfl, by simp [Try.f90], ?_⟩)
  simp only [scaleF]
  try simp -dsimp (maxSteps := 1000000) only [go_sem, List.forall_mem_nil, ↓reduceIte, Nat.reduceEqDiff, Nat.reduceLT, Nat.reduceLeDiff, Nat.reduceAdd, Nat.reduceMul, reduceCtorEq, Try.f90, run_flush]
  repeat' (first
    | ((with_reducible refine sl_i ?_ ?_); focus kernel_rfl)
    | ((with_reducible refine ro_i ?_ ?_); focus kernel_rfl)
    | ((with_reducible refine sl_e ?_); kernel_rfl)
    | ((with_reducible refine ro_e ?_); kernel_rfl)
    | ((first | (with_reducible refine gS_d ?_ ?_) | (with_reducible refine gS_dn ?_ ?_) | (with_reducible refine gS_i ?_ ?_)) <;> intro hg <;> (try simp -dsimp (maxSteps := 1000000) only [go_sem, List.forall_mem_nil, ↓reduceIte, Nat.reduceEqDiff, Nat.reduceLT, Nat.reduceLeDiff, Nat.reduceAdd, Nat.reduceMul, reduceCtorEq, Try.f90, run_flush, *])))

def distF (p q : Pt) : Nat := fop .add .f32 (fop .mul .f32 (fop .sub .f32 p.1 q.1) (fop .sub .f32 p.1 q.1)) (fop .mul .f32 (fop .sub .f32 p.2 q.2) (fop .sub .f32 p.2 q.2))
noncomputable def ct_DistanceOf : Ct := fam true (fun x : Pt × Pt => ([.c (.im (.cpx .f32 x.1.1 x.1.2)), .c (.im (.cpx .f32 x.2.1 x.2.2))], [])) (fun x => .one { val := .c (.im (.flt .f32 (distF x.1 x.2))) })
theorem run_DistanceOf (x y u v : Nat) : ct_DistanceOf.run [.c (.im (.cpx .f32 x y)), .c (.im (.cpx .f32 u v))] [] = some (.one { val := .c (.im (.flt .f32 (distF (x, y) (u, v)))) }) := fam_run' (by
    intro a b h
    simp only [Prod.mk.injEq, List.cons.injEq, D.c.injEq, D.agg.injEq, C.im.injEq, I.cpx.injEq, I.flt.injEq, I.int.injEq, I.sl.injEq, I.bool.injEq, I.str.injEq, Int.natCast_inj, true_and, and_true] at h
    (try simp only [Prod.ext_iff, Subtype.ext_iff])
    (try simp only [rowsZ_eq, rowsN_eq] at h)
    simp_all) ((x, y), (u, v))
set_option maxRecDepth 100000 in
theorem law_DistanceOf : Law Try.prog 102 ct_DistanceOf := by
  refine fam_law Env_nil hmixA Try.func102 rfl rfl (fun x => ⟨okO_im rfl, by simp [Try.f102], ?_⟩)
  simp only [distF]
  try simp -dsimp (maxSteps := 1000000) only [go_sem, List.forall_mem_nil, ↓reduceIte, Nat.reduceEqDiff, Nat.reduceLT, Nat.reduceLeDiff, Nat.reduceAdd, Nat.reduceMul, reduceCtorEq, Try.f102]
  repeat' (first
    | ((with_reducible refine sl_i ?_ ?_); focus kernel_rfl)
    | ((with_reducible refine ro_i ?_ ?_); focus kernel_rfl)
    | ((with_reducible refine sl_e ?_); kernel_rfl)
    | ((with_reducible refine ro_e ?_); kernel_rfl)
    | ((first | (with_reducible refine gS_d ?_ ?_) | (with_reducible refine gS_dn ?_ ?_) | (with_reducible refine gS_i ?_ ?_)) <;> intro hg <;> (try simp -dsimp (maxSteps := 1000000) only [go_sem, List.forall_mem_nil, ↓reduceIte, Nat.reduceEqDiff, Nat.reduceLT, Nat.reduceLeDiff, Nat.reduceAdd, Nat.reduceMul, reduceCtorEq, Try.f102, *])))

def absF (x : Nat) : Nat := if fcmp .lss .f32 x 0 = true then Op.negFloat .f32 x else x
noncomputable def ct_size : Ct := fam true (fun x : Nat => ([.c (.im (.flt .f32 x))], [])) (fun x => .one { val := .c (.im (.flt .f32 (absF x))) })
theorem run_size (x : Nat) : ct_size.run [.c (.im (.flt .f32 x))] [] = some (.one { val := .c (.im (.flt .f32 (absF x))) }) := fam_run' (by
    intro a b h
    simp only [Prod.mk.injEq, List.cons.injEq, D.c.injEq, D.agg.injEq, C.im.injEq, I.cpx.injEq, I.flt.injEq, I.int.injEq, I.sl.injEq, I.bool.injEq, I.str.injEq, Int.natCast_inj, true_and, and_true] at h
    (try simp only [Prod.ext_iff, Subtype.ext_iff])
    (try simp only [rowsZ_eq, rowsN_eq] at h)
    simp_all) x
set_option maxRecDepth 100000 in
theorem law_size : Law Try.prog 92 ct_size := by
  refine fam_law Env_nil hmixA Try.func92 rfl rfl (fun x => ⟨okO_im rfl, by simp [Try.f92], ?_⟩)
  simp only [absF]
  cases h : fcmp .lss .f32 x 0 with
  | false =>
    try simp -dsimp (maxSteps := 1000000) only [go_sem, List.forall_mem_nil, ↓reduceIte, Nat.reduceEqDiff, Nat.reduceLT, Nat.reduceLeDiff, Nat.reduceAdd, Nat.reduceMul, reduceCtorEq, Try.f92, h]
    repeat' (first
      | ((with_reducible refine sl_i ?_ ?_); focus kernel_rfl)
      | ((with_reducible refine ro_i ?_ ?_); focus kernel_rfl)
      | ((with_reducible refine sl_e ?_); kernel_rfl)
      | ((with_reducible refine ro_e ?_); kernel_rfl)
      | ((first | (with_reducible refine gS_d ?_ ?_) | (with_reducible refine gS_dn ?_ ?_) | (with_reducible refine gS_i ?_ ?_)) <;> intro hg <;> (try simp -dsimp (maxSteps := 1000000) only [go_sem, List.forall_mem_nil, ↓reduceIte, Nat.reduceEqDiff, Nat.reduceLT, Nat.reduceLeDiff, Nat.reduceAdd, Nat.reduceMul, reduceCtorEq, Try.f92, h, *])))
  | true =>
    try simp -dsimp (maxSteps := 1000000) only [go_sem, List.forall_mem_nil, ↓reduceIte, Nat.reduceEqDiff, Nat.reduceLT, Nat.reduceLeDiff, Nat.reduceAdd, Nat.reduceMul, reduceCtorEq, Try.f92, h]
    repeat' (first
      | ((with_reducible refine sl_i ?_ ?_); focus kernel_rfl)
      | ((with_reducible refine ro_i ?_ ?_); focus kernel_rfl)
      | ((with_reducible refine sl_e ?_); kernel_rfl)
      | ((with_reducible refine ro_e ?_); kernel_rfl)
      | ((first | (with_reducible refine gS_d ?_ ?_) | (with_reducible refine gS_dn ?_ ?_) | (with_reducible refine gS_i ?_ ?_)) <;> intro hg <;> (try simp -dsimp (maxSteps := 1000000) only [go_sem, List.forall_mem_nil, ↓reduceIte, Nat.reduceEqDiff, Nat.reduceLT, Nat.reduceLeDiff, Nat.reduceAdd, Nat.reduceMul, reduceCtorEq, Try.f92, h, *])))

/-! ### MultiplyPoints: what does not fit single precision is any number -/
def mulRe (p q : Pt) : Nat := fop .sub .f64 (fop .mul .f64 (w64 p.1) (w64 q.1)) (fop .mul .f64 (w64 p.2) (w64 q.2))
def mulIm (p q : Pt) : Nat := fop .add .f64 (fop .mul .f64 (w64 p.1) (w64 q.2)) (fop .mul .f64 (w64 p.2) (w64 q.1))
def narrow (o : Nat) (x : Nat) : Nat := (fconv .f64 x .f32).getD o
def mulPt (o : Nat × Nat) (p q : Pt) : Pt := (narrow o.1 (mulRe p q), narrow o.2 (mulIm p q))
def oMul (p q : Pt) : Outs := .any (Nat × Nat) (fun o => { val := .c (.im (.cpx .f32 (mulPt o p q).1 (mulPt o p q).2)) })
noncomputable def ct_MultiplyPoints : Ct := fam true (fun x : Pt × Pt => ([.c (.im (.cpx .f32 x.1.1 x.1.2)), .c (.im (.cpx .f32 x.2.1 x.2.2))], [])) (fun x => oMul x.1 x.2)
theorem run_MultiplyPoints (x y u v : Nat) : ct_MultiplyPoints.run [.c (.im (.cpx .f32 x y)), .c (.im (.cpx .f32 u v))] [] = some (oMul (x, y) (u, v)) := fam_run' (by
    intro a b h
    simp only [Prod.mk.injEq, List.cons.injEq, D.c.injEq, D.agg.injEq, C.im.injEq, I.cpx.injEq, I.flt.injEq, I.int.injEq, I.sl.injEq, I.bool.injEq, I.str.injEq, Int.natCast_inj, true_and, and_true] at h
    (try simp only [Prod.ext_iff, Subtype.ext_iff])
    (try simp only [rowsZ_eq, rowsN_eq] at h)
    simp_all) ((x, y), (u, v))
theorem ne_nn : Nonempty (Nat × Nat) = True := by simp only [eq_iff_iff, iff_true]; exact ⟨(0, 0)⟩
theorem cK_narrow {x : Nat} {K : Nat → Prop} {t : Tag K} : cK (fconv .f64 x .f32) K t = ∀ o, K (narrow o x) := by
  unfold cK narrow
  cases fconv .f64 x .f32 with
  | some r => simp
  | none => rfl
set_option maxRecDepth 100000 in
theorem law_MultiplyPoints : Law Try.prog 89 ct_MultiplyPoints := by
  refine fam_law Env_nil hmixA Try.func89 rfl rfl (fun x => ⟨okA (fun o => okR_im rfl), by simp [Try.f89], ?_⟩)
  simp only [oMul, mulPt, mulRe, mulIm]
  try simp -dsimp (maxSteps := 1000000) only [go_sem, List.forall_mem_nil, ↓reduceIte, Nat.reduceEqDiff, Nat.reduceLT, Nat.reduceLeDiff, Nat.reduceAdd, Nat.reduceMul, reduceCtorEq, Try.f89, fconv_w, cK_narrow]
  repeat' (first
    | ((with_reducible refine sl_i ?_ ?_); focus kernel_rfl)
    | ((with_reducible refine ro_i ?_ ?_); focus kernel_rfl)
    | ((with_reducible refine sl_e ?_); kernel_rfl)
    | ((with_reducible refine ro_e ?_); kernel_rfl)
    | ((first | (with_reducible refine gS_d ?_ ?_) | (with_reducible refine gS_dn ?_ ?_) | (with_reducible refine gS_i ?_ ?_)) <;> intro hg <;> (try simp -dsimp (maxSteps := 1000000) only [go_sem, List.forall_mem_nil, ↓reduceIte, Nat.reduceEqDiff, Nat.reduceLT, Nat.reduceLeDiff, Nat.reduceAdd, Nat.reduceMul, reduceCtorEq, Try.f89, fconv_w, cK_narrow, *])))
  exact fun a b => ⟨(a, b), rfl, rfl⟩
end Go.SX
