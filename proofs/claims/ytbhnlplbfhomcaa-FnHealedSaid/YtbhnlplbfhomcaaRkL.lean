/-
  The order of a rack, its end.
  No condition.
-/
import Derived.Test.YtbhnlplbfhomcaaRkK
set_option linter.unusedVariables false
set_option linter.unusedSimpArgs false
namespace Go.SX
open Go Go.Proofs

def anyF (ms : List Mod) (out : List Int) (i : Int) (cs : List Cbl) : Bool := decide (0 ≤ idxF (blocks ms out i) cs 0)
noncomputable def ct_ContainsFunc_Cable : Ct := fam false (fun x : AI => ([.c (.im (.sl 2 (rowsC x.1.2))), .c (.fn (.func 88) [.ptr 0 0 0 0, .ptr 1 0 0 0, .ptr 2 0 0 0])], hsO x.1.1.i x.1.1.ms x.1.1.cs x.1.1.out))
  (fun x => .one { val := .c (.im (.bool (anyF x.1.1.ms x.1.1.out x.1.1.i x.1.2))), places := hsO x.1.1.i x.1.1.ms x.1.1.cs x.1.1.out })
theorem run_ContainsFunc_Cable {i : Int} {ms : List Mod} {cs ds : List Cbl} {out : List Int} (h1 : ms.length ≤ sm) (h2 : cs.length ≤ sm) (h3 : out.length ≤ sm) (h4 : ds.length ≤ sm) (h5 : ∀ c ∈ ds, 0 ≤ c.1 ∧ c.1 < ms.length) :
    ct_ContainsFunc_Cable.run [.c (.im (.sl 2 (rowsC ds))), .c (.fn (.func 88) [.ptr 0 0 0 0, .ptr 1 0 0 0, .ptr 2 0 0 0])] [[.t (.im (.int .i64 i))], [.t (.im (.sl 11 (rowsM ms))), .t (.im (.sl 2 (rowsC cs)))], [.t (.own 1 (tI (rowsN out)))]] =
      some (.one { val := .c (.im (.bool (anyF ms out i ds))), places := hsO i ms cs out }) :=
  fam_run' AI_inj ⟨(⟨i, ms, cs, out, h1, h2, h3⟩, ds), h4, h5⟩
set_option maxRecDepth 100000 in
set_option maxHeartbeats 4000000 in
theorem law_ContainsFunc_Cable : Law Try.prog 87 ct_ContainsFunc_Cable := by
  refine fam_law (Env_cons law_IndexFunc_Cable Env_nil) hmixA Try.func87 rfl rfl (fun ⟨⟨⟨i, ms, cs, out, h1, h2, h3⟩, l⟩, hl, h5⟩ => ⟨okO okR_hsO, by simp [Try.f87], ?_⟩)
  simp only at hl h5
  simp only [hsO, anyF]
  have hm2 : MvB false (.t (.own 1 (tI (rowsN out)))) = True := eq_true (.t _ (.own _ _ (sc_false _ 1)))
  try simp -dsimp (maxSteps := 1000000) only [go_sem, List.forall_mem_nil, ↓reduceIte, Nat.reduceEqDiff, Nat.reduceLT, Nat.reduceLeDiff, Nat.reduceAdd, Nat.reduceMul, reduceCtorEq, Try.f87, run_IndexFunc_Cable h1 h2 h3 hl h5, hm2, hsO]
  repeat' (first
    | ((with_reducible refine sl_i ?_ ?_); focus kernel_rfl)
    | ((with_reducible refine ro_i ?_ ?_); focus kernel_rfl)
    | ((with_reducible refine sl_e ?_); kernel_rfl)
    | ((with_reducible refine ro_e ?_); kernel_rfl)
    | ((first | (with_reducible refine gS_d ?_ ?_) | (with_reducible refine gS_dn ?_ ?_) | (with_reducible refine gS_i ?_ ?_)) <;> intro hg <;> (try simp -dsimp (maxSteps := 1000000) only [go_sem, List.forall_mem_nil, ↓reduceIte, Nat.reduceEqDiff, Nat.reduceLT, Nat.reduceLeDiff, Nat.reduceAdd, Nat.reduceMul, reduceCtorEq, Try.f87, run_IndexFunc_Cable h1 h2 h3 hl h5, hm2, hsO, *])))

/-! ### ready -/
def hsR (ms : List Mod) (cs : List Cbl) (out : List Int) : List (List B) := [[.t (.own 1 (tI (rowsN out)))], [.t (.im (.sl 11 (rowsM ms))), .t (.im (.sl 2 (rowsC cs)))]]
def readyF (ms : List Mod) (cs : List Cbl) (out : List Int) (i : Int) : Bool := !(hasF out i) && !(anyF ms out i cs)
abbrev AR := { x : AO // ∀ c ∈ x.cs, 0 ≤ c.1 ∧ c.1 < x.ms.length }
noncomputable def ct_order_1 : Ct := fam false (fun x : AR => ([.c (.im (.int .i64 x.1.i)), .c (.ptr 0 0 0 0), .c (.ptr 1 0 0 0)], hsR x.1.ms x.1.cs x.1.out))
  (fun x => .one { val := .c (.im (.bool (readyF x.1.ms x.1.cs x.1.out x.1.i))), places := hsR x.1.ms x.1.cs x.1.out })
theorem run_order_1 {i : Int} {ms : List Mod} {cs : List Cbl} {out : List Int} (h1 : ms.length ≤ sm) (h2 : cs.length ≤ sm) (h3 : out.length ≤ sm) (h5 : ∀ c ∈ cs, 0 ≤ c.1 ∧ c.1 < ms.length) :
    ct_order_1.run [.c (.im (.int .i64 i)), .c (.ptr 0 0 0 0), .c (.ptr 1 0 0 0)] [[.t (.own 1 (tI (rowsN out)))], [.t (.im (.sl 11 (rowsM ms))), .t (.im (.sl 2 (rowsC cs)))]] =
      some (.one { val := .c (.im (.bool (readyF ms cs out i))), places := hsR ms cs out }) := by
  refine fam_run' (args := fun x : AR => ([D.c (.im (.int .i64 x.1.i)), .c (.ptr 0 0 0 0), .c (.ptr 1 0 0 0)], hsR x.1.ms x.1.cs x.1.out)) ?_ ⟨⟨i, ms, cs, out, h1, h2, h3⟩, h5⟩
  rintro ⟨a, c⟩ ⟨a', c'⟩ h
  simp only [Prod.mk.injEq, List.cons.injEq, D.c.injEq, C.im.injEq, I.int.injEq, true_and, and_true] at h
  have : a = a' := hsO_inj (by have h2 := h.2; simp only [hsR, List.cons.injEq, and_true] at h2; simp only [hsO]; rw [h.1, h2.1, h2.2.1, h2.2.2])
  exact Subtype.ext this
theorem okR_hsR {ms : List Mod} {cs : List Cbl} {out : List Int} {b : Bool} : OkR false { val := .c (.im (.bool b)), places := hsR ms cs out } := by
  refine ⟨okD_im rfl, by simp, fun c hc x hx => ?_⟩
  simp only [hsR, List.mem_cons, List.not_mem_nil, or_false] at hc
  rcases hc with rfl | rfl
  · simp at hx; subst hx; exact .t _ (.own _ _ (sc_false _ 1))
  · simp at hx; rcases hx with rfl | rfl <;> exact .t _ (.im _ (.inl rfl))
set_option maxRecDepth 100000 in
set_option maxHeartbeats 4000000 in
theorem law_order_1 : Law Try.prog 85 ct_order_1 := by
  refine fam_lawF (Env_cons law_ContainsFunc_Cable (Env_cons law_Contains_int Env_nil)) hmixA Try.func85 rfl rfl (fun ⟨⟨i, ms, cs, out, h1, h2, h3⟩, h5⟩ => ⟨okO okR_hsR, by simp [Try.f85], ?_⟩)
  simp only at h5
  simp only [hsR]
  have hm2 : MvB false (.t (.own 1 (tI (rowsN out)))) = True := eq_true (.t _ (.own _ _ (sc_false _ 1)))
  cases hq : hasF out i with
  | true =>
    try simp -dsimp (maxSteps := 1000000) only [go_sem, List.forall_mem_nil, ↓reduceIte, Nat.reduceEqDiff, Nat.reduceLT, Nat.reduceLeDiff, Nat.reduceAdd, Nat.reduceMul, reduceCtorEq, Try.f85, tI_len, rowsN_len, take_N, tI_toI, sc_Contains_int, run_Contains_int h3, hq, readyF, Bool.false_and]
    repeat' (first
      | ((with_reducible refine sl_i ?_ ?_); focus kernel_rfl)
      | ((with_reducible refine ro_i ?_ ?_); focus kernel_rfl)
      | ((with_reducible refine sl_e ?_); kernel_rfl)
      | ((with_reducible refine ro_e ?_); kernel_rfl)
      | ((first | (with_reducible refine gS_d ?_ ?_) | (with_reducible refine gS_dn ?_ ?_) | (with_reducible refine gS_i ?_ ?_)) <;> intro hg <;> (try simp -dsimp (maxSteps := 1000000) only [go_sem, List.forall_mem_nil, ↓reduceIte, Nat.reduceEqDiff, Nat.reduceLT, Nat.reduceLeDiff, Nat.reduceAdd, Nat.reduceMul, reduceCtorEq, Try.f85, tI_len, rowsN_len, take_N, tI_toI, sc_Contains_int, run_Contains_int h3, hq, readyF, Bool.false_and, *])))
    refine finF_i [.fold 0 0 0] ?_
    simp -dsimp (maxSteps := 1000000) only [go_sem, List.forall_mem_nil, ↓reduceIte, Nat.reduceEqDiff, Nat.reduceLT, Nat.reduceLeDiff, Nat.reduceAdd, Nat.reduceMul, reduceCtorEq, readyF, hq, Bool.false_and, tI_len, rowsN_len]
  | false =>
    try simp -dsimp (maxSteps := 1000000) only [go_sem, List.forall_mem_nil, ↓reduceIte, Nat.reduceEqDiff, Nat.reduceLT, Nat.reduceLeDiff, Nat.reduceAdd, Nat.reduceMul, reduceCtorEq, Try.f85, tI_len, rowsN_len, take_N, tI_toI, sc_Contains_int, run_Contains_int h3, hq, run_ContainsFunc_Cable h1 h2 h3 h2 h5, hm2, hsO, readyF, Bool.true_and]
    repeat' (first
      | ((with_reducible refine sl_i ?_ ?_); focus kernel_rfl)
      | ((with_reducible refine ro_i ?_ ?_); focus kernel_rfl)
      | ((with_reducible refine sl_e ?_); kernel_rfl)
      | ((with_reducible refine ro_e ?_); kernel_rfl)
      | ((first | (with_reducible refine gS_d ?_ ?_) | (with_reducible refine gS_dn ?_ ?_) | (with_reducible refine gS_i ?_ ?_)) <;> intro hg <;> (try simp -dsimp (maxSteps := 1000000) only [go_sem, List.forall_mem_nil, ↓reduceIte, Nat.reduceEqDiff, Nat.reduceLT, Nat.reduceLeDiff, Nat.reduceAdd, Nat.reduceMul, reduceCtorEq, Try.f85, tI_len, rowsN_len, take_N, tI_toI, sc_Contains_int, run_Contains_int h3, hq, run_ContainsFunc_Cable h1 h2 h3 h2 h5, hm2, hsO, readyF, Bool.true_and, *])))
    refine finF_i [] ?_
    simp -dsimp (maxSteps := 1000000) only [go_sem, List.forall_mem_nil, ↓reduceIte, Nat.reduceEqDiff, Nat.reduceLT, Nat.reduceLeDiff, Nat.reduceAdd, Nat.reduceMul, reduceCtorEq, readyF, hq, Bool.true_and, tI_len, rowsN_len]

/-! ### order -/
def readyIdx (ms : List Mod) (cs : List Cbl) (out : List Int) : Nat → Nat → Nat
  | 0, i => i
  | f + 1, i => if readyF ms cs out i = true then i else readyIdx ms cs out f (i + 1)
def orderGo (ms : List Mod) (cs : List Cbl) : Nat → List Int → Option (List Int)
  | 0, out => some out
  | f + 1, out => if readyIdx ms cs out ms.length 0 = ms.length then none else orderGo ms cs f (out ++ [(readyIdx ms cs out ms.length 0 : Int)])
def orderF (ms : List Mod) (cs : List Cbl) : Option (List Int) := orderGo ms cs ms.length []
theorem readyIdx_le (ms : List Mod) (cs : List Cbl) (out : List Int) : ∀ f i, readyIdx ms cs out f i ≤ i + f
  | 0, i => Nat.le_refl _
  | f + 1, i => by
    simp only [readyIdx]
    split
    · omega
    · have := readyIdx_le ms cs out f (i + 1); omega
def oOrder : Option (List Int) → Outs
  | some l => .one { val := .tup [.c (.view 0 1 0 l.length), .c (.im (.bool true))], roots := [.arr 1 (tI (rowsN l))] }
  | none => .one { val := .tup [.c .nil, .c (.im (.bool false))] }
theorem okO_order {sc : Bool} (o : Option (List Int)) : ∀ res, (oOrder o).mem res → OkR sc res := by
  cases o with
  | none => exact okO ⟨.tup _ (by intro d hd; simp at hd; rcases hd with rfl | rfl; exact .inl ⟨_, rfl, .nil⟩; exact .inl ⟨_, rfl, okC_sc rfl⟩), by simp, by simp⟩
  | some l => exact okO ⟨.tup _ (by intro d hd; simp at hd; rcases hd with rfl | rfl; exact .inl ⟨_, rfl, .view _ _ _ _ (by simp)⟩; exact .inl ⟨_, rfl, okC_sc rfl⟩), by intro r hr; simp at hr; subst hr; exact mvR_tI (sc_rowsN _), by simp⟩
structure ARk where
  ms : List Mod
  cs : List Cbl
  ml : ms.length ≤ 16
  cl : cs.length ≤ sm
  ok : ∀ c ∈ cs, 0 ≤ c.1 ∧ c.1 < ms.length
noncomputable def ct_order : Ct := fam true (fun x : ARk => ([.agg [.im (.sl 11 (rowsM x.ms)), .im (.sl 2 (rowsC x.cs))]], [])) (fun x => oOrder (orderF x.ms x.cs))
theorem run_order {ms : List Mod} {cs : List Cbl} (h1 : ms.length ≤ 16) (h2 : cs.length ≤ sm) (h5 : ∀ c ∈ cs, 0 ≤ c.1 ∧ c.1 < ms.length) : ct_order.run [.agg [.im (.sl 11 (rowsM ms)), .im (.sl 2 (rowsC cs))]] [] = some (oOrder (orderF ms cs)) := by
  refine fam_run' (args := fun x : ARk => ([D.agg [.im (.sl 11 (rowsM x.ms)), .im (.sl 2 (rowsC x.cs))]], [])) ?_ ⟨ms, cs, h1, h2, h5⟩
  rintro ⟨a, b, _, _, _⟩ ⟨a', b', _, _, _⟩ h
  simp [rowsM_eq, rowsC_eq] at h ⊢
  exact h
theorem sc_order : (ct_order.sc = true) = True := by simp [ct_order, fam]
theorem rowsN_app (a b : List Int) : rowsN a ++ rowsN b = rowsN (a ++ b) := by simp [rowsN]
theorem tIN_app (l : List Int) (i : Int) : tI (rowsN l) ++ [[T.im (.int .i64 i)]] = tI (rowsN (l ++ [i])) := by simp [tI, rowsN]
theorem okT_im (i : I) : okT (.im i) = true := rfl
set_option maxRecDepth 100000 in
set_option maxHeartbeats 8000000 in
theorem law_order : Law Try.prog 62 ct_order := by
  refine fam_lawF (Env_cons law_order_1 Env_nil) hmixA Try.func62 rfl rfl (fun ⟨ms, cs, h1, h2, h5⟩ => ⟨okO_order _, by simp [Try.f62], ?_⟩)
  have hsm : sm = 16777216 := rfl
  have h1' : ms.length ≤ sm := by omega
  simp only [orderF]
  try simp -dsimp (maxSteps := 1000000) only [go_sem, List.forall_mem_nil, ↓reduceIte, Nat.reduceEqDiff, Nat.reduceLT, Nat.reduceLeDiff, Nat.reduceAdd, Nat.reduceMul, reduceCtorEq, Try.f62, rowsM_len, rowsC_len]
  repeat' (first
    | ((with_reducible refine sl_i ?_ ?_); focus kernel_rfl)
    | ((with_reducible refine ro_i ?_ ?_); focus kernel_rfl)
    | ((with_reducible refine sl_e ?_); kernel_rfl)
    | ((with_reducible refine ro_e ?_); kernel_rfl)
    | ((first | (with_reducible refine gS_d ?_ ?_) | (with_reducible refine gS_dn ?_ ?_) | (with_reducible refine gS_i ?_ ?_)) <;> intro hg <;> (try simp -dsimp (maxSteps := 1000000) only [go_sem, List.forall_mem_nil, ↓reduceIte, Nat.reduceEqDiff, Nat.reduceLT, Nat.reduceLeDiff, Nat.reduceAdd, Nat.reduceMul, reduceCtorEq, Try.f62, rowsM_len, rowsC_len, *])))
  refine loop_i (ι := { x : List Int // x.length ≤ ms.length ∧ orderGo ms cs ms.length [] = orderGo ms cs (ms.length - x.length) x }) (fun x => ⟨[(1, some (.c (.ptr 0 0 0 0))), (4, some (.c (.ptr 2 0 0 0))), (5, some (.c (.fn (.func 85) [.ptr 2 0 0 0, .ptr 0 0 0 0])))],
    [(0, some (.box [.t (.im (.sl 11 (rowsM ms))), .t (.im (.sl 2 (rowsC cs)))])), (2, some (.box [.t (.own 1 (tI (rowsN x.1)))]))], 3⟩) (fun x => ms.length - x.1.length) ⟨[], by simp⟩ ⟨[.fold 2 0 0], [], by ((simp only [ne_eq, eq_self, subF, folds, wk1, subOk, sOk, hOk, nms, reF, rho, mapD, mapC, mapC1, NmD, NmC, NmC1, mapR, mapB, mapTt, NmR, NmB, NmT, MvRb, MvRn, MvRt, lk, ins, Root.get, Root.setT, List.map_cons, List.map_nil, List.nodup_cons, List.nodup_nil, List.not_mem_nil, List.mem_cons, not_false_eq_true, and_self, and_true, true_and, true_or, or_true, false_or, or_false, ↓reduceIte, Nat.reduceEqDiff, Nat.reduceLT, Nat.reduceLeDiff, reduceCtorEq, Option.isSome_some, List.forall_mem_cons, List.forall_mem_nil, implies_true, forall_const, Nat.le_refl, Nat.zero_le, false_implies, List.mem_singleton, MvB_im, MvB_nil, Mv_im, Option.some.injEq, D.c.injEq, C.im.injEq, I.int.injEq, List.getElem?_cons_zero, List.getElem?_cons_succ, List.set_cons_zero, List.set_cons_succ, List.length_cons, List.length_nil, Nat.zero_add, tI, rowsN]) <;> (try (simp -dsimp only [ne_eq, eq_self, subF, folds, wk1, subOk, sOk, hOk, nms, reF, rho, mapD, mapC, mapC1, NmD, NmC, NmC1, mapR, mapB, mapTt, NmR, NmB, NmT, MvRb, MvRn, MvRt, lk, ins, Root.get, Root.setT, List.map_cons, List.map_nil, List.nodup_cons, List.nodup_nil, List.not_mem_nil, List.mem_cons, not_false_eq_true, and_self, and_true, true_and, true_or, or_true, false_or, or_false, ↓reduceIte, Nat.reduceEqDiff, Nat.reduceLT, Nat.reduceLeDiff, reduceCtorEq, Option.isSome_some, List.forall_mem_cons, List.forall_mem_nil, implies_true, forall_const, Nat.le_refl, Nat.zero_le, false_implies, List.mem_singleton, MvB_im, MvB_nil, Mv_im, Option.some.injEq, D.c.injEq, C.im.injEq, I.int.injEq, List.getElem?_cons_zero, List.getElem?_cons_succ, List.set_cons_zero, List.set_cons_succ, List.length_cons, List.length_nil, Nat.zero_add, tI, rowsN]))) <;> simp [lk, MvB_im]⟩ (fun ⟨out, hk, hinv⟩ => ?_)
  have hm2 : MvB false (.t (.own 1 (tI (rowsN out)))) = True := eq_true (.t _ (.own _ _ (sc_false _ 1)))
  have h3 : out.length ≤ sm := by omega
  by_cases hlt : out.length < ms.length
  rotate_left
  · have hI : ((out.length : Int) < (ms.length : Int)) = False := by simp; omega
    rw [show ms.length - out.length = 0 by omega] at hinv
    simp only [orderGo] at hinv
    try simp -dsimp (maxSteps := 1000000) only [go_sem, List.forall_mem_nil, ↓reduceIte, Nat.reduceEqDiff, Nat.reduceLT, Nat.reduceLeDiff, Nat.reduceAdd, Nat.reduceMul, reduceCtorEq, Try.f62, hI, tI_len, rowsN_len, rowsM_len, hinv, oOrder]
    repeat' (first
      | ((with_reducible refine sl_i ?_ ?_); focus kernel_rfl)
      | ((with_reducible refine ro_i ?_ ?_); focus kernel_rfl)
      | ((with_reducible refine sl_e ?_); kernel_rfl)
      | ((with_reducible refine ro_e ?_); kernel_rfl)
      | ((first | (with_reducible refine gS_d ?_ ?_) | (with_reducible refine gS_dn ?_ ?_) | (with_reducible refine gS_i ?_ ?_)) <;> intro hg <;> (try simp -dsimp (maxSteps := 1000000) only [go_sem, List.forall_mem_nil, ↓reduceIte, Nat.reduceEqDiff, Nat.reduceLT, Nat.reduceLeDiff, Nat.reduceAdd, Nat.reduceMul, reduceCtorEq, Try.f62, hI, tI_len, rowsN_len, rowsM_len, hinv, oOrder, *])))
    refine finF_i [] ?_
    simp -dsimp (maxSteps := 1000000) only [go_sem, List.forall_mem_nil, ↓reduceIte, Nat.reduceEqDiff, Nat.reduceLT, Nat.reduceLeDiff, Nat.reduceAdd, Nat.reduceMul, reduceCtorEq, hinv, oOrder, tI_len, rowsN_len]

    refine ⟨[_], ?_, ?_, ?_, rfl⟩ <;> simp [rtOk]
  have hI : ((out.length : Int) < (ms.length : Int)) = True := by simp; omega
  try simp -dsimp (maxSteps := 1000000) only [go_sem, List.forall_mem_nil, ↓reduceIte, Nat.reduceEqDiff, Nat.reduceLT, Nat.reduceLeDiff, Nat.reduceAdd, Nat.reduceMul, reduceCtorEq, Try.f62, hI, tI_len, rowsN_len, rowsM_len]
  repeat' (first
    | ((with_reducible refine sl_i ?_ ?_); focus kernel_rfl)
    | ((with_reducible refine ro_i ?_ ?_); focus kernel_rfl)
    | ((with_reducible refine sl_e ?_); kernel_rfl)
    | ((with_reducible refine ro_e ?_); kernel_rfl)
    | ((first | (with_reducible refine gS_d ?_ ?_) | (with_reducible refine gS_dn ?_ ?_) | (with_reducible refine gS_i ?_ ?_)) <;> intro hg <;> (try simp -dsimp (maxSteps := 1000000) only [go_sem, List.forall_mem_nil, ↓reduceIte, Nat.reduceEqDiff, Nat.reduceLT, Nat.reduceLeDiff, Nat.reduceAdd, Nat.reduceMul, reduceCtorEq, Try.f62, hI, tI_len, rowsN_len, rowsM_len, *])))
  refine loop_i (ι := { i : Nat // i ≤ ms.length ∧ readyIdx ms cs out ms.length 0 = readyIdx ms cs out (ms.length - i) i }) (fun i => ⟨[(1, some (.c (.ptr 0 0 0 0))), (4, some (.c (.ptr 2 0 0 0))), (5, some (.c (.fn (.func 85) [.ptr 2 0 0 0, .ptr 0 0 0 0]))), (6, some (.c (.im (.int .i64 (i.1 : Int)))))],
    [(0, some (.box [.t (.im (.sl 11 (rowsM ms))), .t (.im (.sl 2 (rowsC cs)))])), (2, some (.box [.t (.own 1 (tI (rowsN out)))]))], 3⟩) (fun i => ms.length - i.1) ⟨0, by simp⟩ ⟨[.fold 2 0 0], [], by ((simp only [ne_eq, eq_self, subF, folds, wk1, subOk, sOk, hOk, nms, reF, rho, mapD, mapC, mapC1, NmD, NmC, NmC1, mapR, mapB, mapTt, NmR, NmB, NmT, MvRb, MvRn, MvRt, lk, ins, Root.get, Root.setT, List.map_cons, List.map_nil, List.nodup_cons, List.nodup_nil, List.not_mem_nil, List.mem_cons, not_false_eq_true, and_self, and_true, true_and, true_or, or_true, false_or, or_false, ↓reduceIte, Nat.reduceEqDiff, Nat.reduceLT, Nat.reduceLeDiff, reduceCtorEq, Option.isSome_some, List.forall_mem_cons, List.forall_mem_nil, implies_true, forall_const, Nat.le_refl, Nat.zero_le, false_implies, List.mem_singleton, MvB_im, MvB_nil, Mv_im, Option.some.injEq, D.c.injEq, C.im.injEq, I.int.injEq, List.getElem?_cons_zero, List.getElem?_cons_succ, List.set_cons_zero, List.set_cons_succ, List.length_cons, List.length_nil, Nat.zero_add, tI_len, rowsN_len, hm2]) <;> (try (simp -dsimp only [ne_eq, eq_self, subF, folds, wk1, subOk, sOk, hOk, nms, reF, rho, mapD, mapC, mapC1, NmD, NmC, NmC1, mapR, mapB, mapTt, NmR, NmB, NmT, MvRb, MvRn, MvRt, lk, ins, Root.get, Root.setT, List.map_cons, List.map_nil, List.nodup_cons, List.nodup_nil, List.not_mem_nil, List.mem_cons, not_false_eq_true, and_self, and_true, true_and, true_or, or_true, false_or, or_false, ↓reduceIte, Nat.reduceEqDiff, Nat.reduceLT, Nat.reduceLeDiff, reduceCtorEq, Option.isSome_some, List.forall_mem_cons, List.forall_mem_nil, implies_true, forall_const, Nat.le_refl, Nat.zero_le, false_implies, List.mem_singleton, MvB_im, MvB_nil, Mv_im, Option.some.injEq, D.c.injEq, C.im.injEq, I.int.injEq, List.getElem?_cons_zero, List.getElem?_cons_succ, List.set_cons_zero, List.set_cons_succ, List.length_cons, List.length_nil, Nat.zero_add, tI_len, rowsN_len, hm2]))) <;> simp [lk, MvB_im, hm2]⟩ (fun ⟨i, hi, hri⟩ => ?_)
  rw [show ms.length - out.length = (ms.length - (out.length + 1)) + 1 by omega] at hinv
  simp only [orderGo] at hinv
  by_cases hil : i < ms.length
  · have hI2 : ((i : Int) < (ms.length : Int)) = True := by simp; omega
    have hI3 : ((i : Int) = (ms.length : Int)) = False := eq_false (by omega)
    have hwr := lt_sm h1' hil
    rw [show ms.length - i = (ms.length - (i + 1)) + 1 by omega] at hri
    simp only [readyIdx] at hri
    cases hr : readyF ms cs out (i : Int) with
    | false =>
      simp only [hr, Bool.false_eq_true, if_false] at hri
      clear hinv
      try simp -dsimp (maxSteps := 1000000) only [go_sem, List.forall_mem_nil, ↓reduceIte, Nat.reduceEqDiff, Nat.reduceLT, Nat.reduceLeDiff, Nat.reduceAdd, Nat.reduceMul, reduceCtorEq, Try.f62, hI2, hwr, run_order_1 h1' h2 h3 h5, hr, hsR, hm2, rowsM_len]
      repeat' (first
        | ((with_reducible refine sl_i ?_ ?_); focus kernel_rfl)
        | ((with_reducible refine ro_i ?_ ?_); focus kernel_rfl)
        | ((with_reducible refine sl_e ?_); kernel_rfl)
        | ((with_reducible refine ro_e ?_); kernel_rfl)
        | ((first | (with_reducible refine gS_d ?_ ?_) | (with_reducible refine gS_dn ?_ ?_) | (with_reducible refine gS_i ?_ ?_)) <;> intro hg <;> (try simp -dsimp (maxSteps := 1000000) only [go_sem, List.forall_mem_nil, ↓reduceIte, Nat.reduceEqDiff, Nat.reduceLT, Nat.reduceLeDiff, Nat.reduceAdd, Nat.reduceMul, reduceCtorEq, Try.f62, hI2, hwr, run_order_1 h1' h2 h3 h5, hr, hsR, hm2, rowsM_len, *])))
      exact ⟨⟨i + 1, by omega, hri⟩, by simp only []; omega, [], [], by ((simp only [ne_eq, eq_self, subF, folds, wk1, subOk, sOk, hOk, nms, reF, rho, mapD, mapC, mapC1, NmD, NmC, NmC1, mapR, mapB, mapTt, NmR, NmB, NmT, MvRb, MvRn, MvRt, lk, ins, Root.get, Root.setT, List.map_cons, List.map_nil, List.nodup_cons, List.nodup_nil, List.not_mem_nil, List.mem_cons, not_false_eq_true, and_self, and_true, true_and, true_or, or_true, false_or, or_false, ↓reduceIte, Nat.reduceEqDiff, Nat.reduceLT, Nat.reduceLeDiff, reduceCtorEq, Option.isSome_some, List.forall_mem_cons, List.forall_mem_nil, implies_true, forall_const, Nat.le_refl, Nat.zero_le, false_implies, List.mem_singleton, MvB_im, MvB_nil, Mv_im, Option.some.injEq, D.c.injEq, C.im.injEq, I.int.injEq, List.getElem?_cons_zero, List.getElem?_cons_succ, List.set_cons_zero, List.set_cons_succ, List.length_cons, List.length_nil, Nat.zero_add, hm2]) <;> (try (simp -dsimp only [ne_eq, eq_self, subF, folds, wk1, subOk, sOk, hOk, nms, reF, rho, mapD, mapC, mapC1, NmD, NmC, NmC1, mapR, mapB, mapTt, NmR, NmB, NmT, MvRb, MvRn, MvRt, lk, ins, Root.get, Root.setT, List.map_cons, List.map_nil, List.nodup_cons, List.nodup_nil, List.not_mem_nil, List.mem_cons, not_false_eq_true, and_self, and_true, true_and, true_or, or_true, false_or, or_false, ↓reduceIte, Nat.reduceEqDiff, Nat.reduceLT, Nat.reduceLeDiff, reduceCtorEq, Option.isSome_some, List.forall_mem_cons, List.forall_mem_nil, implies_true, forall_const, Nat.le_refl, Nat.zero_le, false_implies, List.mem_singleton, MvB_im, MvB_nil, Mv_im, Option.some.injEq, D.c.injEq, C.im.injEq, I.int.injEq, List.getElem?_cons_zero, List.getElem?_cons_succ, List.set_cons_zero, List.set_cons_succ, List.length_cons, List.length_nil, Nat.zero_add, hm2]))) <;> simp [lk, MvB_im, hm2]⟩
    | true =>
      simp only [hr, if_true] at hri
      rw [hri, if_neg (by omega)] at hinv
      have hb : ((out ++ [(i : Int)]).length * 8 ≤ 140737488355328) = True := bytes_sm (by simp; omega) (by decide)
      have hm3 : MvB false (.t (.own 1 (tI (rowsN (out ++ [(i : Int)]))))) = True := eq_true (.t _ (.own _ _ (sc_false _ 1)))
      try simp -dsimp (maxSteps := 1000000) only [go_sem, List.forall_mem_nil, ↓reduceIte, Nat.reduceEqDiff, Nat.reduceLT, Nat.reduceLeDiff, Nat.reduceAdd, Nat.reduceMul, reduceCtorEq, Try.f62, hI2, hI3, run_order_1 h1' h2 h3 h5, hr, hsR, hm2, hb, rowsM_len, tI_len, rowsN_len, appendH, srcRows, List.take_succ_cons, List.take_zero, List.all_cons, List.all_nil, okT, Bool.and_true, tIN_app]
      repeat' (first
        | ((with_reducible refine sl_i ?_ ?_); focus kernel_rfl)
        | ((with_reducible refine ro_i ?_ ?_); focus kernel_rfl)
        | ((with_reducible refine sl_e ?_); kernel_rfl)
        | ((with_reducible refine ro_e ?_); kernel_rfl)
        | ((first | (with_reducible refine gS_d ?_ ?_) | (with_reducible refine gS_dn ?_ ?_) | (with_reducible refine gS_i ?_ ?_)) <;> intro hg <;> (try simp -dsimp (maxSteps := 1000000) only [go_sem, List.forall_mem_nil, ↓reduceIte, Nat.reduceEqDiff, Nat.reduceLT, Nat.reduceLeDiff, Nat.reduceAdd, Nat.reduceMul, reduceCtorEq, Try.f62, hI2, hI3, run_order_1 h1' h2 h3 h5, hr, hsR, hm2, hb, rowsM_len, tI_len, rowsN_len, appendH, srcRows, List.take_succ_cons, List.take_zero, List.all_cons, List.all_nil, okT, Bool.and_true, tIN_app, *])))
      exact ⟨⟨out ++ [(i : Int)], by simp; omega, by rw [List.length_append]; exact hinv⟩, by simp only [List.length_append, List.length_cons, List.length_nil]; omega, [.fold 2 0 0], [], by ((simp only [ne_eq, eq_self, subF, folds, wk1, subOk, sOk, hOk, nms, reF, rho, mapD, mapC, mapC1, NmD, NmC, NmC1, mapR, mapB, mapTt, NmR, NmB, NmT, MvRb, MvRn, MvRt, lk, ins, Root.get, Root.setT, List.map_cons, List.map_nil, List.nodup_cons, List.nodup_nil, List.not_mem_nil, List.mem_cons, not_false_eq_true, and_self, and_true, true_and, true_or, or_true, false_or, or_false, ↓reduceIte, Nat.reduceEqDiff, Nat.reduceLT, Nat.reduceLeDiff, reduceCtorEq, Option.isSome_some, List.forall_mem_cons, List.forall_mem_nil, implies_true, forall_const, Nat.le_refl, Nat.zero_le, false_implies, List.mem_singleton, MvB_im, MvB_nil, Mv_im, Option.some.injEq, D.c.injEq, C.im.injEq, I.int.injEq, List.getElem?_cons_zero, List.getElem?_cons_succ, List.set_cons_zero, List.set_cons_succ, List.length_cons, List.length_nil, Nat.zero_add, hm3, tI_len, rowsN_len]) <;> (try (simp -dsimp only [ne_eq, eq_self, subF, folds, wk1, subOk, sOk, hOk, nms, reF, rho, mapD, mapC, mapC1, NmD, NmC, NmC1, mapR, mapB, mapTt, NmR, NmB, NmT, MvRb, MvRn, MvRt, lk, ins, Root.get, Root.setT, List.map_cons, List.map_nil, List.nodup_cons, List.nodup_nil, List.not_mem_nil, List.mem_cons, not_false_eq_true, and_self, and_true, true_and, true_or, or_true, false_or, or_false, ↓reduceIte, Nat.reduceEqDiff, Nat.reduceLT, Nat.reduceLeDiff, reduceCtorEq, Option.isSome_some, List.forall_mem_cons, List.forall_mem_nil, implies_true, forall_const, Nat.le_refl, Nat.zero_le, false_implies, List.mem_singleton, MvB_im, MvB_nil, Mv_im, Option.some.injEq, D.c.injEq, C.im.injEq, I.int.injEq, List.getElem?_cons_zero, List.getElem?_cons_succ, List.set_cons_zero, List.set_cons_succ, List.length_cons, List.length_nil, Nat.zero_add, hm3, tI_len, rowsN_len]))) <;> simp [lk, MvB_im, hm3]⟩
  · have hI2 : ((i : Int) < (ms.length : Int)) = False := by simp; omega
    have hie : i = ms.length := by omega
    subst hie
    rw [Nat.sub_self] at hri
    simp only [readyIdx] at hri
    rw [if_pos hri] at hinv
    try simp -dsimp (maxSteps := 1000000) only [go_sem, List.forall_mem_nil, ↓reduceIte, Nat.reduceEqDiff, Nat.reduceLT, Nat.reduceLeDiff, Nat.reduceAdd, Nat.reduceMul, reduceCtorEq, Try.f62, hI2, rowsM_len, hinv, oOrder]
    repeat' (first
      | ((with_reducible refine sl_i ?_ ?_); focus kernel_rfl)
      | ((with_reducible refine ro_i ?_ ?_); focus kernel_rfl)
      | ((with_reducible refine sl_e ?_); kernel_rfl)
      | ((with_reducible refine ro_e ?_); kernel_rfl)
      | ((first | (with_reducible refine gS_d ?_ ?_) | (with_reducible refine gS_dn ?_ ?_) | (with_reducible refine gS_i ?_ ?_)) <;> intro hg <;> (try simp -dsimp (maxSteps := 1000000) only [go_sem, List.forall_mem_nil, ↓reduceIte, Nat.reduceEqDiff, Nat.reduceLT, Nat.reduceLeDiff, Nat.reduceAdd, Nat.reduceMul, reduceCtorEq, Try.f62, hI2, rowsM_len, hinv, oOrder, *])))
    refine finF_i [] ?_
    simp -dsimp (maxSteps := 1000000) only [go_sem, List.forall_mem_nil, ↓reduceIte, Nat.reduceEqDiff, Nat.reduceLT, Nat.reduceLeDiff, Nat.reduceAdd, Nat.reduceMul, reduceCtorEq, hinv, oOrder]
end Go.SX
