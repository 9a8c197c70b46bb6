/-
  slices.Contains, slices.ContainsFunc, the order of a rack.
  No condition.
-/
import Derived.Test.YtbhnlplbfhomcaaRkI
set_option linter.unusedVariables false
set_option linter.unusedSimpArgs false
namespace Go.SX
open Go Go.Proofs

def rowsM (ms : List Mod) : List (List I) := ms.map modI
theorem rowsM_len (l : List Mod) : (rowsM l).length = l.length := by simp [rowsM]
theorem rowsM_at {l : List Mod} {k : Nat} {m : Mod} (h : l[k]? = some m) : (rowsM l)[k]? = some [.int .i64 m.kind, .cpx .f32 m.turn.1 m.turn.2, .cpx .f32 m.state.1 m.state.2, .flt .f32 m.level, .sl 1 (rowsZ m.store), .int .i64 m.rat, .int .i64 m.rcnt, .sl 1 (rowsZ m.pts), .sl 1 (rowsN m.lab), .int .i64 m.count, .int .i64 m.left] := by
  simp [rowsM, h, modI]
theorem modI_inj {a b : Mod} (h : modI a = modI b) : a = b := by
  obtain ⟨k, ⟨t1, t2⟩, ⟨s1, s2⟩, l, st, r1, r2, p, la, c, le⟩ := a
  obtain ⟨k', ⟨t1', t2'⟩, ⟨s1', s2'⟩, l', st', r1', r2', p', la', c', le'⟩ := b
  simp [modI, rowsZ_eq, rowsN_eq] at h
  simp [h]
theorem rowsM_eq {l m : List Mod} : (rowsM l = rowsM m) = (l = m) := by
  refine propext ⟨fun h => ?_, fun h => by rw [h]⟩
  induction l generalizing m with
  | nil => cases m with | nil => rfl | cons => simp [rowsM] at h
  | cons p l ih =>
    cases m with
    | nil => simp [rowsM] at h
    | cons q m =>
      simp only [rowsM, List.map_cons, List.cons.injEq] at h
      rw [ih h.2, modI_inj h.1]
theorem sc_false (rows : List (List I)) : ∀ (sz : Nat), MvR false (.arr sz (tI rows)) := by
  intro sz r hr t ht
  simp only [tI, List.mem_map] at hr
  obtain ⟨r0, hr0, rfl⟩ := hr
  simp only [List.mem_map] at ht
  obtain ⟨i, hi, rfl⟩ := ht
  exact .im _ (.inl rfl)

/-! ### slices.Index, slices.Contains -/
noncomputable def ct_Index_int : Ct := fam true (fun x : { l : List Int // l.length ≤ sm } × Int => ([.c (.im (.sl 1 (rowsN x.1.1))), .c (.im (.int .i64 x.2))], [])) (fun x => .one { val := .c (.im (.int .i64 (idxF (fun y => decide (x.2 = y)) x.1.1 0))) })
theorem run_Index_int {l : List Int} (hl : l.length ≤ sm) (v : Int) : ct_Index_int.run [.c (.im (.sl 1 (rowsN l))), .c (.im (.int .i64 v))] [] = some (.one { val := .c (.im (.int .i64 (idxF (fun y => decide (v = y)) l 0))) }) := by
  refine fam_run' (args := fun x : { l : List Int // l.length ≤ sm } × Int => ([D.c (.im (.sl 1 (rowsN x.1.1))), .c (.im (.int .i64 x.2))], [])) ?_ (⟨l, hl⟩, v)
  rintro ⟨⟨a, b⟩, c⟩ ⟨⟨a', b'⟩, c'⟩ h
  simp [rowsN_eq] at h ⊢
  simp [h]
set_option maxRecDepth 100000 in
theorem law_Index_int : Law Try.prog 100 ct_Index_int := by
  refine fam_law Env_nil hmixA Try.func100 rfl rfl (fun ⟨⟨l, hl⟩, v⟩ => ⟨okO_im rfl, by simp [Try.f100], ?_⟩)
  try simp -dsimp (maxSteps := 1000000) only [go_sem, List.forall_mem_nil, ↓reduceIte, Nat.reduceEqDiff, Nat.reduceLT, Nat.reduceLeDiff, Nat.reduceAdd, Nat.reduceMul, reduceCtorEq, Try.f100, rowsN_len]
  repeat' (first
    | ((with_reducible refine sl_i ?_ ?_); focus kernel_rfl)
    | ((with_reducible refine ro_i ?_ ?_); focus kernel_rfl)
    | ((with_reducible refine sl_e ?_); kernel_rfl)
    | ((with_reducible refine ro_e ?_); kernel_rfl)
    | ((first | (with_reducible refine gS_d ?_ ?_) | (with_reducible refine gS_dn ?_ ?_) | (with_reducible refine gS_i ?_ ?_)) <;> intro hg <;> (try simp -dsimp (maxSteps := 1000000) only [go_sem, List.forall_mem_nil, ↓reduceIte, Nat.reduceEqDiff, Nat.reduceLT, Nat.reduceLeDiff, Nat.reduceAdd, Nat.reduceMul, reduceCtorEq, Try.f100, rowsN_len, *])))
  refine loop_i (ι := { k : Nat // k ≤ l.length ∧ idxF (fun y => decide (v = y)) l 0 = idxF (fun y => decide (v = y)) (l.drop k) k }) (fun k => ⟨[(0, some (.c (.im (.sl 1 (rowsN l))))), (1, some (.c (.im (.int .i64 v)))), (7, some (.c (.im (.int .i64 (l.length : Int))))), (8, some (.c (.im (.int .i64 (k.1 : Int)))))],
    [], 0⟩) (fun k => l.length - k.1) ⟨0, by simp⟩ ⟨[], [], by ((simp only [ne_eq, eq_self, subF, folds, wk1, subOk, sOk, hOk, nms, reF, rho, mapD, mapC, mapC1, NmD, NmC, NmC1, mapR, mapB, mapTt, NmR, NmB, NmT, MvRb, MvRn, MvRt, lk, ins, Root.get, Root.setT, List.map_cons, List.map_nil, List.nodup_cons, List.nodup_nil, List.not_mem_nil, List.mem_cons, not_false_eq_true, and_self, and_true, true_and, true_or, or_true, false_or, or_false, ↓reduceIte, Nat.reduceEqDiff, Nat.reduceLT, Nat.reduceLeDiff, reduceCtorEq, Option.isSome_some, List.forall_mem_cons, List.forall_mem_nil, implies_true, forall_const, Nat.le_refl, Nat.zero_le, false_implies, List.mem_singleton, MvB_im, MvB_nil, Mv_im, Option.some.injEq, D.c.injEq, C.im.injEq, I.int.injEq, List.getElem?_cons_zero, List.getElem?_cons_succ, List.set_cons_zero, List.set_cons_succ, List.length_cons, List.length_nil, Nat.zero_add]) <;> (try (simp -dsimp only [ne_eq, eq_self, subF, folds, wk1, subOk, sOk, hOk, nms, reF, rho, mapD, mapC, mapC1, NmD, NmC, NmC1, mapR, mapB, mapTt, NmR, NmB, NmT, MvRb, MvRn, MvRt, lk, ins, Root.get, Root.setT, List.map_cons, List.map_nil, List.nodup_cons, List.nodup_nil, List.not_mem_nil, List.mem_cons, not_false_eq_true, and_self, and_true, true_and, true_or, or_true, false_or, or_false, ↓reduceIte, Nat.reduceEqDiff, Nat.reduceLT, Nat.reduceLeDiff, reduceCtorEq, Option.isSome_some, List.forall_mem_cons, List.forall_mem_nil, implies_true, forall_const, Nat.le_refl, Nat.zero_le, false_implies, List.mem_singleton, MvB_im, MvB_nil, Mv_im, Option.some.injEq, D.c.injEq, C.im.injEq, I.int.injEq, List.getElem?_cons_zero, List.getElem?_cons_succ, List.set_cons_zero, List.set_cons_succ, List.length_cons, List.length_nil, Nat.zero_add]))) <;> simp⟩ (fun ⟨k, hk, hinv⟩ => ?_)
  by_cases hlt : k < l.length
  · obtain ⟨p, hp⟩ : ∃ p, l[k]? = some p := ⟨_, List.getElem?_eq_getElem hlt⟩
    have hrow := rowsN_at hp
    have hI : ((k : Int) < (l.length : Int)) = True := by simp; omega
    have h0 : (0 ≤ (k : Int)) = True := by simp
    have hidx := idxF_drop (f := (fun y => decide (v = y))) hp
    have hwr := lt_sm hl hlt
    by_cases hq : v = p
    · have hq' := eq_true hq
      simp only [hq', decide_true, if_true] at hidx
      rw [hidx] at hinv
      clear hidx hq
      try simp -dsimp (maxSteps := 1000000) only [go_sem, List.forall_mem_nil, ↓reduceIte, Nat.reduceEqDiff, Nat.reduceLT, Nat.reduceLeDiff, Nat.reduceAdd, Nat.reduceMul, reduceCtorEq, Try.f100, hI, h0, Int.toNat_natCast, hrow, hq', hinv, rowsN_len]
      repeat' (first
        | ((with_reducible refine sl_i ?_ ?_); focus kernel_rfl)
        | ((with_reducible refine ro_i ?_ ?_); focus kernel_rfl)
        | ((with_reducible refine sl_e ?_); kernel_rfl)
        | ((with_reducible refine ro_e ?_); kernel_rfl)
        | ((first | (with_reducible refine gS_d ?_ ?_) | (with_reducible refine gS_dn ?_ ?_) | (with_reducible refine gS_i ?_ ?_)) <;> intro hg <;> (try simp -dsimp (maxSteps := 1000000) only [go_sem, List.forall_mem_nil, ↓reduceIte, Nat.reduceEqDiff, Nat.reduceLT, Nat.reduceLeDiff, Nat.reduceAdd, Nat.reduceMul, reduceCtorEq, Try.f100, hI, h0, Int.toNat_natCast, hrow, hq', hinv, rowsN_len, *])))
    · have hq' := eq_false hq
      simp only [hq', decide_false, if_false, Bool.false_eq_true] at hidx
      rw [hidx] at hinv
      clear hidx hq
      try simp -dsimp (maxSteps := 1000000) only [go_sem, List.forall_mem_nil, ↓reduceIte, Nat.reduceEqDiff, Nat.reduceLT, Nat.reduceLeDiff, Nat.reduceAdd, Nat.reduceMul, reduceCtorEq, Try.f100, hI, h0, Int.toNat_natCast, hrow, hq', hwr, rowsN_len]
      repeat' (first
        | ((with_reducible refine sl_i ?_ ?_); focus kernel_rfl)
        | ((with_reducible refine ro_i ?_ ?_); focus kernel_rfl)
        | ((with_reducible refine sl_e ?_); kernel_rfl)
        | ((with_reducible refine ro_e ?_); kernel_rfl)
        | ((first | (with_reducible refine gS_d ?_ ?_) | (with_reducible refine gS_dn ?_ ?_) | (with_reducible refine gS_i ?_ ?_)) <;> intro hg <;> (try simp -dsimp (maxSteps := 1000000) only [go_sem, List.forall_mem_nil, ↓reduceIte, Nat.reduceEqDiff, Nat.reduceLT, Nat.reduceLeDiff, Nat.reduceAdd, Nat.reduceMul, reduceCtorEq, Try.f100, hI, h0, Int.toNat_natCast, hrow, hq', hwr, rowsN_len, *])))
      exact ⟨⟨k + 1, by omega, hinv⟩, by simp only []; omega, [], [], by ((simp only [ne_eq, eq_self, subF, folds, wk1, subOk, sOk, hOk, nms, reF, rho, mapD, mapC, mapC1, NmD, NmC, NmC1, mapR, mapB, mapTt, NmR, NmB, NmT, MvRb, MvRn, MvRt, lk, ins, Root.get, Root.setT, List.map_cons, List.map_nil, List.nodup_cons, List.nodup_nil, List.not_mem_nil, List.mem_cons, not_false_eq_true, and_self, and_true, true_and, true_or, or_true, false_or, or_false, ↓reduceIte, Nat.reduceEqDiff, Nat.reduceLT, Nat.reduceLeDiff, reduceCtorEq, Option.isSome_some, List.forall_mem_cons, List.forall_mem_nil, implies_true, forall_const, Nat.le_refl, Nat.zero_le, false_implies, List.mem_singleton, MvB_im, MvB_nil, Mv_im, Option.some.injEq, D.c.injEq, C.im.injEq, I.int.injEq, List.getElem?_cons_zero, List.getElem?_cons_succ, List.set_cons_zero, List.set_cons_succ, List.length_cons, List.length_nil, Nat.zero_add]) <;> (try (simp -dsimp only [ne_eq, eq_self, subF, folds, wk1, subOk, sOk, hOk, nms, reF, rho, mapD, mapC, mapC1, NmD, NmC, NmC1, mapR, mapB, mapTt, NmR, NmB, NmT, MvRb, MvRn, MvRt, lk, ins, Root.get, Root.setT, List.map_cons, List.map_nil, List.nodup_cons, List.nodup_nil, List.not_mem_nil, List.mem_cons, not_false_eq_true, and_self, and_true, true_and, true_or, or_true, false_or, or_false, ↓reduceIte, Nat.reduceEqDiff, Nat.reduceLT, Nat.reduceLeDiff, reduceCtorEq, Option.isSome_some, List.forall_mem_cons, List.forall_mem_nil, implies_true, forall_const, Nat.le_refl, Nat.zero_le, false_implies, List.mem_singleton, MvB_im, MvB_nil, Mv_im, Option.some.injEq, D.c.injEq, C.im.injEq, I.int.injEq, List.getElem?_cons_zero, List.getElem?_cons_succ, List.set_cons_zero, List.set_cons_succ, List.length_cons, List.length_nil, Nat.zero_add]))) <;> simp⟩
  · have hI : ((k : Int) < (l.length : Int)) = False := by simp; omega
    have hkl : k = l.length := by omega
    subst hkl
    rw [List.drop_length] at hinv
    try simp -dsimp (maxSteps := 1000000) only [go_sem, List.forall_mem_nil, ↓reduceIte, Nat.reduceEqDiff, Nat.reduceLT, Nat.reduceLeDiff, Nat.reduceAdd, Nat.reduceMul, reduceCtorEq, Try.f100, hI, hinv, idxF, rowsN_len]
    repeat' (first
      | ((with_reducible refine sl_i ?_ ?_); focus kernel_rfl)
      | ((with_reducible refine ro_i ?_ ?_); focus kernel_rfl)
      | ((with_reducible refine sl_e ?_); kernel_rfl)
      | ((with_reducible refine ro_e ?_); kernel_rfl)
      | ((first | (with_reducible refine gS_d ?_ ?_) | (with_reducible refine gS_dn ?_ ?_) | (with_reducible refine gS_i ?_ ?_)) <;> intro hg <;> (try simp -dsimp (maxSteps := 1000000) only [go_sem, List.forall_mem_nil, ↓reduceIte, Nat.reduceEqDiff, Nat.reduceLT, Nat.reduceLeDiff, Nat.reduceAdd, Nat.reduceMul, reduceCtorEq, Try.f100, hI, hinv, idxF, rowsN_len, *])))
def hasF (l : List Int) (v : Int) : Bool := decide (0 ≤ idxF (fun y => decide (v = y)) l 0)
noncomputable def ct_Contains_int : Ct := fam true (fun x : { l : List Int // l.length ≤ sm } × Int => ([.c (.im (.sl 1 (rowsN x.1.1))), .c (.im (.int .i64 x.2))], [])) (fun x => .one { val := .c (.im (.bool (hasF x.1.1 x.2))) })
theorem sc_Contains_int : (ct_Contains_int.sc = true) = True := by simp [ct_Contains_int, fam]
theorem run_Contains_int {l : List Int} (hl : l.length ≤ sm) (v : Int) : ct_Contains_int.run [.c (.im (.sl 1 (rowsN l))), .c (.im (.int .i64 v))] [] = some (.one { val := .c (.im (.bool (hasF l v))) }) := by
  refine fam_run' (args := fun x : { l : List Int // l.length ≤ sm } × Int => ([D.c (.im (.sl 1 (rowsN x.1.1))), .c (.im (.int .i64 x.2))], [])) ?_ (⟨l, hl⟩, v)
  rintro ⟨⟨a, b⟩, c⟩ ⟨⟨a', b'⟩, c'⟩ h
  simp [rowsN_eq] at h ⊢
  simp [h]
set_option maxRecDepth 100000 in
theorem law_Contains_int : Law Try.prog 86 ct_Contains_int := by
  refine fam_law (Env_cons law_Index_int Env_nil) hmixA Try.func86 rfl rfl (fun ⟨⟨l, hl⟩, v⟩ => ⟨okO_im rfl, by simp [Try.f86], ?_⟩)
  simp only [hasF]
  try simp -dsimp (maxSteps := 1000000) only [go_sem, List.forall_mem_nil, ↓reduceIte, Nat.reduceEqDiff, Nat.reduceLT, Nat.reduceLeDiff, Nat.reduceAdd, Nat.reduceMul, reduceCtorEq, Try.f86, run_Index_int hl]
  repeat' (first
    | ((with_reducible refine sl_i ?_ ?_); focus kernel_rfl)
    | ((with_reducible refine ro_i ?_ ?_); focus kernel_rfl)
    | ((with_reducible refine sl_e ?_); kernel_rfl)
    | ((with_reducible refine ro_e ?_); kernel_rfl)
    | ((first | (with_reducible refine gS_d ?_ ?_) | (with_reducible refine gS_dn ?_ ?_) | (with_reducible refine gS_i ?_ ?_)) <;> intro hg <;> (try simp -dsimp (maxSteps := 1000000) only [go_sem, List.forall_mem_nil, ↓reduceIte, Nat.reduceEqDiff, Nat.reduceLT, Nat.reduceLeDiff, Nat.reduceAdd, Nat.reduceMul, reduceCtorEq, Try.f86, run_Index_int hl, *])))

/-! ### What keeps a module from being the next -/
structure OkR2 (ms : List Mod) (cs : List Cbl) : Prop where
  ml : ms.length ≤ sm
  cl : cs.length ≤ sm
def CabOk (n : Nat) (cs : List Cbl) : Prop := ∀ c ∈ cs, 0 ≤ c.1 ∧ c.1 < n ∧ 0 ≤ c.2 ∧ c.2 < n
def kindOf (ms : List Mod) (i : Int) : Int := match ms[i.toNat]? with
  | some m => m.kind
  | none => 0
def blocks (ms : List Mod) (out : List Int) (i : Int) (c : Cbl) : Bool := decide (c.2 = i) && (!(decide (kindOf ms c.1 = 4)) && !(hasF out c.1))
/-- i, r, out: as the closures see them. -/
def hsO (i : Int) (ms : List Mod) (cs : List Cbl) (out : List Int) : List (List B) := [[.t (.im (.int .i64 i))], [.t (.im (.sl 11 (rowsM ms))), .t (.im (.sl 2 (rowsC cs)))], [.t (.own 1 (tI (rowsN out)))]]
theorem mvB_hsO {i : Int} {ms : List Mod} {cs : List Cbl} {out : List Int} : ∀ c ∈ hsO i ms cs out, ∀ x ∈ c, MvB false x := by
  intro c hc x hx
  simp only [hsO, List.mem_cons, List.not_mem_nil, or_false] at hc
  rcases hc with rfl | rfl | rfl
  · simp at hx; subst hx; exact .t _ (.im _ (.inl rfl))
  · simp at hx; rcases hx with rfl | rfl <;> exact .t _ (.im _ (.inl rfl))
  · simp at hx; subst hx
    exact .t _ (.own _ _ (sc_false _ 1))
structure AO where
  i : Int
  ms : List Mod
  cs : List Cbl
  out : List Int
  ml : ms.length ≤ sm
  cl : cs.length ≤ sm
  ol : out.length ≤ sm
theorem hsO_inj {a b : AO} (h : hsO a.i a.ms a.cs a.out = hsO b.i b.ms b.cs b.out) : a = b := by
  obtain ⟨i, ms, cs, out, _, _, _⟩ := a
  obtain ⟨i', ms', cs', out', _, _, _⟩ := b
  simp [hsO, rowsM_eq, rowsC_eq] at h
  obtain ⟨rfl, ⟨rfl, rfl⟩, h3⟩ := h
  have : out = out' := by
    have h4 := congrArg (mapO (mapO (toI [] (fun _ => none) 0))) h3
    rw [tI_toI, tI_toI] at h4
    simp [rowsN_eq] at h4
    exact h4
  subst this
  rfl
theorem take_N (l : List Int) : (tI (rowsN l)).take l.length = tI (rowsN l) := by rw [List.take_of_length_le]; simp [tI_len, rowsN_len]
theorem take_Z (l : List Pt) : (tI (rowsZ l)).take l.length = tI (rowsZ l) := by rw [List.take_of_length_le]; simp [tI_len, rowsZ_len]
theorem take_C (l : List Cbl) : (tI (rowsC l)).take l.length = tI (rowsC l) := by rw [List.take_of_length_le]; simp [tI_len, rowsC_len]
theorem okR_hsO {i : Int} {ms : List Mod} {cs : List Cbl} {out : List Int} {b : Bool} : OkR false { val := .c (.im (.bool b)), places := hsO i ms cs out } := ⟨okD_im rfl, by simp, mvB_hsO⟩

noncomputable def ct_order_1_1 : Ct := fam false (fun x : { x : AO × Cbl // 0 ≤ x.2.1 ∧ x.2.1 < x.1.ms.length } => ([.agg [.im (.int .i64 x.1.2.1), .im (.int .i64 x.1.2.2)], .c (.ptr 0 0 0 0), .c (.ptr 1 0 0 0), .c (.ptr 2 0 0 0)], hsO x.1.1.i x.1.1.ms x.1.1.cs x.1.1.out))
  (fun x => .one { val := .c (.im (.bool (blocks x.1.1.ms x.1.1.out x.1.1.i x.1.2))), places := hsO x.1.1.i x.1.1.ms x.1.1.cs x.1.1.out })
theorem run_order_1_1 {i : Int} {ms : List Mod} {cs : List Cbl} {out : List Int} (h1 : ms.length ≤ sm) (h2 : cs.length ≤ sm) (h3 : out.length ≤ sm) {a b : Int} (h4 : 0 ≤ a) (h5 : a < ms.length) :
    ct_order_1_1.run [.agg [.im (.int .i64 a), .im (.int .i64 b)], .c (.ptr 0 0 0 0), .c (.ptr 1 0 0 0), .c (.ptr 2 0 0 0)] [[.t (.im (.int .i64 i))], [.t (.im (.sl 11 (rowsM ms))), .t (.im (.sl 2 (rowsC cs)))], [.t (.own 1 (tI (rowsN out)))]] =
      some (.one { val := .c (.im (.bool (blocks ms out i (a, b)))), places := hsO i ms cs out }) := by
  refine fam_run' (args := fun x : { x : AO × Cbl // 0 ≤ x.2.1 ∧ x.2.1 < x.1.ms.length } => ([D.agg [.im (.int .i64 x.1.2.1), .im (.int .i64 x.1.2.2)], .c (.ptr 0 0 0 0), .c (.ptr 1 0 0 0), .c (.ptr 2 0 0 0)], hsO x.1.1.i x.1.1.ms x.1.1.cs x.1.1.out)) ?_ ⟨(⟨i, ms, cs, out, h1, h2, h3⟩, (a, b)), h4, h5⟩
  rintro ⟨⟨a, b⟩, c⟩ ⟨⟨a', b'⟩, c'⟩ h
  simp only [Prod.mk.injEq, List.cons.injEq, D.agg.injEq, C.im.injEq, I.int.injEq, true_and, and_true] at h
  have := hsO_inj h.2
  subst this
  simp [Prod.ext_iff, h.1]
set_option maxRecDepth 100000 in
set_option maxHeartbeats 4000000 in
theorem law_order_1_1 : Law Try.prog 88 ct_order_1_1 := by
  refine fam_lawF (Env_cons law_Contains_int Env_nil) hmixA Try.func88 rfl rfl (fun ⟨⟨⟨i, ms, cs, out, h1, h2, h3⟩, ⟨a, b⟩⟩, h4, h5⟩ => ⟨okO okR_hsO, by simp [Try.f88], ?_⟩)
  simp only at h4 h5
  simp only [hsO]
  by_cases hb : b = i
  rotate_left
  · have hb' := eq_false hb
    clear hb
    try simp -dsimp (maxSteps := 1000000) only [go_sem, List.forall_mem_nil, ↓reduceIte, Nat.reduceEqDiff, Nat.reduceLT, Nat.reduceLeDiff, Nat.reduceAdd, Nat.reduceMul, reduceCtorEq, Try.f88, hb', blocks, Bool.false_and]
    repeat' (first
      | ((with_reducible refine sl_i ?_ ?_); focus kernel_rfl)
      | ((with_reducible refine ro_i ?_ ?_); focus kernel_rfl)
      | ((with_reducible refine sl_e ?_); kernel_rfl)
      | ((with_reducible refine ro_e ?_); kernel_rfl)
      | ((first | (with_reducible refine gS_d ?_ ?_) | (with_reducible refine gS_dn ?_ ?_) | (with_reducible refine gS_i ?_ ?_)) <;> intro hg <;> (try simp -dsimp (maxSteps := 1000000) only [go_sem, List.forall_mem_nil, ↓reduceIte, Nat.reduceEqDiff, Nat.reduceLT, Nat.reduceLeDiff, Nat.reduceAdd, Nat.reduceMul, reduceCtorEq, Try.f88, hb', blocks, Bool.false_and, *])))
    refine finF_i [] ?_
    simp -dsimp (maxSteps := 1000000) only [go_sem, List.forall_mem_nil, ↓reduceIte, Nat.reduceEqDiff, Nat.reduceLT, Nat.reduceLeDiff, Nat.reduceAdd, Nat.reduceMul, reduceCtorEq, hb', blocks, Bool.false_and]
  have hb' := eq_true hb
  clear hb
  obtain ⟨n, rfl⟩ : ∃ n : Nat, a = n := ⟨a.toNat, by omega⟩
  have hlt : n < ms.length := by omega
  obtain ⟨m, hm⟩ : ∃ m, ms[n]? = some m := ⟨_, List.getElem?_eq_getElem hlt⟩
  have hrow := rowsM_at hm
  have hk : kindOf ms (n : Int) = m.kind := by simp [kindOf, hm]
  have h0 : (0 ≤ (n : Int)) = True := by simp
  by_cases hq : m.kind = 4
  · have hq' := eq_true hq
    clear hq
    try simp -dsimp (maxSteps := 1000000) only [go_sem, List.forall_mem_nil, ↓reduceIte, Nat.reduceEqDiff, Nat.reduceLT, Nat.reduceLeDiff, Nat.reduceAdd, Nat.reduceMul, reduceCtorEq, Try.f88, hb', blocks, hk, hq', h0, hrow, Int.toNat_natCast, Bool.true_and, Bool.false_and]
    repeat' (first
      | ((with_reducible refine sl_i ?_ ?_); focus kernel_rfl)
      | ((with_reducible refine ro_i ?_ ?_); focus kernel_rfl)
      | ((with_reducible refine sl_e ?_); kernel_rfl)
      | ((with_reducible refine ro_e ?_); kernel_rfl)
      | ((first | (with_reducible refine gS_d ?_ ?_) | (with_reducible refine gS_dn ?_ ?_) | (with_reducible refine gS_i ?_ ?_)) <;> intro hg <;> (try simp -dsimp (maxSteps := 1000000) only [go_sem, List.forall_mem_nil, ↓reduceIte, Nat.reduceEqDiff, Nat.reduceLT, Nat.reduceLeDiff, Nat.reduceAdd, Nat.reduceMul, reduceCtorEq, Try.f88, hb', blocks, hk, hq', h0, hrow, Int.toNat_natCast, Bool.true_and, Bool.false_and, *])))
    refine finF_i [] ?_
    simp -dsimp (maxSteps := 1000000) only [go_sem, List.forall_mem_nil, ↓reduceIte, Nat.reduceEqDiff, Nat.reduceLT, Nat.reduceLeDiff, Nat.reduceAdd, Nat.reduceMul, reduceCtorEq, hb', blocks, hk, hq', Bool.true_and, Bool.false_and]
  · have hq' := eq_false hq
    clear hq
    try simp -dsimp (maxSteps := 1000000) only [go_sem, List.forall_mem_nil, ↓reduceIte, Nat.reduceEqDiff, Nat.reduceLT, Nat.reduceLeDiff, Nat.reduceAdd, Nat.reduceMul, reduceCtorEq, Try.f88, hb', blocks, hk, hq', h0, hrow, Int.toNat_natCast, Bool.true_and, tI_len, rowsN_len, take_N, Nat.le_refl, tI_toI, sc_Contains_int, run_Contains_int h3]
    repeat' (first
      | ((with_reducible refine sl_i ?_ ?_); focus kernel_rfl)
      | ((with_reducible refine ro_i ?_ ?_); focus kernel_rfl)
      | ((with_reducible refine sl_e ?_); kernel_rfl)
      | ((with_reducible refine ro_e ?_); kernel_rfl)
      | ((first | (with_reducible refine gS_d ?_ ?_) | (with_reducible refine gS_dn ?_ ?_) | (with_reducible refine gS_i ?_ ?_)) <;> intro hg <;> (try simp -dsimp (maxSteps := 1000000) only [go_sem, List.forall_mem_nil, ↓reduceIte, Nat.reduceEqDiff, Nat.reduceLT, Nat.reduceLeDiff, Nat.reduceAdd, Nat.reduceMul, reduceCtorEq, Try.f88, hb', blocks, hk, hq', h0, hrow, Int.toNat_natCast, Bool.true_and, tI_len, rowsN_len, take_N, Nat.le_refl, tI_toI, sc_Contains_int, run_Contains_int h3, *])))
    refine finF_i [.fold 2 0 0] ?_
    simp -dsimp (maxSteps := 1000000) only [go_sem, List.forall_mem_nil, ↓reduceIte, Nat.reduceEqDiff, Nat.reduceLT, Nat.reduceLeDiff, Nat.reduceAdd, Nat.reduceMul, reduceCtorEq, hb', blocks, hk, hq', Bool.true_and, tI_len, rowsN_len]
end Go.SX
