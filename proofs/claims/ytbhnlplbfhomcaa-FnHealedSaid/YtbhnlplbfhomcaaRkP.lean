/-
  A step of a module.
  No condition.
-/
import Derived.Test.YtbhnlplbfhomcaaRkO
set_option linter.unusedVariables false
set_option linter.unusedSimpArgs false
namespace Go.SX
open Go Go.Proofs

def modB (m : Mod) : List B := [.t (.im (.int .i64 m.kind)), .t (.im (.cpx .f32 m.turn.1 m.turn.2)), .t (.im (.cpx .f32 m.state.1 m.state.2)), .t (.im (.flt .f32 m.level)), .t (.own 1 (tI (rowsZ m.store))), .t (.im (.int .i64 m.rat)), .t (.im (.int .i64 m.rcnt)), .t (.own 1 (tI (rowsZ m.pts))), .t (.own 1 (tI (rowsN m.lab))), .t (.im (.int .i64 m.count)), .t (.im (.int .i64 m.left))]
theorem mvB_modB {sc : Bool} (m : Mod) : ∀ x ∈ modB m, MvB sc x := by
  intro t ht
  simp only [modB, List.mem_cons, List.not_mem_nil, or_false] at ht
  rcases ht with rfl | rfl | rfl | rfl | rfl | rfl | rfl | rfl | rfl | rfl | rfl <;> first | exact .t _ (.im _ (.inr rfl)) | exact .t _ (mv_own (sc_rowsZ _)) | exact .t _ (mv_own (sc_rowsN _))
theorem tI_inj {a b : List (List I)} (h : tI a = tI b) : a = b := by
  have h4 := congrArg (mapO (mapO (toI [] (fun _ => none) 0))) h
  rw [tI_toI, tI_toI] at h4
  exact Option.some.inj h4
theorem modB_inj {a b : Mod} (h : modB a = modB b) : a = b := by
  obtain ⟨k, ⟨t1, t2⟩, ⟨s1, s2⟩, l, st, r1, r2, p, la, c, le⟩ := a
  obtain ⟨k', ⟨t1', t2'⟩, ⟨s1', s2'⟩, l', st', r1', r2', p', la', c', le'⟩ := b
  simp only [modB, List.cons.injEq, B.t.injEq, T.im.injEq, T.own.injEq, I.int.injEq, I.cpx.injEq, I.flt.injEq, true_and, and_true] at h
  obtain ⟨rfl, ⟨rfl, rfl⟩, ⟨rfl, rfl⟩, rfl, h1, rfl, rfl, h2, h3, rfl, rfl⟩ := h
  rw [rowsZ_inj (tI_inj h1), rowsZ_inj (tI_inj h2), rowsN_inj (tI_inj h3)]

abbrev Or := (Nat × Nat) × (Nat × Nat)
def maxLv (l x : Nat) : Nat := if fcmp .gtr .f32 (absF x) l = true then absF x else l
def stepF (o : Or) (m : Mod) (z : Pt) : Mod × Pt :=
  if m.kind = 1 then ({ m with state := mulPt o.1 m.state m.turn }, m.state)
  else if m.kind = 2 then ({ m with state := mulPt o.2 m.state m.turn }, mulPt o.1 z m.state)
  else if m.kind = 3 then (m, scaleF z m.level)
  else if m.kind = 4 then ({ m with store := m.store.set m.rat.toNat z, rat := (m.rat + 1) % (m.store.length : Int) }, m.store.getD m.rat.toNat (0, 0))
  else if m.kind = 6 then (match nearF m.pts m.lab z with
    | none => ({ m with count := -1 }, (0, 0))
    | some i => ({ m with count := m.lab.getD i 0 }, m.pts.getD i (0, 0)))
  else if m.kind = 7 then ({ m with level := maxLv (maxLv m.level z.1) z.2 }, z)
  else if m.kind = 8 then (if m.left = 0 then ({ m with state := z, left := m.count - 1 }, z) else ({ m with left := m.left - 1 }, m.state))
  else (m, z)
def mxK (l u v : Nat) : Nat → Nat
  | 0 => l
  | 1 => maxLv l u
  | _ + 2 => maxLv (maxLv l u) v
structure OkS (m : Mod) : Prop where
  ok : OkM m
  ring : m.kind = 4 → 0 ≤ m.rat ∧ m.rat < m.store.length
  hold : m.kind = 8 → 1 ≤ m.count ∧ m.count ≤ 100 ∧ 0 ≤ m.left ∧ m.left < m.count
theorem nearGo_lt (z : Pt) (n : Nat) : ∀ (l : List Pt) (k : Nat) (b : Int) (m : Nat), b < n → k + l.length = n → nearGo z l k b m < n
  | [], k, b, m, hb, hk => hb
  | p :: l, k, b, m, hb, hk => by
    simp only [nearGo]
    simp at hk
    split
    · exact nearGo_lt z n l (k + 1) k _ (by omega) (by omega)
    · exact nearGo_lt z n l (k + 1) b m hb (by omega)
theorem nearF_lt {pts : List Pt} {lab : List Int} {z : Pt} {i : Nat} (h : nearF pts lab z = some i) : i < pts.length ∧ i < lab.length := by
  unfold nearF at h
  split at h
  · rename_i ht
    have hl : pts.length = lab.length := by
      simp only [isTableF, Bool.and_eq_true, decide_eq_true_eq] at ht; exact ht.1
    split at h
    · cases h
    · rename_i hn
      injection h with h
      have hz : pts.length ≠ 0 := by
        intro h0
        have : pts = [] := List.eq_nil_of_length_eq_zero h0
        subst this
        simp [nearGo] at hn
      have := nearGo_lt z pts.length pts 0 (-1) 0 (by omega) (by omega)
      omega
  · cases h
def oStep (m : Mod) (z : Pt) : Outs := .any Or (fun o => { val := .c (.im (.cpx .f32 (stepF o m z).2.1 (stepF o m z).2.2)), places := [modB (stepF o m z).1] })
noncomputable def ct_step : Ct := fam true (fun x : { m : Mod // OkS m } × Pt => ([.c (.ptr 0 0 0 0), .c (.im (.cpx .f32 x.2.1 x.2.2))], [modB x.1.1])) (fun x => oStep x.1.1 x.2)
theorem run_step {m : Mod} (h : OkS m) (u v : Nat) : ct_step.run [.c (.ptr 0 0 0 0), .c (.im (.cpx .f32 u v))] [modB m] = some (oStep m (u, v)) := by
  refine fam_run' (args := fun x : { m : Mod // OkS m } × Pt => ([D.c (.ptr 0 0 0 0), .c (.im (.cpx .f32 x.2.1 x.2.2))], [modB x.1.1])) ?_ (⟨m, h⟩, (u, v))
  rintro ⟨⟨a, _⟩, b⟩ ⟨⟨a', _⟩, b'⟩ h
  simp only [Prod.mk.injEq, List.cons.injEq, D.c.injEq, C.im.injEq, I.cpx.injEq, true_and, and_true] at h
  have := modB_inj h.2
  subst this
  simp [Prod.ext_iff, h.1]
theorem ne_or : Nonempty Or = True := by simp only [eq_iff_iff, iff_true]; exact ⟨((0, 0), (0, 0))⟩
theorem sc_NearestPoint : (ct_NearestPoint.sc = true) = True := by simp [ct_NearestPoint, fam]
theorem tI_setZ (l : List Pt) (k : Nat) (a b : Nat) : (tI (rowsZ l)).set k [T.im (.cpx .f32 a b)] = tI (rowsZ (l.set k (a, b))) := by simp [tI, rowsZ, List.map_set]
theorem tIZ_at {l : List Pt} {k : Nat} {p : Pt} (h : l[k]? = some p) : (tI (rowsZ l))[k]? = some [T.im (.cpx .f32 p.1 p.2)] := by simp [tI, rowsZ, h]
theorem tIN_at {l : List Int} {k : Nat} {p : Int} (h : l[k]? = some p) : (tI (rowsN l))[k]? = some [T.im (.int .i64 p)] := by simp [tI, rowsN, h]
set_option maxRecDepth 100000 in
set_option maxHeartbeats 8000000 in
theorem law_step : Law Try.prog 66 ct_step := by
  refine fam_lawU (Env_cons law_MultiplyPoints (Env_cons law_scaled (Env_cons law_NearestPoint (Env_cons law_size Env_nil)))) hmixA Try.func66 rfl rfl (fun _ => [.unf 0 0 4, .unf 0 0 7, .unf 0 0 8]) (fun ⟨⟨⟨k, ⟨t1, t2⟩, ⟨s1, s2⟩, lv, st, ra, rc, pts, lab, c, l⟩, ⟨⟨q1, q2, q3⟩, hr, hh⟩⟩, ⟨u, v⟩⟩ =>
    ⟨okA (fun o => ⟨okD_im rfl, by simp, fun c hc => by simp at hc; subst hc; exact mvB_modB _⟩), by simp [Try.f66], ?_⟩)
  simp only at q1 q2 q3 hr hh
  simp only [oStep, modB]
  by_cases k1 : k = 1
  · subst k1
    clear hr hh
    try simp -dsimp (maxSteps := 1000000) only [go_sem, List.forall_mem_nil, ↓reduceIte, Nat.reduceEqDiff, Nat.reduceLT, Nat.reduceLeDiff, Nat.reduceAdd, Nat.reduceMul, reduceCtorEq, Try.f66, stepF, Int.reduceEq, tI_len, rowsZ_len, rowsN_len, List.length_set, run_MultiplyPoints, oMul, ne_nn]
    repeat' (first
      | ((with_reducible refine sl_i ?_ ?_); focus kernel_rfl)
      | ((with_reducible refine ro_i ?_ ?_); focus kernel_rfl)
      | ((with_reducible refine sl_e ?_); kernel_rfl)
      | ((with_reducible refine ro_e ?_); kernel_rfl)
      | ((first | (with_reducible refine gS_d ?_ ?_) | (with_reducible refine gS_dn ?_ ?_) | (with_reducible refine gS_i ?_ ?_)) <;> intro hg <;> (try simp -dsimp (maxSteps := 1000000) only [go_sem, List.forall_mem_nil, ↓reduceIte, Nat.reduceEqDiff, Nat.reduceLT, Nat.reduceLeDiff, Nat.reduceAdd, Nat.reduceMul, reduceCtorEq, Try.f66, stepF, Int.reduceEq, tI_len, rowsZ_len, rowsN_len, List.length_set, run_MultiplyPoints, oMul, ne_nn, *])))
    intro o1
    try simp -dsimp (maxSteps := 1000000) only [go_sem, List.forall_mem_nil, ↓reduceIte, Nat.reduceEqDiff, Nat.reduceLT, Nat.reduceLeDiff, Nat.reduceAdd, Nat.reduceMul, reduceCtorEq, Try.f66, stepF, Int.reduceEq, tI_len, rowsZ_len, rowsN_len, List.length_set]
    repeat' (first
      | ((with_reducible refine sl_i ?_ ?_); focus kernel_rfl)
      | ((with_reducible refine ro_i ?_ ?_); focus kernel_rfl)
      | ((with_reducible refine sl_e ?_); kernel_rfl)
      | ((with_reducible refine ro_e ?_); kernel_rfl)
      | ((first | (with_reducible refine gS_d ?_ ?_) | (with_reducible refine gS_dn ?_ ?_) | (with_reducible refine gS_i ?_ ?_)) <;> intro hg <;> (try simp -dsimp (maxSteps := 1000000) only [go_sem, List.forall_mem_nil, ↓reduceIte, Nat.reduceEqDiff, Nat.reduceLT, Nat.reduceLeDiff, Nat.reduceAdd, Nat.reduceMul, reduceCtorEq, Try.f66, stepF, Int.reduceEq, tI_len, rowsZ_len, rowsN_len, List.length_set, *])))
    refine finF_i [.fold 0 0 4, .fold 0 0 7, .fold 0 0 8] ?_
    simp -dsimp (maxSteps := 1000000) only [go_sem, List.forall_mem_nil, ↓reduceIte, Nat.reduceEqDiff, Nat.reduceLT, Nat.reduceLeDiff, Nat.reduceAdd, Nat.reduceMul, reduceCtorEq, tI_len, rowsZ_len, rowsN_len, List.length_set]
    all_goals exact ⟨(o1, (0, 0)), by simp⟩
  have e1 := eq_false k1
  clear k1
  by_cases k2 : k = 2
  · subst k2
    clear hr hh e1
    try simp -dsimp (maxSteps := 1000000) only [go_sem, List.forall_mem_nil, ↓reduceIte, Nat.reduceEqDiff, Nat.reduceLT, Nat.reduceLeDiff, Nat.reduceAdd, Nat.reduceMul, reduceCtorEq, Try.f66, stepF, Int.reduceEq, tI_len, rowsZ_len, rowsN_len, List.length_set, run_MultiplyPoints, oMul, ne_nn]
    repeat' (first
      | ((with_reducible refine sl_i ?_ ?_); focus kernel_rfl)
      | ((with_reducible refine ro_i ?_ ?_); focus kernel_rfl)
      | ((with_reducible refine sl_e ?_); kernel_rfl)
      | ((with_reducible refine ro_e ?_); kernel_rfl)
      | ((first | (with_reducible refine gS_d ?_ ?_) | (with_reducible refine gS_dn ?_ ?_) | (with_reducible refine gS_i ?_ ?_)) <;> intro hg <;> (try simp -dsimp (maxSteps := 1000000) only [go_sem, List.forall_mem_nil, ↓reduceIte, Nat.reduceEqDiff, Nat.reduceLT, Nat.reduceLeDiff, Nat.reduceAdd, Nat.reduceMul, reduceCtorEq, Try.f66, stepF, Int.reduceEq, tI_len, rowsZ_len, rowsN_len, List.length_set, run_MultiplyPoints, oMul, ne_nn, *])))
    intro o1
    try simp -dsimp (maxSteps := 1000000) only [go_sem, List.forall_mem_nil, ↓reduceIte, Nat.reduceEqDiff, Nat.reduceLT, Nat.reduceLeDiff, Nat.reduceAdd, Nat.reduceMul, reduceCtorEq, Try.f66, stepF, Int.reduceEq, tI_len, rowsZ_len, rowsN_len, List.length_set, run_MultiplyPoints, oMul, ne_nn]
    repeat' (first
      | ((with_reducible refine sl_i ?_ ?_); focus kernel_rfl)
      | ((with_reducible refine ro_i ?_ ?_); focus kernel_rfl)
      | ((with_reducible refine sl_e ?_); kernel_rfl)
      | ((with_reducible refine ro_e ?_); kernel_rfl)
      | ((first | (with_reducible refine gS_d ?_ ?_) | (with_reducible refine gS_dn ?_ ?_) | (with_reducible refine gS_i ?_ ?_)) <;> intro hg <;> (try simp -dsimp (maxSteps := 1000000) only [go_sem, List.forall_mem_nil, ↓reduceIte, Nat.reduceEqDiff, Nat.reduceLT, Nat.reduceLeDiff, Nat.reduceAdd, Nat.reduceMul, reduceCtorEq, Try.f66, stepF, Int.reduceEq, tI_len, rowsZ_len, rowsN_len, List.length_set, run_MultiplyPoints, oMul, ne_nn, *])))
    intro o2
    try simp -dsimp (maxSteps := 1000000) only [go_sem, List.forall_mem_nil, ↓reduceIte, Nat.reduceEqDiff, Nat.reduceLT, Nat.reduceLeDiff, Nat.reduceAdd, Nat.reduceMul, reduceCtorEq, Try.f66, stepF, Int.reduceEq, tI_len, rowsZ_len, rowsN_len, List.length_set]
    repeat' (first
      | ((with_reducible refine sl_i ?_ ?_); focus kernel_rfl)
      | ((with_reducible refine ro_i ?_ ?_); focus kernel_rfl)
      | ((with_reducible refine sl_e ?_); kernel_rfl)
      | ((with_reducible refine ro_e ?_); kernel_rfl)
      | ((first | (with_reducible refine gS_d ?_ ?_) | (with_reducible refine gS_dn ?_ ?_) | (with_reducible refine gS_i ?_ ?_)) <;> intro hg <;> (try simp -dsimp (maxSteps := 1000000) only [go_sem, List.forall_mem_nil, ↓reduceIte, Nat.reduceEqDiff, Nat.reduceLT, Nat.reduceLeDiff, Nat.reduceAdd, Nat.reduceMul, reduceCtorEq, Try.f66, stepF, Int.reduceEq, tI_len, rowsZ_len, rowsN_len, List.length_set, *])))
    refine finF_i [.fold 0 0 4, .fold 0 0 7, .fold 0 0 8] ?_
    simp -dsimp (maxSteps := 1000000) only [go_sem, List.forall_mem_nil, ↓reduceIte, Nat.reduceEqDiff, Nat.reduceLT, Nat.reduceLeDiff, Nat.reduceAdd, Nat.reduceMul, reduceCtorEq, tI_len, rowsZ_len, rowsN_len, List.length_set]
    all_goals exact ⟨(o1, o2), by simp⟩
  have e2 := eq_false k2
  clear k2
  by_cases k3 : k = 3
  · subst k3
    clear hr hh e1 e2
    try simp -dsimp (maxSteps := 1000000) only [go_sem, List.forall_mem_nil, ↓reduceIte, Nat.reduceEqDiff, Nat.reduceLT, Nat.reduceLeDiff, Nat.reduceAdd, Nat.reduceMul, reduceCtorEq, Try.f66, stepF, Int.reduceEq, tI_len, rowsZ_len, rowsN_len, List.length_set, run_scaled]
    repeat' (first
      | ((with_reducible refine sl_i ?_ ?_); focus kernel_rfl)
      | ((with_reducible refine ro_i ?_ ?_); focus kernel_rfl)
      | ((with_reducible refine sl_e ?_); kernel_rfl)
      | ((with_reducible refine ro_e ?_); kernel_rfl)
      | ((first | (with_reducible refine gS_d ?_ ?_) | (with_reducible refine gS_dn ?_ ?_) | (with_reducible refine gS_i ?_ ?_)) <;> intro hg <;> (try simp -dsimp (maxSteps := 1000000) only [go_sem, List.forall_mem_nil, ↓reduceIte, Nat.reduceEqDiff, Nat.reduceLT, Nat.reduceLeDiff, Nat.reduceAdd, Nat.reduceMul, reduceCtorEq, Try.f66, stepF, Int.reduceEq, tI_len, rowsZ_len, rowsN_len, List.length_set, run_scaled, *])))
    refine finF_i [.fold 0 0 4, .fold 0 0 7, .fold 0 0 8] ?_
    simp -dsimp (maxSteps := 1000000) only [go_sem, List.forall_mem_nil, ↓reduceIte, Nat.reduceEqDiff, Nat.reduceLT, Nat.reduceLeDiff, Nat.reduceAdd, Nat.reduceMul, reduceCtorEq, tI_len, rowsZ_len, rowsN_len, List.length_set]
    all_goals exact ⟨((0, 0), (0, 0)), by simp⟩
  have e3 := eq_false k3
  clear k3
  by_cases k4 : k = 4
  · subst k4
    clear hh e1 e2 e3
    obtain ⟨hr0, hr1⟩ := hr rfl
    obtain ⟨n, rfl⟩ := Int.eq_ofNat_of_zero_le hr0
    clear hr hr0
    have hn : n < st.length := by omega
    clear hr1
    obtain ⟨p, hp⟩ : ∃ p, st[n]? = some p := ⟨_, List.getElem?_eq_getElem hn⟩
    have hrow := tIZ_at hp
    have hg : st.getD n (0, 0) = p := by simp [List.getD, hp]
    have hI : ((n : Int) < (st.length : Int)) = True := by simp; omega
    have h0 : (0 ≤ (n : Int)) = True := by simp
    have hnz : ((st.length : Int) = 0) = False := eq_false (by omega)
    have hwr : IntKind.i64.wrap ((n : Int) + 1) = (n : Int) + 1 := lt_sm q1 hn
    have hmod : ((n : Int) + 1).tmod (st.length : Int) = ((n : Int) + 1) % (st.length : Int) := Int.tmod_eq_emod_of_nonneg (by omega)
    clear hp
    try simp -dsimp (maxSteps := 1000000) only [go_sem, List.forall_mem_nil, ↓reduceIte, Nat.reduceEqDiff, Nat.reduceLT, Nat.reduceLeDiff, Nat.reduceAdd, Nat.reduceMul, reduceCtorEq, Try.f66, stepF, Int.reduceEq, tI_len, rowsZ_len, rowsN_len, List.length_set, hI, h0, hrow, hg, hnz, hwr, hmod, tI_setZ, Int.toNat_natCast]
    repeat' (first
      | ((with_reducible refine sl_i ?_ ?_); focus kernel_rfl)
      | ((with_reducible refine ro_i ?_ ?_); focus kernel_rfl)
      | ((with_reducible refine sl_e ?_); kernel_rfl)
      | ((with_reducible refine ro_e ?_); kernel_rfl)
      | ((first | (with_reducible refine gS_d ?_ ?_) | (with_reducible refine gS_dn ?_ ?_) | (with_reducible refine gS_i ?_ ?_)) <;> intro hg <;> (try simp -dsimp (maxSteps := 1000000) only [go_sem, List.forall_mem_nil, ↓reduceIte, Nat.reduceEqDiff, Nat.reduceLT, Nat.reduceLeDiff, Nat.reduceAdd, Nat.reduceMul, reduceCtorEq, Try.f66, stepF, Int.reduceEq, tI_len, rowsZ_len, rowsN_len, List.length_set, hI, h0, hrow, hg, hnz, hwr, hmod, tI_setZ, Int.toNat_natCast, *])))
    refine finF_i [.fold 0 0 4, .fold 0 0 7, .fold 0 0 8] ?_
    simp -dsimp (maxSteps := 1000000) only [go_sem, List.forall_mem_nil, ↓reduceIte, Nat.reduceEqDiff, Nat.reduceLT, Nat.reduceLeDiff, Nat.reduceAdd, Nat.reduceMul, reduceCtorEq, tI_len, rowsZ_len, rowsN_len, List.length_set, tI_setZ]
    all_goals exact ⟨((0, 0), (0, 0)), by simp⟩
  have e4 := eq_false k4
  clear k4 hr
  by_cases k6 : k = 6
  · subst k6
    clear hh e1 e2 e3 e4
    cases hf : nearF pts lab (u, v) with
    | none =>
      have hf' := run_NearestPoint q2 q3 u v
      rw [hf] at hf'
      try simp -dsimp (maxSteps := 1000000) only [go_sem, List.forall_mem_nil, ↓reduceIte, Nat.reduceEqDiff, Nat.reduceLT, Nat.reduceLeDiff, Nat.reduceAdd, Nat.reduceMul, reduceCtorEq, Try.f66, stepF, Int.reduceEq, tI_len, rowsZ_len, rowsN_len, List.length_set, hf', oNear, hf, sc_NearestPoint, tI_toI, take_Z, take_N]
      repeat' (first
        | ((with_reducible refine sl_i ?_ ?_); focus kernel_rfl)
        | ((with_reducible refine ro_i ?_ ?_); focus kernel_rfl)
        | ((with_reducible refine sl_e ?_); kernel_rfl)
        | ((with_reducible refine ro_e ?_); kernel_rfl)
        | ((first | (with_reducible refine gS_d ?_ ?_) | (with_reducible refine gS_dn ?_ ?_) | (with_reducible refine gS_i ?_ ?_)) <;> intro hg <;> (try simp -dsimp (maxSteps := 1000000) only [go_sem, List.forall_mem_nil, ↓reduceIte, Nat.reduceEqDiff, Nat.reduceLT, Nat.reduceLeDiff, Nat.reduceAdd, Nat.reduceMul, reduceCtorEq, Try.f66, stepF, Int.reduceEq, tI_len, rowsZ_len, rowsN_len, List.length_set, hf', oNear, hf, sc_NearestPoint, tI_toI, take_Z, take_N, *])))
      refine finF_i [.fold 0 0 4, .fold 0 0 7, .fold 0 0 8] ?_
      simp -dsimp (maxSteps := 1000000) only [go_sem, List.forall_mem_nil, ↓reduceIte, Nat.reduceEqDiff, Nat.reduceLT, Nat.reduceLeDiff, Nat.reduceAdd, Nat.reduceMul, reduceCtorEq, tI_len, rowsZ_len, rowsN_len, List.length_set]
      all_goals exact ⟨((0, 0), (0, 0)), by simp⟩
    | some n =>
      have hf' := run_NearestPoint q2 q3 u v
      rw [hf] at hf'
      obtain ⟨hl1, hl2⟩ := nearF_lt hf
      obtain ⟨p, hp⟩ : ∃ p, pts[n]? = some p := ⟨_, List.getElem?_eq_getElem hl1⟩
      obtain ⟨y, hy⟩ : ∃ y, lab[n]? = some y := ⟨_, List.getElem?_eq_getElem hl2⟩
      have hrow := tIZ_at hp
      have hrow2 := tIN_at hy
      have hg : pts.getD n (0, 0) = p := by simp [List.getD, hp]
      have hg2 : lab.getD n 0 = y := by simp [List.getD, hy]
      have hI : ((n : Int) < (pts.length : Int)) = True := by simp; omega
      have hI2 : ((n : Int) < (lab.length : Int)) = True := by simp; omega
      have h0 : (0 ≤ (n : Int)) = True := by simp
      try simp -dsimp (maxSteps := 1000000) only [go_sem, List.forall_mem_nil, ↓reduceIte, Nat.reduceEqDiff, Nat.reduceLT, Nat.reduceLeDiff, Nat.reduceAdd, Nat.reduceMul, reduceCtorEq, Try.f66, stepF, Int.reduceEq, tI_len, rowsZ_len, rowsN_len, List.length_set, hf', oNear, hf, sc_NearestPoint, tI_toI, take_Z, take_N, hI, hI2, h0, hrow, hrow2, hg, hg2, Int.toNat_natCast]
      repeat' (first
        | ((with_reducible refine sl_i ?_ ?_); focus kernel_rfl)
        | ((with_reducible refine ro_i ?_ ?_); focus kernel_rfl)
        | ((with_reducible refine sl_e ?_); kernel_rfl)
        | ((with_reducible refine ro_e ?_); kernel_rfl)
        | ((first | (with_reducible refine gS_d ?_ ?_) | (with_reducible refine gS_dn ?_ ?_) | (with_reducible refine gS_i ?_ ?_)) <;> intro hg <;> (try simp -dsimp (maxSteps := 1000000) only [go_sem, List.forall_mem_nil, ↓reduceIte, Nat.reduceEqDiff, Nat.reduceLT, Nat.reduceLeDiff, Nat.reduceAdd, Nat.reduceMul, reduceCtorEq, Try.f66, stepF, Int.reduceEq, tI_len, rowsZ_len, rowsN_len, List.length_set, hf', oNear, hf, sc_NearestPoint, tI_toI, take_Z, take_N, hI, hI2, h0, hrow, hrow2, hg, hg2, Int.toNat_natCast, *])))
      refine finF_i [.fold 0 0 4, .fold 0 0 7, .fold 0 0 8] ?_
      simp -dsimp (maxSteps := 1000000) only [go_sem, List.forall_mem_nil, ↓reduceIte, Nat.reduceEqDiff, Nat.reduceLT, Nat.reduceLeDiff, Nat.reduceAdd, Nat.reduceMul, reduceCtorEq, tI_len, rowsZ_len, rowsN_len, List.length_set]
      all_goals exact ⟨((0, 0), (0, 0)), by simp⟩
  have e6 := eq_false k6
  clear k6
  by_cases k8 : k = 8
  · subst k8
    clear e1 e2 e3 e4 e6
    obtain ⟨hh1, hh2, hh3, hh4⟩ := hh rfl
    clear hh
    have hw1 : IntKind.i64.wrap (c - 1) = c - 1 := wrap_id (by omega) (by omega)
    have hw2 : IntKind.i64.wrap (l - 1) = l - 1 := wrap_id (by omega) (by omega)
    by_cases hz : l = 0
    · subst hz
      try simp -dsimp (maxSteps := 1000000) only [go_sem, List.forall_mem_nil, ↓reduceIte, Nat.reduceEqDiff, Nat.reduceLT, Nat.reduceLeDiff, Nat.reduceAdd, Nat.reduceMul, reduceCtorEq, Try.f66, stepF, Int.reduceEq, tI_len, rowsZ_len, rowsN_len, List.length_set, hw1, hw2]
      repeat' (first
        | ((with_reducible refine sl_i ?_ ?_); focus kernel_rfl)
        | ((with_reducible refine ro_i ?_ ?_); focus kernel_rfl)
        | ((with_reducible refine sl_e ?_); kernel_rfl)
        | ((with_reducible refine ro_e ?_); kernel_rfl)
        | ((first | (with_reducible refine gS_d ?_ ?_) | (with_reducible refine gS_dn ?_ ?_) | (with_reducible refine gS_i ?_ ?_)) <;> intro hg <;> (try simp -dsimp (maxSteps := 1000000) only [go_sem, List.forall_mem_nil, ↓reduceIte, Nat.reduceEqDiff, Nat.reduceLT, Nat.reduceLeDiff, Nat.reduceAdd, Nat.reduceMul, reduceCtorEq, Try.f66, stepF, Int.reduceEq, tI_len, rowsZ_len, rowsN_len, List.length_set, hw1, hw2, *])))
      refine finF_i [.fold 0 0 4, .fold 0 0 7, .fold 0 0 8] ?_
      simp -dsimp (maxSteps := 1000000) only [go_sem, List.forall_mem_nil, ↓reduceIte, Nat.reduceEqDiff, Nat.reduceLT, Nat.reduceLeDiff, Nat.reduceAdd, Nat.reduceMul, reduceCtorEq, tI_len, rowsZ_len, rowsN_len, List.length_set]
      all_goals exact ⟨((0, 0), (0, 0)), by simp⟩
    · have hz' := eq_false hz
      clear hz
      try simp -dsimp (maxSteps := 1000000) only [go_sem, List.forall_mem_nil, ↓reduceIte, Nat.reduceEqDiff, Nat.reduceLT, Nat.reduceLeDiff, Nat.reduceAdd, Nat.reduceMul, reduceCtorEq, Try.f66, stepF, Int.reduceEq, tI_len, rowsZ_len, rowsN_len, List.length_set, hw1, hw2, hz']
      repeat' (first
        | ((with_reducible refine sl_i ?_ ?_); focus kernel_rfl)
        | ((with_reducible refine ro_i ?_ ?_); focus kernel_rfl)
        | ((with_reducible refine sl_e ?_); kernel_rfl)
        | ((with_reducible refine ro_e ?_); kernel_rfl)
        | ((first | (with_reducible refine gS_d ?_ ?_) | (with_reducible refine gS_dn ?_ ?_) | (with_reducible refine gS_i ?_ ?_)) <;> intro hg <;> (try simp -dsimp (maxSteps := 1000000) only [go_sem, List.forall_mem_nil, ↓reduceIte, Nat.reduceEqDiff, Nat.reduceLT, Nat.reduceLeDiff, Nat.reduceAdd, Nat.reduceMul, reduceCtorEq, Try.f66, stepF, Int.reduceEq, tI_len, rowsZ_len, rowsN_len, List.length_set, hw1, hw2, hz', *])))
      refine finF_i [.fold 0 0 4, .fold 0 0 7, .fold 0 0 8] ?_
      simp -dsimp (maxSteps := 1000000) only [go_sem, List.forall_mem_nil, ↓reduceIte, Nat.reduceEqDiff, Nat.reduceLT, Nat.reduceLeDiff, Nat.reduceAdd, Nat.reduceMul, reduceCtorEq, tI_len, rowsZ_len, rowsN_len, List.length_set]
      all_goals exact ⟨((0, 0), (0, 0)), by simp⟩
  have e8 := eq_false k8
  clear k8 hh
  by_cases k7 : k = 7
  · subst k7
    clear e1 e2 e3 e4 e6 e8
    try simp -dsimp (maxSteps := 1000000) only [go_sem, List.forall_mem_nil, ↓reduceIte, Nat.reduceEqDiff, Nat.reduceLT, Nat.reduceLeDiff, Nat.reduceAdd, Nat.reduceMul, reduceCtorEq, Try.f66, stepF, Int.reduceEq, tI_len, rowsZ_len, rowsN_len, List.length_set]
    repeat' (first
      | ((with_reducible refine sl_i ?_ ?_); focus kernel_rfl)
      | ((with_reducible refine ro_i ?_ ?_); focus kernel_rfl)
      | ((with_reducible refine sl_e ?_); kernel_rfl)
      | ((with_reducible refine ro_e ?_); kernel_rfl)
      | ((first | (with_reducible refine gS_d ?_ ?_) | (with_reducible refine gS_dn ?_ ?_) | (with_reducible refine gS_i ?_ ?_)) <;> intro hg <;> (try simp -dsimp (maxSteps := 1000000) only [go_sem, List.forall_mem_nil, ↓reduceIte, Nat.reduceEqDiff, Nat.reduceLT, Nat.reduceLeDiff, Nat.reduceAdd, Nat.reduceMul, reduceCtorEq, Try.f66, stepF, Int.reduceEq, tI_len, rowsZ_len, rowsN_len, List.length_set, *])))
    refine loop_i (ι := { k : Nat // k ≤ 2 }) (fun k => ⟨[(0, some (.c (.ptr 0 0 0 0))), (1, some (.c (.im (.cpx .f32 u v)))), (149, some (.c (.view 4 1 0 2))), (150, some (.c (.im (.int .i64 2)))), (151, some (.c (.im (.int .i64 (k.1 : Int)))))],
      [(0, some (.box [.t (.im (.int .i64 7)), .t (.im (.cpx .f32 t1 t2)), .t (.im (.cpx .f32 s1 s2)), .t (.im (.flt .f32 (mxK lv u v k.1))), .t (.lent 1 1 st.length), .t (.im (.int .i64 ra)), .t (.im (.int .i64 rc)), .t (.lent 2 1 pts.length), .t (.lent 3 1 lab.length), .t (.im (.int .i64 c)), .t (.im (.int .i64 l))])),
       (1, some (.arr 1 (tI (rowsZ st)))), (2, some (.arr 1 (tI (rowsZ pts)))), (3, some (.arr 1 (tI (rowsN lab)))), (4, some (.arr 1 [[.im (.flt .f32 u)], [.im (.flt .f32 v)]]))], 5⟩) (fun k => 2 - k.1) ⟨0, by simp⟩ ⟨[], [0, 1, 2, 3, 4], by ((simp only [ne_eq, eq_self, subF, folds, wk1, subOk, sOk, hOk, nms, reF, rho, mapD, mapC, mapC1, NmD, NmC, NmC1, mapR, mapB, mapTt, NmR, NmB, NmT, MvRb, MvRn, MvRt, lk, ins, Root.get, Root.setT, List.map_cons, List.map_nil, List.nodup_cons, List.nodup_nil, List.not_mem_nil, List.mem_cons, not_false_eq_true, and_self, and_true, true_and, true_or, or_true, false_or, or_false, ↓reduceIte, Nat.reduceEqDiff, Nat.reduceLT, Nat.reduceLeDiff, reduceCtorEq, Option.isSome_some, List.forall_mem_cons, List.forall_mem_nil, implies_true, forall_const, Nat.le_refl, Nat.zero_le, false_implies, List.mem_singleton, MvB_im, MvB_nil, Mv_im, Option.some.injEq, D.c.injEq, C.im.injEq, I.int.injEq, List.getElem?_cons_zero, List.getElem?_cons_succ, List.set_cons_zero, List.set_cons_succ, List.length_cons, List.length_nil, Nat.zero_add, mxK, MvRt]) <;> (try (simp -dsimp only [ne_eq, eq_self, subF, folds, wk1, subOk, sOk, hOk, nms, reF, rho, mapD, mapC, mapC1, NmD, NmC, NmC1, mapR, mapB, mapTt, NmR, NmB, NmT, MvRb, MvRn, MvRt, lk, ins, Root.get, Root.setT, List.map_cons, List.map_nil, List.nodup_cons, List.nodup_nil, List.not_mem_nil, List.mem_cons, not_false_eq_true, and_self, and_true, true_and, true_or, or_true, false_or, or_false, ↓reduceIte, Nat.reduceEqDiff, Nat.reduceLT, Nat.reduceLeDiff, reduceCtorEq, Option.isSome_some, List.forall_mem_cons, List.forall_mem_nil, implies_true, forall_const, Nat.le_refl, Nat.zero_le, false_implies, List.mem_singleton, MvB_im, MvB_nil, Mv_im, Option.some.injEq, D.c.injEq, C.im.injEq, I.int.injEq, List.getElem?_cons_zero, List.getElem?_cons_succ, List.set_cons_zero, List.set_cons_succ, List.length_cons, List.length_nil, Nat.zero_add, mxK, MvRt]))) <;> simp [lk, MvB_im, mxK]⟩ (fun ⟨k, hk⟩ => ?_)
    have hc0 : ((0 : Nat) : Int) = 0 := rfl
    have hc1 : ((1 : Nat) : Int) = 1 := rfl
    have hc2 : ((2 : Nat) : Int) = 2 := rfl
    have hw1 : IntKind.i64.wrap 1 = 1 := wrap_id (by omega) (by omega)
    have hw2 : IntKind.i64.wrap 2 = 2 := wrap_id (by omega) (by omega)
    match k, hk with
    | 0, hk =>
      try simp -dsimp (maxSteps := 1000000) only [go_sem, List.forall_mem_nil, ↓reduceIte, Nat.reduceEqDiff, Nat.reduceLT, Nat.reduceLeDiff, Nat.reduceAdd, Nat.reduceMul, reduceCtorEq, Try.f66, run_size, mxK, hc0, hc1, hc2, hw1, hw2, Int.reduceLT, Int.reduceLE, Int.reduceToNat, Int.reduceAdd, Int.lt_irrefl]
      repeat' (first
        | ((with_reducible refine sl_i ?_ ?_); focus kernel_rfl)
        | ((with_reducible refine ro_i ?_ ?_); focus kernel_rfl)
        | ((with_reducible refine sl_e ?_); kernel_rfl)
        | ((with_reducible refine ro_e ?_); kernel_rfl)
        | ((first | (with_reducible refine gS_d ?_ ?_) | (with_reducible refine gS_dn ?_ ?_) | (with_reducible refine gS_i ?_ ?_)) <;> intro hg <;> (try simp -dsimp (maxSteps := 1000000) only [go_sem, List.forall_mem_nil, ↓reduceIte, Nat.reduceEqDiff, Nat.reduceLT, Nat.reduceLeDiff, Nat.reduceAdd, Nat.reduceMul, reduceCtorEq, Try.f66, run_size, mxK, hc0, hc1, hc2, hw1, hw2, Int.reduceLT, Int.reduceLE, Int.reduceToNat, Int.reduceAdd, Int.lt_irrefl, *])))
      all_goals refine ⟨⟨1, by omega⟩, by simp only []; omega, [], [0, 1, 2, 3, 4], ?_⟩
      all_goals ((simp only [ne_eq, eq_self, subF, folds, wk1, subOk, sOk, hOk, nms, reF, rho, mapD, mapC, mapC1, NmD, NmC, NmC1, mapR, mapB, mapTt, NmR, NmB, NmT, MvRb, MvRn, MvRt, lk, ins, Root.get, Root.setT, List.map_cons, List.map_nil, List.nodup_cons, List.nodup_nil, List.not_mem_nil, List.mem_cons, not_false_eq_true, and_self, and_true, true_and, true_or, or_true, false_or, or_false, ↓reduceIte, Nat.reduceEqDiff, Nat.reduceLT, Nat.reduceLeDiff, reduceCtorEq, Option.isSome_some, List.forall_mem_cons, List.forall_mem_nil, implies_true, forall_const, Nat.le_refl, Nat.zero_le, false_implies, List.mem_singleton, MvB_im, MvB_nil, Mv_im, Option.some.injEq, D.c.injEq, C.im.injEq, I.int.injEq, List.getElem?_cons_zero, List.getElem?_cons_succ, List.set_cons_zero, List.set_cons_succ, List.length_cons, List.length_nil, Nat.zero_add, mxK, maxLv, MvRt, hc1, hc2, hg, if_true, if_false, Bool.false_eq_true]) <;> (try (simp -dsimp only [ne_eq, eq_self, subF, folds, wk1, subOk, sOk, hOk, nms, reF, rho, mapD, mapC, mapC1, NmD, NmC, NmC1, mapR, mapB, mapTt, NmR, NmB, NmT, MvRb, MvRn, MvRt, lk, ins, Root.get, Root.setT, List.map_cons, List.map_nil, List.nodup_cons, List.nodup_nil, List.not_mem_nil, List.mem_cons, not_false_eq_true, and_self, and_true, true_and, true_or, or_true, false_or, or_false, ↓reduceIte, Nat.reduceEqDiff, Nat.reduceLT, Nat.reduceLeDiff, reduceCtorEq, Option.isSome_some, List.forall_mem_cons, List.forall_mem_nil, implies_true, forall_const, Nat.le_refl, Nat.zero_le, false_implies, List.mem_singleton, MvB_im, MvB_nil, Mv_im, Option.some.injEq, D.c.injEq, C.im.injEq, I.int.injEq, List.getElem?_cons_zero, List.getElem?_cons_succ, List.set_cons_zero, List.set_cons_succ, List.length_cons, List.length_nil, Nat.zero_add, mxK, maxLv, MvRt, hc1, hc2, hg, if_true, if_false, Bool.false_eq_true])))
      all_goals simp [lk, MvB_im, mxK, maxLv, hg]
    | 1, hk =>
      try simp -dsimp (maxSteps := 1000000) only [go_sem, List.forall_mem_nil, ↓reduceIte, Nat.reduceEqDiff, Nat.reduceLT, Nat.reduceLeDiff, Nat.reduceAdd, Nat.reduceMul, reduceCtorEq, Try.f66, run_size, mxK, hc0, hc1, hc2, hw1, hw2, Int.reduceLT, Int.reduceLE, Int.reduceToNat, Int.reduceAdd, Int.lt_irrefl]
      repeat' (first
        | ((with_reducible refine sl_i ?_ ?_); focus kernel_rfl)
        | ((with_reducible refine ro_i ?_ ?_); focus kernel_rfl)
        | ((with_reducible refine sl_e ?_); kernel_rfl)
        | ((with_reducible refine ro_e ?_); kernel_rfl)
        | ((first | (with_reducible refine gS_d ?_ ?_) | (with_reducible refine gS_dn ?_ ?_) | (with_reducible refine gS_i ?_ ?_)) <;> intro hg <;> (try simp -dsimp (maxSteps := 1000000) only [go_sem, List.forall_mem_nil, ↓reduceIte, Nat.reduceEqDiff, Nat.reduceLT, Nat.reduceLeDiff, Nat.reduceAdd, Nat.reduceMul, reduceCtorEq, Try.f66, run_size, mxK, hc0, hc1, hc2, hw1, hw2, Int.reduceLT, Int.reduceLE, Int.reduceToNat, Int.reduceAdd, Int.lt_irrefl, *])))
      all_goals refine ⟨⟨2, by omega⟩, by simp only []; omega, [], [0, 1, 2, 3, 4], ?_⟩
      all_goals ((simp only [ne_eq, eq_self, subF, folds, wk1, subOk, sOk, hOk, nms, reF, rho, mapD, mapC, mapC1, NmD, NmC, NmC1, mapR, mapB, mapTt, NmR, NmB, NmT, MvRb, MvRn, MvRt, lk, ins, Root.get, Root.setT, List.map_cons, List.map_nil, List.nodup_cons, List.nodup_nil, List.not_mem_nil, List.mem_cons, not_false_eq_true, and_self, and_true, true_and, true_or, or_true, false_or, or_false, ↓reduceIte, Nat.reduceEqDiff, Nat.reduceLT, Nat.reduceLeDiff, reduceCtorEq, Option.isSome_some, List.forall_mem_cons, List.forall_mem_nil, implies_true, forall_const, Nat.le_refl, Nat.zero_le, false_implies, List.mem_singleton, MvB_im, MvB_nil, Mv_im, Option.some.injEq, D.c.injEq, C.im.injEq, I.int.injEq, List.getElem?_cons_zero, List.getElem?_cons_succ, List.set_cons_zero, List.set_cons_succ, List.length_cons, List.length_nil, Nat.zero_add, mxK, MvRt, hc1, hc2]) <;> (try (simp -dsimp only [ne_eq, eq_self, subF, folds, wk1, subOk, sOk, hOk, nms, reF, rho, mapD, mapC, mapC1, NmD, NmC, NmC1, mapR, mapB, mapTt, NmR, NmB, NmT, MvRb, MvRn, MvRt, lk, ins, Root.get, Root.setT, List.map_cons, List.map_nil, List.nodup_cons, List.nodup_nil, List.not_mem_nil, List.mem_cons, not_false_eq_true, and_self, and_true, true_and, true_or, or_true, false_or, or_false, ↓reduceIte, Nat.reduceEqDiff, Nat.reduceLT, Nat.reduceLeDiff, reduceCtorEq, Option.isSome_some, List.forall_mem_cons, List.forall_mem_nil, implies_true, forall_const, Nat.le_refl, Nat.zero_le, false_implies, List.mem_singleton, MvB_im, MvB_nil, Mv_im, Option.some.injEq, D.c.injEq, C.im.injEq, I.int.injEq, List.getElem?_cons_zero, List.getElem?_cons_succ, List.set_cons_zero, List.set_cons_succ, List.length_cons, List.length_nil, Nat.zero_add, mxK, MvRt, hc1, hc2])))
      all_goals (generalize maxLv lv u = w at hg ⊢)
      all_goals simp [lk, MvB_im, maxLv, hg]
    | 2, hk =>
      try simp -dsimp (maxSteps := 1000000) only [go_sem, List.forall_mem_nil, ↓reduceIte, Nat.reduceEqDiff, Nat.reduceLT, Nat.reduceLeDiff, Nat.reduceAdd, Nat.reduceMul, reduceCtorEq, Try.f66, mxK, stepF, Int.reduceEq, hc0, hc1, hc2, hw1, hw2, Int.reduceLT, Int.reduceLE, Int.reduceToNat, Int.reduceAdd, Int.lt_irrefl]
      repeat' (first
        | ((with_reducible refine sl_i ?_ ?_); focus kernel_rfl)
        | ((with_reducible refine ro_i ?_ ?_); focus kernel_rfl)
        | ((with_reducible refine sl_e ?_); kernel_rfl)
        | ((with_reducible refine ro_e ?_); kernel_rfl)
        | ((first | (with_reducible refine gS_d ?_ ?_) | (with_reducible refine gS_dn ?_ ?_) | (with_reducible refine gS_i ?_ ?_)) <;> intro hg <;> (try simp -dsimp (maxSteps := 1000000) only [go_sem, List.forall_mem_nil, ↓reduceIte, Nat.reduceEqDiff, Nat.reduceLT, Nat.reduceLeDiff, Nat.reduceAdd, Nat.reduceMul, reduceCtorEq, Try.f66, mxK, stepF, Int.reduceEq, hc0, hc1, hc2, hw1, hw2, Int.reduceLT, Int.reduceLE, Int.reduceToNat, Int.reduceAdd, Int.lt_irrefl, *])))
      refine finF_i [.fold 0 0 4, .fold 0 0 7, .fold 0 0 8] ?_
      simp -dsimp (maxSteps := 1000000) only [go_sem, List.forall_mem_nil, ↓reduceIte, Nat.reduceEqDiff, Nat.reduceLT, Nat.reduceLeDiff, Nat.reduceAdd, Nat.reduceMul, reduceCtorEq, tI_len, rowsZ_len, rowsN_len, List.length_set, mxK]
      all_goals exact ⟨((0, 0), (0, 0)), by simp⟩
  have e7 := eq_false k7
  clear k7
  try simp -dsimp (maxSteps := 1000000) only [go_sem, List.forall_mem_nil, ↓reduceIte, Nat.reduceEqDiff, Nat.reduceLT, Nat.reduceLeDiff, Nat.reduceAdd, Nat.reduceMul, reduceCtorEq, Try.f66, stepF, Int.reduceEq, tI_len, rowsZ_len, rowsN_len, List.length_set, e1, e2, e3, e4, e6, e7, e8]
  repeat' (first
    | ((with_reducible refine sl_i ?_ ?_); focus kernel_rfl)
    | ((with_reducible refine ro_i ?_ ?_); focus kernel_rfl)
    | ((with_reducible refine sl_e ?_); kernel_rfl)
    | ((with_reducible refine ro_e ?_); kernel_rfl)
    | ((first | (with_reducible refine gS_d ?_ ?_) | (with_reducible refine gS_dn ?_ ?_) | (with_reducible refine gS_i ?_ ?_)) <;> intro hg <;> (try simp -dsimp (maxSteps := 1000000) only [go_sem, List.forall_mem_nil, ↓reduceIte, Nat.reduceEqDiff, Nat.reduceLT, Nat.reduceLeDiff, Nat.reduceAdd, Nat.reduceMul, reduceCtorEq, Try.f66, stepF, Int.reduceEq, tI_len, rowsZ_len, rowsN_len, List.length_set, e1, e2, e3, e4, e6, e7, e8, *])))
  refine finF_i [.fold 0 0 4, .fold 0 0 7, .fold 0 0 8] ?_
  simp -dsimp (maxSteps := 1000000) only [go_sem, List.forall_mem_nil, ↓reduceIte, Nat.reduceEqDiff, Nat.reduceLT, Nat.reduceLeDiff, Nat.reduceAdd, Nat.reduceMul, reduceCtorEq, tI_len, rowsZ_len, rowsN_len, List.length_set, e1, e2, e3, e4, e6, e7, e8, stepF]
  all_goals exact ⟨((0, 0), (0, 0)), by simp⟩
end Go.SX
