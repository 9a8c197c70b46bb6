/-
  A step of a module.
  asItIs, sample, isPlug; the pure step of a rack.
  stepRack.
  stepRack: the walk.
  isPlug, canRun.
  RunRack.
  NewRing, checked, NewDelay, NewHold.
  laws.at, laws.equal.
  TraceRack: the walk.
  Plain words: a line of delay, and what FnDelayed asks of the rack's rows.
  laws.FnDelayed: the walk.
  Whole numbers as numbers of single precision: below 2^24 their sums and products are exact.
  Draws: l01New, l01Byte, l01Below, l2Small, MakeWhole. Of what is drawn only its range is told.
  Draws: l01Once, l01Int, l1Odd, FromSteps, l1Some, l1Any, l2Any, l4Samples, MakeSamples. Of what is drawn nothing is told.
  MakeWhole, laws.fresh.
  l1In, FromSteps, l1Any, l2Any, l4Samples, MakeSamples.
  No condition.
-/
import Derived.Test.YtojcifdnmihebaaGreatPkD
set_option linter.unusedVariables false
set_option linter.unusedSimpArgs false
namespace Go.SX
open Go Go.Proofs
def modB (m : Mod) : List B := [.t (.im (.int .i64 m.kind)), .t (.im (.cpx .f32 m.turn.1 m.turn.2)), .t (.im (.cpx .f32 m.state.1 m.state.2)), .t (.im (.flt .f32 m.level)), .t (.own 1 (tI (rowsZ m.store))), .t (.im (.int .i64 m.rat)), .t (.im (.int .i64 m.rcnt)), .t (.own 1 (tI (rowsZ m.pts))), .t (.own 1 (tI (rowsN m.lab))), .t (.im (.int .i64 m.count)), .t (.im (.int .i64 m.left))]
theorem mvB_modB {sc : Bool} (m : Mod) : ∀ x ∈ modB m, MvB sc x := by
  intro t ht
  simp only [modB, List.mem_cons, List.not_mem_nil, or_false] at ht
  rcases ht with rfl | rfl | rfl | rfl | rfl | rfl | rfl | rfl | rfl | rfl | rfl <;> first | exact .t _ (.im _ (.inr rfl)) | exact .t _ (mv_own (sc_rowsZ _)) | exact .t _ (mv_own (sc_rowsN _))
theorem tI_inj {a b : List (List I)} (h : tI a = tI b) : a = b := by
  have h4 := congrArg (mapO (mapO (toI [] (fun _ => none) 0))) h
  rw [tI_toI, tI_toI] at h4
  exact Option.some.inj h4
theorem modB_inj {a b : Mod} (h : modB a = modB b) : a = b := by
  obtain ⟨k, ⟨t1, t2⟩, ⟨s1, s2⟩, l, st, r1, r2, p, la, c, le⟩ := a
  obtain ⟨k', ⟨t1', t2'⟩, ⟨s1', s2'⟩, l', st', r1', r2', p', la', c', le'⟩ := b
  simp only [modB, List.cons.injEq, B.t.injEq, T.im.injEq, T.own.injEq, I.int.injEq, I.cpx.injEq, I.flt.injEq, true_and, and_true] at h
  obtain ⟨rfl, ⟨rfl, rfl⟩, ⟨rfl, rfl⟩, rfl, h1, rfl, rfl, h2, h3, rfl, rfl⟩ := h
  rw [rowsZ_inj (tI_inj h1), rowsZ_inj (tI_inj h2), rowsN_inj (tI_inj h3)]
abbrev Or := (Nat × Nat) × (Nat × Nat)
def maxLv (l x : Nat) : Nat := if fcmp .gtr .f32 (absF x) l = true then absF x else l
def stepF (o : Or) (m : Mod) (z : Pt) : Mod × Pt :=
  if m.kind = 1 then ({ m with state := mulPt o.1 m.state m.turn }, m.state)
  else if m.kind = 2 then ({ m with state := mulPt o.2 m.state m.turn }, mulPt o.1 z m.state)
  else if m.kind = 3 then (m, scaleF z m.level)
  else if m.kind = 4 then ({ m with store := m.store.set m.rat.toNat z, rat := (m.rat + 1) % (m.store.length : Int) }, m.store.getD m.rat.toNat (0, 0))
  else if m.kind = 6 then (match nearF m.pts m.lab z with
    | none => ({ m with count := -1 }, (0, 0))
    | some i => ({ m with count := m.lab.getD i 0 }, m.pts.getD i (0, 0)))
  else if m.kind = 7 then ({ m with level := maxLv (maxLv m.level z.1) z.2 }, z)
  else if m.kind = 8 then (if m.left = 0 then ({ m with state := z, left := m.count - 1 }, z) else ({ m with left := m.left - 1 }, m.state))
  else (m, z)
def mxK (l u v : Nat) : Nat → Nat
  | 0 => l
  | 1 => maxLv l u
  | _ + 2 => maxLv (maxLv l u) v
structure OkS (m : Mod) : Prop where
  ok : OkM m
  ring : m.kind = 4 → 0 ≤ m.rat ∧ m.rat < m.store.length
  hold : m.kind = 8 → 1 ≤ m.count ∧ m.count ≤ 100 ∧ 0 ≤ m.left ∧ m.left < m.count
theorem nearGo_lt (z : Pt) (n : Nat) : ∀ (l : List Pt) (k : Nat) (b : Int) (m : Nat), b < n → k + l.length = n → nearGo z l k b m < n
  | [], k, b, m, hb, hk => hb
  | p :: l, k, b, m, hb, hk => by
    simp only [nearGo]
    simp at hk
    split
    · exact nearGo_lt z n l (k + 1) k _ (by omega) (by omega)
    · exact nearGo_lt z n l (k + 1) b m hb (by omega)
theorem nearF_lt {pts : List Pt} {lab : List Int} {z : Pt} {i : Nat} (h : nearF pts lab z = some i) : i < pts.length ∧ i < lab.length := by
  unfold nearF at h
  split at h
  · rename_i ht
    have hl : pts.length = lab.length := by
      simp only [isTableF, Bool.and_eq_true, decide_eq_true_eq] at ht; exact ht.1
    split at h
    · cases h
    · rename_i hn
      injection h with h
      have hz : pts.length ≠ 0 := by
        intro h0
        have : pts = [] := List.eq_nil_of_length_eq_zero h0
        subst this
        simp [nearGo] at hn
      have := nearGo_lt z pts.length pts 0 (-1) 0 (by omega) (by omega)
      omega
  · cases h
def oStep (m : Mod) (z : Pt) : Outs := .any Or (fun o => { val := .c (.im (.cpx .f32 (stepF o m z).2.1 (stepF o m z).2.2)), places := [modB (stepF o m z).1] })
noncomputable def ct_step : Ct := fam true (fun x : { m : Mod // OkS m } × Pt => ([.c (.ptr 0 0 0 0), .c (.im (.cpx .f32 x.2.1 x.2.2))], [modB x.1.1])) (fun x => oStep x.1.1 x.2)
theorem run_step {m : Mod} (h : OkS m) (u v : Nat) : ct_step.run [.c (.ptr 0 0 0 0), .c (.im (.cpx .f32 u v))] [modB m] = some (oStep m (u, v)) := by
  refine fam_run' (args := fun x : { m : Mod // OkS m } × Pt => ([D.c (.ptr 0 0 0 0), .c (.im (.cpx .f32 x.2.1 x.2.2))], [modB x.1.1])) ?_ (⟨m, h⟩, (u, v))
  rintro ⟨⟨a, _⟩, b⟩ ⟨⟨a', _⟩, b'⟩ h
  simp only [Prod.mk.injEq, List.cons.injEq, D.c.injEq, C.im.injEq, I.cpx.injEq, true_and, and_true] at h
  have := modB_inj h.2
  subst this
  simp [Prod.ext_iff, h.1]
theorem ne_or : Nonempty Or = True := by simp only [eq_iff_iff, iff_true]; exact ⟨((0, 0), (0, 0))⟩
theorem sc_NearestPoint : (ct_NearestPoint.sc = true) = True := by simp [ct_NearestPoint, fam]
theorem tI_setZ (l : List Pt) (k : Nat) (a b : Nat) : (tI (rowsZ l)).set k [T.im (.cpx .f32 a b)] = tI (rowsZ (l.set k (a, b))) := by simp [tI, rowsZ, List.map_set]
theorem tIZ_at {l : List Pt} {k : Nat} {p : Pt} (h : l[k]? = some p) : (tI (rowsZ l))[k]? = some [T.im (.cpx .f32 p.1 p.2)] := by simp [tI, rowsZ, h]
theorem tIN_at {l : List Int} {k : Nat} {p : Int} (h : l[k]? = some p) : (tI (rowsN l))[k]? = some [T.im (.int .i64 p)] := by simp [tI, rowsN, h]
set_option maxRecDepth 100000 in
set_option maxHeartbeats 8000000 in
theorem law_step : Law Tryz.prog 96 ct_step := by
  refine fam_lawU (Env_cons law_MultiplyPoints (Env_cons law_scaled (Env_cons law_NearestPoint (Env_cons law_size Env_nil)))) hmixA Tryz.func96 rfl rfl (fun _ => [.unf 0 0 4, .unf 0 0 7, .unf 0 0 8]) (fun ⟨⟨⟨k, ⟨t1, t2⟩, ⟨s1, s2⟩, lv, st, ra, rc, pts, lab, c, l⟩, ⟨⟨q1, q2, q3⟩, hr, hh⟩⟩, ⟨u, v⟩⟩ =>
    ⟨okA (fun o => ⟨okD_im rfl, by simp, fun c hc => by simp at hc; subst hc; exact mvB_modB _⟩), by simp [Tryz.f96], ?_⟩)
  simp only at q1 q2 q3 hr hh
  simp only [oStep, modB]
  by_cases k1 : k = 1
  · subst k1
    clear hr hh
    try simp -dsimp (maxSteps := 1000000) only [go_sem, List.forall_mem_nil, ↓reduceIte, Nat.reduceEqDiff, Nat.reduceLT, Nat.reduceLeDiff, Nat.reduceAdd, Nat.reduceMul, reduceCtorEq, Tryz.f96, stepF, Int.reduceEq, tI_len, rowsZ_len, rowsN_len, List.length_set, run_MultiplyPoints, oMul, ne_nn]
    repeat' ((with_reducible refine sl_i ?_ ?_); focus kernel_rfl)
    intro o1
    try simp -dsimp (maxSteps := 1000000) only [go_sem, List.forall_mem_nil, ↓reduceIte, Nat.reduceEqDiff, Nat.reduceLT, Nat.reduceLeDiff, Nat.reduceAdd, Nat.reduceMul, reduceCtorEq, Tryz.f96, stepF, Int.reduceEq, tI_len, rowsZ_len, rowsN_len, List.length_set]
    repeat' ((with_reducible refine ro_i ?_ ?_); focus kernel_rfl)
    refine finF_i [.fold 0 0 4, .fold 0 0 7, .fold 0 0 8] ?_
    simp -dsimp (maxSteps := 1000000) only [go_sem, List.forall_mem_nil, ↓reduceIte, Nat.reduceEqDiff, Nat.reduceLT, Nat.reduceLeDiff, Nat.reduceAdd, Nat.reduceMul, reduceCtorEq, tI_len, rowsZ_len, rowsN_len, List.length_set]
    all_goals exact ⟨(o1, (0, 0)), by simp⟩
  have e1 := eq_false k1
  clear k1
  by_cases k2 : k = 2
  · subst k2
    clear hr hh e1
    try simp -dsimp (maxSteps := 1000000) only [go_sem, List.forall_mem_nil, ↓reduceIte, Nat.reduceEqDiff, Nat.reduceLT, Nat.reduceLeDiff, Nat.reduceAdd, Nat.reduceMul, reduceCtorEq, Tryz.f96, stepF, Int.reduceEq, tI_len, rowsZ_len, rowsN_len, List.length_set, run_MultiplyPoints, oMul, ne_nn]
    intro o1
    try simp -dsimp (maxSteps := 1000000) only [go_sem, List.forall_mem_nil, ↓reduceIte, Nat.reduceEqDiff, Nat.reduceLT, Nat.reduceLeDiff, Nat.reduceAdd, Nat.reduceMul, reduceCtorEq, Tryz.f96, stepF, Int.reduceEq, tI_len, rowsZ_len, rowsN_len, List.length_set, run_MultiplyPoints, oMul, ne_nn]
    repeat' ((with_reducible refine sl_i ?_ ?_); focus kernel_rfl)
    intro o2
    try simp -dsimp (maxSteps := 1000000) only [go_sem, List.forall_mem_nil, ↓reduceIte, Nat.reduceEqDiff, Nat.reduceLT, Nat.reduceLeDiff, Nat.reduceAdd, Nat.reduceMul, reduceCtorEq, Tryz.f96, stepF, Int.reduceEq, tI_len, rowsZ_len, rowsN_len, List.length_set]
    repeat' ((with_reducible refine ro_i ?_ ?_); focus kernel_rfl)
    refine finF_i [.fold 0 0 4, .fold 0 0 7, .fold 0 0 8] ?_
    simp -dsimp (maxSteps := 1000000) only [go_sem, List.forall_mem_nil, ↓reduceIte, Nat.reduceEqDiff, Nat.reduceLT, Nat.reduceLeDiff, Nat.reduceAdd, Nat.reduceMul, reduceCtorEq, tI_len, rowsZ_len, rowsN_len, List.length_set]
    all_goals exact ⟨(o1, o2), by simp⟩
  have e2 := eq_false k2
  clear k2
  by_cases k3 : k = 3
  · subst k3
    clear hr hh e1 e2
    try simp -dsimp (maxSteps := 1000000) only [go_sem, List.forall_mem_nil, ↓reduceIte, Nat.reduceEqDiff, Nat.reduceLT, Nat.reduceLeDiff, Nat.reduceAdd, Nat.reduceMul, reduceCtorEq, Tryz.f96, stepF, Int.reduceEq, tI_len, rowsZ_len, rowsN_len, List.length_set, run_scaled]
    refine finF_i [.fold 0 0 4, .fold 0 0 7, .fold 0 0 8] ?_
    simp -dsimp (maxSteps := 1000000) only [go_sem, List.forall_mem_nil, ↓reduceIte, Nat.reduceEqDiff, Nat.reduceLT, Nat.reduceLeDiff, Nat.reduceAdd, Nat.reduceMul, reduceCtorEq, tI_len, rowsZ_len, rowsN_len, List.length_set]
    all_goals exact ⟨((0, 0), (0, 0)), by simp⟩
  have e3 := eq_false k3
  clear k3
  by_cases k4 : k = 4
  · subst k4
    clear hh e1 e2 e3
    obtain ⟨hr0, hr1⟩ := hr rfl
    obtain ⟨n, rfl⟩ := Int.eq_ofNat_of_zero_le hr0
    clear hr hr0
    have hn : n < st.length := by omega
    clear hr1
    obtain ⟨p, hp⟩ : ∃ p, st[n]? = some p := ⟨_, List.getElem?_eq_getElem hn⟩
    have hrow := tIZ_at hp
    have hg : st.getD n (0, 0) = p := by simp [List.getD, hp]
    have hI : ((n : Int) < (st.length : Int)) = True := by simp; omega
    have h0 : (0 ≤ (n : Int)) = True := by simp
    have hnz : ((st.length : Int) = 0) = False := eq_false (by omega)
    have hwr : IntKind.i64.wrap ((n : Int) + 1) = (n : Int) + 1 := lt_sm q1 hn
    have hmod : ((n : Int) + 1).tmod (st.length : Int) = ((n : Int) + 1) % (st.length : Int) := Int.tmod_eq_emod_of_nonneg (by omega)
    clear hp
    try simp -dsimp (maxSteps := 1000000) only [go_sem, List.forall_mem_nil, ↓reduceIte, Nat.reduceEqDiff, Nat.reduceLT, Nat.reduceLeDiff, Nat.reduceAdd, Nat.reduceMul, reduceCtorEq, Tryz.f96, stepF, Int.reduceEq, tI_len, rowsZ_len, rowsN_len, List.length_set, hI, h0, hrow, hg, hnz, hwr, hmod, tI_setZ, Int.toNat_natCast]
    repeat' (first
      | ((with_reducible refine sl_i ?_ ?_); focus kernel_rfl)
      | ((with_reducible refine ro_i ?_ ?_); focus kernel_rfl))
    refine finF_i [.fold 0 0 4, .fold 0 0 7, .fold 0 0 8] ?_
    simp -dsimp (maxSteps := 1000000) only [go_sem, List.forall_mem_nil, ↓reduceIte, Nat.reduceEqDiff, Nat.reduceLT, Nat.reduceLeDiff, Nat.reduceAdd, Nat.reduceMul, reduceCtorEq, tI_len, rowsZ_len, rowsN_len, List.length_set, tI_setZ]
    all_goals exact ⟨((0, 0), (0, 0)), by simp⟩
  have e4 := eq_false k4
  clear k4 hr
  by_cases k6 : k = 6
  · subst k6
    clear hh e1 e2 e3 e4
    cases hf : nearF pts lab (u, v) with
    | none =>
      have hf' := run_NearestPoint q2 q3 u v
      rw [hf] at hf'
      try simp -dsimp (maxSteps := 1000000) only [go_sem, List.forall_mem_nil, ↓reduceIte, Nat.reduceEqDiff, Nat.reduceLT, Nat.reduceLeDiff, Nat.reduceAdd, Nat.reduceMul, reduceCtorEq, Tryz.f96, stepF, Int.reduceEq, tI_len, rowsZ_len, rowsN_len, List.length_set, hf', oNear, hf, sc_NearestPoint, tI_toI, take_Z, take_N]
      refine finF_i [.fold 0 0 4, .fold 0 0 7, .fold 0 0 8] ?_
      simp -dsimp (maxSteps := 1000000) only [go_sem, List.forall_mem_nil, ↓reduceIte, Nat.reduceEqDiff, Nat.reduceLT, Nat.reduceLeDiff, Nat.reduceAdd, Nat.reduceMul, reduceCtorEq, tI_len, rowsZ_len, rowsN_len, List.length_set]
      all_goals exact ⟨((0, 0), (0, 0)), by simp⟩
    | some n =>
      have hf' := run_NearestPoint q2 q3 u v
      rw [hf] at hf'
      obtain ⟨hl1, hl2⟩ := nearF_lt hf
      obtain ⟨p, hp⟩ : ∃ p, pts[n]? = some p := ⟨_, List.getElem?_eq_getElem hl1⟩
      obtain ⟨y, hy⟩ : ∃ y, lab[n]? = some y := ⟨_, List.getElem?_eq_getElem hl2⟩
      have hrow := tIZ_at hp
      have hrow2 := tIN_at hy
      have hg : pts.getD n (0, 0) = p := by simp [List.getD, hp]
      have hg2 : lab.getD n 0 = y := by simp [List.getD, hy]
      have hI : ((n : Int) < (pts.length : Int)) = True := by simp; omega
      have hI2 : ((n : Int) < (lab.length : Int)) = True := by simp; omega
      have h0 : (0 ≤ (n : Int)) = True := by simp
      try simp -dsimp (maxSteps := 1000000) only [go_sem, List.forall_mem_nil, ↓reduceIte, Nat.reduceEqDiff, Nat.reduceLT, Nat.reduceLeDiff, Nat.reduceAdd, Nat.reduceMul, reduceCtorEq, Tryz.f96, stepF, Int.reduceEq, tI_len, rowsZ_len, rowsN_len, List.length_set, hf', oNear, hf, sc_NearestPoint, tI_toI, take_Z, take_N, hI, hI2, h0, hrow, hrow2, hg, hg2, Int.toNat_natCast]
      refine finF_i [.fold 0 0 4, .fold 0 0 7, .fold 0 0 8] ?_
      simp -dsimp (maxSteps := 1000000) only [go_sem, List.forall_mem_nil, ↓reduceIte, Nat.reduceEqDiff, Nat.reduceLT, Nat.reduceLeDiff, Nat.reduceAdd, Nat.reduceMul, reduceCtorEq, tI_len, rowsZ_len, rowsN_len, List.length_set]
      all_goals exact ⟨((0, 0), (0, 0)), by simp⟩
  have e6 := eq_false k6
  clear k6
  by_cases k8 : k = 8
  · subst k8
    clear e1 e2 e3 e4 e6
    obtain ⟨hh1, hh2, hh3, hh4⟩ := hh rfl
    clear hh
    have hw1 : IntKind.i64.wrap (c - 1) = c - 1 := wrap_id (by omega) (by omega)
    have hw2 : IntKind.i64.wrap (l - 1) = l - 1 := wrap_id (by omega) (by omega)
    by_cases hz : l = 0
    · subst hz
      try simp -dsimp (maxSteps := 1000000) only [go_sem, List.forall_mem_nil, ↓reduceIte, Nat.reduceEqDiff, Nat.reduceLT, Nat.reduceLeDiff, Nat.reduceAdd, Nat.reduceMul, reduceCtorEq, Tryz.f96, stepF, Int.reduceEq, tI_len, rowsZ_len, rowsN_len, List.length_set, hw1, hw2]
      refine finF_i [.fold 0 0 4, .fold 0 0 7, .fold 0 0 8] ?_
      simp -dsimp (maxSteps := 1000000) only [go_sem, List.forall_mem_nil, ↓reduceIte, Nat.reduceEqDiff, Nat.reduceLT, Nat.reduceLeDiff, Nat.reduceAdd, Nat.reduceMul, reduceCtorEq, tI_len, rowsZ_len, rowsN_len, List.length_set]
      all_goals exact ⟨((0, 0), (0, 0)), by simp⟩
    · have hz' := eq_false hz
      clear hz
      try simp -dsimp (maxSteps := 1000000) only [go_sem, List.forall_mem_nil, ↓reduceIte, Nat.reduceEqDiff, Nat.reduceLT, Nat.reduceLeDiff, Nat.reduceAdd, Nat.reduceMul, reduceCtorEq, Tryz.f96, stepF, Int.reduceEq, tI_len, rowsZ_len, rowsN_len, List.length_set, hw1, hw2, hz']
      refine finF_i [.fold 0 0 4, .fold 0 0 7, .fold 0 0 8] ?_
      simp -dsimp (maxSteps := 1000000) only [go_sem, List.forall_mem_nil, ↓reduceIte, Nat.reduceEqDiff, Nat.reduceLT, Nat.reduceLeDiff, Nat.reduceAdd, Nat.reduceMul, reduceCtorEq, tI_len, rowsZ_len, rowsN_len, List.length_set]
      all_goals exact ⟨((0, 0), (0, 0)), by simp⟩
  have e8 := eq_false k8
  clear k8 hh
  by_cases k7 : k = 7
  · subst k7
    clear e1 e2 e3 e4 e6 e8
    try simp -dsimp (maxSteps := 1000000) only [go_sem, List.forall_mem_nil, ↓reduceIte, Nat.reduceEqDiff, Nat.reduceLT, Nat.reduceLeDiff, Nat.reduceAdd, Nat.reduceMul, reduceCtorEq, Tryz.f96, stepF, Int.reduceEq, tI_len, rowsZ_len, rowsN_len, List.length_set]
    refine loop_i (ι := { k : Nat // k ≤ 2 }) (fun k => ⟨[(0, some (.c (.ptr 0 0 0 0))), (1, some (.c (.im (.cpx .f32 u v)))), (149, some (.c (.view 4 1 0 2))), (150, some (.c (.im (.int .i64 2)))), (151, some (.c (.im (.int .i64 (k.1 : Int)))))],
      [(0, some (.box [.t (.im (.int .i64 7)), .t (.im (.cpx .f32 t1 t2)), .t (.im (.cpx .f32 s1 s2)), .t (.im (.flt .f32 (mxK lv u v k.1))), .t (.lent 1 1 st.length), .t (.im (.int .i64 ra)), .t (.im (.int .i64 rc)), .t (.lent 2 1 pts.length), .t (.lent 3 1 lab.length), .t (.im (.int .i64 c)), .t (.im (.int .i64 l))])),
       (1, some (.arr 1 (tI (rowsZ st)))), (2, some (.arr 1 (tI (rowsZ pts)))), (3, some (.arr 1 (tI (rowsN lab)))), (4, some (.arr 1 [[.im (.flt .f32 u)], [.im (.flt .f32 v)]]))], 5⟩) (fun k => 2 - k.1) ⟨0, by simp⟩ ⟨[], [0, 1, 2, 3, 4], by ((simp only [go_sem, eq_self, MvRb, MvRn, MvRt, List.nodup_cons, List.nodup_nil, ↓reduceIte, Nat.reduceEqDiff, Nat.reduceLT, Nat.reduceLeDiff, reduceCtorEq, List.forall_mem_nil, Nat.zero_le, false_implies, List.mem_singleton, mxK, MvRt]) <;> (try (simp -dsimp only [go_sem, eq_self, MvRb, MvRn, MvRt, List.nodup_cons, List.nodup_nil, ↓reduceIte, Nat.reduceEqDiff, Nat.reduceLT, Nat.reduceLeDiff, reduceCtorEq, List.forall_mem_nil, Nat.zero_le, false_implies, List.mem_singleton, mxK, MvRt]))) <;> simp [lk, MvB_im, mxK]⟩ (fun ⟨k, hk⟩ => ?_)
    have hc0 : ((0 : Nat) : Int) = 0 := rfl
    have hc1 : ((1 : Nat) : Int) = 1 := rfl
    have hc2 : ((2 : Nat) : Int) = 2 := rfl
    have hw1 : IntKind.i64.wrap 1 = 1 := wrap_id (by omega) (by omega)
    have hw2 : IntKind.i64.wrap 2 = 2 := wrap_id (by omega) (by omega)
    match k, hk with
    | 0, hk =>
      try simp -dsimp (maxSteps := 1000000) only [go_sem, List.forall_mem_nil, ↓reduceIte, Nat.reduceEqDiff, Nat.reduceLT, Nat.reduceLeDiff, Nat.reduceAdd, Nat.reduceMul, reduceCtorEq, Tryz.f96, run_size, mxK, hc0, hc1, hc2, hw1, hw2, Int.reduceLT, Int.reduceLE, Int.reduceToNat, Int.reduceAdd, Int.lt_irrefl]
      repeat' (first
        | ((with_reducible refine sl_i ?_ ?_); focus kernel_rfl)
        | ((with_reducible refine ro_i ?_ ?_); focus kernel_rfl)
        | ((first | (with_reducible refine gS_d ?_ ?_) | (with_reducible refine gS_dn ?_ ?_) | (with_reducible refine gS_i ?_ ?_)) <;> intro hg <;> (try simp -dsimp (maxSteps := 1000000) only [go_sem, List.forall_mem_nil, ↓reduceIte, Nat.reduceEqDiff, Nat.reduceLT, Nat.reduceLeDiff, Nat.reduceAdd, Nat.reduceMul, reduceCtorEq, Tryz.f96, run_size, mxK, hc0, hc1, hc2, hw1, hw2, Int.reduceLT, Int.reduceLE, Int.reduceToNat, Int.reduceAdd, Int.lt_irrefl, *])))
      all_goals refine ⟨⟨1, by omega⟩, by simp only []; omega, [], [0, 1, 2, 3, 4], ?_⟩
      all_goals (simp only [go_sem, eq_self, MvRb, MvRn, MvRt, List.nodup_cons, List.nodup_nil, ↓reduceIte, Nat.reduceEqDiff, Nat.reduceLT, Nat.reduceLeDiff, reduceCtorEq, List.forall_mem_nil, Nat.zero_le, false_implies, List.mem_singleton, mxK, maxLv, MvRt, hc1, hc2, hg, if_true, if_false, Bool.false_eq_true])
      all_goals simp [lk, MvB_im, mxK, maxLv, hg]
    | 1, hk =>
      try simp -dsimp (maxSteps := 1000000) only [go_sem, List.forall_mem_nil, ↓reduceIte, Nat.reduceEqDiff, Nat.reduceLT, Nat.reduceLeDiff, Nat.reduceAdd, Nat.reduceMul, reduceCtorEq, Tryz.f96, run_size, mxK, hc0, hc1, hc2, hw1, hw2, Int.reduceLT, Int.reduceLE, Int.reduceToNat, Int.reduceAdd, Int.lt_irrefl]
      repeat' (first
        | ((with_reducible refine sl_i ?_ ?_); focus kernel_rfl)
        | ((with_reducible refine ro_i ?_ ?_); focus kernel_rfl)
        | ((first | (with_reducible refine gS_d ?_ ?_) | (with_reducible refine gS_dn ?_ ?_) | (with_reducible refine gS_i ?_ ?_)) <;> intro hg <;> (try simp -dsimp (maxSteps := 1000000) only [go_sem, List.forall_mem_nil, ↓reduceIte, Nat.reduceEqDiff, Nat.reduceLT, Nat.reduceLeDiff, Nat.reduceAdd, Nat.reduceMul, reduceCtorEq, Tryz.f96, run_size, mxK, hc0, hc1, hc2, hw1, hw2, Int.reduceLT, Int.reduceLE, Int.reduceToNat, Int.reduceAdd, Int.lt_irrefl, *])))
      all_goals refine ⟨⟨2, by omega⟩, by simp only []; omega, [], [0, 1, 2, 3, 4], ?_⟩
      all_goals ((simp only [go_sem, eq_self, MvRb, MvRn, MvRt, List.nodup_cons, List.nodup_nil, ↓reduceIte, Nat.reduceEqDiff, Nat.reduceLT, Nat.reduceLeDiff, reduceCtorEq, List.forall_mem_nil, Nat.zero_le, false_implies, List.mem_singleton, mxK, MvRt, hc1, hc2]) <;> (try (simp -dsimp only [go_sem, eq_self, MvRb, MvRn, MvRt, List.nodup_cons, List.nodup_nil, ↓reduceIte, Nat.reduceEqDiff, Nat.reduceLT, Nat.reduceLeDiff, reduceCtorEq, List.forall_mem_nil, Nat.zero_le, false_implies, List.mem_singleton, mxK, MvRt, hc1, hc2])))
      all_goals (generalize maxLv lv u = w at hg ⊢)
      all_goals simp [lk, MvB_im, maxLv, hg]
    | 2, hk =>
      try simp -dsimp (maxSteps := 1000000) only [go_sem, List.forall_mem_nil, ↓reduceIte, Nat.reduceEqDiff, Nat.reduceLT, Nat.reduceLeDiff, Nat.reduceAdd, Nat.reduceMul, reduceCtorEq, Tryz.f96, mxK, stepF, Int.reduceEq, hc0, hc1, hc2, hw1, hw2, Int.reduceLT, Int.reduceLE, Int.reduceToNat, Int.reduceAdd, Int.lt_irrefl]
      refine finF_i [.fold 0 0 4, .fold 0 0 7, .fold 0 0 8] ?_
      simp -dsimp (maxSteps := 1000000) only [go_sem, List.forall_mem_nil, ↓reduceIte, Nat.reduceEqDiff, Nat.reduceLT, Nat.reduceLeDiff, Nat.reduceAdd, Nat.reduceMul, reduceCtorEq, tI_len, rowsZ_len, rowsN_len, List.length_set, mxK]
      all_goals exact ⟨((0, 0), (0, 0)), by simp⟩
  have e7 := eq_false k7
  clear k7
  try simp -dsimp (maxSteps := 1000000) only [go_sem, List.forall_mem_nil, ↓reduceIte, Nat.reduceEqDiff, Nat.reduceLT, Nat.reduceLeDiff, Nat.reduceAdd, Nat.reduceMul, reduceCtorEq, Tryz.f96, stepF, Int.reduceEq, tI_len, rowsZ_len, rowsN_len, List.length_set, e1, e2, e3, e4, e6, e7, e8]
  refine finF_i [.fold 0 0 4, .fold 0 0 7, .fold 0 0 8] ?_
  simp -dsimp (maxSteps := 1000000) only [go_sem, List.forall_mem_nil, ↓reduceIte, Nat.reduceEqDiff, Nat.reduceLT, Nat.reduceLeDiff, Nat.reduceAdd, Nat.reduceMul, reduceCtorEq, tI_len, rowsZ_len, rowsN_len, List.length_set, e1, e2, e3, e4, e6, e7, e8, stepF]
  all_goals exact ⟨((0, 0), (0, 0)), by simp⟩
end Go.SX
set_option linter.unusedVariables false
set_option linter.unusedSimpArgs false
namespace Go.SX
open Go Go.Proofs
def dMod : Mod := ⟨0, (0, 0), (0, 0), 0, [], 0, 0, [], [], 0, 0⟩
def inSum (cs : List Cbl) (i inn : Int) (z : Pt) (outs : List Pt) : Pt := (feedsF cs i).foldl (fun s f => addPt s (outs.getD f.toNat (0, 0))) (if i = inn then addPt (0, 0) z else (0, 0))
def ordL (ms : List Mod) (cs : List Cbl) : List Int := (orderF ms cs).getD []
theorem readyIdx_lt {ms : List Mod} {cs : List Cbl} {out : List Int} {n : Nat} (h : readyIdx ms cs out ms.length 0 = n) (hn : n ≠ ms.length) : n < ms.length := by
  have := readyIdx_le ms cs out ms.length 0; omega
theorem orderGo_lt {ms : List Mod} {cs : List Cbl} : ∀ (f : Nat) (out l : List Int), (∀ i ∈ out, 0 ≤ i ∧ i < ms.length) → orderGo ms cs f out = some l → ∀ i ∈ l, 0 ≤ i ∧ i < ms.length
  | 0, out, l, ho, h => by simp only [orderGo, Option.some.injEq] at h; subst h; exact ho
  | f + 1, out, l, ho, h => by
    simp only [orderGo] at h
    split at h
    · cases h
    · rename_i hn
      refine orderGo_lt f _ l (fun i hi => ?_) h
      rcases List.mem_append.1 hi with hi | hi
      · exact ho i hi
      · simp at hi; subst hi
        have := readyIdx_lt rfl hn
        omega
theorem ordL_lt {ms : List Mod} {cs : List Cbl} : ∀ i ∈ ordL ms cs, 0 ≤ i ∧ i < ms.length := by
  intro i hi
  unfold ordL at hi
  cases h : orderF ms cs with
  | none => rw [h] at hi; simp at hi
  | some l => rw [h] at hi; exact orderGo_lt _ [] l (by simp) h i hi
theorem orderGo_len {ms : List Mod} {cs : List Cbl} : ∀ (f : Nat) (out l : List Int), orderGo ms cs f out = some l → l.length = out.length + f
  | 0, out, l, h => by simp only [orderGo, Option.some.injEq] at h; subst h; rfl
  | f + 1, out, l, h => by
    simp only [orderGo] at h
    split at h
    · cases h
    · have := orderGo_len f _ l h
      simp at this; omega
theorem ordL_len (ms : List Mod) (cs : List Cbl) : (ordL ms cs).length ≤ ms.length := by
  unfold ordL
  cases h : orderF ms cs with
  | none => simp
  | some l => have := orderGo_len _ [] l h; simp at this ⊢; omega
theorem stepF_kind (o : Or) (m : Mod) (z : Pt) : (stepF o m z).1.kind = m.kind := by
  unfold stepF
  repeat' split
  all_goals rfl
theorem stepF_ok {o : Or} {m : Mod} {z : Pt} (h : OkS m) : OkS (stepF o m z).1 := by
  obtain ⟨⟨h1, h2, h3⟩, h4, h5⟩ := h
  have hk := stepF_kind o m z
  refine ⟨?_, fun hq => ?_, fun hq => ?_⟩
  · unfold stepF
    repeat' split
    all_goals exact ⟨by simp [h1], h2, h3⟩
  · rw [hk] at hq
    have := h4 hq
    simp only [stepF, hq, Int.reduceEq, if_false, if_true, List.length_set]
    have hp : (0 : Int) < m.store.length := by omega
    exact ⟨Int.emod_nonneg _ (by omega), Int.emod_lt_of_pos _ hp⟩
  · rw [hk] at hq
    have := h5 hq
    simp only [stepF, hq, Int.reduceEq, if_false, if_true]
    split
    · simp only []; omega
    · simp only []; omega
noncomputable def ct_sample : Ct := fam true (fun x : { l : List Pt // l.length ≤ sm } × Nat => ([.c (.im (.sl 1 (rowsZ x.1.1))), .c (.im (.int .i64 (x.2 : Int)))], [])) (fun x => .one { val := .c (.im (.cpx .f32 (x.1.1.getD x.2 (0, 0)).1 (x.1.1.getD x.2 (0, 0)).2)) })
theorem run_sample {l : List Pt} (hl : l.length ≤ sm) (k : Nat) : ct_sample.run [.c (.im (.sl 1 (rowsZ l))), .c (.im (.int .i64 (k : Int)))] [] = some (.one { val := .c (.im (.cpx .f32 (l.getD k (0, 0)).1 (l.getD k (0, 0)).2)) }) := by
  refine fam_run' (args := fun x : { l : List Pt // l.length ≤ sm } × Nat => ([D.c (.im (.sl 1 (rowsZ x.1.1))), .c (.im (.int .i64 (x.2 : Int)))], [])) ?_ (⟨l, hl⟩, k)
  rintro ⟨⟨a, _⟩, b⟩ ⟨⟨a', _⟩, b'⟩ h
  simp only [Prod.mk.injEq, List.cons.injEq, D.c.injEq, C.im.injEq, I.sl.injEq, I.int.injEq, true_and, and_true, rowsZ_eq] at h
  obtain ⟨rfl, h⟩ := h
  have : b = b' := by omega
  subst this; rfl
set_option maxRecDepth 100000 in
theorem law_sample : Law Tryz.prog 48 ct_sample := by
  refine fam_law Env_nil hmixA Tryz.func48 rfl rfl (fun ⟨⟨l, hl⟩, k⟩ => ⟨okO_im rfl, by simp [Tryz.f48], ?_⟩)
  by_cases hlt : k < l.length
  · obtain ⟨p, hp⟩ : ∃ p, l[k]? = some p := ⟨_, List.getElem?_eq_getElem hlt⟩
    have hrow := rowsZ_at hp
    have hI : ((k : Int) < (l.length : Int)) = True := by simp; omega
    have h0 : (0 ≤ (k : Int)) = True := by simp
    have hg : l.getD k (0, 0) = p := by simp [List.getD, hp]
    try simp -dsimp (maxSteps := 1000000) only [go_sem, List.forall_mem_nil, ↓reduceIte, Nat.reduceEqDiff, Nat.reduceLT, Nat.reduceLeDiff, Nat.reduceAdd, Nat.reduceMul, reduceCtorEq, Tryz.f48, hI, h0, hg, Int.toNat_natCast, hrow, rowsZ_len]
  · have hI : ((k : Int) < (l.length : Int)) = False := by simp; omega
    have hg : l.getD k (0, 0) = (0, 0) := by simp [List.getD, List.getElem?_eq_none (show l.length ≤ k by omega)]
    try simp -dsimp (maxSteps := 1000000) only [go_sem, List.forall_mem_nil, ↓reduceIte, Nat.reduceEqDiff, Nat.reduceLT, Nat.reduceLeDiff, Nat.reduceAdd, Nat.reduceMul, reduceCtorEq, Tryz.f48, hI, hg, rowsZ_len]
end Go.SX
set_option linter.unusedVariables false
set_option linter.unusedSimpArgs false
namespace Go.SX
open Go Go.Proofs
def inSumK (cs : List Cbl) (i inn : Int) (z : Pt) (outs : List Pt) (k : Nat) : Pt := ((feedsF cs i).take k).foldl (fun s f => addPt s (outs.getD f.toNat (0, 0))) (if i = inn then addPt (0, 0) z else (0, 0))
theorem inSumK_s {cs : List Cbl} {i inn : Int} {z : Pt} {outs : List Pt} {k : Nat} {f : Int} (h : (feedsF cs i)[k]? = some f) : inSumK cs i inn z outs (k + 1) = addPt (inSumK cs i inn z outs k) (outs.getD f.toNat (0, 0)) := by
  simp only [inSumK]
  rw [take_snoc h, List.foldl_append]; rfl
theorem inSumK_n {cs : List Cbl} {i inn : Int} {z : Pt} {outs : List Pt} : inSumK cs i inn z outs (feedsF cs i).length = inSum cs i inn z outs := by simp only [inSumK, List.take_length, inSum]
theorem feeds_mem {cs : List Cbl} {i : Int} {n : Nat} (h : ∀ c ∈ cs, 0 ≤ c.1 ∧ c.1 < n) : ∀ f ∈ feedsF cs i, 0 ≤ f ∧ f < n := by
  intro f hf
  simp only [feedsF, List.mem_map, List.mem_filter] at hf
  obtain ⟨c, ⟨hc, _⟩, rfl⟩ := hf
  exact h c hc
theorem modT_inj {a b : Mod} (h : modT a = modT b) : a = b := modB_inj (by have := congrArg (List.map B.t) h; simpa [modT, modB] using this)
theorem tM_inj {a b : List Mod} (h : tM a = tM b) : a = b := by
  induction a generalizing b with
  | nil => cases b with
    | nil => rfl
    | cons y b => simp [tM] at h
  | cons x a ih => cases b with
    | nil => simp [tM] at h
    | cons y b =>
      simp only [tM, List.map_cons, List.cons.injEq] at h
      rw [modT_inj h.1, ih h.2]
theorem tM_at {ms : List Mod} {k : Nat} {m : Mod} (h : ms[k]? = some m) : (tM ms)[k]? = some (modT m) := by simp [tM, h]
theorem tM_set (ms : List Mod) (k : Nat) (m : Mod) : (tM ms).set k (modT m) = tM (ms.set k m) := by simp [tM, List.map_set]
theorem set_self {α : Type} {l : List α} {k : Nat} {a : α} (h : l[k]? = some a) : l.set k a = l := by
  refine List.ext_getElem? (fun n => ?_)
  by_cases e : k = n
  · subst e; rw [List.getElem?_set_self (List.getElem?_eq_some_iff.1 h).1, h]
  · rw [List.getElem?_set_ne e]
theorem tM_toI (ex : List Nat) (H : Nat → Option Root) (ms : List Mod) (k : Nat) : mapO (mapO (toI ex H (k + 1))) (tM ms) = some (rowsM ms) := by
  induction ms with
  | nil => rfl
  | cons m ms ih =>
    have e : tM (m :: ms) = modT m :: tM ms := rfl
    have e2 : rowsM (m :: ms) = modI m :: rowsM ms := rfl
    rw [e, e2]
    simp only [mapO, ih]
    simp only [modT, modI, mapO, toI, tI_toI]
theorem take_M (ms : List Mod) : (tM ms).take ms.length = tM ms := by rw [List.take_of_length_le]; simp [tM_len]
structure ASt where
  ms : List Mod
  cs : List Cbl
  inn : Int
  z : Pt
  ml : ms.length ≤ 16
  cl : cs.length ≤ sm
  ok : ∀ m ∈ ms, OkS m
  cr : ∀ c ∈ cs, 0 ≤ c.1 ∧ c.1 < ms.length
theorem ne_orN : Nonempty (Nat → Or) = True := by simp only [eq_iff_iff, iff_true]; exact ⟨fun _ => ((0, 0), (0, 0))⟩
end Go.SX
set_option linter.unusedVariables false
set_option linter.unusedSimpArgs false
namespace Go.SX
open Go Go.Proofs
theorem MvR_M (ms : List Mod) : MvR false (.arr 11 (tM ms)) = True := eq_true (mvR_tM _)
theorem MvB_Z (l : List Pt) : MvB false (.t (.own 1 (tI (rowsZ l)))) = True := eq_true (.t _ (mv_own (sc_rowsZ _)))
theorem MvB_N (l : List Int) : MvB false (.t (.own 1 (tI (rowsN l)))) = True := eq_true (.t _ (mv_own (sc_rowsN _)))
theorem rep_Z (n : Nat) : List.replicate n [T.im (.cpx .f32 0 0)] = tI (rowsZ (List.replicate n (0, 0))) := by simp [tI, rowsZ]
end Go.SX
set_option linter.unusedVariables false
set_option linter.unusedSimpArgs false
namespace Go.SX
open Go Go.Proofs
theorem OkS_of {m : Mod} (h : OkM m) (h1 : isModuleF m = true) : OkS m := by
  refine ⟨h, fun hk => ?_, fun hk => ?_⟩
  · simp only [isModuleF, hk, Int.reduceEq, if_true, if_false, Bool.and_eq_true, isRingF, decide_eq_true_eq] at h1
    obtain ⟨⟨⟨⟨_, _, h2, h3, _⟩, _⟩, _⟩, _⟩ := h1
    exact ⟨h2, h3⟩
  · simp only [isModuleF, hk, Int.reduceEq, if_true, if_false, Bool.and_eq_true, decide_eq_true_eq] at h1
    exact ⟨h1.1.1, h1.1.2.1, h1.1.2.2.1, h1.1.2.2.2⟩
structure RackOk (ms : List Mod) (cs : List Cbl) : Prop where
  ml : ms.length ≤ 16
  cl : cs.length ≤ 40
  ok : ∀ m ∈ ms, OkS m
  cr : ∀ c ∈ cs, 0 ≤ c.1 ∧ c.1 < ms.length ∧ 0 ≤ c.2 ∧ c.2 < ms.length
theorem RackOk_of {ms : List Mod} {cs : List Cbl} (h : ∀ m ∈ ms, OkM m) (hr : isRackF ms cs = true) : RackOk ms cs := by
  simp only [isRackF, Bool.and_eq_true, decide_eq_true_eq, List.all_eq_true, cabF] at hr
  obtain ⟨h1, h2, h3, h4, _⟩ := hr
  exact ⟨h1, h2, fun m hm => OkS_of (h m hm) (h3 m hm), h4⟩
def plugF (n : Nat) (a b : Int) : Bool := decide (-1 ≤ a) && (decide (a < n) && (decide (0 ≤ b) && decide (b < n)))
structure APl where
  ms : List Mod
  cs : List Cbl
  a : Int
  b : Int
noncomputable def ct_isPlug : Ct := fam true (fun x : APl => ([.agg [.im (.sl 11 (rowsM x.ms)), .im (.sl 2 (rowsC x.cs))], .agg [.im (.int .i64 x.a), .im (.int .i64 x.b)]], [])) (fun x => .one { val := .c (.im (.bool (plugF x.ms.length x.a x.b))) })
theorem run_isPlug (ms : List Mod) (cs : List Cbl) (a b : Int) : ct_isPlug.run [.agg [.im (.sl 11 (rowsM ms)), .im (.sl 2 (rowsC cs))], .agg [.im (.int .i64 a), .im (.int .i64 b)]] [] = some (.one { val := .c (.im (.bool (plugF ms.length a b))) }) := by
  refine fam_run' (args := fun x : APl => ([D.agg [.im (.sl 11 (rowsM x.ms)), .im (.sl 2 (rowsC x.cs))], .agg [.im (.int .i64 x.a), .im (.int .i64 x.b)]], [])) ?_ ⟨ms, cs, a, b⟩
  rintro ⟨a, b, c, d⟩ ⟨a', b', c', d'⟩ h
  simp [rowsM_eq, rowsC_eq] at h ⊢
  simp [h]
set_option maxRecDepth 100000 in
set_option maxHeartbeats 4000000 in
theorem law_isPlug : Law Tryz.prog 91 ct_isPlug := by
  refine fam_law Env_nil hmixA Tryz.func91 rfl rfl (fun ⟨ms, cs, a, b⟩ => ⟨okO_im rfl, by simp [Tryz.f91], ?_⟩)
  simp only
  by_cases p1 : -1 ≤ a
  rotate_left
  · have e1 := eq_false p1
    clear p1
    try simp -dsimp (maxSteps := 1000000) only [go_sem, List.forall_mem_nil, ↓reduceIte, Nat.reduceEqDiff, Nat.reduceLT, Nat.reduceLeDiff, Nat.reduceAdd, Nat.reduceMul, reduceCtorEq, Tryz.f91, rowsM_len, e1]
    all_goals (simp only [plugF, *, decide_false, decide_true, Bool.false_and, Bool.true_and, Bool.and_false, Bool.and_true])
  have e1 := eq_true p1
  by_cases p2 : a < (ms.length : Int)
  rotate_left
  · have e2 := eq_false p2
    clear p2
    try simp -dsimp (maxSteps := 1000000) only [go_sem, List.forall_mem_nil, ↓reduceIte, Nat.reduceEqDiff, Nat.reduceLT, Nat.reduceLeDiff, Nat.reduceAdd, Nat.reduceMul, reduceCtorEq, Tryz.f91, rowsM_len, e1, e2]
    all_goals (simp only [plugF, *, decide_false, decide_true, Bool.false_and, Bool.true_and, Bool.and_false, Bool.and_true])
  have e2 := eq_true p2
  by_cases p3 : 0 ≤ b
  rotate_left
  · have e3 := eq_false p3
    clear p3
    try simp -dsimp (maxSteps := 1000000) only [go_sem, List.forall_mem_nil, ↓reduceIte, Nat.reduceEqDiff, Nat.reduceLT, Nat.reduceLeDiff, Nat.reduceAdd, Nat.reduceMul, reduceCtorEq, Tryz.f91, rowsM_len, e1, e2, e3]
    all_goals (simp only [plugF, *, decide_false, decide_true, Bool.false_and, Bool.true_and, Bool.and_false, Bool.and_true])
  have e3 := eq_true p3
  by_cases p4 : b < (ms.length : Int)
  rotate_left
  · have e4 := eq_false p4
    clear p4
    try simp -dsimp (maxSteps := 1000000) only [go_sem, List.forall_mem_nil, ↓reduceIte, Nat.reduceEqDiff, Nat.reduceLT, Nat.reduceLeDiff, Nat.reduceAdd, Nat.reduceMul, reduceCtorEq, Tryz.f91, rowsM_len, e1, e2, e3, e4]
    all_goals (simp only [plugF, *, decide_false, decide_true, Bool.false_and, Bool.true_and, Bool.and_false, Bool.and_true])
  have e4 := eq_true p4
  try simp -dsimp (maxSteps := 1000000) only [go_sem, List.forall_mem_nil, ↓reduceIte, Nat.reduceEqDiff, Nat.reduceLT, Nat.reduceLeDiff, Nat.reduceAdd, Nat.reduceMul, reduceCtorEq, Tryz.f91, rowsM_len, e1, e2, e3, e4]
  all_goals simp only [plugF, *, decide_false, decide_true, Bool.false_and, Bool.true_and, Bool.and_false, Bool.and_true]
def canRunF (ms : List Mod) (cs : List Cbl) (a b n : Int) : Bool := isRackF ms cs && (plugF ms.length a b && (decide (0 ≤ n) && decide (n ≤ 500)))
structure ACr where
  ms : List Mod
  cs : List Cbl
  a : Int
  b : Int
  n : Int
  ml : ms.length ≤ sm
  cl : cs.length ≤ sm
  ok : ∀ m ∈ ms, OkM m
noncomputable def ct_canRun : Ct := fam true (fun x : ACr => ([.agg [.im (.sl 11 (rowsM x.ms)), .im (.sl 2 (rowsC x.cs))], .agg [.im (.int .i64 x.a), .im (.int .i64 x.b)], .c (.im (.int .i64 x.n))], [])) (fun x => .one { val := .c (.im (.bool (canRunF x.ms x.cs x.a x.b x.n))) })
theorem run_canRun {ms : List Mod} {cs : List Cbl} (h1 : ms.length ≤ sm) (h2 : cs.length ≤ sm) (h5 : ∀ m ∈ ms, OkM m) (a b n : Int) : ct_canRun.run [.agg [.im (.sl 11 (rowsM ms)), .im (.sl 2 (rowsC cs))], .agg [.im (.int .i64 a), .im (.int .i64 b)], .c (.im (.int .i64 n))] [] = some (.one { val := .c (.im (.bool (canRunF ms cs a b n))) }) := by
  refine fam_run' (args := fun x : ACr => ([D.agg [.im (.sl 11 (rowsM x.ms)), .im (.sl 2 (rowsC x.cs))], .agg [.im (.int .i64 x.a), .im (.int .i64 x.b)], .c (.im (.int .i64 x.n))], [])) ?_ ⟨ms, cs, a, b, n, h1, h2, h5⟩
  rintro ⟨a, b, c, d, e, _, _, _⟩ ⟨a', b', c', d', e', _, _, _⟩ h
  simp [rowsM_eq, rowsC_eq] at h ⊢
  simp [h]
set_option maxRecDepth 100000 in
set_option maxHeartbeats 4000000 in
theorem law_canRun : Law Tryz.prog 44 ct_canRun := by
  refine fam_law (Env_cons law_IsRack (Env_cons law_isPlug Env_nil)) hmixA Tryz.func44 rfl rfl (fun ⟨ms, cs, a, b, n, h1, h2, h5⟩ => ⟨okO_im rfl, by simp [Tryz.f44], ?_⟩)
  cases hr : isRackF ms cs with
  | false =>
    try simp -dsimp (maxSteps := 1000000) only [go_sem, List.forall_mem_nil, ↓reduceIte, Nat.reduceEqDiff, Nat.reduceLT, Nat.reduceLeDiff, Nat.reduceAdd, Nat.reduceMul, reduceCtorEq, Tryz.f44, run_IsRack h1 h2 h5, canRunF, hr, Bool.false_and]
  | true =>
    cases hpl : plugF ms.length a b with
    | false =>
      try simp -dsimp (maxSteps := 1000000) only [go_sem, List.forall_mem_nil, ↓reduceIte, Nat.reduceEqDiff, Nat.reduceLT, Nat.reduceLeDiff, Nat.reduceAdd, Nat.reduceMul, reduceCtorEq, Tryz.f44, run_IsRack h1 h2 h5, run_isPlug, canRunF, hr, hpl, Bool.false_and, Bool.true_and]
    | true =>
      by_cases p1 : 0 ≤ n
      rotate_left
      · have e1 := eq_false p1
        clear p1
        try simp -dsimp (maxSteps := 1000000) only [go_sem, List.forall_mem_nil, ↓reduceIte, Nat.reduceEqDiff, Nat.reduceLT, Nat.reduceLeDiff, Nat.reduceAdd, Nat.reduceMul, reduceCtorEq, Tryz.f44, run_IsRack h1 h2 h5, run_isPlug, hr, hpl, e1]
        all_goals (simp only [canRunF, *, decide_false, decide_true, Bool.false_and, Bool.true_and, Bool.and_false, Bool.and_true])
      have e1 := eq_true p1
      try simp -dsimp (maxSteps := 1000000) only [go_sem, List.forall_mem_nil, ↓reduceIte, Nat.reduceEqDiff, Nat.reduceLT, Nat.reduceLeDiff, Nat.reduceAdd, Nat.reduceMul, reduceCtorEq, Tryz.f44, run_IsRack h1 h2 h5, run_isPlug, hr, hpl, e1]
      all_goals simp only [canRunF, *, decide_false, decide_true, Bool.false_and, Bool.true_and, Bool.and_false, Bool.and_true]
end Go.SX
set_option linter.unusedVariables false
set_option linter.unusedSimpArgs false
namespace Go.SX
open Go Go.Proofs
structure ARun where
  ms : List Mod
  cs : List Cbl
  a : Int
  b : Int
  xs : List Pt
  n : Int
  ml : ms.length ≤ sm
  cl : cs.length ≤ sm
  xl : xs.length ≤ sm
  ok : ∀ m ∈ ms, OkM m
def rNo : Res := { val := .tup [.agg [.nil, .nil], .c .nil, .c (.im (.bool false))] }
def rRun (ms : List Mod) (cs : List Cbl) (out : List Pt) : Res := { val := .tup [.agg [.view 0 11 0 ms.length, .view 1 2 0 cs.length], .c (.view 2 1 0 out.length), .c (.im (.bool true))], roots := [.arr 11 (tM ms), .arr 2 (tI (rowsC cs)), .arr 1 (tI (rowsZ out))] }
theorem tIZ_app (l : List Pt) (x y : Nat) : tI (rowsZ l) ++ [[T.im (.cpx .f32 x y)]] = tI (rowsZ (l ++ [(x, y)])) := by simp [tI, rowsZ]
theorem tI_nil : tI (rowsZ []) = [] := rfl
theorem ne_run : Nonempty (Nat → Nat → Or) = True := by simp only [eq_iff_iff, iff_true]; exact ⟨fun _ _ => ((0, 0), (0, 0))⟩
theorem okR_no {sc : Bool} : OkR sc rNo := by
  refine ⟨.tup _ (fun d hd => ?_), by simp [rNo], by simp [rNo]⟩
  simp only [rNo, List.mem_cons, List.not_mem_nil, or_false] at hd
  rcases hd with rfl | rfl | rfl
  · exact .inr ⟨_, rfl, fun x hx => by simp at hx; subst hx; exact .nil⟩
  · exact .inl ⟨_, rfl, .nil⟩
  · exact .inl ⟨_, rfl, okC_sc rfl⟩
theorem okR_run {sc : Bool} {ms : List Mod} {cs : List Cbl} {out : List Pt} : OkR sc (rRun ms cs out) := by
  refine ⟨.tup _ (fun d hd => ?_), fun r hr => ?_, by simp [rRun]⟩
  · simp only [rRun, List.mem_cons, List.not_mem_nil, or_false] at hd
    rcases hd with rfl | rfl | rfl
    · refine .inr ⟨_, rfl, fun x hx => ?_⟩
      simp only [List.mem_cons, List.not_mem_nil, or_false] at hx
      rcases hx with rfl | rfl <;> exact .view _ _ _ _ (by simp [rRun])
    · exact .inl ⟨_, rfl, .view _ _ _ _ (by simp [rRun])⟩
    · exact .inl ⟨_, rfl, okC_sc rfl⟩
  · simp only [rRun, List.mem_cons, List.not_mem_nil, or_false] at hr
    rcases hr with rfl | rfl | rfl
    · exact mvR_tM _
    · exact mvR_tI (sc_rowsC _)
    · exact mvR_tI (sc_rowsZ _)
end Go.SX
set_option linter.unusedVariables false
set_option linter.unusedSimpArgs false
namespace Go.SX
open Go Go.Proofs
structure ACk where
  m : Mod
  b : Bool
  ok : OkM m
  p : m.pts = []
  l : m.lab = []
  s : b = false → m.store = []
  v : isModuleF m = true
def zs (n : Nat) : List Pt := List.replicate n (0, 0)
end Go.SX
set_option linter.unusedVariables false
set_option linter.unusedSimpArgs false
namespace Go.SX
open Go Go.Proofs
def rowsB (l : List Int) : List (List I) := l.map fun b => [.int .u8 b]
theorem rowsB_len (l : List Int) : (rowsB l).length = l.length := by simp [rowsB]
theorem rowsB_at {l : List Int} {k : Nat} {b : Int} (h : l[k]? = some b) : (rowsB l)[k]? = some [.int .u8 b] := by simp [rowsB, h]
theorem rowsB_inj {a b : List Int} (h : rowsB a = rowsB b) : a = b := by
  induction a generalizing b with
  | nil => cases b with
    | nil => rfl
    | cons y b => simp [rowsB] at h
  | cons x a ih => cases b with
    | nil => simp [rowsB] at h
    | cons y b =>
      simp only [rowsB, List.map_cons, List.cons.injEq, I.int.injEq, true_and, and_true] at h
      rw [h.1, ih h.2]
structure ABy where
  l : List Int
  len : l.length ≤ 1048576
  by_ : ∀ b ∈ l, 0 ≤ b ∧ b < 256
def atF (l : List Int) (i : Nat) : Int := match l[i]? with
  | some b => b
  | none => ((i : Int) * 37 + l.length * 11) % 256
noncomputable def ct_at : Ct := fam true (fun x : ABy × { i : Nat // i ≤ 1000 } => ([.c (.im (.sl 1 (rowsB x.1.l))), .c (.im (.int .i64 (x.2.1 : Int)))], [])) (fun x => .one { val := .c (.im (.int .i64 (atF x.1.l x.2.1))) })
theorem run_at {l : List Int} (h1 : l.length ≤ 1048576) (h2 : ∀ b ∈ l, 0 ≤ b ∧ b < 256) {i : Nat} (hi : i ≤ 1000) : ct_at.run [.c (.im (.sl 1 (rowsB l))), .c (.im (.int .i64 (i : Int)))] [] = some (.one { val := .c (.im (.int .i64 (atF l i))) }) := by
  refine fam_run' (args := fun x : ABy × { i : Nat // i ≤ 1000 } => ([D.c (.im (.sl 1 (rowsB x.1.l))), .c (.im (.int .i64 (x.2.1 : Int)))], [])) ?_ (⟨l, h1, h2⟩, ⟨i, hi⟩)
  rintro ⟨⟨a, _, _⟩, ⟨i, _⟩⟩ ⟨⟨a', _, _⟩, ⟨i', _⟩⟩ h
  simp only [Prod.mk.injEq, List.cons.injEq, D.c.injEq, C.im.injEq, I.sl.injEq, I.int.injEq, true_and, and_true] at h
  obtain ⟨h, h'⟩ := h
  have h := rowsB_inj h
  have : i = i' := by omega
  subst this; subst h; rfl
set_option maxRecDepth 100000 in
theorem law_at : Law Tryz.prog 10 ct_at := by
  refine fam_law Env_nil hmixA Tryz.func10 rfl rfl (fun ⟨⟨l, h1, h2⟩, ⟨k, hk⟩⟩ => ⟨okO_im rfl, by simp [Tryz.f10], ?_⟩)
  simp only
  have h0 : (0 ≤ (k : Int)) = True := by simp
  by_cases hlt : k < l.length
  · obtain ⟨b, hb⟩ : ∃ b, l[k]? = some b := ⟨_, List.getElem?_eq_getElem hlt⟩
    have hrow := rowsB_at hb
    have hI : ((k : Int) < (l.length : Int)) = True := by simp; omega
    have hat : atF l k = b := by simp [atF, hb]
    obtain ⟨r1, r2⟩ := h2 b (List.mem_of_getElem? hb)
    have hw : IntKind.i64.wrap b = b := wrap_id (by omega) (by omega)
    try simp -dsimp (maxSteps := 1000000) only [go_sem, List.forall_mem_nil, ↓reduceIte, Nat.reduceEqDiff, Nat.reduceLT, Nat.reduceLeDiff, Nat.reduceAdd, Nat.reduceMul, reduceCtorEq, Tryz.f10, rowsB_len, h0, hI, Int.toNat_natCast, hrow, hat, hw]
  · have hI : ((k : Int) < (l.length : Int)) = False := by simp; omega
    have hat : atF l k = ((k : Int) * 37 + (l.length : Int) * 11) % 256 := by simp [atF, List.getElem?_eq_none (show l.length ≤ k by omega)]
    have w1 : IntKind.i64.wrap ((k : Int) * 37) = (k : Int) * 37 := wrap_id (by omega) (by omega)
    have w2 : IntKind.i64.wrap ((l.length : Int) * 11) = (l.length : Int) * 11 := wrap_id (by omega) (by omega)
    have w3 : IntKind.i64.wrap ((k : Int) * 37 + (l.length : Int) * 11) = (k : Int) * 37 + (l.length : Int) * 11 := wrap_id (by omega) (by omega)
    have w4 : ((k : Int) * 37 + (l.length : Int) * 11).tmod 256 = ((k : Int) * 37 + (l.length : Int) * 11) % 256 := Int.tmod_eq_emod_of_nonneg (by omega)
    have h256 : ((256 : Int) = 0) = False := by simp
    try simp -dsimp (maxSteps := 1000000) only [go_sem, List.forall_mem_nil, ↓reduceIte, Nat.reduceEqDiff, Nat.reduceLT, Nat.reduceLeDiff, Nat.reduceAdd, Nat.reduceMul, reduceCtorEq, Tryz.f10, rowsB_len, h0, hI, Int.toNat_natCast, hat, w1, w2, w3, w4, h256]
structure AEq where
  l : List Pt
  m : List Pt
  ll : l.length ≤ sm
  ml : m.length ≤ sm
end Go.SX
set_option linter.unusedVariables false
set_option linter.unusedSimpArgs false
namespace Go.SX
open Go Go.Proofs
structure ATr where
  ms : List Mod
  cs : List Cbl
  n : Int
  ml : ms.length ≤ sm
  cl : cs.length ≤ sm
  ok : ∀ m ∈ ms, OkM m
end Go.SX
set_option linter.unusedVariables false
set_option linter.unusedSimpArgs false
namespace Go.SX
open Go Go.Proofs
def dst (n : Nat) (x : Nat → Pt) : Nat → List Pt
  | 0 => List.replicate n (0, 0)
  | k + 1 => (dst n x k).set (k % n) (x k)
def g2 (d : Pt) : Pt := scaleF (addPt (0, 0) d) 1073741824
def g3 (d : Pt) : Pt := scaleF (addPt (0, 0) (g2 d)) 1056964608
end Go.SX
set_option linter.unusedVariables false
set_option linter.unusedSimpArgs false
namespace Go.SX
open Go Go.Proofs
abbrev LB := { l : List Int // ∀ b ∈ l, 0 ≤ b ∧ b < 256 }
theorem at_rng {l : List Int} (h : ∀ b ∈ l, 0 ≤ b ∧ b < 256) (i : Nat) : 0 ≤ atF l i ∧ atF l i < 256 := by
  unfold atF
  split
  · rename_i b hb
    exact h b (List.mem_of_getElem? hb)
  · omega
theorem at_mod {l : List Int} (h : ∀ b ∈ l, 0 ≤ b ∧ b < 256) (i m : Nat) (hm : 0 < m) : ∃ q : Nat, (atF l i).tmod (m : Int) = (q : Int) ∧ q < m := by
  obtain ⟨h1, _⟩ := at_rng h i
  refine ⟨((atF l i) % (m : Int)).toNat, ?_, ?_⟩
  · rw [Int.tmod_eq_emod_of_nonneg h1]
    have := Int.emod_nonneg (atF l i) (b := (m : Int)) (by omega)
    omega
  · have h2 := Int.emod_nonneg (atF l i) (b := (m : Int)) (by omega)
    have h3 := Int.emod_lt_of_pos (atF l i) (b := (m : Int)) (by omega)
    omega
noncomputable def ctLaw : Ct := fam true (fun x : LB => ([.c (.im (.sl 1 (rowsB x.1)))], [])) (fun _ => .one { val := .c (.im (.bool true)) })
theorem rowsZ_nil : rowsZ [] = [] := rfl
theorem rowsN_nil : rowsN [] = [] := rfl
theorem takeZ (k : Nat) (r : List Pt) : List.take k (tI (rowsZ r)) = tI (rowsZ (r.take k)) := by simp [tI, rowsZ, List.map_take]
end Go.SX
set_option linter.unusedVariables false
set_option linter.unusedSimpArgs false
namespace Go.SX
open Go Ieee
theorem log2_lt {m : Nat} (h : m < 16777216) : m.log2 ≤ 23 := by
  by_cases h0 : m = 0
  · subst h0; decide
  · have := (Nat.log2_lt h0 (k := 24)).2 (by omega)
    omega
def wI (n : Int) : Nat := FloatKind.f32.nearest n
end Go.SX
set_option linter.unusedVariables false
set_option linter.unusedSimpArgs false
namespace Go.SX
open Go Go.Proofs
theorem and255 (x : Int) : 0 ≤ bitsI .and .i64 x 255 ∧ bitsI .and .i64 x 255 < 256 := by
  have h : (BitVec.ofInt 64 x &&& BitVec.ofInt 64 255).toNat ≤ 255 := by
    rw [BitVec.toNat_and]
    have e2 : (BitVec.ofInt 64 255).toNat = 255 := by decide
    rw [e2]; exact Nat.and_le_right
  simp only [bitsI]
  rw [show (IntKind.i64.bits) = 64 from rfl, wrap_id (by omega) (by omega)]
  omega
def hsK (l : List Int) (a h : Int) : List (List B) := [[.t (.im (.sl 1 (rowsB l))), .t (.im (.int .i64 a)), .t (.im (.int .i64 h))]]
abbrev SK (l : List Int) := { q : Int × Int // 0 ≤ q.1 ∧ q.1 ≤ l.length }
structure AKn where
  l : List Int
  len : l.length ≤ 1048576
  by_ : ∀ b ∈ l, 0 ≤ b ∧ b < 256
  a : Int
  h : Int
  a0 : 0 ≤ a
  a1 : a ≤ l.length
theorem hsK_inj {l m : List Int} {a b h k : Int} (e : hsK l a h = hsK m b k) : l = m ∧ a = b ∧ h = k := by
  simp only [hsK, List.cons.injEq, B.t.injEq, T.im.injEq, I.sl.injEq, I.int.injEq, true_and, and_true] at e
  exact ⟨rowsB_inj e.1, e.2⟩
theorem AKn_ext {x y : AKn} (h : x.l = y.l ∧ x.a = y.a ∧ x.h = y.h) : x = y := by
  obtain ⟨l, _, _, a, h1, _, _⟩ := x
  obtain ⟨m, _, _, b, k, _, _⟩ := y
  obtain ⟨rfl, rfl, rfl⟩ := h
  rfl
theorem okK {v : D} {l : List Int} {a h : Int} {n : Nat} (hv : OkD false 0 v) : OkR false { val := v, places := hsK l a h } := by
  refine ⟨hv, by simp, fun c hc x hx => ?_⟩
  simp only [hsK, List.mem_cons, List.not_mem_nil, or_false] at hc
  subst hc
  simp only [List.mem_cons, List.not_mem_nil, or_false] at hx
  rcases hx with rfl | rfl | rfl <;> exact .t _ (.im _ (.inl rfl))
theorem okDi {i : I} : OkD false 0 (.c (.im i)) := .c _ (.im _ (.inl rfl))
abbrev QByte (l : List Int) := { q : Int × SK l // 0 ≤ q.1 ∧ q.1 < 256 }
def oByte (l : List Int) : Outs := .any (QByte l) (fun q => { val := .c (.im (.int .i64 q.1.1)), places := hsK l q.1.2.1.1 q.1.2.1.2 })
noncomputable def ct_l01Byte : Ct := fam false (fun x : AKn => ([.c (.ptr 0 0 0 0)], hsK x.l x.a x.h)) (fun x => oByte x.l)
theorem run_l01Byte {l : List Int} {a h : Int} (h1 : l.length ≤ 1048576) (h2 : ∀ b ∈ l, 0 ≤ b ∧ b < 256) (h3 : 0 ≤ a) (h4 : a ≤ l.length) : ct_l01Byte.run [.c (.ptr 0 0 0 0)] [[.t (.im (.sl 1 (rowsB l))), .t (.im (.int .i64 a)), .t (.im (.int .i64 h))]] = some (oByte l) := by
  refine fam_run' (args := fun x : AKn => ([D.c (.ptr 0 0 0 0)], hsK x.l x.a x.h)) (fun x y h => ?_) ⟨l, h1, h2, a, h, h3, h4⟩
  simp only [Prod.mk.injEq, true_and] at h
  exact AKn_ext (hsK_inj h)
theorem ne_byte (l : List Int) : Nonempty (QByte l) = True := by simp only [eq_iff_iff, iff_true]; exact ⟨⟨(0, ⟨(0, 0), by simp⟩), by simp⟩⟩
set_option maxRecDepth 100000 in
set_option maxHeartbeats 4000000 in
theorem law_l01Byte : Law Tryz.prog 103 ct_l01Byte := by
  refine fam_law Env_nil hmixA Tryz.func103 rfl rfl (fun ⟨l, h1, h2, a, h, h3, h4⟩ => ⟨okA (fun o => okK (n := 0) okDi), by simp [Tryz.f103], ?_⟩)
  simp only [oByte, hsK]
  have ha0 : (0 ≤ a) = True := eq_true h3
  obtain ⟨X1, hX1⟩ : ∃ x, IntKind.i64.wrap (h * 6364136223846793005) = x := ⟨_, rfl⟩
  obtain ⟨X2, hX2⟩ : ∃ x, IntKind.i64.wrap (X1 + 1442695040888963407) = x := ⟨_, rfl⟩
  obtain ⟨Y1, hY1⟩ : ∃ x, X2.fdiv (2 ^ min (Int.toNat 33) 64) = x := ⟨_, rfl⟩
  obtain ⟨Y2, hY2⟩ : ∃ x, X2.fdiv (2 ^ min (Int.toNat 45) 64) = x := ⟨_, rfl⟩
  obtain ⟨Z, hZ⟩ : ∃ x, bitsI .xor .i64 Y1 Y2 = x := ⟨_, rfl⟩
  obtain ⟨z1, z2⟩ := and255 Z
  by_cases hlt : a < l.length
  · have hI : (a < (l.length : Int)) = True := eq_true hlt
    obtain ⟨b, hb⟩ : ∃ b, l[a.toNat]? = some b := ⟨_, List.getElem?_eq_getElem (by omega)⟩
    have hrow := rowsB_at hb
    obtain ⟨r1, r2⟩ := h2 b (List.mem_of_getElem? hb)
    have hw : IntKind.i64.wrap b = b := wrap_id (by omega) (by omega)
    obtain ⟨V, hV⟩ : ∃ x, bitsI .and .i64 Z 255 = x := ⟨_, rfl⟩
    obtain ⟨U, hU⟩ : ∃ x, IntKind.i64.wrap (V + b) = x := ⟨_, rfl⟩
    obtain ⟨u1, u2⟩ := and255 U
    have hw1 : IntKind.i64.wrap (a + 1) = a + 1 := wrap_id (by omega) (by omega)
    try simp -dsimp (maxSteps := 1000000) only [go_sem, List.forall_mem_nil, ↓reduceIte, Nat.reduceEqDiff, Nat.reduceLT, Nat.reduceLeDiff, Nat.reduceAdd, Nat.reduceMul, reduceCtorEq, Tryz.f103, hX1, hX2, hY1, hY2, hZ, hV, hU, rowsB_len, ha0, hI, hrow, hw, hw1, Int.reduceLT, Int.reduceLE]
    repeat' (first
      | ((with_reducible refine sl_i ?_ ?_); focus kernel_rfl)
      | ((with_reducible refine ro_i ?_ ?_); focus kernel_rfl))
    exact ⟨⟨(_, ⟨(a + 1, X2), by omega⟩), u1, u2⟩, rfl, rfl⟩
  · have hI : (a < (l.length : Int)) = False := eq_false hlt
    try simp -dsimp (maxSteps := 1000000) only [go_sem, List.forall_mem_nil, ↓reduceIte, Nat.reduceEqDiff, Nat.reduceLT, Nat.reduceLeDiff, Nat.reduceAdd, Nat.reduceMul, reduceCtorEq, Tryz.f103, hX1, hX2, hY1, hY2, hZ, rowsB_len, ha0, hI, Int.reduceLT, Int.reduceLE]
    repeat' (first
      | ((with_reducible refine sl_i ?_ ?_); focus kernel_rfl)
      | ((with_reducible refine ro_i ?_ ?_); focus kernel_rfl))
    exact ⟨⟨(_, ⟨(a, X2), by omega⟩), z1, z2⟩, rfl, rfl⟩
theorem ne_int : Nonempty Int = True := by simp only [eq_iff_iff, iff_true]; exact ⟨0⟩
structure ABw where
  l : List Int
  len : l.length ≤ 1048576
  by_ : ∀ b ∈ l, 0 ≤ b ∧ b < 256
def oKNew (l : List Int) : Outs := .any Int (fun h => { val := .c (.ptr 0 0 0 0), roots := [.box [.t (.im (.sl 1 (rowsB l))), .t (.im (.int .i64 0)), .t (.im (.int .i64 h))]] })
noncomputable def ct_l01New : Ct := fam false (fun x : ABw => ([.c (.im (.sl 1 (rowsB x.l)))], [])) (fun x => oKNew x.l)
theorem ABw_ext {x y : ABw} (h : x.l = y.l) : x = y := by
  obtain ⟨l, _, _⟩ := x
  obtain ⟨m, _, _⟩ := y
  obtain rfl := h
  rfl
theorem run_l01New {l : List Int} (h1 : l.length ≤ 1048576) (h2 : ∀ b ∈ l, 0 ≤ b ∧ b < 256) : ct_l01New.run [.c (.im (.sl 1 (rowsB l)))] [] = some (oKNew l) := by
  refine fam_run' (args := fun x : ABw => ([D.c (.im (.sl 1 (rowsB x.l)))], [])) (fun x y h => ?_) ⟨l, h1, h2⟩
  simp only [Prod.mk.injEq, List.cons.injEq, D.c.injEq, C.im.injEq, I.sl.injEq, true_and, and_true] at h
  exact ABw_ext (rowsB_inj h)
theorem okKNew {l : List Int} {h : Int} : OkR false { val := .c (.ptr 0 0 0 0), roots := [.box [.t (.im (.sl 1 (rowsB l))), .t (.im (.int .i64 0)), .t (.im (.int .i64 h))]] } := by
  refine ⟨.c _ (.ptr _ _ _ _ (by simp)), fun r hr => ?_, by simp⟩
  simp only [List.mem_cons, List.not_mem_nil, or_false] at hr
  subst hr
  intro x hx
  simp only [List.mem_cons, List.not_mem_nil, or_false] at hx
  rcases hx with rfl | rfl | rfl <;> exact .t _ (.im _ (.inl rfl))
set_option maxRecDepth 100000 in
set_option maxHeartbeats 4000000 in
theorem law_l01New : Law Tryz.prog 29 ct_l01New := by
  refine fam_law Env_nil hmixA Tryz.func29 rfl rfl (fun ⟨l, h1, h2⟩ => ⟨okA (fun o => okKNew), by simp [Tryz.f29], ?_⟩)
  simp only [oKNew]
  obtain ⟨H, hH⟩ : ∃ x, IntKind.i64.wrap (3223 + (l.length : Int)) = x := ⟨_, rfl⟩
  try simp -dsimp (maxSteps := 1000000) only [go_sem, List.forall_mem_nil, ↓reduceIte, Nat.reduceEqDiff, Nat.reduceLT, Nat.reduceLeDiff, Nat.reduceAdd, Nat.reduceMul, reduceCtorEq, Tryz.f29, rowsB_len, hH]
  refine loop_i (ι := { k : Nat // k ≤ l.length } × Int) (fun x => ⟨[(0, some (.c (.im (.sl 1 (rowsB l))))), (3, some (.c (.im (.int .i64 x.2)))), (4, some (.c (.im (.int .i64 (x.1.1 : Int)))))], [], 0⟩) (fun x => l.length - x.1.1) (⟨0, by simp⟩, H) ⟨[], [], by ((simp only [go_sem, eq_self, MvRb, MvRn, MvRt, List.nodup_cons, List.nodup_nil, ↓reduceIte, Nat.reduceEqDiff, Nat.reduceLT, Nat.reduceLeDiff, reduceCtorEq, List.forall_mem_nil, Nat.zero_le, false_implies, List.mem_singleton]) <;> (try (simp -dsimp only [go_sem, eq_self, MvRb, MvRn, MvRt, List.nodup_cons, List.nodup_nil, ↓reduceIte, Nat.reduceEqDiff, Nat.reduceLT, Nat.reduceLeDiff, reduceCtorEq, List.forall_mem_nil, Nat.zero_le, false_implies, List.mem_singleton]))) <;> simp⟩ (fun ⟨⟨k, hk⟩, h⟩ => ?_)
  simp only
  by_cases hlt : k < l.length
  · have hI : ((k : Int) < (l.length : Int)) = True := eq_true (by omega)
    by_cases h4 : k < 4000
    · have h4' : ((k : Int) < 4000) = True := eq_true (by omega)
      obtain ⟨b, hb⟩ : ∃ b, l[k]? = some b := ⟨_, List.getElem?_eq_getElem (by omega)⟩
      have hrow := rowsB_at hb
      have h0 : (0 ≤ (k : Int)) = True := by simp
      have hwr : IntKind.i64.wrap ((k : Int) + 1) = (k : Int) + 1 := wrap_id (by omega) (by omega)
      obtain ⟨U, hU⟩ : ∃ x, IntKind.i64.wrap (h * 1103) = x := ⟨_, rfl⟩
      obtain ⟨U2, hU2⟩ : ∃ x, IntKind.i64.wrap (U + IntKind.i64.wrap b) = x := ⟨_, rfl⟩
      obtain ⟨U3, hU3⟩ : ∃ x, IntKind.i64.wrap (U2 + 7) = x := ⟨_, rfl⟩
      obtain ⟨U4, hU4⟩ : ∃ x, bitsI .and .i64 U3 1073741823 = x := ⟨_, rfl⟩
      try simp -dsimp (maxSteps := 1000000) only [go_sem, List.forall_mem_nil, ↓reduceIte, Nat.reduceEqDiff, Nat.reduceLT, Nat.reduceLeDiff, Nat.reduceAdd, Nat.reduceMul, reduceCtorEq, Tryz.f29, rowsB_len, hI, h4', hrow, h0, hwr, hU, hU2, hU3, hU4, Int.toNat_natCast]
      exact ⟨(⟨k + 1, by omega⟩, U4), by simp only []; omega, [], [], by ((simp only [go_sem, eq_self, MvRb, MvRn, MvRt, List.nodup_cons, List.nodup_nil, ↓reduceIte, Nat.reduceEqDiff, Nat.reduceLT, Nat.reduceLeDiff, reduceCtorEq, List.forall_mem_nil, Nat.zero_le, false_implies, List.mem_singleton]) <;> (try (simp -dsimp only [go_sem, eq_self, MvRb, MvRn, MvRt, List.nodup_cons, List.nodup_nil, ↓reduceIte, Nat.reduceEqDiff, Nat.reduceLT, Nat.reduceLeDiff, reduceCtorEq, List.forall_mem_nil, Nat.zero_le, false_implies, List.mem_singleton]))) <;> simp⟩
    · have h4' : ((k : Int) < 4000) = False := eq_false (by omega)
      try simp -dsimp (maxSteps := 1000000) only [go_sem, List.forall_mem_nil, ↓reduceIte, Nat.reduceEqDiff, Nat.reduceLT, Nat.reduceLeDiff, Nat.reduceAdd, Nat.reduceMul, reduceCtorEq, Tryz.f29, rowsB_len, hI, h4']
      exact ⟨h, [0], by simp, by simp, by simp [rtOk], rfl⟩
  · have hI : ((k : Int) < (l.length : Int)) = False := eq_false (by omega)
    try simp -dsimp (maxSteps := 1000000) only [go_sem, List.forall_mem_nil, ↓reduceIte, Nat.reduceEqDiff, Nat.reduceLT, Nat.reduceLeDiff, Nat.reduceAdd, Nat.reduceMul, reduceCtorEq, Tryz.f29, rowsB_len, hI]
    exact ⟨h, [0], by simp, by simp, by simp [rtOk], rfl⟩
abbrev QBelow (l : List Int) (n : Int) := { q : Int × SK l // 0 ≤ q.1 ∧ q.1 < n }
def oBelow (l : List Int) (n : Int) : Outs := .any (QBelow l n) (fun q => { val := .c (.im (.int .i64 q.1.1)), places := hsK l q.1.2.1.1 q.1.2.1.2 })
abbrev NB := { n : Int // 1 ≤ n ∧ n ≤ 2147483648 }
noncomputable def ct_l01Below : Ct := fam false (fun x : AKn × NB => ([.c (.ptr 0 0 0 0), .c (.im (.int .i64 x.2.1))], hsK x.1.l x.1.a x.1.h)) (fun x => oBelow x.1.l x.2.1)
theorem run_l01Below {l : List Int} {a h n : Int} (h1 : l.length ≤ 1048576) (h2 : ∀ b ∈ l, 0 ≤ b ∧ b < 256) (h3 : 0 ≤ a) (h4 : a ≤ l.length) (h5 : 1 ≤ n) (h6 : n ≤ 2147483648) : ct_l01Below.run [.c (.ptr 0 0 0 0), .c (.im (.int .i64 n))] [[.t (.im (.sl 1 (rowsB l))), .t (.im (.int .i64 a)), .t (.im (.int .i64 h))]] = some (oBelow l n) := by
  refine fam_run' (args := fun x : AKn × NB => ([D.c (.ptr 0 0 0 0), .c (.im (.int .i64 x.2.1))], hsK x.1.l x.1.a x.1.h)) (fun x y h => ?_) (⟨l, h1, h2, a, h, h3, h4⟩, ⟨n, h5, h6⟩)
  simp only [Prod.mk.injEq, List.cons.injEq, D.c.injEq, C.im.injEq, I.int.injEq, true_and, and_true] at h
  exact Prod.ext (AKn_ext (hsK_inj h.2)) (Subtype.ext h.1)
theorem ne_below (l : List Int) {n : Int} (h : 1 ≤ n) : Nonempty (QBelow l n) = True := by simp only [eq_iff_iff, iff_true]; exact ⟨⟨(0, ⟨(0, 0), by simp⟩), by simp only []; omega⟩⟩
set_option maxRecDepth 100000 in
set_option maxHeartbeats 4000000 in
theorem law_l01Below : Law Tryz.prog 58 ct_l01Below := by
  refine fam_law (Env_cons law_l01Byte Env_nil) hmixA Tryz.func58 rfl rfl (fun ⟨⟨l, h1, h2, a, h, h3, h4⟩, ⟨n, n1, n2⟩⟩ => ⟨okA (fun o => okK (n := 0) okDi), by simp [Tryz.f58], ?_⟩)
  simp only [oBelow, hsK]
  have e0 : (n ≤ 0) = False := eq_false (by omega)
  have e00 : (n = 0) = False := eq_false (by omega)
  by_cases hn : n ≤ 256
  · have e1 : (n ≤ 256) = True := eq_true hn
    try simp -dsimp (maxSteps := 1000000) only [go_sem, List.forall_mem_nil, ↓reduceIte, Nat.reduceEqDiff, Nat.reduceLT, Nat.reduceLeDiff, Nat.reduceAdd, Nat.reduceMul, reduceCtorEq, Tryz.f58, e0, e1, e00, run_l01Byte h1 h2 h3 h4, oByte, hsK, ne_byte]
    rintro ⟨⟨v, ⟨⟨a1, k1⟩, b1⟩⟩, v1, v2⟩
    try simp -dsimp (maxSteps := 1000000) only [go_sem, List.forall_mem_nil, ↓reduceIte, Nat.reduceEqDiff, Nat.reduceLT, Nat.reduceLeDiff, Nat.reduceAdd, Nat.reduceMul, reduceCtorEq, Tryz.f58, e0, e1, e00, hsK]
    exact ⟨⟨(_, ⟨(a1, k1), b1⟩), Int.tmod_nonneg _ v1, Int.tmod_lt_of_pos _ (by omega)⟩, rfl, rfl⟩
  · have e1 : (n ≤ 256) = False := eq_false hn
    try simp -dsimp (maxSteps := 1000000) only [go_sem, List.forall_mem_nil, ↓reduceIte, Nat.reduceEqDiff, Nat.reduceLT, Nat.reduceLeDiff, Nat.reduceAdd, Nat.reduceMul, reduceCtorEq, Tryz.f58, e0, e1, e00, run_l01Byte h1 h2 h3 h4, oByte, hsK, ne_byte]
    rintro ⟨⟨x, ⟨⟨a1, k1⟩, b1⟩⟩, x1, x2⟩
    try simp -dsimp (maxSteps := 1000000) only [go_sem, List.forall_mem_nil, ↓reduceIte, Nat.reduceEqDiff, Nat.reduceLT, Nat.reduceLeDiff, Nat.reduceAdd, Nat.reduceMul, reduceCtorEq, Tryz.f58, e00, run_l01Byte h1 h2 b1.1 b1.2, oByte, hsK, ne_byte]
    rintro ⟨⟨y, ⟨⟨a2, k2⟩, b2⟩⟩, y1, y2⟩
    try simp -dsimp (maxSteps := 1000000) only [go_sem, List.forall_mem_nil, ↓reduceIte, Nat.reduceEqDiff, Nat.reduceLT, Nat.reduceLeDiff, Nat.reduceAdd, Nat.reduceMul, reduceCtorEq, Tryz.f58, e00, run_l01Byte h1 h2 b2.1 b2.2, oByte, hsK, ne_byte]
    rintro ⟨⟨z, ⟨⟨a3, k3⟩, b3⟩⟩, z1, z2⟩
    try simp -dsimp (maxSteps := 1000000) only [go_sem, List.forall_mem_nil, ↓reduceIte, Nat.reduceEqDiff, Nat.reduceLT, Nat.reduceLeDiff, Nat.reduceAdd, Nat.reduceMul, reduceCtorEq, Tryz.f58, e00, run_l01Byte h1 h2 b3.1 b3.2, oByte, hsK, ne_byte]
    rintro ⟨⟨w, ⟨⟨a4, k4⟩, b4⟩⟩, w1, w2⟩
    simp only at x1 x2 y1 y2 z1 z2 w1 w2 b4
    have q1 : IntKind.i64.wrap (x * 16777216) = x * 16777216 := wrap_id (by omega) (by omega)
    have q2 : IntKind.i64.wrap (y * 65536) = y * 65536 := wrap_id (by omega) (by omega)
    have q3 : IntKind.i64.wrap (z * 256) = z * 256 := wrap_id (by omega) (by omega)
    have q4 : IntKind.i64.wrap (x * 16777216 + y * 65536) = x * 16777216 + y * 65536 := wrap_id (by omega) (by omega)
    have q5 : IntKind.i64.wrap (x * 16777216 + y * 65536 + z * 256) = x * 16777216 + y * 65536 + z * 256 := wrap_id (by omega) (by omega)
    obtain ⟨s, hs⟩ : ∃ s, IntKind.i64.wrap (x * 16777216 + y * 65536 + z * 256 + w) = s := ⟨_, rfl⟩
    have s1 : 0 ≤ s := by rw [← hs, wrap_id (by omega) (by omega)]; omega
    try simp -dsimp (maxSteps := 1000000) only [go_sem, List.forall_mem_nil, ↓reduceIte, Nat.reduceEqDiff, Nat.reduceLT, Nat.reduceLeDiff, Nat.reduceAdd, Nat.reduceMul, reduceCtorEq, Tryz.f58, e00, hsK, q1, q2, q3, q4, q5, hs]
    exact ⟨⟨(_, ⟨(a4, k4), b4⟩), Int.tmod_nonneg _ s1, Int.tmod_lt_of_pos _ (by omega)⟩, rfl, rfl⟩
abbrev QSmall (l : List Int) := { q : (Int × Int) × SK l // -3 ≤ q.1.1 ∧ q.1.1 ≤ 3 ∧ -3 ≤ q.1.2 ∧ q.1.2 ≤ 3 }
def oSmall (l : List Int) : Outs := .any (QSmall l) (fun q => { val := .c (.im (.cpx .f32 (wI q.1.1.1) (wI q.1.1.2))), places := hsK l q.1.2.1.1 q.1.2.1.2 })
noncomputable def ct_l2Small : Ct := fam false (fun x : AKn => ([.c (.ptr 0 0 0 0)], hsK x.l x.a x.h)) (fun x => oSmall x.l)
theorem run_l2Small {l : List Int} {a h : Int} (h1 : l.length ≤ 1048576) (h2 : ∀ b ∈ l, 0 ≤ b ∧ b < 256) (h3 : 0 ≤ a) (h4 : a ≤ l.length) : ct_l2Small.run [.c (.ptr 0 0 0 0)] [[.t (.im (.sl 1 (rowsB l))), .t (.im (.int .i64 a)), .t (.im (.int .i64 h))]] = some (oSmall l) := by
  refine fam_run' (args := fun x : AKn => ([D.c (.ptr 0 0 0 0)], hsK x.l x.a x.h)) (fun x y h => ?_) ⟨l, h1, h2, a, h, h3, h4⟩
  simp only [Prod.mk.injEq, true_and] at h
  exact AKn_ext (hsK_inj h)
theorem ne_small (l : List Int) : Nonempty (QSmall l) = True := by simp only [eq_iff_iff, iff_true]; exact ⟨⟨((0, 0), ⟨(0, 0), by simp⟩), by simp⟩⟩
set_option maxRecDepth 100000 in
set_option maxHeartbeats 4000000 in
theorem law_l2Small : Law Tryz.prog 62 ct_l2Small := by
  refine fam_law (Env_cons law_l01Below Env_nil) hmixA Tryz.func62 rfl rfl (fun ⟨l, h1, h2, a, h, h3, h4⟩ => ⟨okA (fun o => okK (n := 0) okDi), by simp [Tryz.f62], ?_⟩)
  simp only [oSmall, hsK]
  try simp -dsimp (maxSteps := 1000000) only [go_sem, List.forall_mem_nil, ↓reduceIte, Nat.reduceEqDiff, Nat.reduceLT, Nat.reduceLeDiff, Nat.reduceAdd, Nat.reduceMul, reduceCtorEq, Tryz.f62, run_l01Below h1 h2 h3 h4 (n := 7) (by decide) (by decide), oBelow, hsK, ne_below l (n := 7) (by decide)]
  rintro ⟨⟨u, ⟨⟨a1, k1⟩, b1⟩⟩, u1, u2⟩
  have hu : IntKind.i64.wrap (u - 3) = u - 3 := wrap_id (by simp only at u1; omega) (by simp only at u2; omega)
  try simp -dsimp (maxSteps := 1000000) only [go_sem, List.forall_mem_nil, ↓reduceIte, Nat.reduceEqDiff, Nat.reduceLT, Nat.reduceLeDiff, Nat.reduceAdd, Nat.reduceMul, reduceCtorEq, Tryz.f62, hu, run_l01Below h1 h2 b1.1 b1.2 (n := 7) (by decide) (by decide), oBelow, hsK, ne_below l (n := 7) (by decide)]
  rintro ⟨⟨v, ⟨⟨a2, k2⟩, b2⟩⟩, v1, v2⟩
  have hv : IntKind.i64.wrap (v - 3) = v - 3 := wrap_id (by simp only at v1; omega) (by simp only at v2; omega)
  try simp -dsimp (maxSteps := 1000000) only [go_sem, List.forall_mem_nil, ↓reduceIte, Nat.reduceEqDiff, Nat.reduceLT, Nat.reduceLeDiff, Nat.reduceAdd, Nat.reduceMul, reduceCtorEq, Tryz.f62, hu, hv, hsK]
  exact ⟨⟨((u - 3, v - 3), ⟨(a2, k2), b2⟩), by simp only at u1 u2 v1 v2 ⊢; omega⟩, rfl, rfl, rfl⟩
end Go.SX
set_option linter.unusedVariables false
set_option linter.unusedSimpArgs false
namespace Go.SX
open Go Go.Proofs
def oOnce (l : List Int) : Outs := .any (Bool × SK l) (fun q => { val := .c (.im (.bool q.1)), places := hsK l q.2.1.1 q.2.1.2 })
noncomputable def ct_l01Once : Ct := fam false (fun x : AKn × NB => ([.c (.ptr 0 0 0 0), .c (.im (.int .i64 x.2.1))], hsK x.1.l x.1.a x.1.h)) (fun x => oOnce x.1.l)
theorem run_l01Once {l : List Int} {a h n : Int} (h1 : l.length ≤ 1048576) (h2 : ∀ b ∈ l, 0 ≤ b ∧ b < 256) (h3 : 0 ≤ a) (h4 : a ≤ l.length) (h5 : 1 ≤ n) (h6 : n ≤ 2147483648) : ct_l01Once.run [.c (.ptr 0 0 0 0), .c (.im (.int .i64 n))] [[.t (.im (.sl 1 (rowsB l))), .t (.im (.int .i64 a)), .t (.im (.int .i64 h))]] = some (oOnce l) := by
  refine fam_run' (args := fun x : AKn × NB => ([D.c (.ptr 0 0 0 0), .c (.im (.int .i64 x.2.1))], hsK x.1.l x.1.a x.1.h)) (fun x y h => ?_) (⟨l, h1, h2, a, h, h3, h4⟩, ⟨n, h5, h6⟩)
  simp only [Prod.mk.injEq, List.cons.injEq, D.c.injEq, C.im.injEq, I.int.injEq, true_and, and_true] at h
  exact Prod.ext (AKn_ext (hsK_inj h.2)) (Subtype.ext h.1)
theorem ne_once (l : List Int) : Nonempty (Bool × SK l) = True := by simp only [eq_iff_iff, iff_true]; exact ⟨(true, ⟨(0, 0), by simp⟩)⟩
set_option maxRecDepth 100000 in
set_option maxHeartbeats 4000000 in
theorem law_l01Once : Law Tryz.prog 87 ct_l01Once := by
  refine fam_law (Env_cons law_l01Below Env_nil) hmixA Tryz.func87 rfl rfl (fun ⟨⟨l, h1, h2, a, h, h3, h4⟩, ⟨n, n1, n2⟩⟩ => ⟨okA (fun o => okK (n := 0) okDi), by simp [Tryz.f87], ?_⟩)
  simp only [oOnce, hsK]
  try simp -dsimp (maxSteps := 1000000) only [go_sem, List.forall_mem_nil, ↓reduceIte, Nat.reduceEqDiff, Nat.reduceLT, Nat.reduceLeDiff, Nat.reduceAdd, Nat.reduceMul, reduceCtorEq, Tryz.f87, run_l01Below h1 h2 h3 h4 n1 n2, oBelow, hsK, ne_below l n1]
  rintro ⟨⟨v, ⟨⟨a1, k1⟩, b1⟩⟩, v1, v2⟩
  try simp -dsimp (maxSteps := 1000000) only [go_sem, List.forall_mem_nil, ↓reduceIte, Nat.reduceEqDiff, Nat.reduceLT, Nat.reduceLeDiff, Nat.reduceAdd, Nat.reduceMul, reduceCtorEq, Tryz.f87, hsK]
  all_goals exact ⟨(_, ⟨(a1, k1), b1⟩), rfl, rfl⟩
def oInt (l m : List Int) : Outs := .any ({ x : Int // x ∈ m } × SK l) (fun q => { val := .c (.im (.int .i64 q.1.1)), places := hsK l q.2.1.1 q.2.1.2 })
abbrev LN := { l : List Int // 1 ≤ l.length ∧ l.length ≤ 1000 }
noncomputable def ct_l01Int : Ct := fam false (fun x : AKn × LN => ([.c (.ptr 0 0 0 0), .c (.im (.sl 1 (rowsN x.2.1)))], hsK x.1.l x.1.a x.1.h)) (fun x => oInt x.1.l x.2.1)
theorem run_l01Int {l : List Int} {a h : Int} {m : List Int} (h1 : l.length ≤ 1048576) (h2 : ∀ b ∈ l, 0 ≤ b ∧ b < 256) (h3 : 0 ≤ a) (h4 : a ≤ l.length) (h5 : 1 ≤ m.length) (h6 : m.length ≤ 1000) : ct_l01Int.run [.c (.ptr 0 0 0 0), .c (.im (.sl 1 (rowsN m)))] [[.t (.im (.sl 1 (rowsB l))), .t (.im (.int .i64 a)), .t (.im (.int .i64 h))]] = some (oInt l m) := by
  refine fam_run' (args := fun x : AKn × LN => ([D.c (.ptr 0 0 0 0), .c (.im (.sl 1 (rowsN x.2.1)))], hsK x.1.l x.1.a x.1.h)) (fun x y h => ?_) (⟨l, h1, h2, a, h, h3, h4⟩, ⟨m, h5, h6⟩)
  simp only [Prod.mk.injEq, List.cons.injEq, D.c.injEq, C.im.injEq, I.sl.injEq, true_and, and_true] at h
  exact Prod.ext (AKn_ext (hsK_inj h.2)) (Subtype.ext (rowsN_inj h.1))
theorem sc_l01Int : (ct_l01Int.sc = true) = False := by simp [ct_l01Int, fam]
theorem ne_oint (l : List Int) {m : List Int} (h : 1 ≤ m.length) : Nonempty ({ x : Int // x ∈ m } × SK l) = True := by
  simp only [eq_iff_iff, iff_true]
  obtain ⟨x, hx⟩ := List.exists_mem_of_length_pos (show 0 < m.length by omega)
  exact ⟨(⟨x, hx⟩, ⟨(0, 0), by simp⟩)⟩
set_option maxRecDepth 100000 in
set_option maxHeartbeats 4000000 in
theorem law_l01Int : Law Tryz.prog 107 ct_l01Int := by
  refine fam_law (Env_cons law_l01Below Env_nil) hmixA Tryz.func107 rfl rfl (fun ⟨⟨l, h1, h2, a, h, h3, h4⟩, ⟨m, n1, n2⟩⟩ => ⟨okA (fun o => okK (n := 0) okDi), by simp [Tryz.f107], ?_⟩)
  simp only [oInt, hsK]
  try simp -dsimp (maxSteps := 1000000) only [go_sem, List.forall_mem_nil, ↓reduceIte, Nat.reduceEqDiff, Nat.reduceLT, Nat.reduceLeDiff, Nat.reduceAdd, Nat.reduceMul, reduceCtorEq, Tryz.f107, rowsN_len, run_l01Below h1 h2 h3 h4 (n := (m.length : Int)) (by omega) (by omega), oBelow, hsK, ne_below l (n := (m.length : Int)) (by omega)]
  rintro ⟨⟨v, ⟨⟨a1, k1⟩, b1⟩⟩, v1, v2⟩
  obtain ⟨V, rfl⟩ := Int.eq_ofNat_of_zero_le v1
  simp only at v2
  have hV : V < m.length := by omega
  obtain ⟨x, hx⟩ : ∃ x, m[V]? = some x := ⟨_, List.getElem?_eq_getElem hV⟩
  have hrow := rowsN_at hx
  have q1 : (0 ≤ (V : Int)) = True := by simp
  have q2 : ((V : Int) < (m.length : Int)) = True := eq_true (by omega)
  try simp -dsimp (maxSteps := 1000000) only [go_sem, List.forall_mem_nil, ↓reduceIte, Nat.reduceEqDiff, Nat.reduceLT, Nat.reduceLeDiff, Nat.reduceAdd, Nat.reduceMul, reduceCtorEq, Tryz.f107, rowsN_len, hrow, q1, q2, hsK, Int.toNat_natCast]
  exact ⟨(⟨x, List.mem_of_getElem? hx⟩, ⟨(a1, k1), b1⟩), rfl, rfl⟩
def oNat (l : List Int) : Outs := .any (Nat × SK l) (fun q => { val := .c (.im (.flt .f32 q.1)), places := hsK l q.2.1.1 q.2.1.2 })
theorem ne_onat (l : List Int) : Nonempty (Nat × SK l) = True := by simp only [eq_iff_iff, iff_true]; exact ⟨(0, ⟨(0, 0), by simp⟩)⟩
noncomputable def ctNat : Ct := fam false (fun x : AKn => ([.c (.ptr 0 0 0 0)], hsK x.l x.a x.h)) (fun x => oNat x.l)
theorem runNat {l : List Int} {a h : Int} (h1 : l.length ≤ 1048576) (h2 : ∀ b ∈ l, 0 ≤ b ∧ b < 256) (h3 : 0 ≤ a) (h4 : a ≤ l.length) : ctNat.run [.c (.ptr 0 0 0 0)] [[.t (.im (.sl 1 (rowsB l))), .t (.im (.int .i64 a)), .t (.im (.int .i64 h))]] = some (oNat l) := by
  refine fam_run' (args := fun x : AKn => ([D.c (.ptr 0 0 0 0)], hsK x.l x.a x.h)) (fun x y h => ?_) ⟨l, h1, h2, a, h, h3, h4⟩
  simp only [Prod.mk.injEq, true_and] at h
  exact AKn_ext (hsK_inj h)
set_option maxRecDepth 100000 in
set_option maxHeartbeats 4000000 in
theorem law_l1Odd : Law Tryz.prog 105 ctNat := by
  refine fam_law (Env_cons law_l01Below Env_nil) hmixA Tryz.func105 rfl rfl (fun ⟨l, h1, h2, a, h, h3, h4⟩ => ⟨okA (fun o => okK (n := 0) okDi), by simp [Tryz.f105], ?_⟩)
  simp only [oNat, hsK]
  try simp -dsimp (maxSteps := 1000000) only [go_sem, List.forall_mem_nil, ↓reduceIte, Nat.reduceEqDiff, Nat.reduceLT, Nat.reduceLeDiff, Nat.reduceAdd, Nat.reduceMul, reduceCtorEq, Tryz.f105, run_l01Below h1 h2 h3 h4 (n := 12) (by decide) (by decide), oBelow, hsK, ne_below l (n := 12) (by decide)]
  rintro ⟨⟨v, ⟨⟨a1, k1⟩, b1⟩⟩, v1, v2⟩
  try simp -dsimp (maxSteps := 1000000) only [go_sem, List.forall_mem_nil, ↓reduceIte, Nat.reduceEqDiff, Nat.reduceLT, Nat.reduceLeDiff, Nat.reduceAdd, Nat.reduceMul, reduceCtorEq, Tryz.f105, hsK]
  repeat' ((first | (with_reducible refine gS_d ?_ ?_) | (with_reducible refine gS_dn ?_ ?_) | (with_reducible refine gS_i ?_ ?_)) <;> intro hg <;> (try simp -dsimp (maxSteps := 1000000) only [go_sem, List.forall_mem_nil, ↓reduceIte, Nat.reduceEqDiff, Nat.reduceLT, Nat.reduceLeDiff, Nat.reduceAdd, Nat.reduceMul, reduceCtorEq, Tryz.f105, hsK, *]))
  all_goals exact ⟨(_, ⟨(a1, k1), b1⟩), rfl, rfl⟩
set_option maxRecDepth 100000 in
set_option maxHeartbeats 4000000 in
theorem law_l1Some : Law Tryz.prog 108 ctNat := by
  refine fam_law (Env_cons law_l01Below Env_nil) hmixA Tryz.func108 rfl rfl (fun ⟨l, h1, h2, a, h, h3, h4⟩ => ⟨okA (fun o => okK (n := 0) okDi), by simp [Tryz.f108], ?_⟩)
  simp only [oNat, hsK]
  try simp -dsimp (maxSteps := 1000000) only [go_sem, List.forall_mem_nil, ↓reduceIte, Nat.reduceEqDiff, Nat.reduceLT, Nat.reduceLeDiff, Nat.reduceAdd, Nat.reduceMul, reduceCtorEq, Tryz.f108, run_l01Below h1 h2 h3 h4 (n := 3) (by decide) (by decide), oBelow, hsK, ne_below l (n := 3) (by decide)]
  rintro ⟨⟨v, ⟨⟨a1, k1⟩, b1⟩⟩, v1, v2⟩
  by_cases e0 : v = 0
  · have e0' := eq_true e0
    try simp -dsimp (maxSteps := 1000000) only [go_sem, List.forall_mem_nil, ↓reduceIte, Nat.reduceEqDiff, Nat.reduceLT, Nat.reduceLeDiff, Nat.reduceAdd, Nat.reduceMul, reduceCtorEq, Tryz.f108, e0', run_l01Below h1 h2 b1.1 b1.2 (n := 65) (by decide) (by decide), oBelow, hsK, ne_below l (n := 65) (by decide)]
    rintro ⟨⟨u, ⟨⟨a2, k2⟩, b2⟩⟩, u1, u2⟩
    try simp -dsimp (maxSteps := 1000000) only [go_sem, List.forall_mem_nil, ↓reduceIte, Nat.reduceEqDiff, Nat.reduceLT, Nat.reduceLeDiff, Nat.reduceAdd, Nat.reduceMul, reduceCtorEq, Tryz.f108, hsK]
    exact ⟨(_, ⟨(a2, k2), b2⟩), rfl, rfl⟩
  have e0' := eq_false e0
  by_cases e1 : v = 1
  · have e1' := eq_true e1
    try simp -dsimp (maxSteps := 1000000) only [go_sem, List.forall_mem_nil, ↓reduceIte, Nat.reduceEqDiff, Nat.reduceLT, Nat.reduceLeDiff, Nat.reduceAdd, Nat.reduceMul, reduceCtorEq, Tryz.f108, e0', e1', run_l01Below h1 h2 b1.1 b1.2 (n := 2000001) (by decide) (by decide), oBelow, hsK, ne_below l (n := 2000001) (by decide)]
    rintro ⟨⟨u, ⟨⟨a2, k2⟩, b2⟩⟩, u1, u2⟩
    try simp -dsimp (maxSteps := 1000000) only [go_sem, List.forall_mem_nil, ↓reduceIte, Nat.reduceEqDiff, Nat.reduceLT, Nat.reduceLeDiff, Nat.reduceAdd, Nat.reduceMul, reduceCtorEq, Tryz.f108, hsK]
    exact ⟨(_, ⟨(a2, k2), b2⟩), rfl, rfl⟩
  have e1' := eq_false e1
  try simp -dsimp (maxSteps := 1000000) only [go_sem, List.forall_mem_nil, ↓reduceIte, Nat.reduceEqDiff, Nat.reduceLT, Nat.reduceLeDiff, Nat.reduceAdd, Nat.reduceMul, reduceCtorEq, Tryz.f108, e0', e1', run_l01Below h1 h2 b1.1 b1.2 (n := 9) (by decide) (by decide), oBelow, hsK, ne_below l (n := 9) (by decide)]
  rintro ⟨⟨u, ⟨⟨a2, k2⟩, b2⟩⟩, u1, u2⟩
  try simp -dsimp (maxSteps := 1000000) only [go_sem, List.forall_mem_nil, ↓reduceIte, Nat.reduceEqDiff, Nat.reduceLT, Nat.reduceLeDiff, Nat.reduceAdd, Nat.reduceMul, reduceCtorEq, Tryz.f108, hsK]
  exact ⟨(_, ⟨(a2, k2), b2⟩), rfl, rfl⟩
end Go.SX
set_option linter.unusedVariables false
set_option linter.unusedSimpArgs false
namespace Go.SX
open Go Go.Proofs
abbrev N100' := { n : Nat // n ≤ 100 }
theorem MvR_Z (l : List Pt) : MvR false (.arr 1 (tI (rowsZ l))) = True := eq_true (sc_false _ _)
abbrev QFresh := { l : List Int // l.length ≤ 601 ∧ ∀ b ∈ l, 0 ≤ b ∧ b < 256 }
def oFresh : Outs := .any QFresh (fun q => rNew 1 (rowsB q.1))
abbrev ABs := ABw × { s : Int // 0 ≤ s ∧ s ≤ 1000 }
noncomputable def ct_fresh : Ct := fam true (fun x : ABs => ([.c (.im (.sl 1 (rowsB x.1.l))), .c (.im (.int .i64 x.2.1))], [])) (fun _ => oFresh)
theorem run_fresh {l : List Int} (h1 : l.length ≤ 1048576) (h2 : ∀ b ∈ l, 0 ≤ b ∧ b < 256) {s : Int} (h3 : 0 ≤ s) (h4 : s ≤ 1000) : ct_fresh.run [.c (.im (.sl 1 (rowsB l))), .c (.im (.int .i64 s))] [] = some oFresh := by
  refine fam_run' (args := fun x : ABs => ([D.c (.im (.sl 1 (rowsB x.1.l))), .c (.im (.int .i64 x.2.1))], [])) (fun x y h => ?_) (⟨l, h1, h2⟩, ⟨s, h3, h4⟩)
  simp only [Prod.mk.injEq, List.cons.injEq, D.c.injEq, C.im.injEq, I.sl.injEq, I.int.injEq, true_and, and_true] at h
  exact Prod.ext (ABw_ext (rowsB_inj h.1)) (Subtype.ext h.2)
theorem ne_fresh : Nonempty QFresh = True := by simp only [eq_iff_iff, iff_true]; exact ⟨⟨[], by simp⟩⟩
theorem sc_rowsB (l : List Int) : ∀ r ∈ rowsB l, ∀ i ∈ r, scI i = true := by
  intro r hr i hi
  simp only [rowsB, List.mem_map] at hr
  obtain ⟨p, _, rfl⟩ := hr
  simp at hi; subst hi; rfl
theorem MvR_B (l : List Int) : MvR false (.arr 1 (tI (rowsB l))) = True := eq_true (sc_false _ _)
theorem tIB_app (l : List Int) (x : Int) : tI (rowsB l) ++ [[T.im (.int .u8 x)]] = tI (rowsB (l ++ [x])) := by simp [tI, rowsB]
theorem u8_rng (x : Int) : 0 ≤ IntKind.u8.wrap x ∧ IntKind.u8.wrap x < 256 := by
  show 0 ≤ x % 256 ∧ x % 256 < 256
  omega
set_option maxRecDepth 100000 in
set_option maxHeartbeats 4000000 in
theorem law_fresh : Law Tryz.prog 8 ct_fresh := by
  refine fam_law Env_nil hmixA Tryz.func8 rfl rfl (fun ⟨⟨l, h1, h2⟩, ⟨s, s1, s2⟩⟩ => ⟨okA (fun o => okR_new (sc_rowsB _)), by simp [Tryz.f8], ?_⟩)
  simp only [oFresh, rNew]
  obtain ⟨e, he⟩ : ∃ e, IntKind.u8.wrap s = e := ⟨_, rfl⟩
  have her := u8_rng s
  rw [he] at her
  try simp -dsimp (maxSteps := 1000000) only [go_sem, List.forall_mem_nil, ↓reduceIte, Nat.reduceEqDiff, Nat.reduceLT, Nat.reduceLeDiff, Nat.reduceAdd, Nat.reduceMul, reduceCtorEq, Tryz.f8, he]
  refine loop_i (ι := { x : List Int × Nat // x.1.length = x.2 + 1 ∧ x.2 ≤ 600 ∧ x.2 ≤ l.length ∧ ∀ b ∈ x.1, 0 ≤ b ∧ b < 256 }) (fun x => ⟨[(0, some (.c (.im (.sl 1 (rowsB l))))), (1, some (.c (.im (.int .i64 s)))), (5, some (.c (.view 0 1 0 x.1.1.length))), (6, some (.c (.im (.int .i64 (x.1.2 : Int)))))],
    [(0, some (.arr 1 (tI (rowsB x.1.1))))], 1⟩) (fun x => l.length - x.1.2) ⟨([e], 0), by simp; exact her⟩ ⟨[], [0], by ((simp only [go_sem, eq_self, MvRb, MvRn, MvRt, List.nodup_cons, List.nodup_nil, ↓reduceIte, Nat.reduceEqDiff, Nat.reduceLT, Nat.reduceLeDiff, reduceCtorEq, List.forall_mem_nil, Nat.zero_le, false_implies, List.mem_singleton, MvR_B]) <;> (try (simp -dsimp only [go_sem, eq_self, MvRb, MvRn, MvRt, List.nodup_cons, List.nodup_nil, ↓reduceIte, Nat.reduceEqDiff, Nat.reduceLT, Nat.reduceLeDiff, reduceCtorEq, List.forall_mem_nil, Nat.zero_le, false_implies, List.mem_singleton, MvR_B]))) <;> simp [lk, rowsB, tI]⟩ (fun ⟨⟨out, k⟩, hz, hk6, hkl, hin⟩ => ?_)
  simp only at hz hk6 hkl hin ⊢
  by_cases hlt : k < l.length
  rotate_left
  · have hI : ((k : Int) < (l.length : Int)) = False := eq_false (by omega)
    try simp -dsimp (maxSteps := 1000000) only [go_sem, List.forall_mem_nil, ↓reduceIte, Nat.reduceEqDiff, Nat.reduceLT, Nat.reduceLeDiff, Nat.reduceAdd, Nat.reduceMul, reduceCtorEq, Tryz.f8, rowsB_len, hI]
    exact ⟨⟨out, by omega, hin⟩, [0], by simp, by simp, by simp [rtOk], rfl⟩
  have hI : ((k : Int) < (l.length : Int)) = True := eq_true (by omega)
  by_cases h6 : k < 600
  rotate_left
  · have hJ : ((k : Int) < 600) = False := eq_false (by omega)
    try simp -dsimp (maxSteps := 1000000) only [go_sem, List.forall_mem_nil, ↓reduceIte, Nat.reduceEqDiff, Nat.reduceLT, Nat.reduceLeDiff, Nat.reduceAdd, Nat.reduceMul, reduceCtorEq, Tryz.f8, rowsB_len, hI, hJ]
    exact ⟨⟨out, by omega, hin⟩, [0], by simp, by simp, by simp [rtOk], rfl⟩
  have hJ : ((k : Int) < 600) = True := eq_true (by omega)
  obtain ⟨b, hb⟩ : ∃ b, l[k]? = some b := ⟨_, List.getElem?_eq_getElem (by omega)⟩
  have hrow := rowsB_at hb
  have h0 : (0 ≤ (k : Int)) = True := by simp
  have h7 : ((7 : Int) = 0) = False := by simp
  have hwr : IntKind.i64.wrap ((k : Int) + 1) = (k : Int) + 1 := wrap_id (by omega) (by omega)
  obtain ⟨U1, hU1⟩ : ∃ x, IntKind.i64.wrap (IntKind.i64.wrap b * 3) = x := ⟨_, rfl⟩
  obtain ⟨U2, hU2⟩ : ∃ x, IntKind.i64.wrap ((k : Int).tmod 7 + 1) = x := ⟨_, rfl⟩
  obtain ⟨U3, hU3⟩ : ∃ x, IntKind.i64.wrap (s * U2) = x := ⟨_, rfl⟩
  obtain ⟨U4, hU4⟩ : ∃ x, IntKind.i64.wrap (U1 + U3) = x := ⟨_, rfl⟩
  obtain ⟨U5, hU5⟩ : ∃ x, IntKind.u8.wrap U4 = x := ⟨_, rfl⟩
  have hur := u8_rng U4
  rw [hU5] at hur
  have hby : ((out.length + 1) * 1 ≤ 140737488355328) = True := bytes_sm (by have : sm = 16777216 := rfl; omega) (by decide)
  try simp -dsimp (maxSteps := 1000000) only [go_sem, List.forall_mem_nil, ↓reduceIte, Nat.reduceEqDiff, Nat.reduceLT, Nat.reduceLeDiff, Nat.reduceAdd, Nat.reduceMul, reduceCtorEq, Tryz.f8, rowsB_len, hI, hJ, hrow, h0, h7, hwr, hU1, hU2, hU3, hU4, hU5, hby, tIB_app, tI_len, appendH, srcRows, List.take_succ_cons, List.take_zero, List.all_cons, List.all_nil, okT, Bool.and_true, List.length_append, Int.toNat_natCast]
  refine ⟨⟨(out ++ [U5], k + 1), by simp; omega, by simp only []; omega, by simp only []; omega, fun p hp => ?_⟩, by simp only []; omega, [], [2], by ((simp only [go_sem, eq_self, MvRb, MvRn, MvRt, List.nodup_cons, List.nodup_nil, ↓reduceIte, Nat.reduceEqDiff, Nat.reduceLT, Nat.reduceLeDiff, reduceCtorEq, List.forall_mem_nil, Nat.zero_le, false_implies, List.mem_singleton, MvR_B]) <;> (try (simp -dsimp only [go_sem, eq_self, MvRb, MvRn, MvRt, List.nodup_cons, List.nodup_nil, ↓reduceIte, Nat.reduceEqDiff, Nat.reduceLT, Nat.reduceLeDiff, reduceCtorEq, List.forall_mem_nil, Nat.zero_le, false_implies, List.mem_singleton, MvR_B]))) <;> simp [lk]⟩
  rcases List.mem_append.1 hp with hp | hp
  · exact hin p hp
  · simp at hp; subst hp; exact hur
end Go.SX
set_option linter.unusedVariables false
set_option linter.unusedSimpArgs false
namespace Go.SX
open Go Go.Proofs
noncomputable def ct_l1In : Ct := fam true (fun x : Int × Int × Int => ([.c (.im (.int .i64 x.1)), .c (.im (.int .i64 x.2.1)), .c (.im (.int .i64 x.2.2))], [])) (fun x => .one { val := .c (.im (.bool (decide (x.2.1 ≤ x.1) && decide (x.1 ≤ x.2.2)))) })
theorem run_l1In (k a b : Int) : ct_l1In.run [.c (.im (.int .i64 k)), .c (.im (.int .i64 a)), .c (.im (.int .i64 b))] [] = some (.one { val := .c (.im (.bool (decide (a ≤ k) && decide (k ≤ b)))) }) := fam_run' (args := fun x : Int × Int × Int => ([D.c (.im (.int .i64 x.1)), .c (.im (.int .i64 x.2.1)), .c (.im (.int .i64 x.2.2))], [])) (by
    intro a b h
    simp only [Prod.mk.injEq, List.cons.injEq, D.c.injEq, D.agg.injEq, C.im.injEq, I.cpx.injEq, I.flt.injEq, I.int.injEq, I.sl.injEq, I.bool.injEq, I.str.injEq, Int.natCast_inj, true_and, and_true] at h
    (try simp only [Prod.ext_iff, Subtype.ext_iff])
    (try simp only [rowsZ_eq, rowsN_eq] at h)
    simp_all) (k, a, b)
set_option maxRecDepth 100000 in
theorem law_l1In : Law Tryz.prog 81 ct_l1In := by
  refine fam_law Env_nil hmixA Tryz.func81 rfl rfl (fun ⟨k, a, b⟩ => ⟨okO_im rfl, by simp [Tryz.f81], ?_⟩)
  simp only
  by_cases h1 : a ≤ k
  · have h1' := eq_true h1
    by_cases h2 : k ≤ b
    · have h2' := eq_true h2
      clear h1 h2
      try simp -dsimp (maxSteps := 1000000) only [go_sem, List.forall_mem_nil, ↓reduceIte, Nat.reduceEqDiff, Nat.reduceLT, Nat.reduceLeDiff, Nat.reduceAdd, Nat.reduceMul, reduceCtorEq, Tryz.f81, h1', h2', Bool.and_true]
    · have h2' := eq_false h2
      clear h1 h2
      try simp -dsimp (maxSteps := 1000000) only [go_sem, List.forall_mem_nil, ↓reduceIte, Nat.reduceEqDiff, Nat.reduceLT, Nat.reduceLeDiff, Nat.reduceAdd, Nat.reduceMul, reduceCtorEq, Tryz.f81, h1', h2', Bool.and_false]
  · have h1' := eq_false h1
    clear h1
    try simp -dsimp (maxSteps := 1000000) only [go_sem, List.forall_mem_nil, ↓reduceIte, Nat.reduceEqDiff, Nat.reduceLT, Nat.reduceLeDiff, Nat.reduceAdd, Nat.reduceMul, reduceCtorEq, Tryz.f81, h1', Bool.false_and]
abbrev KR := { k : Int // -4294967296 ≤ k ∧ k ≤ 4294967296 }
def rFS (q : Nat × Bool) : Res := { val := .tup [.c (.im (.flt .f32 q.1)), .c (.im (.bool q.2))] }
def oFS : Outs := .any (Nat × Bool) (fun q => rFS q)
theorem okR_FS {sc : Bool} {q : Nat × Bool} : OkR sc (rFS q) := by
  refine ⟨.tup _ (fun d hd => ?_), by simp [rFS], by simp [rFS]⟩
  simp only [rFS, List.mem_cons, List.not_mem_nil, or_false] at hd
  rcases hd with rfl | rfl <;> exact .inl ⟨_, rfl, okC_sc rfl⟩
noncomputable def ct_FromSteps : Ct := fam true (fun x : KR => ([.c (.im (.int .i64 x.1))], [])) (fun _ => oFS)
theorem run_FromSteps {k : Int} (h1 : -4294967296 ≤ k) (h2 : k ≤ 4294967296) : ct_FromSteps.run [.c (.im (.int .i64 k))] [] = some oFS := fam_run' (args := fun x : KR => ([D.c (.im (.int .i64 x.1))], [])) (by
    intro a b h
    simp only [Prod.mk.injEq, List.cons.injEq, D.c.injEq, D.agg.injEq, C.im.injEq, I.cpx.injEq, I.flt.injEq, I.int.injEq, I.sl.injEq, I.bool.injEq, I.str.injEq, Int.natCast_inj, true_and, and_true] at h
    (try simp only [Prod.ext_iff, Subtype.ext_iff])
    (try simp only [rowsZ_eq, rowsN_eq] at h)
    simp_all) (⟨k, h1, h2⟩ : KR)
theorem ne_FS : Nonempty (Nat × Bool) = True := by simp only [eq_iff_iff, iff_true]; exact ⟨(0, true)⟩
set_option maxRecDepth 100000 in
set_option maxHeartbeats 4000000 in
theorem law_FromSteps : Law Tryz.prog 106 ct_FromSteps := by
  refine fam_law (Env_cons law_l1In Env_nil) hmixA Tryz.func106 rfl rfl (fun ⟨k, n1, n2⟩ => ⟨okA (fun o => okR_FS), by simp [Tryz.f106], ?_⟩)
  simp only [oFS, rFS]
  by_cases hin : -2139095039 ≤ k ∧ k ≤ 2139095039
  rotate_left
  · have hb : (decide (-2139095039 ≤ k) && decide (k ≤ 2139095039)) = false := by simpa using fun h => by omega
    try simp -dsimp (maxSteps := 1000000) only [go_sem, List.forall_mem_nil, ↓reduceIte, Nat.reduceEqDiff, Nat.reduceLT, Nat.reduceLeDiff, Nat.reduceAdd, Nat.reduceMul, reduceCtorEq, Tryz.f106, run_l1In, hb]
    all_goals exact ⟨(_, _), rfl, rfl⟩
  have hb : (decide (-2139095039 ≤ k) && decide (k ≤ 2139095039)) = true := by simpa using hin
  obtain ⟨m, hm⟩ : ∃ m, (if IntKind.i64.wrap (-k) > k then IntKind.i64.wrap (-k) else k) = m := ⟨_, rfl⟩
  have hmr : m ≤ 4294967296 ∧ 0 ≤ m := by rw [← hm, wrap_id (by omega) (by omega)]; split <;> omega
  try simp -dsimp (maxSteps := 1000000) only [go_sem, List.forall_mem_nil, ↓reduceIte, Nat.reduceEqDiff, Nat.reduceLT, Nat.reduceLeDiff, Nat.reduceAdd, Nat.reduceMul, reduceCtorEq, Tryz.f106, run_l1In, hb, hm]
  refine loop_i (ι := { x : Int × Int // 0 ≤ x.1 ∧ 0 ≤ x.2 ∧ x.2 * 8388608 + x.1 ≤ 4294967296 }) (fun x => ⟨[(0, some (.c (.im (.int .i64 k)))), (4, some (.c (.im (.int .i64 x.1.1)))), (5, some (.c (.im (.int .i64 x.1.2))))], [], 0⟩) (fun x => x.1.1.toNat) ⟨(m, 0), by simp only []; omega⟩ ⟨[], [], by ((simp only [go_sem, eq_self, MvRb, MvRn, MvRt, List.nodup_cons, List.nodup_nil, ↓reduceIte, Nat.reduceEqDiff, Nat.reduceLT, Nat.reduceLeDiff, reduceCtorEq, List.forall_mem_nil, Nat.zero_le, false_implies, List.mem_singleton, hm]) <;> (try (simp -dsimp only [go_sem, eq_self, MvRb, MvRn, MvRt, List.nodup_cons, List.nodup_nil, ↓reduceIte, Nat.reduceEqDiff, Nat.reduceLT, Nat.reduceLeDiff, reduceCtorEq, List.forall_mem_nil, Nat.zero_le, false_implies, List.mem_singleton, hm]))) <;> simp <;> exact hm⟩ (fun ⟨⟨n, e⟩, q1, q2, q3⟩ => ?_)
  simp only at q1 q2 q3 ⊢
  by_cases hn : 16777216 ≤ n
  · have hn' := eq_true hn
    have w1 : IntKind.i64.wrap (n - 8388608) = n - 8388608 := wrap_id (by omega) (by omega)
    have w2 : IntKind.i64.wrap (e + 1) = e + 1 := wrap_id (by omega) (by omega)
    try simp -dsimp (maxSteps := 1000000) only [go_sem, List.forall_mem_nil, ↓reduceIte, Nat.reduceEqDiff, Nat.reduceLT, Nat.reduceLeDiff, Nat.reduceAdd, Nat.reduceMul, reduceCtorEq, Tryz.f106, hn', w1, w2]
    exact ⟨⟨(n - 8388608, e + 1), by simp only []; omega⟩, by simp only []; omega, [], [], by (simp only [go_sem, eq_self, MvRb, MvRn, MvRt, List.nodup_cons, List.nodup_nil, ↓reduceIte, Nat.reduceEqDiff, Nat.reduceLT, Nat.reduceLeDiff, reduceCtorEq, List.forall_mem_nil, Nat.zero_le, false_implies, List.mem_singleton]) <;> simp⟩
  have hn' := eq_false hn
  obtain ⟨y0, hy0⟩ : ∃ y, FloatKind.f64.nearest n = y := ⟨_, rfl⟩
  try simp -dsimp (maxSteps := 1000000) only [go_sem, List.forall_mem_nil, ↓reduceIte, Nat.reduceEqDiff, Nat.reduceLT, Nat.reduceLeDiff, Nat.reduceAdd, Nat.reduceMul, reduceCtorEq, Tryz.f106, hn', hy0]
  refine loop_i (ι := Nat × { i : Nat // i ≤ 149 }) (fun x => ⟨[(0, some (.c (.im (.int .i64 k)))), (5, some (.c (.im (.int .i64 e)))), (6, some (.c (.im (.flt .f64 x.1)))), (7, some (.c (.im (.int .i64 (x.2.1 : Int)))))], [], 0⟩) (fun x => 149 - x.2.1) (y0, ⟨0, by omega⟩) ⟨[], [], by ((simp only [go_sem, eq_self, MvRb, MvRn, MvRt, List.nodup_cons, List.nodup_nil, ↓reduceIte, Nat.reduceEqDiff, Nat.reduceLT, Nat.reduceLeDiff, reduceCtorEq, List.forall_mem_nil, Nat.zero_le, false_implies, List.mem_singleton]) <;> (try (simp -dsimp only [go_sem, eq_self, MvRb, MvRn, MvRt, List.nodup_cons, List.nodup_nil, ↓reduceIte, Nat.reduceEqDiff, Nat.reduceLT, Nat.reduceLeDiff, reduceCtorEq, List.forall_mem_nil, Nat.zero_le, false_implies, List.mem_singleton]))) <;> simp⟩ (fun ⟨y, ⟨i, hi⟩⟩ => ?_)
  simp only
  by_cases hi' : i < 149
  · have hI : ((i : Int) < 149) = True := eq_true (by omega)
    have w1 : IntKind.i64.wrap ((i : Int) + 1) = (i : Int) + 1 := wrap_id (by omega) (by omega)
    try simp -dsimp (maxSteps := 1000000) only [go_sem, List.forall_mem_nil, ↓reduceIte, Nat.reduceEqDiff, Nat.reduceLT, Nat.reduceLeDiff, Nat.reduceAdd, Nat.reduceMul, reduceCtorEq, Tryz.f106, hI, w1]
    exact ⟨(fop .quo .f64 y 4611686018427387904, ⟨i + 1, by omega⟩), by simp only []; omega, [], [], by ((simp only [go_sem, eq_self, MvRb, MvRn, MvRt, List.nodup_cons, List.nodup_nil, ↓reduceIte, Nat.reduceEqDiff, Nat.reduceLT, Nat.reduceLeDiff, reduceCtorEq, List.forall_mem_nil, Nat.zero_le, false_implies, List.mem_singleton]) <;> (try (simp -dsimp only [go_sem, eq_self, MvRb, MvRn, MvRt, List.nodup_cons, List.nodup_nil, ↓reduceIte, Nat.reduceEqDiff, Nat.reduceLT, Nat.reduceLeDiff, reduceCtorEq, List.forall_mem_nil, Nat.zero_le, false_implies, List.mem_singleton]))) <;> simp⟩
  have hI : ((i : Int) < 149) = False := eq_false (by omega)
  try simp -dsimp (maxSteps := 1000000) only [go_sem, List.forall_mem_nil, ↓reduceIte, Nat.reduceEqDiff, Nat.reduceLT, Nat.reduceLeDiff, Nat.reduceAdd, Nat.reduceMul, reduceCtorEq, Tryz.f106, hI]
  refine loop_i (ι := Nat × { e : Int // 0 ≤ e ∧ e ≤ 4294967296 }) (fun x => ⟨[(0, some (.c (.im (.int .i64 k)))), (5, some (.c (.im (.int .i64 x.2.1)))), (6, some (.c (.im (.flt .f64 x.1))))], [], 0⟩) (fun x => x.2.1.toNat) (y, ⟨e, by omega⟩) ⟨[], [], by (simp only [go_sem, eq_self, MvRb, MvRn, MvRt, List.nodup_cons, List.nodup_nil, ↓reduceIte, Nat.reduceEqDiff, Nat.reduceLT, Nat.reduceLeDiff, reduceCtorEq, List.forall_mem_nil, Nat.zero_le, false_implies, List.mem_singleton]) <;> simp⟩ (fun ⟨z, ⟨f, f1, f2⟩⟩ => ?_)
  simp only
  by_cases hf : 0 < f
  · have hF := eq_true hf
    have w1 : IntKind.i64.wrap (f - 1) = f - 1 := wrap_id (by omega) (by omega)
    try simp -dsimp (maxSteps := 1000000) only [go_sem, List.forall_mem_nil, ↓reduceIte, Nat.reduceEqDiff, Nat.reduceLT, Nat.reduceLeDiff, Nat.reduceAdd, Nat.reduceMul, reduceCtorEq, Tryz.f106, hF, w1]
    exact ⟨(fop .mul .f64 z 4611686018427387904, ⟨f - 1, by omega⟩), by simp only []; omega, [], [], by (simp only [go_sem, eq_self, MvRb, MvRn, MvRt, List.nodup_cons, List.nodup_nil, ↓reduceIte, Nat.reduceEqDiff, Nat.reduceLT, Nat.reduceLeDiff, reduceCtorEq, List.forall_mem_nil, Nat.zero_le, false_implies, List.mem_singleton]) <;> simp⟩
  have hF := eq_false hf
  by_cases hk0 : k < 0
  · have hk' := eq_true hk0
    try simp -dsimp (maxSteps := 1000000) only [go_sem, List.forall_mem_nil, ↓reduceIte, Nat.reduceEqDiff, Nat.reduceLT, Nat.reduceLeDiff, Nat.reduceAdd, Nat.reduceMul, reduceCtorEq, Tryz.f106, hF, hk', cK_narrow]
    intro o
    exact ⟨(_, _), rfl, rfl⟩
  · have hk' := eq_false hk0
    try simp -dsimp (maxSteps := 1000000) only [go_sem, List.forall_mem_nil, ↓reduceIte, Nat.reduceEqDiff, Nat.reduceLT, Nat.reduceLeDiff, Nat.reduceAdd, Nat.reduceMul, reduceCtorEq, Tryz.f106, hF, hk', cK_narrow]
    intro o
    exact ⟨(_, _), rfl, rfl⟩
def pick5 : List Int := [0, 8388608, -8388608, 1065353216, 2139095019]
theorem pick5_rng {x : Int} (h : x ∈ pick5) : -8388608 ≤ x ∧ x ≤ 2139095019 := by
  simp only [pick5, List.mem_cons, List.not_mem_nil, or_false] at h
  omega
set_option maxRecDepth 100000 in
set_option maxHeartbeats 4000000 in
theorem law_l1Any : Law Tryz.prog 65 ctNat := by
  refine fam_law (Env_cons law_l01Once (Env_cons law_l1Odd (Env_cons law_l01Below (Env_cons law_l01Int (Env_cons law_FromSteps (Env_cons law_l1Some Env_nil)))))) hmixA Tryz.func65 rfl rfl (fun ⟨l, h1, h2, a, h, h3, h4⟩ => ⟨okA (fun o => okK (n := 0) okDi), by simp [Tryz.f65], ?_⟩)
  simp only [oNat, hsK]
  try simp -dsimp (maxSteps := 1000000) only [go_sem, List.forall_mem_nil, ↓reduceIte, Nat.reduceEqDiff, Nat.reduceLT, Nat.reduceLeDiff, Nat.reduceAdd, Nat.reduceMul, reduceCtorEq, Tryz.f65, run_l01Once h1 h2 h3 h4 (n := 8) (by decide) (by decide), oOnce, hsK, ne_once]
  rintro ⟨c1, ⟨⟨a1, k1⟩, b1⟩⟩
  cases c1 with
  | true =>
    try simp -dsimp (maxSteps := 1000000) only [go_sem, List.forall_mem_nil, ↓reduceIte, Nat.reduceEqDiff, Nat.reduceLT, Nat.reduceLeDiff, Nat.reduceAdd, Nat.reduceMul, reduceCtorEq, Tryz.f65, runNat h1 h2 b1.1 b1.2, oNat, hsK, ne_onat]
    rintro ⟨x, ⟨⟨a2, k2⟩, b2⟩⟩
    try simp -dsimp (maxSteps := 1000000) only [go_sem, List.forall_mem_nil, ↓reduceIte, Nat.reduceEqDiff, Nat.reduceLT, Nat.reduceLeDiff, Nat.reduceAdd, Nat.reduceMul, reduceCtorEq, Tryz.f65, hsK]
    exact ⟨(_, ⟨(a2, k2), b2⟩), rfl, rfl⟩
  | false =>
    try simp -dsimp (maxSteps := 1000000) only [go_sem, List.forall_mem_nil, ↓reduceIte, Nat.reduceEqDiff, Nat.reduceLT, Nat.reduceLeDiff, Nat.reduceAdd, Nat.reduceMul, reduceCtorEq, Tryz.f65, run_l01Once h1 h2 b1.1 b1.2 (n := 6) (by decide) (by decide), oOnce, hsK, ne_once]
    rintro ⟨c2, ⟨⟨a2, k2⟩, b2⟩⟩
    cases c2 with
    | false =>
      try simp -dsimp (maxSteps := 1000000) only [go_sem, List.forall_mem_nil, ↓reduceIte, Nat.reduceEqDiff, Nat.reduceLT, Nat.reduceLeDiff, Nat.reduceAdd, Nat.reduceMul, reduceCtorEq, Tryz.f65, runNat h1 h2 b2.1 b2.2, oNat, hsK, ne_onat]
      rintro ⟨x, ⟨⟨a3, k3⟩, b3⟩⟩
      try simp -dsimp (maxSteps := 1000000) only [go_sem, List.forall_mem_nil, ↓reduceIte, Nat.reduceEqDiff, Nat.reduceLT, Nat.reduceLeDiff, Nat.reduceAdd, Nat.reduceMul, reduceCtorEq, Tryz.f65, hsK]
      exact ⟨(_, ⟨(a3, k3), b3⟩), rfl, rfl⟩
    | true =>
      try simp -dsimp (maxSteps := 1000000) only [go_sem, List.forall_mem_nil, ↓reduceIte, Nat.reduceEqDiff, Nat.reduceLT, Nat.reduceLeDiff, Nat.reduceAdd, Nat.reduceMul, reduceCtorEq, Tryz.f65, run_l01Below h1 h2 b2.1 b2.2 (n := 40) (by decide) (by decide), oBelow, hsK, ne_below l (n := 40) (by decide)]
      rintro ⟨⟨v, ⟨⟨a3, k3⟩, b3⟩⟩, v1, v2⟩
      simp only at v1 v2
      have w1 : IntKind.i64.wrap (v - 20) = v - 20 := wrap_id (by omega) (by omega)
      have ri : ct_l01Int.run [.c (.ptr 0 0 0 0), .c (.im (.sl 1 [[.int .i64 0], [.int .i64 8388608], [.int .i64 (-8388608)], [.int .i64 1065353216], [.int .i64 2139095019]]))] [[.t (.im (.sl 1 (rowsB l))), .t (.im (.int .i64 a3)), .t (.im (.int .i64 k3))]] = some (oInt l pick5) := run_l01Int (m := pick5) h1 h2 b3.1 b3.2 (by decide) (by decide)
      try simp -dsimp (maxSteps := 1000000) only [go_sem, List.forall_mem_nil, ↓reduceIte, Nat.reduceEqDiff, Nat.reduceLT, Nat.reduceLeDiff, Nat.reduceAdd, Nat.reduceMul, reduceCtorEq, Tryz.f65, w1, ri, sc_l01Int, oInt, hsK, ne_oint l (m := pick5) (by decide)]
      rintro ⟨⟨u, hu⟩, ⟨⟨a4, k4⟩, b4⟩⟩
      have hur := pick5_rng hu
      have w2 : IntKind.i64.wrap (v - 20 + u) = v - 20 + u := wrap_id (by omega) (by omega)
      try simp -dsimp (maxSteps := 1000000) only [go_sem, List.forall_mem_nil, ↓reduceIte, Nat.reduceEqDiff, Nat.reduceLT, Nat.reduceLeDiff, Nat.reduceAdd, Nat.reduceMul, reduceCtorEq, Tryz.f65, w1, w2, run_FromSteps (k := v - 20 + u) (by omega) (by omega), oFS, rFS, hsK, ne_FS]
      rintro ⟨x, ok⟩
      try simp -dsimp (maxSteps := 1000000) only [go_sem, List.forall_mem_nil, ↓reduceIte, Nat.reduceEqDiff, Nat.reduceLT, Nat.reduceLeDiff, Nat.reduceAdd, Nat.reduceMul, reduceCtorEq, Tryz.f65, rFS, hsK]
      exact ⟨(_, ⟨(a4, k4), b4⟩), rfl, rfl⟩
def oPt (l : List Int) : Outs := .any (Pt × SK l) (fun q => { val := .c (.im (.cpx .f32 q.1.1 q.1.2)), places := hsK l q.2.1.1 q.2.1.2 })
theorem ne_opt (l : List Int) : Nonempty (Pt × SK l) = True := by simp only [eq_iff_iff, iff_true]; exact ⟨((0, 0), ⟨(0, 0), by simp⟩)⟩
noncomputable def ct_l2Any : Ct := fam false (fun x : AKn => ([.c (.ptr 0 0 0 0)], hsK x.l x.a x.h)) (fun x => oPt x.l)
theorem run_l2Any {l : List Int} {a h : Int} (h1 : l.length ≤ 1048576) (h2 : ∀ b ∈ l, 0 ≤ b ∧ b < 256) (h3 : 0 ≤ a) (h4 : a ≤ l.length) : ct_l2Any.run [.c (.ptr 0 0 0 0)] [[.t (.im (.sl 1 (rowsB l))), .t (.im (.int .i64 a)), .t (.im (.int .i64 h))]] = some (oPt l) := by
  refine fam_run' (args := fun x : AKn => ([D.c (.ptr 0 0 0 0)], hsK x.l x.a x.h)) (fun x y h => ?_) ⟨l, h1, h2, a, h, h3, h4⟩
  simp only [Prod.mk.injEq, true_and] at h
  exact AKn_ext (hsK_inj h)
set_option maxRecDepth 100000 in
set_option maxHeartbeats 4000000 in
theorem law_l2Any : Law Tryz.prog 88 ct_l2Any := by
  refine fam_law (Env_cons law_l1Any Env_nil) hmixA Tryz.func88 rfl rfl (fun ⟨l, h1, h2, a, h, h3, h4⟩ => ⟨okA (fun o => okK (n := 0) okDi), by simp [Tryz.f88], ?_⟩)
  simp only [oPt, hsK]
  try simp -dsimp (maxSteps := 1000000) only [go_sem, List.forall_mem_nil, ↓reduceIte, Nat.reduceEqDiff, Nat.reduceLT, Nat.reduceLeDiff, Nat.reduceAdd, Nat.reduceMul, reduceCtorEq, Tryz.f88, runNat h1 h2 h3 h4, oNat, hsK, ne_onat]
  rintro ⟨x, ⟨⟨a1, k1⟩, b1⟩⟩
  try simp -dsimp (maxSteps := 1000000) only [go_sem, List.forall_mem_nil, ↓reduceIte, Nat.reduceEqDiff, Nat.reduceLT, Nat.reduceLeDiff, Nat.reduceAdd, Nat.reduceMul, reduceCtorEq, Tryz.f88, runNat h1 h2 b1.1 b1.2, oNat, hsK, ne_onat]
  rintro ⟨y, ⟨⟨a2, k2⟩, b2⟩⟩
  try simp -dsimp (maxSteps := 1000000) only [go_sem, List.forall_mem_nil, ↓reduceIte, Nat.reduceEqDiff, Nat.reduceLT, Nat.reduceLeDiff, Nat.reduceAdd, Nat.reduceMul, reduceCtorEq, Tryz.f88, hsK]
  exact ⟨((x, y), ⟨(a2, k2), b2⟩), rfl, rfl, rfl⟩
abbrev QList (n : Nat) := { zs : List Pt // zs.length ≤ n }
theorem ne_qlist (n : Nat) : Nonempty (QList n) = True := by simp only [eq_iff_iff, iff_true]; exact ⟨⟨[], by simp⟩⟩
def oSam (l : List Int) (n : Nat) : Outs := .any (QList n × SK l) (fun q => { val := .c (.view 0 1 0 q.1.1.length), roots := [.arr 1 (tI (rowsZ q.1.1))], places := hsK l q.2.1.1 q.2.1.2 })
theorem ne_osam (l : List Int) (n : Nat) : Nonempty (QList n × SK l) = True := by simp only [eq_iff_iff, iff_true]; exact ⟨(⟨[], by simp⟩, ⟨(0, 0), by simp⟩)⟩
noncomputable def ct_l4Samples : Ct := fam false (fun x : AKn × N100' => ([.c (.ptr 0 0 0 0), .c (.im (.int .i64 (x.2.1 : Int)))], hsK x.1.l x.1.a x.1.h)) (fun x => oSam x.1.l x.2.1)
theorem run_l4Samples {l : List Int} {a h : Int} {n : Nat} (h1 : l.length ≤ 1048576) (h2 : ∀ b ∈ l, 0 ≤ b ∧ b < 256) (h3 : 0 ≤ a) (h4 : a ≤ l.length) (h5 : n ≤ 100) : ct_l4Samples.run [.c (.ptr 0 0 0 0), .c (.im (.int .i64 (n : Int)))] [[.t (.im (.sl 1 (rowsB l))), .t (.im (.int .i64 a)), .t (.im (.int .i64 h))]] = some (oSam l n) := by
  refine fam_run' (args := fun x : AKn × N100' => ([D.c (.ptr 0 0 0 0), .c (.im (.int .i64 (x.2.1 : Int)))], hsK x.1.l x.1.a x.1.h)) (fun x y h => ?_) (⟨l, h1, h2, a, h, h3, h4⟩, ⟨n, h5⟩)
  simp only [Prod.mk.injEq, List.cons.injEq, D.c.injEq, C.im.injEq, I.int.injEq, true_and, and_true] at h
  exact Prod.ext (AKn_ext (hsK_inj h.2)) (Subtype.ext (by omega))
theorem okSam {l : List Int} {n : Nat} {q : QList n × SK l} : OkR false { val := .c (.view 0 1 0 q.1.1.length), roots := [.arr 1 (tI (rowsZ q.1.1))], places := hsK l q.2.1.1 q.2.1.2 } := by
  refine ⟨.c _ (.view _ _ _ _ (by simp)), fun r hr => ?_, (okK (n := 0) (v := .c (.im (.bool true))) okDi).places⟩
  simp only [List.mem_cons, List.not_mem_nil, or_false] at hr
  subst hr
  exact sc_false _ _
set_option maxRecDepth 100000 in
set_option maxHeartbeats 4000000 in
theorem law_l4Samples : Law Tryz.prog 42 ct_l4Samples := by
  refine fam_law (Env_cons law_l01Below (Env_cons law_l2Small (Env_cons law_l01Once (Env_cons law_l2Any Env_nil)))) hmixA Tryz.func42 rfl rfl (fun ⟨⟨l, h1, h2, a, h, h3, h4⟩, ⟨n, h5⟩⟩ => ⟨okA (fun o => okSam), by simp [Tryz.f42], ?_⟩)
  simp only [oSam, hsK]
  have hn : IntKind.i64.wrap ((n : Int) + 1) = (n : Int) + 1 := wrap_id (by omega) (by omega)
  try simp -dsimp (maxSteps := 1000000) only [go_sem, List.forall_mem_nil, ↓reduceIte, Nat.reduceEqDiff, Nat.reduceLT, Nat.reduceLeDiff, Nat.reduceAdd, Nat.reduceMul, reduceCtorEq, Tryz.f42, hn, run_l01Below h1 h2 h3 h4 (n := (n : Int) + 1) (by omega) (by omega), oBelow, hsK, ne_below l (n := (n : Int) + 1) (by omega)]
  rintro ⟨⟨k0, ⟨⟨a0, g0⟩, b0⟩⟩, k1, k2⟩
  obtain ⟨K, rfl⟩ := Int.eq_ofNat_of_zero_le k1
  try simp -dsimp (maxSteps := 1000000) only [go_sem, List.forall_mem_nil, ↓reduceIte, Nat.reduceEqDiff, Nat.reduceLT, Nat.reduceLeDiff, Nat.reduceAdd, Nat.reduceMul, reduceCtorEq, Tryz.f42, hn, hsK]
  refine loop_i (ι := { x : (List Pt × SK l) × Nat // x.1.1.length + x.2 ≤ n }) (fun x => ⟨[(0, some (.c (.ptr 0 0 0 0))), (5, some (.c (.view 1 1 0 x.1.1.1.length))), (6, some (.c (.im (.int .i64 (x.1.2 : Int)))))],
    [(0, some (.box [.t (.im (.sl 1 (rowsB l))), .t (.im (.int .i64 x.1.1.2.1.1)), .t (.im (.int .i64 x.1.1.2.1.2))])), (1, some (.arr 1 (tI (rowsZ x.1.1.1))))], 2⟩) (fun x => x.1.2) ⟨(([], ⟨(a0, g0), b0⟩), K), by simp at k2 ⊢; omega⟩ ⟨[], [0, 1], by ((simp only [go_sem, eq_self, MvRb, MvRn, MvRt, List.nodup_cons, List.nodup_nil, ↓reduceIte, Nat.reduceEqDiff, Nat.reduceLT, Nat.reduceLeDiff, reduceCtorEq, List.forall_mem_nil, Nat.zero_le, false_implies, List.mem_singleton, MvR_Z]) <;> (try (simp -dsimp only [go_sem, eq_self, MvRb, MvRn, MvRt, List.nodup_cons, List.nodup_nil, ↓reduceIte, Nat.reduceEqDiff, Nat.reduceLT, Nat.reduceLeDiff, reduceCtorEq, List.forall_mem_nil, Nat.zero_le, false_implies, List.mem_singleton, MvR_Z]))) <;> simp [lk, rowsZ, tI]⟩ (fun ⟨⟨⟨zs, ⟨⟨a, g⟩, b⟩⟩, k⟩, hz⟩ => ?_)
  simp only at hz b ⊢
  match k with
  | 0 =>
    have c0 : ((0 : Nat) : Int) = 0 := rfl
    have d0 : ((0 : Int) < 0) = False := by simp
    try simp -dsimp (maxSteps := 1000000) only [go_sem, List.forall_mem_nil, ↓reduceIte, Nat.reduceEqDiff, Nat.reduceLT, Nat.reduceLeDiff, Nat.reduceAdd, Nat.reduceMul, reduceCtorEq, Tryz.f42, c0, d0, rowsZ_len]
    exact ⟨(⟨zs, by omega⟩, ⟨(a, g), b⟩), rfl, [1], by simp, by simp, by simp [rtOk], rfl⟩
  | k + 1 =>
    have d0 : ((0 : Int) < ((k + 1 : Nat) : Int)) = True := eq_true (by omega)
    have hk : IntKind.i64.wrap (((k + 1 : Nat) : Int) - 1) = (k : Int) := by rw [wrap_id (by omega) (by omega)]; omega
    have hby : ((zs.length + 1) * 8 ≤ 140737488355328) = True := bytes_sm (by have : sm = 16777216 := rfl; omega) (by decide)
    try simp -dsimp (maxSteps := 1000000) only [go_sem, List.forall_mem_nil, ↓reduceIte, Nat.reduceEqDiff, Nat.reduceLT, Nat.reduceLeDiff, Nat.reduceAdd, Nat.reduceMul, reduceCtorEq, Tryz.f42, d0, hk, run_l2Small h1 h2 b.1 b.2, oSmall, hsK, ne_small]
    rintro ⟨⟨⟨u, v⟩, ⟨⟨a2, g2⟩, b2⟩⟩, u1, u2, v1, v2⟩
    obtain ⟨U, hU⟩ : ∃ x, wI u = x := ⟨_, rfl⟩
    obtain ⟨V, hV⟩ : ∃ x, wI v = x := ⟨_, rfl⟩
    try simp -dsimp (maxSteps := 1000000) only [go_sem, List.forall_mem_nil, ↓reduceIte, Nat.reduceEqDiff, Nat.reduceLT, Nat.reduceLeDiff, Nat.reduceAdd, Nat.reduceMul, reduceCtorEq, Tryz.f42, d0, hk, hU, hV, hsK, run_l01Once h1 h2 b2.1 b2.2 (n := 15) (by decide) (by decide), oOnce, ne_once]
    rintro ⟨c, ⟨⟨a3, g3⟩, b3⟩⟩
    cases c with
    | false =>
      try simp -dsimp (maxSteps := 1000000) only [go_sem, List.forall_mem_nil, ↓reduceIte, Nat.reduceEqDiff, Nat.reduceLT, Nat.reduceLeDiff, Nat.reduceAdd, Nat.reduceMul, reduceCtorEq, Tryz.f42, d0, hk, hsK, hby, tIZ_app, tI_len, rowsZ_len, appendH, srcRows, List.take_succ_cons, List.take_zero, List.all_cons, List.all_nil, okT, Bool.and_true, List.length_append]
      exact ⟨⟨((zs ++ [(U, V)], ⟨(a3, g3), b3⟩), k), by simp; omega⟩, by simp, [], [0, 3], by ((simp only [go_sem, eq_self, MvRb, MvRn, MvRt, List.nodup_cons, List.nodup_nil, ↓reduceIte, Nat.reduceEqDiff, Nat.reduceLT, Nat.reduceLeDiff, reduceCtorEq, List.forall_mem_nil, Nat.zero_le, false_implies, List.mem_singleton, MvR_Z]) <;> (try (simp -dsimp only [go_sem, eq_self, MvRb, MvRn, MvRt, List.nodup_cons, List.nodup_nil, ↓reduceIte, Nat.reduceEqDiff, Nat.reduceLT, Nat.reduceLeDiff, reduceCtorEq, List.forall_mem_nil, Nat.zero_le, false_implies, List.mem_singleton, MvR_Z]))) <;> simp [lk]⟩
    | true =>
      try simp -dsimp (maxSteps := 1000000) only [go_sem, List.forall_mem_nil, ↓reduceIte, Nat.reduceEqDiff, Nat.reduceLT, Nat.reduceLeDiff, Nat.reduceAdd, Nat.reduceMul, reduceCtorEq, Tryz.f42, d0, hk, hsK, run_l2Any h1 h2 b3.1 b3.2, oPt, ne_opt]
      rintro ⟨⟨U2, V2⟩, ⟨⟨a4, g4⟩, b4⟩⟩
      try simp -dsimp (maxSteps := 1000000) only [go_sem, List.forall_mem_nil, ↓reduceIte, Nat.reduceEqDiff, Nat.reduceLT, Nat.reduceLeDiff, Nat.reduceAdd, Nat.reduceMul, reduceCtorEq, Tryz.f42, d0, hk, hsK, hby, tIZ_app, tI_len, rowsZ_len, appendH, srcRows, List.take_succ_cons, List.take_zero, List.all_cons, List.all_nil, okT, Bool.and_true, List.length_append]
      exact ⟨⟨((zs ++ [(U2, V2)], ⟨(a4, g4), b4⟩), k), by simp; omega⟩, by simp, [], [0, 3], by ((simp only [go_sem, eq_self, MvRb, MvRn, MvRt, List.nodup_cons, List.nodup_nil, ↓reduceIte, Nat.reduceEqDiff, Nat.reduceLT, Nat.reduceLeDiff, reduceCtorEq, List.forall_mem_nil, Nat.zero_le, false_implies, List.mem_singleton, MvR_Z]) <;> (try (simp -dsimp only [go_sem, eq_self, MvRb, MvRn, MvRt, List.nodup_cons, List.nodup_nil, ↓reduceIte, Nat.reduceEqDiff, Nat.reduceLT, Nat.reduceLeDiff, reduceCtorEq, List.forall_mem_nil, Nat.zero_le, false_implies, List.mem_singleton, MvR_Z]))) <;> simp [lk]⟩
def oSams (n : Nat) : Outs := .any (QList n) (fun q => rNew 1 (rowsZ q.1))
noncomputable def ct_MakeSamples : Ct := fam true (fun x : ABw × N100' => ([.c (.im (.sl 1 (rowsB x.1.l))), .c (.im (.int .i64 (x.2.1 : Int)))], [])) (fun x => oSams x.2.1)
theorem run_MakeSamples {l : List Int} (h1 : l.length ≤ 1048576) (h2 : ∀ b ∈ l, 0 ≤ b ∧ b < 256) {n : Nat} (h3 : n ≤ 100) : ct_MakeSamples.run [.c (.im (.sl 1 (rowsB l))), .c (.im (.int .i64 (n : Int)))] [] = some (oSams n) := by
  refine fam_run' (args := fun x : ABw × N100' => ([D.c (.im (.sl 1 (rowsB x.1.l))), .c (.im (.int .i64 (x.2.1 : Int)))], [])) (fun x y h => ?_) (⟨l, h1, h2⟩, ⟨n, h3⟩)
  simp only [Prod.mk.injEq, List.cons.injEq, D.c.injEq, C.im.injEq, I.sl.injEq, I.int.injEq, true_and, and_true] at h
  exact Prod.ext (ABw_ext (rowsB_inj h.1)) (Subtype.ext (by omega))
set_option maxRecDepth 100000 in
set_option maxHeartbeats 4000000 in
theorem law_MakeSamples : Law Tryz.prog 18 ct_MakeSamples := by
  refine fam_law (Env_cons law_l01New (Env_cons law_l4Samples Env_nil)) hmixA Tryz.func18 rfl rfl (fun ⟨⟨l, h1, h2⟩, ⟨n, h3⟩⟩ => ⟨okA (fun o => okR_new (sc_rowsZ _)), by simp [Tryz.f18], ?_⟩)
  simp only [oSams, rNew]
  have hm1 : (100 < (n : Int)) = False := eq_false (by omega)
  have hm2 : (if (n : Int) > 0 then (n : Int) else 0) = (n : Int) := by split <;> omega
  try simp -dsimp (maxSteps := 1000000) only [go_sem, List.forall_mem_nil, ↓reduceIte, Nat.reduceEqDiff, Nat.reduceLT, Nat.reduceLeDiff, Nat.reduceAdd, Nat.reduceMul, reduceCtorEq, Tryz.f18, hm1, hm2, run_l01New h1 h2, oKNew, ne_int]
  intro h
  try simp -dsimp (maxSteps := 1000000) only [go_sem, List.forall_mem_nil, ↓reduceIte, Nat.reduceEqDiff, Nat.reduceLT, Nat.reduceLeDiff, Nat.reduceAdd, Nat.reduceMul, reduceCtorEq, Tryz.f18, hm1, hm2, run_l4Samples h1 h2 (a := 0) (h := h) (n := n) (by omega) (by omega) h3, oSam, hsK, ne_osam, rowsZ_len]
  rintro ⟨⟨zs, hz⟩, ⟨⟨a1, g1⟩, b1⟩⟩
  try simp -dsimp (maxSteps := 1000000) only [go_sem, List.forall_mem_nil, ↓reduceIte, Nat.reduceEqDiff, Nat.reduceLT, Nat.reduceLeDiff, Nat.reduceAdd, Nat.reduceMul, reduceCtorEq, Tryz.f18, hm1, hm2, hsK, rowsZ_len]
  exact ⟨⟨zs, hz⟩, [1], by simp, by simp, by simp [rtOk], rfl⟩
end Go.SX
