/-
  NewRing, checked, NewDelay, NewHold.
  No condition.
-/
import Derived.Test.YtbhnlplbfhomcaaRkY
set_option linter.unusedVariables false
set_option linter.unusedSimpArgs false
namespace Go.SX
open Go Go.Proofs

abbrev N16 := { n : Nat // 1 ≤ n ∧ n ≤ 16 }
def rNewRing (n : Nat) : Res := { val := .tup [.agg [.view 0 1 0 n, .im (.int .i64 0), .im (.int .i64 0)], .c (.im (.bool true))], roots := [.arr 1 (tI (rowsZ (List.replicate n (0, 0))))] }
theorem okR_ring {sc : Bool} {n : Nat} : OkR sc (rNewRing n) := by
  refine ⟨.tup _ (fun d hd => ?_), fun r hr => ?_, by simp [rNewRing]⟩
  · simp only [rNewRing, List.mem_cons, List.not_mem_nil, or_false] at hd
    rcases hd with rfl | rfl
    · exact .inr ⟨_, rfl, fun x hx => by
        simp only [List.mem_cons, List.not_mem_nil, or_false] at hx
        rcases hx with rfl | rfl | rfl <;> first | exact okC_sc rfl | exact .view _ _ _ _ (by simp [rNewRing])⟩
    · exact .inl ⟨_, rfl, okC_sc rfl⟩
  · simp only [rNewRing, List.mem_cons, List.not_mem_nil, or_false] at hr
    subst hr
    exact mvR_tI (sc_rowsZ _)
noncomputable def ct_NewRing : Ct := fam true (fun x : N16 => ([.c (.im (.int .i64 (x.1 : Int)))], [])) (fun x => .one (rNewRing x.1))
theorem run_NewRing {n : Nat} (h1 : 1 ≤ n) (h2 : n ≤ 16) : ct_NewRing.run [.c (.im (.int .i64 (n : Int)))] [] = some (.one (rNewRing n)) := fam_run' (args := fun x : N16 => ([D.c (.im (.int .i64 (x.1 : Int)))], [])) (by
    intro a b h
    simp only [Prod.mk.injEq, List.cons.injEq, D.c.injEq, D.agg.injEq, C.im.injEq, I.cpx.injEq, I.flt.injEq, I.int.injEq, I.sl.injEq, I.bool.injEq, I.str.injEq, Int.natCast_inj, true_and, and_true] at h
    (try simp only [Prod.ext_iff, Subtype.ext_iff])
    (try simp only [rowsZ_eq, rowsN_eq] at h)
    simp_all) (⟨n, h1, h2⟩ : N16)
set_option maxRecDepth 100000 in
theorem law_NewRing : Law Try.prog 40 ct_NewRing := by
  refine fam_law Env_nil hmixA Try.func40 rfl rfl (fun ⟨n, h1, h2⟩ => ⟨okO okR_ring, by simp [Try.f40], ?_⟩)
  simp only [rNewRing]
  have e1 : ((n : Int) < 1) = False := eq_false (by omega)
  have e2 : ((16 : Int) < (n : Int)) = False := eq_false (by omega)
  have hk1 : (0 ≤ (n : Int)) = True := eq_true (by omega)
  have hk2 : ((n : Int) ≤ 9223372036854775807) = True := eq_true (by omega)
  have hk3 : (((8 : Nat) : Int) * (n : Int) ≤ 281474976710656) = True := eq_true (by omega)
  try simp -dsimp (maxSteps := 1000000) only [go_sem, List.forall_mem_nil, ↓reduceIte, Nat.reduceEqDiff, Nat.reduceLT, Nat.reduceLeDiff, Nat.reduceAdd, Nat.reduceMul, reduceCtorEq, Try.f40, e1, e2, rep_Z, hk1, hk2, hk3, Int.toNat_natCast, List.length_replicate, rowsZ_len]
  repeat' (first
    | ((with_reducible refine sl_i ?_ ?_); focus kernel_rfl)
    | ((with_reducible refine ro_i ?_ ?_); focus kernel_rfl)
    | ((with_reducible refine sl_e ?_); kernel_rfl)
    | ((with_reducible refine ro_e ?_); kernel_rfl)
    | ((first | (with_reducible refine gS_d ?_ ?_) | (with_reducible refine gS_dn ?_ ?_) | (with_reducible refine gS_i ?_ ?_)) <;> intro hg <;> (try simp -dsimp (maxSteps := 1000000) only [go_sem, List.forall_mem_nil, ↓reduceIte, Nat.reduceEqDiff, Nat.reduceLT, Nat.reduceLeDiff, Nat.reduceAdd, Nat.reduceMul, reduceCtorEq, Try.f40, e1, e2, rep_Z, hk1, hk2, hk3, Int.toNat_natCast, List.length_replicate, rowsZ_len, *])))
  refine ⟨[_], ?_, ?_, ?_, rfl⟩ <;> simp [rtOk]

/-- A module as the constructors hand it to 'checked': without points and labels; its store is a slice, or nil. -/
structure ACk where
  m : Mod
  b : Bool
  ok : OkM m
  p : m.pts = []
  l : m.lab = []
  s : b = false → m.store = []
  v : isModuleF m = true
def ckC (m : Mod) (b : Bool) : List C := [.im (.int .i64 m.kind), .im (.cpx .f32 m.turn.1 m.turn.2), .im (.cpx .f32 m.state.1 m.state.2), .im (.flt .f32 m.level), if b = true then .im (.sl 1 (rowsZ m.store)) else .nil, .im (.int .i64 m.rat), .im (.int .i64 m.rcnt), .nil, .nil, .im (.int .i64 m.count), .im (.int .i64 m.left)]
def rCk (m : Mod) : Res := { val := .tup [.agg [.im (.int .i64 m.kind), .im (.cpx .f32 m.turn.1 m.turn.2), .im (.cpx .f32 m.state.1 m.state.2), .im (.flt .f32 m.level), .view 0 1 0 m.store.length, .im (.int .i64 m.rat), .im (.int .i64 m.rcnt), .view 1 1 0 m.pts.length, .view 2 1 0 m.lab.length, .im (.int .i64 m.count), .im (.int .i64 m.left)], .c (.im (.bool true))], roots := [.arr 1 (tI (rowsZ m.store)), .arr 1 (tI (rowsZ m.pts)), .arr 1 (tI (rowsN m.lab))] }
theorem okR_ck {sc : Bool} {m : Mod} : OkR sc (rCk m) := by
  refine ⟨.tup _ (fun d hd => ?_), fun r hr => ?_, by simp [rCk]⟩
  · simp only [rCk, List.mem_cons, List.not_mem_nil, or_false] at hd
    rcases hd with rfl | rfl
    · exact .inr ⟨_, rfl, fun x hx => by
        simp only [List.mem_cons, List.not_mem_nil, or_false] at hx
        rcases hx with rfl | rfl | rfl | rfl | rfl | rfl | rfl | rfl | rfl | rfl | rfl <;> first | exact okC_sc rfl | exact .view _ _ _ _ (by simp [rCk])⟩
    · exact .inl ⟨_, rfl, okC_sc rfl⟩
  · simp only [rCk, List.mem_cons, List.not_mem_nil, or_false] at hr
    rcases hr with rfl | rfl | rfl <;> first | exact mvR_tI (sc_rowsZ _) | exact mvR_tI (sc_rowsN _)
noncomputable def ct_checked : Ct := fam true (fun x : ACk => ([.agg (ckC x.m x.b)], [])) (fun x => .one (rCk x.m))
theorem ck_inj {x y : ACk} (h : ([D.agg (ckC x.m x.b)], ([] : List (List B))) = ([D.agg (ckC y.m y.b)], [])) : x = y := by
  obtain ⟨⟨k, ⟨t1, t2⟩, ⟨s1, s2⟩, l, st, r1, r2, p, la, c, le⟩, b, ok, hp, hl, hs, hv⟩ := x
  obtain ⟨⟨k', ⟨t1', t2'⟩, ⟨s1', s2'⟩, l', st', r1', r2', p', la', c', le'⟩, b', ok', hp', hl', hs', hv'⟩ := y
  simp only at hp hl hs hp' hl' hs'
  subst hp; subst hl; subst hp'; subst hl'
  cases b <;> cases b' <;> simp [ckC, rowsZ_eq] at h ⊢ <;> simp_all
theorem run_checked1 {k : Int} {t1 t2 s1 s2 lv : Nat} {st : List Pt} {ra rc c l : Int} (hst : st.length ≤ sm) (hv : isModuleF ⟨k, (t1, t2), (s1, s2), lv, st, ra, rc, [], [], c, l⟩ = true) :
    ct_checked.run [.agg [.im (.int .i64 k), .im (.cpx .f32 t1 t2), .im (.cpx .f32 s1 s2), .im (.flt .f32 lv), .im (.sl 1 (rowsZ st)), .im (.int .i64 ra), .im (.int .i64 rc), .nil, .nil, .im (.int .i64 c), .im (.int .i64 l)]] [] =
      some (.one (rCk ⟨k, (t1, t2), (s1, s2), lv, st, ra, rc, [], [], c, l⟩)) :=
  fam_run' (args := fun x : ACk => ([D.agg (ckC x.m x.b)], [])) (fun _ _ h => ck_inj h) ⟨⟨k, (t1, t2), (s1, s2), lv, st, ra, rc, [], [], c, l⟩, true, ⟨hst, by simp, by simp⟩, rfl, rfl, fun h => (by cases h), hv⟩
theorem run_checked0 {k : Int} {t1 t2 s1 s2 lv : Nat} {ra rc c l : Int} (hv : isModuleF ⟨k, (t1, t2), (s1, s2), lv, [], ra, rc, [], [], c, l⟩ = true) :
    ct_checked.run [.agg [.im (.int .i64 k), .im (.cpx .f32 t1 t2), .im (.cpx .f32 s1 s2), .im (.flt .f32 lv), .nil, .im (.int .i64 ra), .im (.int .i64 rc), .nil, .nil, .im (.int .i64 c), .im (.int .i64 l)]] [] =
      some (.one (rCk ⟨k, (t1, t2), (s1, s2), lv, [], ra, rc, [], [], c, l⟩)) :=
  fam_run' (args := fun x : ACk => ([D.agg (ckC x.m x.b)], [])) (fun _ _ h => ck_inj h) ⟨⟨k, (t1, t2), (s1, s2), lv, [], ra, rc, [], [], c, l⟩, false, ⟨by simp, by simp, by simp⟩, rfl, rfl, fun _ => rfl, hv⟩
theorem run_IsModule1 {k : Int} {t1 t2 s1 s2 lv : Nat} {st : List Pt} {ra rc : Int} {c l : Int} (hst : st.length ≤ sm) :
    ct_IsModule.run [.agg [.im (.int .i64 k), .im (.cpx .f32 t1 t2), .im (.cpx .f32 s1 s2), .im (.flt .f32 lv), .im (.sl 1 (rowsZ st)), .im (.int .i64 ra), .im (.int .i64 rc), .im (.sl 1 []), .im (.sl 1 []), .im (.int .i64 c), .im (.int .i64 l)]] [] =
      some (.one { val := .c (.im (.bool (isModuleF ⟨k, (t1, t2), (s1, s2), lv, st, ra, rc, [], [], c, l⟩))) }) := run_IsModule (pts := []) (lab := []) hst (by simp) (by simp)
theorem run_IsModule0 {k : Int} {t1 t2 s1 s2 lv : Nat} {ra rc : Int} {c l : Int} :
    ct_IsModule.run [.agg [.im (.int .i64 k), .im (.cpx .f32 t1 t2), .im (.cpx .f32 s1 s2), .im (.flt .f32 lv), .im (.sl 1 []), .im (.int .i64 ra), .im (.int .i64 rc), .im (.sl 1 []), .im (.sl 1 []), .im (.int .i64 c), .im (.int .i64 l)]] [] =
      some (.one { val := .c (.im (.bool (isModuleF ⟨k, (t1, t2), (s1, s2), lv, [], ra, rc, [], [], c, l⟩))) }) := run_IsModule (st := []) (pts := []) (lab := []) (by simp) (by simp) (by simp)
theorem run_copyModule1 {k : Int} {t1 t2 s1 s2 lv : Nat} {st : List Pt} {ra rc : Int} {c l : Int} (hst : st.length ≤ sm) :
    ct_copyModule.run [.agg [.im (.int .i64 k), .im (.cpx .f32 t1 t2), .im (.cpx .f32 s1 s2), .im (.flt .f32 lv), .im (.sl 1 (rowsZ st)), .im (.int .i64 ra), .im (.int .i64 rc), .im (.sl 1 []), .im (.sl 1 []), .im (.int .i64 c), .im (.int .i64 l)]] [] =
      some (.one (rMod ⟨k, (t1, t2), (s1, s2), lv, st, ra, rc, [], [], c, l⟩)) := run_copyModule (pts := []) (lab := []) hst (by simp) (by simp)
theorem run_copyModule0 {k : Int} {t1 t2 s1 s2 lv : Nat} {ra rc : Int} {c l : Int} :
    ct_copyModule.run [.agg [.im (.int .i64 k), .im (.cpx .f32 t1 t2), .im (.cpx .f32 s1 s2), .im (.flt .f32 lv), .im (.sl 1 []), .im (.int .i64 ra), .im (.int .i64 rc), .im (.sl 1 []), .im (.sl 1 []), .im (.int .i64 c), .im (.int .i64 l)]] [] =
      some (.one (rMod ⟨k, (t1, t2), (s1, s2), lv, [], ra, rc, [], [], c, l⟩)) := run_copyModule (st := []) (pts := []) (lab := []) (by simp) (by simp) (by simp)
theorem sc_IsModule : (ct_IsModule.sc = true) = True := by simp [ct_IsModule, fam]
theorem sc_copyModule : (ct_copyModule.sc = true) = True := by simp [ct_copyModule, fam]
theorem sc_checked : (ct_checked.sc = true) = True := by simp [ct_checked, fam]
set_option maxRecDepth 100000 in
set_option maxHeartbeats 8000000 in
theorem law_checked : Law Try.prog 41 ct_checked := by
  refine fam_lawU (Env_cons law_IsModule (Env_cons law_copyModule Env_nil)) hmixA Try.func41 rfl rfl (fun x => if x.b = true then [.nilA 0 7 1, .nilA 0 8 1] else [.nilA 0 4 1, .nilA 0 7 1, .nilA 0 8 1]) (fun ⟨⟨k, ⟨t1, t2⟩, ⟨s1, s2⟩, lv, st, ra, rc, pts, lab, c, l⟩, b, ⟨q1, q2, q3⟩, hp, hl, hs, hv⟩ => ⟨okO okR_ck, by simp [Try.f41], ?_⟩)
  simp only at hp hl hs q1 q2 q3
  subst hp; subst hl
  cases b with
  | true =>
    simp only [rCk, ckC]
    try simp -dsimp (maxSteps := 1000000) only [go_sem, List.forall_mem_nil, ↓reduceIte, Nat.reduceEqDiff, Nat.reduceLT, Nat.reduceLeDiff, Nat.reduceAdd, Nat.reduceMul, reduceCtorEq, Try.f41, run_IsModule1 q1, run_copyModule1 q1, hv, rMod, sc_IsModule, sc_copyModule, List.take_nil]
    repeat' (first
      | ((with_reducible refine sl_i ?_ ?_); focus kernel_rfl)
      | ((with_reducible refine ro_i ?_ ?_); focus kernel_rfl)
      | ((with_reducible refine sl_e ?_); kernel_rfl)
      | ((with_reducible refine ro_e ?_); kernel_rfl)
      | ((first | (with_reducible refine gS_d ?_ ?_) | (with_reducible refine gS_dn ?_ ?_) | (with_reducible refine gS_i ?_ ?_)) <;> intro hg <;> (try simp -dsimp (maxSteps := 1000000) only [go_sem, List.forall_mem_nil, ↓reduceIte, Nat.reduceEqDiff, Nat.reduceLT, Nat.reduceLeDiff, Nat.reduceAdd, Nat.reduceMul, reduceCtorEq, Try.f41, run_IsModule1 q1, run_copyModule1 q1, hv, rMod, sc_IsModule, sc_copyModule, List.take_nil, *])))
    refine finF_i [] ?_
    simp -dsimp (maxSteps := 1000000) only [go_sem, List.forall_mem_nil, ↓reduceIte, Nat.reduceEqDiff, Nat.reduceLT, Nat.reduceLeDiff, Nat.reduceAdd, Nat.reduceMul, reduceCtorEq]
    refine ⟨[_, _, _], ?_, ?_, ?_, rfl, rfl, rfl⟩ <;> simp [rtOk]
  | false =>
    have := hs rfl
    subst this
    simp only [rCk, ckC]
    try simp -dsimp (maxSteps := 1000000) only [go_sem, List.forall_mem_nil, ↓reduceIte, Nat.reduceEqDiff, Nat.reduceLT, Nat.reduceLeDiff, Nat.reduceAdd, Nat.reduceMul, reduceCtorEq, Try.f41, run_IsModule0, run_copyModule0, hv, rMod, sc_IsModule, sc_copyModule, List.take_nil]
    repeat' (first
      | ((with_reducible refine sl_i ?_ ?_); focus kernel_rfl)
      | ((with_reducible refine ro_i ?_ ?_); focus kernel_rfl)
      | ((with_reducible refine sl_e ?_); kernel_rfl)
      | ((with_reducible refine ro_e ?_); kernel_rfl)
      | ((first | (with_reducible refine gS_d ?_ ?_) | (with_reducible refine gS_dn ?_ ?_) | (with_reducible refine gS_i ?_ ?_)) <;> intro hg <;> (try simp -dsimp (maxSteps := 1000000) only [go_sem, List.forall_mem_nil, ↓reduceIte, Nat.reduceEqDiff, Nat.reduceLT, Nat.reduceLeDiff, Nat.reduceAdd, Nat.reduceMul, reduceCtorEq, Try.f41, run_IsModule0, run_copyModule0, hv, rMod, sc_IsModule, sc_copyModule, List.take_nil, *])))
    refine finF_i [] ?_
    simp -dsimp (maxSteps := 1000000) only [go_sem, List.forall_mem_nil, ↓reduceIte, Nat.reduceEqDiff, Nat.reduceLT, Nat.reduceLeDiff, Nat.reduceAdd, Nat.reduceMul, reduceCtorEq]
    refine ⟨[_, _, _], ?_, ?_, ?_, rfl, rfl, rfl⟩ <;> simp [rtOk]

def mDel (st : List Pt) (a : Int) : Mod := ⟨4, (0, 0), (0, 0), 0, st, a, (st.length : Int), [], [], 0, 0⟩
def zs (n : Nat) : List Pt := List.replicate n (0, 0)
def mHold (s : Pt) (n l : Int) : Mod := ⟨8, (0, 0), s, 0, [], 0, 0, [], [], n, l⟩
theorem del_ok {n : Nat} (h1 : 1 ≤ n) (h2 : n ≤ 16) : isModuleF ⟨4, (0, 0), (0, 0), 0, List.replicate n (0, 0), 0, (n : Int), [], [], 0, 0⟩ = true := by
  have hb : bareF ⟨4, (0, 0), (0, 0), 0, [], 0, 0, [], [], 0, 0⟩ = true := by kernel_rfl
  have hr : isRingF (List.replicate n (0, 0)) 0 (n : Int) = true := by
    have hc : ringC (List.replicate n (0, 0)) 0 (n : Int) := by
      refine ⟨?_, ?_, ?_, ?_, ?_, ?_⟩ <;> simp <;> omega
    simp [isRingF, hc, ringGo]
  simp [isModuleF, hr, hb]
theorem hold_ok {n : Int} (h1 : 1 ≤ n) (h2 : n ≤ 100) : isModuleF ⟨8, (0, 0), (0, 0), 0, [], 0, 0, [], [], n, 0⟩ = true := by
  have hb : bareF ⟨8, (0, 0), (0, 0), 0, [], 0, 0, [], [], 0, 0⟩ = true := by kernel_rfl
  have h3 : 0 < n := by omega
  simp [isModuleF, h1, h2, h3, hb]
noncomputable def ct_NewDelay : Ct := fam true (fun x : N16 => ([.c (.im (.int .i64 (x.1 : Int)))], [])) (fun x => .one (rCk (mDel (zs x.1) 0)))
theorem run_NewDelay {n : Nat} (h1 : 1 ≤ n) (h2 : n ≤ 16) : ct_NewDelay.run [.c (.im (.int .i64 (n : Int)))] [] = some (.one (rCk (mDel (zs n) 0))) := fam_run' (args := fun x : N16 => ([D.c (.im (.int .i64 (x.1 : Int)))], [])) (by
    intro a b h
    simp only [Prod.mk.injEq, List.cons.injEq, D.c.injEq, D.agg.injEq, C.im.injEq, I.cpx.injEq, I.flt.injEq, I.int.injEq, I.sl.injEq, I.bool.injEq, I.str.injEq, Int.natCast_inj, true_and, and_true] at h
    (try simp only [Prod.ext_iff, Subtype.ext_iff])
    (try simp only [rowsZ_eq, rowsN_eq] at h)
    simp_all) (⟨n, h1, h2⟩ : N16)
set_option maxRecDepth 100000 in
set_option maxHeartbeats 8000000 in
theorem law_NewDelay : Law Try.prog 16 ct_NewDelay := by
  refine fam_lawF (Env_cons law_NewRing (Env_cons law_checked Env_nil)) hmixA Try.func16 rfl rfl (fun ⟨n, h1, h2⟩ => ⟨okO okR_ck, by simp [Try.f16], ?_⟩)
  simp only [mDel, zs, List.length_replicate]
  have hl : (List.replicate n ((0, 0) : Pt)).length ≤ sm := by simp; have : sm = 16777216 := rfl; omega
  have htk : List.take n (tI (rowsZ (List.replicate n (0, 0)))) = tI (rowsZ (List.replicate n (0, 0))) := List.take_of_length_le (by simp [tI_len, rowsZ_len])
  try simp -dsimp (maxSteps := 1000000) only [go_sem, List.forall_mem_nil, ↓reduceIte, Nat.reduceEqDiff, Nat.reduceLT, Nat.reduceLeDiff, Nat.reduceAdd, Nat.reduceMul, reduceCtorEq, Try.f16, run_NewRing h1 h2, rNewRing, htk, tI_toI, run_checked1 hl (del_ok h1 h2), rCk, sc_checked, List.length_replicate, rowsZ_len, tI_len]
  repeat' (first
    | ((with_reducible refine sl_i ?_ ?_); focus kernel_rfl)
    | ((with_reducible refine ro_i ?_ ?_); focus kernel_rfl)
    | ((with_reducible refine sl_e ?_); kernel_rfl)
    | ((with_reducible refine ro_e ?_); kernel_rfl)
    | ((first | (with_reducible refine gS_d ?_ ?_) | (with_reducible refine gS_dn ?_ ?_) | (with_reducible refine gS_i ?_ ?_)) <;> intro hg <;> (try simp -dsimp (maxSteps := 1000000) only [go_sem, List.forall_mem_nil, ↓reduceIte, Nat.reduceEqDiff, Nat.reduceLT, Nat.reduceLeDiff, Nat.reduceAdd, Nat.reduceMul, reduceCtorEq, Try.f16, run_NewRing h1 h2, rNewRing, htk, tI_toI, run_checked1 hl (del_ok h1 h2), rCk, sc_checked, List.length_replicate, rowsZ_len, tI_len, *])))
  refine finF_i [] ?_
  simp -dsimp (maxSteps := 1000000) only [go_sem, List.forall_mem_nil, ↓reduceIte, Nat.reduceEqDiff, Nat.reduceLT, Nat.reduceLeDiff, Nat.reduceAdd, Nat.reduceMul, reduceCtorEq, rCk, List.length_replicate]
  refine ⟨[_, _, _], ?_, ?_, ?_, rfl, rfl, rfl⟩ <;> simp [rtOk]
abbrev N100 := { n : Nat // 1 ≤ n ∧ n ≤ 100 }
noncomputable def ct_NewHold : Ct := fam true (fun x : N100 => ([.c (.im (.int .i64 (x.1 : Int)))], [])) (fun x => .one (rCk (mHold (0, 0) x.1 0)))
theorem run_NewHold {n : Nat} (h1 : 1 ≤ n) (h2 : n ≤ 100) : ct_NewHold.run [.c (.im (.int .i64 (n : Int)))] [] = some (.one (rCk (mHold (0, 0) n 0))) := fam_run' (args := fun x : N100 => ([D.c (.im (.int .i64 (x.1 : Int)))], [])) (by
    intro a b h
    simp only [Prod.mk.injEq, List.cons.injEq, D.c.injEq, D.agg.injEq, C.im.injEq, I.cpx.injEq, I.flt.injEq, I.int.injEq, I.sl.injEq, I.bool.injEq, I.str.injEq, Int.natCast_inj, true_and, and_true] at h
    (try simp only [Prod.ext_iff, Subtype.ext_iff])
    (try simp only [rowsZ_eq, rowsN_eq] at h)
    simp_all) (⟨n, h1, h2⟩ : N100)
set_option maxRecDepth 100000 in
set_option maxHeartbeats 8000000 in
theorem law_NewHold : Law Try.prog 33 ct_NewHold := by
  refine fam_lawF (Env_cons law_checked Env_nil) hmixA Try.func33 rfl rfl (fun ⟨n, h1, h2⟩ => ⟨okO okR_ck, by simp [Try.f33], ?_⟩)
  simp only [mHold]
  try simp -dsimp (maxSteps := 1000000) only [go_sem, List.forall_mem_nil, ↓reduceIte, Nat.reduceEqDiff, Nat.reduceLT, Nat.reduceLeDiff, Nat.reduceAdd, Nat.reduceMul, reduceCtorEq, Try.f33, run_checked0 (hold_ok (n := (n : Int)) (by omega) (by omega)), rCk, sc_checked]
  repeat' (first
    | ((with_reducible refine sl_i ?_ ?_); focus kernel_rfl)
    | ((with_reducible refine ro_i ?_ ?_); focus kernel_rfl)
    | ((with_reducible refine sl_e ?_); kernel_rfl)
    | ((with_reducible refine ro_e ?_); kernel_rfl)
    | ((first | (with_reducible refine gS_d ?_ ?_) | (with_reducible refine gS_dn ?_ ?_) | (with_reducible refine gS_i ?_ ?_)) <;> intro hg <;> (try simp -dsimp (maxSteps := 1000000) only [go_sem, List.forall_mem_nil, ↓reduceIte, Nat.reduceEqDiff, Nat.reduceLT, Nat.reduceLeDiff, Nat.reduceAdd, Nat.reduceMul, reduceCtorEq, Try.f33, run_checked0 (hold_ok (n := (n : Int)) (by omega) (by omega)), rCk, sc_checked, *])))
  refine finF_i [] ?_
  simp -dsimp (maxSteps := 1000000) only [go_sem, List.forall_mem_nil, ↓reduceIte, Nat.reduceEqDiff, Nat.reduceLT, Nat.reduceLeDiff, Nat.reduceAdd, Nat.reduceMul, reduceCtorEq, rCk]
  refine ⟨[_, _, _], ?_, ?_, ?_, rfl, rfl, rfl⟩ <;> simp [rtOk]
end Go.SX
