/-
  copyRing, IsRing, isBare, IsModule, copyModule.
  No condition.
-/
import Derived.Test.YtbhnlplbfhomcaaRkE
set_option linter.unusedVariables false
set_option linter.unusedSimpArgs false
namespace Go.SX
open Go Go.Proofs

/-- A module's fields. -/
structure Mod where
  kind : Int
  turn : Pt
  state : Pt
  level : Nat
  store : List Pt
  rat : Int
  rcnt : Int
  pts : List Pt
  lab : List Int
  count : Int
  left : Int
def modI (m : Mod) : List I := [.int .i64 m.kind, .cpx .f32 m.turn.1 m.turn.2, .cpx .f32 m.state.1 m.state.2, .flt .f32 m.level, .sl 1 (rowsZ m.store), .int .i64 m.rat, .int .i64 m.rcnt, .sl 1 (rowsZ m.pts), .sl 1 (rowsN m.lab), .int .i64 m.count, .int .i64 m.left]
def modC (m : Mod) : List C := [.im (.int .i64 m.kind), .im (.cpx .f32 m.turn.1 m.turn.2), .im (.cpx .f32 m.state.1 m.state.2), .im (.flt .f32 m.level), .im (.sl 1 (rowsZ m.store)), .im (.int .i64 m.rat), .im (.int .i64 m.rcnt), .im (.sl 1 (rowsZ m.pts)), .im (.sl 1 (rowsN m.lab)), .im (.int .i64 m.count), .im (.int .i64 m.left)]
theorem modC_inj {a b : Mod} (h : modC a = modC b) : a = b := by
  obtain ⟨k, ⟨t1, t2⟩, ⟨s1, s2⟩, l, st, r1, r2, p, la, c, le⟩ := a
  obtain ⟨k', ⟨t1', t2'⟩, ⟨s1', s2'⟩, l', st', r1', r2', p', la', c', le'⟩ := b
  simp [modC, rowsZ_eq, rowsN_eq] at h
  simp [h]
structure OkM (m : Mod) : Prop where
  store : m.store.length ≤ sm
  pts : m.pts.length ≤ sm
  lab : m.lab.length ≤ sm

noncomputable def ct_copyRing : Ct := fam true (fun x : { l : List Pt // l.length ≤ sm } × Int × Int => ([.agg [.im (.sl 1 (rowsZ x.1.1)), .im (.int .i64 x.2.1), .im (.int .i64 x.2.2)]], []))
  (fun x => .one { val := .agg [.view 0 1 0 x.1.1.length, .im (.int .i64 x.2.1), .im (.int .i64 x.2.2)], roots := [.arr 1 (tI (rowsZ x.1.1))] })
theorem run_copyRing {l : List Pt} (hl : l.length ≤ sm) (a c : Int) : ct_copyRing.run [.agg [.im (.sl 1 (rowsZ l)), .im (.int .i64 a), .im (.int .i64 c)]] [] =
    some (.one { val := .agg [.view 0 1 0 l.length, .im (.int .i64 a), .im (.int .i64 c)], roots := [.arr 1 (tI (rowsZ l))] }) := by
  refine fam_run' (args := fun x : { l : List Pt // l.length ≤ sm } × Int × Int => ([D.agg [.im (.sl 1 (rowsZ x.1.1)), .im (.int .i64 x.2.1), .im (.int .i64 x.2.2)]], [])) ?_ (⟨l, hl⟩, a, c)
  rintro ⟨⟨a, b⟩, c⟩ ⟨⟨a', b'⟩, c'⟩ h
  simp [rowsZ_eq] at h ⊢
  simp [h, Prod.ext_iff]
set_option maxRecDepth 100000 in
set_option maxHeartbeats 4000000 in
theorem law_copyRing : Law Try.prog 83 ct_copyRing := by
  refine fam_law (Env_cons law_Clone_complex64 Env_nil) hmixA Try.func83 rfl rfl (fun ⟨⟨l, hl⟩, a, c⟩ => ⟨okO ⟨.agg _ (fun x hx => ?_), fun r hr => ?_, by simp⟩, by simp [Try.f83], ?_⟩)
  · simp at hx
    rcases hx with rfl | rfl | rfl
    · exact .view _ _ _ _ (by simp)
    · exact okC_sc rfl
    · exact okC_sc rfl
  · simp at hr; subst hr; exact mvR_tI (sc_rowsZ _)
  try simp -dsimp (maxSteps := 1000000) only [go_sem, List.forall_mem_nil, ↓reduceIte, Nat.reduceEqDiff, Nat.reduceLT, Nat.reduceLeDiff, Nat.reduceAdd, Nat.reduceMul, reduceCtorEq, Try.f83, run_Clone_complex64 hl, rNew, rowsZ_len]
  repeat' (first
    | ((with_reducible refine sl_i ?_ ?_); focus kernel_rfl)
    | ((with_reducible refine ro_i ?_ ?_); focus kernel_rfl)
    | ((with_reducible refine sl_e ?_); kernel_rfl)
    | ((with_reducible refine ro_e ?_); kernel_rfl)
    | ((first | (with_reducible refine gS_d ?_ ?_) | (with_reducible refine gS_dn ?_ ?_) | (with_reducible refine gS_i ?_ ?_)) <;> intro hg <;> (try simp -dsimp (maxSteps := 1000000) only [go_sem, List.forall_mem_nil, ↓reduceIte, Nat.reduceEqDiff, Nat.reduceLT, Nat.reduceLeDiff, Nat.reduceAdd, Nat.reduceMul, reduceCtorEq, Try.f83, run_Clone_complex64 hl, rNew, rowsZ_len, *])))
  refine ⟨[_], ?_, ?_, ?_, rfl⟩ <;> simp [rtOk]

def ringGo (st : List Pt) (a : Nat) : Nat → Nat → Bool
  | 0, _ => true
  | f + 1, i => nzP (st.getD ((a + i) % st.length) (0, 0)) && ringGo st a f (i + 1)
def ringC (st : List Pt) (a c : Int) : Prop := 1 ≤ st.length ∧ st.length ≤ 16 ∧ 0 ≤ a ∧ a < st.length ∧ 0 ≤ c ∧ c ≤ st.length
instance (st : List Pt) (a c : Int) : Decidable (ringC st a c) := by unfold ringC; infer_instance
def isRingF (st : List Pt) (a c : Int) : Bool := decide (ringC st a c) && ringGo st a.toNat (st.length - c.toNat) c.toNat
noncomputable def ct_IsRing : Ct := fam true (fun x : { l : List Pt // l.length ≤ sm } × Int × Int => ([.agg [.im (.sl 1 (rowsZ x.1.1)), .im (.int .i64 x.2.1), .im (.int .i64 x.2.2)]], []))
  (fun x => .one { val := .c (.im (.bool (isRingF x.1.1 x.2.1 x.2.2))) })
theorem run_IsRing {l : List Pt} (hl : l.length ≤ sm) (a c : Int) : ct_IsRing.run [.agg [.im (.sl 1 (rowsZ l)), .im (.int .i64 a), .im (.int .i64 c)]] [] = some (.one { val := .c (.im (.bool (isRingF l a c))) }) := by
  refine fam_run' (args := fun x : { l : List Pt // l.length ≤ sm } × Int × Int => ([D.agg [.im (.sl 1 (rowsZ x.1.1)), .im (.int .i64 x.2.1), .im (.int .i64 x.2.2)]], [])) ?_ (⟨l, hl⟩, a, c)
  rintro ⟨⟨a, b⟩, c⟩ ⟨⟨a', b'⟩, c'⟩ h
  simp [rowsZ_eq] at h ⊢
  simp [h, Prod.ext_iff]
set_option maxRecDepth 100000 in
set_option maxHeartbeats 4000000 in
theorem law_IsRing : Law Try.prog 79 ct_IsRing := by
  refine fam_law (Env_cons law_isNoughts Env_nil) hmixA Try.func79 rfl rfl (fun ⟨⟨l, hl⟩, a, c⟩ => ⟨okO_im rfl, by simp [Try.f79], ?_⟩)
  by_cases hC : ringC l a c
  rotate_left
  · have hF : isRingF l a c = false := by simp [isRingF, hC]
    by_cases p1 : (l.length : Int) < 1
    · have e1 := eq_true p1
      clear p1
      try simp -dsimp (maxSteps := 1000000) only [go_sem, List.forall_mem_nil, ↓reduceIte, Nat.reduceEqDiff, Nat.reduceLT, Nat.reduceLeDiff, Nat.reduceAdd, Nat.reduceMul, reduceCtorEq, Try.f79, rowsZ_len, hF, e1]
      repeat' (first
        | ((with_reducible refine sl_i ?_ ?_); focus kernel_rfl)
        | ((with_reducible refine ro_i ?_ ?_); focus kernel_rfl)
        | ((with_reducible refine sl_e ?_); kernel_rfl)
        | ((with_reducible refine ro_e ?_); kernel_rfl)
        | ((first | (with_reducible refine gS_d ?_ ?_) | (with_reducible refine gS_dn ?_ ?_) | (with_reducible refine gS_i ?_ ?_)) <;> intro hg <;> (try simp -dsimp (maxSteps := 1000000) only [go_sem, List.forall_mem_nil, ↓reduceIte, Nat.reduceEqDiff, Nat.reduceLT, Nat.reduceLeDiff, Nat.reduceAdd, Nat.reduceMul, reduceCtorEq, Try.f79, rowsZ_len, hF, e1, *])))
    have e1 := eq_false p1
    by_cases p2 : (16 : Int) < (l.length : Int)
    · have e2 := eq_true p2
      clear p2
      try simp -dsimp (maxSteps := 1000000) only [go_sem, List.forall_mem_nil, ↓reduceIte, Nat.reduceEqDiff, Nat.reduceLT, Nat.reduceLeDiff, Nat.reduceAdd, Nat.reduceMul, reduceCtorEq, Try.f79, rowsZ_len, hF, e1, e2]
      repeat' (first
        | ((with_reducible refine sl_i ?_ ?_); focus kernel_rfl)
        | ((with_reducible refine ro_i ?_ ?_); focus kernel_rfl)
        | ((with_reducible refine sl_e ?_); kernel_rfl)
        | ((with_reducible refine ro_e ?_); kernel_rfl)
        | ((first | (with_reducible refine gS_d ?_ ?_) | (with_reducible refine gS_dn ?_ ?_) | (with_reducible refine gS_i ?_ ?_)) <;> intro hg <;> (try simp -dsimp (maxSteps := 1000000) only [go_sem, List.forall_mem_nil, ↓reduceIte, Nat.reduceEqDiff, Nat.reduceLT, Nat.reduceLeDiff, Nat.reduceAdd, Nat.reduceMul, reduceCtorEq, Try.f79, rowsZ_len, hF, e1, e2, *])))
    have e2 := eq_false p2
    by_cases p3 : a < 0
    · have e3 := eq_true p3
      clear p3
      try simp -dsimp (maxSteps := 1000000) only [go_sem, List.forall_mem_nil, ↓reduceIte, Nat.reduceEqDiff, Nat.reduceLT, Nat.reduceLeDiff, Nat.reduceAdd, Nat.reduceMul, reduceCtorEq, Try.f79, rowsZ_len, hF, e1, e2, e3]
      repeat' (first
        | ((with_reducible refine sl_i ?_ ?_); focus kernel_rfl)
        | ((with_reducible refine ro_i ?_ ?_); focus kernel_rfl)
        | ((with_reducible refine sl_e ?_); kernel_rfl)
        | ((with_reducible refine ro_e ?_); kernel_rfl)
        | ((first | (with_reducible refine gS_d ?_ ?_) | (with_reducible refine gS_dn ?_ ?_) | (with_reducible refine gS_i ?_ ?_)) <;> intro hg <;> (try simp -dsimp (maxSteps := 1000000) only [go_sem, List.forall_mem_nil, ↓reduceIte, Nat.reduceEqDiff, Nat.reduceLT, Nat.reduceLeDiff, Nat.reduceAdd, Nat.reduceMul, reduceCtorEq, Try.f79, rowsZ_len, hF, e1, e2, e3, *])))
    have e3 := eq_false p3
    by_cases p4 : (l.length : Int) ≤ a
    · have e4 := eq_true p4
      clear p4
      try simp -dsimp (maxSteps := 1000000) only [go_sem, List.forall_mem_nil, ↓reduceIte, Nat.reduceEqDiff, Nat.reduceLT, Nat.reduceLeDiff, Nat.reduceAdd, Nat.reduceMul, reduceCtorEq, Try.f79, rowsZ_len, hF, e1, e2, e3, e4]
      repeat' (first
        | ((with_reducible refine sl_i ?_ ?_); focus kernel_rfl)
        | ((with_reducible refine ro_i ?_ ?_); focus kernel_rfl)
        | ((with_reducible refine sl_e ?_); kernel_rfl)
        | ((with_reducible refine ro_e ?_); kernel_rfl)
        | ((first | (with_reducible refine gS_d ?_ ?_) | (with_reducible refine gS_dn ?_ ?_) | (with_reducible refine gS_i ?_ ?_)) <;> intro hg <;> (try simp -dsimp (maxSteps := 1000000) only [go_sem, List.forall_mem_nil, ↓reduceIte, Nat.reduceEqDiff, Nat.reduceLT, Nat.reduceLeDiff, Nat.reduceAdd, Nat.reduceMul, reduceCtorEq, Try.f79, rowsZ_len, hF, e1, e2, e3, e4, *])))
    have e4 := eq_false p4
    by_cases p5 : c < 0
    · have e5 := eq_true p5
      clear p5
      try simp -dsimp (maxSteps := 1000000) only [go_sem, List.forall_mem_nil, ↓reduceIte, Nat.reduceEqDiff, Nat.reduceLT, Nat.reduceLeDiff, Nat.reduceAdd, Nat.reduceMul, reduceCtorEq, Try.f79, rowsZ_len, hF, e1, e2, e3, e4, e5]
      repeat' (first
        | ((with_reducible refine sl_i ?_ ?_); focus kernel_rfl)
        | ((with_reducible refine ro_i ?_ ?_); focus kernel_rfl)
        | ((with_reducible refine sl_e ?_); kernel_rfl)
        | ((with_reducible refine ro_e ?_); kernel_rfl)
        | ((first | (with_reducible refine gS_d ?_ ?_) | (with_reducible refine gS_dn ?_ ?_) | (with_reducible refine gS_i ?_ ?_)) <;> intro hg <;> (try simp -dsimp (maxSteps := 1000000) only [go_sem, List.forall_mem_nil, ↓reduceIte, Nat.reduceEqDiff, Nat.reduceLT, Nat.reduceLeDiff, Nat.reduceAdd, Nat.reduceMul, reduceCtorEq, Try.f79, rowsZ_len, hF, e1, e2, e3, e4, e5, *])))
    have e5 := eq_false p5
    by_cases p6 : (l.length : Int) < c
    · have e6 := eq_true p6
      clear p6
      try simp -dsimp (maxSteps := 1000000) only [go_sem, List.forall_mem_nil, ↓reduceIte, Nat.reduceEqDiff, Nat.reduceLT, Nat.reduceLeDiff, Nat.reduceAdd, Nat.reduceMul, reduceCtorEq, Try.f79, rowsZ_len, hF, e1, e2, e3, e4, e5, e6]
      repeat' (first
        | ((with_reducible refine sl_i ?_ ?_); focus kernel_rfl)
        | ((with_reducible refine ro_i ?_ ?_); focus kernel_rfl)
        | ((with_reducible refine sl_e ?_); kernel_rfl)
        | ((with_reducible refine ro_e ?_); kernel_rfl)
        | ((first | (with_reducible refine gS_d ?_ ?_) | (with_reducible refine gS_dn ?_ ?_) | (with_reducible refine gS_i ?_ ?_)) <;> intro hg <;> (try simp -dsimp (maxSteps := 1000000) only [go_sem, List.forall_mem_nil, ↓reduceIte, Nat.reduceEqDiff, Nat.reduceLT, Nat.reduceLeDiff, Nat.reduceAdd, Nat.reduceMul, reduceCtorEq, Try.f79, rowsZ_len, hF, e1, e2, e3, e4, e5, e6, *])))
    have e6 := eq_false p6
    exfalso; apply hC; unfold ringC; omega
  obtain ⟨c1, c2, c3, c4, c5, c6⟩ := hC
  have hF : isRingF l a c = ringGo l a.toNat (l.length - c.toNat) c.toNat := by
    have : ringC l a c := ⟨c1, c2, c3, c4, c5, c6⟩
    simp [isRingF, this]
  have q1 : ((l.length : Int) < 1) = False := by simp; omega
  have q2 : ((16 : Int) < (l.length : Int)) = False := by simp; omega
  have q3 : (a < 0) = False := by simp; omega
  have q4 : ((l.length : Int) ≤ a) = False := by simp; omega
  have q5 : (c < 0) = False := by simp; omega
  have q6 : ((l.length : Int) < c) = False := by simp; omega
  obtain ⟨an, rfl⟩ : ∃ n : Nat, a = n := ⟨a.toNat, by omega⟩
  obtain ⟨cn, rfl⟩ : ∃ n : Nat, c = n := ⟨c.toNat, by omega⟩
  rw [hF]
  simp only [Int.toNat_natCast] at *
  clear hF c3 c5
  try simp -dsimp (maxSteps := 1000000) only [go_sem, List.forall_mem_nil, ↓reduceIte, Nat.reduceEqDiff, Nat.reduceLT, Nat.reduceLeDiff, Nat.reduceAdd, Nat.reduceMul, reduceCtorEq, Try.f79, rowsZ_len, q1, q2, q3, q4, q5, q6]
  repeat' (first
    | ((with_reducible refine sl_i ?_ ?_); focus kernel_rfl)
    | ((with_reducible refine ro_i ?_ ?_); focus kernel_rfl)
    | ((with_reducible refine sl_e ?_); kernel_rfl)
    | ((with_reducible refine ro_e ?_); kernel_rfl)
    | ((first | (with_reducible refine gS_d ?_ ?_) | (with_reducible refine gS_dn ?_ ?_) | (with_reducible refine gS_i ?_ ?_)) <;> intro hg <;> (try simp -dsimp (maxSteps := 1000000) only [go_sem, List.forall_mem_nil, ↓reduceIte, Nat.reduceEqDiff, Nat.reduceLT, Nat.reduceLeDiff, Nat.reduceAdd, Nat.reduceMul, reduceCtorEq, Try.f79, rowsZ_len, q1, q2, q3, q4, q5, q6, *])))
  clear q1 q2 q3 q4 q5 q6
  refine loop_i (ι := { k : Nat // k ≤ l.length ∧ ringGo l an (l.length - cn) cn = ringGo l an (l.length - k) k }) (fun k => ⟨[(1, some (.c (.ptr 0 0 0 0))), (3, some (.c (.im (.int .i64 (l.length : Int))))), (4, some (.c (.im (.int .i64 (k.1 : Int)))))],
    [(0, some (.box [.t (.im (.sl 1 (rowsZ l))), .t (.im (.int .i64 (an : Int))), .t (.im (.int .i64 (cn : Int)))]))], 1⟩) (fun k => l.length - k.1) ⟨cn, by omega, rfl⟩ ⟨[], [], by ((simp only [ne_eq, eq_self, subF, folds, wk1, subOk, sOk, hOk, nms, reF, rho, mapD, mapC, mapC1, NmD, NmC, NmC1, mapR, mapB, mapTt, NmR, NmB, NmT, MvRb, MvRn, MvRt, lk, ins, Root.get, Root.setT, List.map_cons, List.map_nil, List.nodup_cons, List.nodup_nil, List.not_mem_nil, List.mem_cons, not_false_eq_true, and_self, and_true, true_and, true_or, or_true, false_or, or_false, ↓reduceIte, Nat.reduceEqDiff, Nat.reduceLT, Nat.reduceLeDiff, reduceCtorEq, Option.isSome_some, List.forall_mem_cons, List.forall_mem_nil, implies_true, forall_const, Nat.le_refl, Nat.zero_le, false_implies, List.mem_singleton, MvB_im, MvB_nil, Mv_im, Option.some.injEq, D.c.injEq, C.im.injEq, I.int.injEq, List.getElem?_cons_zero, List.getElem?_cons_succ, List.set_cons_zero, List.set_cons_succ, List.length_cons, List.length_nil, Nat.zero_add]) <;> (try (simp -dsimp only [ne_eq, eq_self, subF, folds, wk1, subOk, sOk, hOk, nms, reF, rho, mapD, mapC, mapC1, NmD, NmC, NmC1, mapR, mapB, mapTt, NmR, NmB, NmT, MvRb, MvRn, MvRt, lk, ins, Root.get, Root.setT, List.map_cons, List.map_nil, List.nodup_cons, List.nodup_nil, List.not_mem_nil, List.mem_cons, not_false_eq_true, and_self, and_true, true_and, true_or, or_true, false_or, or_false, ↓reduceIte, Nat.reduceEqDiff, Nat.reduceLT, Nat.reduceLeDiff, reduceCtorEq, Option.isSome_some, List.forall_mem_cons, List.forall_mem_nil, implies_true, forall_const, Nat.le_refl, Nat.zero_le, false_implies, List.mem_singleton, MvB_im, MvB_nil, Mv_im, Option.some.injEq, D.c.injEq, C.im.injEq, I.int.injEq, List.getElem?_cons_zero, List.getElem?_cons_succ, List.set_cons_zero, List.set_cons_succ, List.length_cons, List.length_nil, Nat.zero_add]))) <;> simp⟩ (fun ⟨k, hk, hinv⟩ => ?_)
  by_cases hlt : k < l.length
  · have hlt2 : (an + k) % l.length < l.length := Nat.mod_lt _ (by omega)
    obtain ⟨p, hp⟩ : ∃ p, l[(an + k) % l.length]? = some p := ⟨_, List.getElem?_eq_getElem hlt2⟩
    have hrow := rowsZ_at hp
    have hI : ((k : Int) < (l.length : Int)) = True := by simp; omega
    have hw : IntKind.i64.wrap ((an : Int) + (k : Int)) = ((an + k : Nat) : Int) := by rw [wrap_id] <;> omega
    have hm : (((an + k : Nat) : Int)).tmod (l.length : Int) = (((an + k) % l.length : Nat) : Int) := by rw [Int.tmod_eq_emod_of_nonneg (Int.natCast_nonneg _)]; exact (Int.natCast_emod _ _).symm
    have h00 : ((l.length : Int) = 0) = False := eq_false (by omega)
    have h01 : (0 ≤ (((an + k) % l.length : Nat) : Int)) = True := eq_true (Int.natCast_nonneg _)
    have hwr := lt_sm hl hlt
    have hidx : ringGo l an (l.length - k) k = (nzP p && ringGo l an (l.length - (k + 1)) (k + 1)) := by
      rw [show l.length - k = (l.length - (k + 1)) + 1 by omega]
      simp [ringGo, hp]
    obtain ⟨x, y⟩ := p
    rw [hidx] at hinv
    cases hq : nzP (x, y) with
    | false =>
      rw [hq, Bool.false_and] at hinv
      clear hidx
      try simp -dsimp (maxSteps := 1000000) only [go_sem, List.forall_mem_nil, ↓reduceIte, Nat.reduceEqDiff, Nat.reduceLT, Nat.reduceLeDiff, Nat.reduceAdd, Nat.reduceMul, reduceCtorEq, Try.f79, hI, hw, hm, h00, h01, Int.toNat_natCast, hrow, run_isNoughts, hq, hinv, rowsZ_len]
      repeat' (first
        | ((with_reducible refine sl_i ?_ ?_); focus kernel_rfl)
        | ((with_reducible refine ro_i ?_ ?_); focus kernel_rfl)
        | ((with_reducible refine sl_e ?_); kernel_rfl)
        | ((with_reducible refine ro_e ?_); kernel_rfl)
        | ((first | (with_reducible refine gS_d ?_ ?_) | (with_reducible refine gS_dn ?_ ?_) | (with_reducible refine gS_i ?_ ?_)) <;> intro hg <;> (try simp -dsimp (maxSteps := 1000000) only [go_sem, List.forall_mem_nil, ↓reduceIte, Nat.reduceEqDiff, Nat.reduceLT, Nat.reduceLeDiff, Nat.reduceAdd, Nat.reduceMul, reduceCtorEq, Try.f79, hI, hw, hm, h00, h01, Int.toNat_natCast, hrow, run_isNoughts, hq, hinv, rowsZ_len, *])))
    | true =>
      rw [hq, Bool.true_and] at hinv
      clear hidx
      try simp -dsimp (maxSteps := 1000000) only [go_sem, List.forall_mem_nil, ↓reduceIte, Nat.reduceEqDiff, Nat.reduceLT, Nat.reduceLeDiff, Nat.reduceAdd, Nat.reduceMul, reduceCtorEq, Try.f79, hI, hw, hm, h00, h01, Int.toNat_natCast, hrow, run_isNoughts, hq, hwr, rowsZ_len]
      repeat' (first
        | ((with_reducible refine sl_i ?_ ?_); focus kernel_rfl)
        | ((with_reducible refine ro_i ?_ ?_); focus kernel_rfl)
        | ((with_reducible refine sl_e ?_); kernel_rfl)
        | ((with_reducible refine ro_e ?_); kernel_rfl)
        | ((first | (with_reducible refine gS_d ?_ ?_) | (with_reducible refine gS_dn ?_ ?_) | (with_reducible refine gS_i ?_ ?_)) <;> intro hg <;> (try simp -dsimp (maxSteps := 1000000) only [go_sem, List.forall_mem_nil, ↓reduceIte, Nat.reduceEqDiff, Nat.reduceLT, Nat.reduceLeDiff, Nat.reduceAdd, Nat.reduceMul, reduceCtorEq, Try.f79, hI, hw, hm, h00, h01, Int.toNat_natCast, hrow, run_isNoughts, hq, hwr, rowsZ_len, *])))
      exact ⟨⟨k + 1, by omega, hinv⟩, by simp only []; omega, [], [], by ((simp only [ne_eq, eq_self, subF, folds, wk1, subOk, sOk, hOk, nms, reF, rho, mapD, mapC, mapC1, NmD, NmC, NmC1, mapR, mapB, mapTt, NmR, NmB, NmT, MvRb, MvRn, MvRt, lk, ins, Root.get, Root.setT, List.map_cons, List.map_nil, List.nodup_cons, List.nodup_nil, List.not_mem_nil, List.mem_cons, not_false_eq_true, and_self, and_true, true_and, true_or, or_true, false_or, or_false, ↓reduceIte, Nat.reduceEqDiff, Nat.reduceLT, Nat.reduceLeDiff, reduceCtorEq, Option.isSome_some, List.forall_mem_cons, List.forall_mem_nil, implies_true, forall_const, Nat.le_refl, Nat.zero_le, false_implies, List.mem_singleton, MvB_im, MvB_nil, Mv_im, Option.some.injEq, D.c.injEq, C.im.injEq, I.int.injEq, List.getElem?_cons_zero, List.getElem?_cons_succ, List.set_cons_zero, List.set_cons_succ, List.length_cons, List.length_nil, Nat.zero_add]) <;> (try (simp -dsimp only [ne_eq, eq_self, subF, folds, wk1, subOk, sOk, hOk, nms, reF, rho, mapD, mapC, mapC1, NmD, NmC, NmC1, mapR, mapB, mapTt, NmR, NmB, NmT, MvRb, MvRn, MvRt, lk, ins, Root.get, Root.setT, List.map_cons, List.map_nil, List.nodup_cons, List.nodup_nil, List.not_mem_nil, List.mem_cons, not_false_eq_true, and_self, and_true, true_and, true_or, or_true, false_or, or_false, ↓reduceIte, Nat.reduceEqDiff, Nat.reduceLT, Nat.reduceLeDiff, reduceCtorEq, Option.isSome_some, List.forall_mem_cons, List.forall_mem_nil, implies_true, forall_const, Nat.le_refl, Nat.zero_le, false_implies, List.mem_singleton, MvB_im, MvB_nil, Mv_im, Option.some.injEq, D.c.injEq, C.im.injEq, I.int.injEq, List.getElem?_cons_zero, List.getElem?_cons_succ, List.set_cons_zero, List.set_cons_succ, List.length_cons, List.length_nil, Nat.zero_add]))) <;> simp⟩
  · have hI : ((k : Int) < (l.length : Int)) = False := by simp; omega
    have hkl : k = l.length := by omega
    subst hkl
    rw [Nat.sub_self] at hinv
    try simp -dsimp (maxSteps := 1000000) only [go_sem, List.forall_mem_nil, ↓reduceIte, Nat.reduceEqDiff, Nat.reduceLT, Nat.reduceLeDiff, Nat.reduceAdd, Nat.reduceMul, reduceCtorEq, Try.f79, hI, hinv, ringGo, rowsZ_len]
    repeat' (first
      | ((with_reducible refine sl_i ?_ ?_); focus kernel_rfl)
      | ((with_reducible refine ro_i ?_ ?_); focus kernel_rfl)
      | ((with_reducible refine sl_e ?_); kernel_rfl)
      | ((with_reducible refine ro_e ?_); kernel_rfl)
      | ((first | (with_reducible refine gS_d ?_ ?_) | (with_reducible refine gS_dn ?_ ?_) | (with_reducible refine gS_i ?_ ?_)) <;> intro hg <;> (try simp -dsimp (maxSteps := 1000000) only [go_sem, List.forall_mem_nil, ↓reduceIte, Nat.reduceEqDiff, Nat.reduceLT, Nat.reduceLeDiff, Nat.reduceAdd, Nat.reduceMul, reduceCtorEq, Try.f79, hI, hinv, ringGo, rowsZ_len, *])))
end Go.SX
