/-
  Draws: l01New, l01Byte, l01Below, l2Small, MakeWhole. Of what is drawn only its range is told.
  No condition.
-/
import Derived.Test.YtbhnlplbfhomcaaRlD
import Derived.Test.YtbhnlplbfhomcaaRpB
set_option linter.unusedVariables false
set_option linter.unusedSimpArgs false
namespace Go.SX
open Go Go.Proofs

theorem and255 (x : Int) : 0 ≤ bitsI .and .i64 x 255 ∧ bitsI .and .i64 x 255 < 256 := by
  have h : (BitVec.ofInt 64 x &&& BitVec.ofInt 64 255).toNat ≤ 255 := by
    rw [BitVec.toNat_and]
    have e2 : (BitVec.ofInt 64 255).toNat = 255 := by decide
    rw [e2]; exact Nat.and_le_right
  simp only [bitsI]
  rw [show (IntKind.i64.bits) = 64 from rfl, wrap_id (by omega) (by omega)]
  omega
theorem and30 (x : Int) : 0 ≤ bitsI .and .i64 x 1073741823 ∧ bitsI .and .i64 x 1073741823 < 1073741824 := by
  have h : (BitVec.ofInt 64 x &&& BitVec.ofInt 64 1073741823).toNat ≤ 1073741823 := by
    rw [BitVec.toNat_and]
    have e2 : (BitVec.ofInt 64 1073741823).toNat = 1073741823 := by decide
    rw [e2]; exact Nat.and_le_right
  simp only [bitsI]
  rw [show (IntKind.i64.bits) = 64 from rfl, wrap_id (by omega) (by omega)]
  omega
/-- A drawer's cells. -/
def hsK (l : List Int) (a h : Int) : List (List B) := [[.t (.im (.sl 1 (rowsB l))), .t (.im (.int .i64 a)), .t (.im (.int .i64 h))]]
abbrev SK (l : List Int) := { q : Int × Int // 0 ≤ q.1 ∧ q.1 ≤ l.length }
structure AKn where
  l : List Int
  len : l.length ≤ 1048576
  by_ : ∀ b ∈ l, 0 ≤ b ∧ b < 256
  a : Int
  h : Int
  a0 : 0 ≤ a
  a1 : a ≤ l.length
theorem hsK_inj {l m : List Int} {a b h k : Int} (e : hsK l a h = hsK m b k) : l = m ∧ a = b ∧ h = k := by
  simp only [hsK, List.cons.injEq, B.t.injEq, T.im.injEq, I.sl.injEq, I.int.injEq, true_and, and_true] at e
  exact ⟨rowsB_inj e.1, e.2⟩
theorem AKn_ext {x y : AKn} (h : x.l = y.l ∧ x.a = y.a ∧ x.h = y.h) : x = y := by
  obtain ⟨l, _, _, a, h1, _, _⟩ := x
  obtain ⟨m, _, _, b, k, _, _⟩ := y
  obtain ⟨rfl, rfl, rfl⟩ := h
  rfl
theorem okK {v : D} {l : List Int} {a h : Int} {n : Nat} (hv : OkD false 0 v) : OkR false { val := v, places := hsK l a h } := by
  refine ⟨hv, by simp, fun c hc x hx => ?_⟩
  simp only [hsK, List.mem_cons, List.not_mem_nil, or_false] at hc
  subst hc
  simp only [List.mem_cons, List.not_mem_nil, or_false] at hx
  rcases hx with rfl | rfl | rfl <;> exact .t _ (.im _ (.inl rfl))
theorem okDi {i : I} : OkD false 0 (.c (.im i)) := .c _ (.im _ (.inl rfl))

/-! ### l01Byte -/
abbrev QByte (l : List Int) := { q : Int × SK l // 0 ≤ q.1 ∧ q.1 < 256 }
def oByte (l : List Int) : Outs := .any (QByte l) (fun q => { val := .c (.im (.int .i64 q.1.1)), places := hsK l q.1.2.1.1 q.1.2.1.2 })
noncomputable def ct_l01Byte : Ct := fam false (fun x : AKn => ([.c (.ptr 0 0 0 0)], hsK x.l x.a x.h)) (fun x => oByte x.l)
theorem run_l01Byte {l : List Int} {a h : Int} (h1 : l.length ≤ 1048576) (h2 : ∀ b ∈ l, 0 ≤ b ∧ b < 256) (h3 : 0 ≤ a) (h4 : a ≤ l.length) : ct_l01Byte.run [.c (.ptr 0 0 0 0)] [[.t (.im (.sl 1 (rowsB l))), .t (.im (.int .i64 a)), .t (.im (.int .i64 h))]] = some (oByte l) := by
  refine fam_run' (args := fun x : AKn => ([D.c (.ptr 0 0 0 0)], hsK x.l x.a x.h)) (fun x y h => ?_) ⟨l, h1, h2, a, h, h3, h4⟩
  simp only [Prod.mk.injEq, true_and] at h
  exact AKn_ext (hsK_inj h)
theorem ne_byte (l : List Int) : Nonempty (QByte l) = True := by simp only [eq_iff_iff, iff_true]; exact ⟨⟨(0, ⟨(0, 0), by simp⟩), by simp⟩⟩
set_option maxRecDepth 100000 in
set_option maxHeartbeats 4000000 in
theorem law_l01Byte : Law Try.prog 68 ct_l01Byte := by
  refine fam_law Env_nil hmixA Try.func68 rfl rfl (fun ⟨l, h1, h2, a, h, h3, h4⟩ => ⟨okA (fun o => okK (n := 0) okDi), by simp [Try.f68], ?_⟩)
  simp only [oByte, hsK]
  have ha0 : (0 ≤ a) = True := eq_true h3
  obtain ⟨X1, hX1⟩ : ∃ x, IntKind.i64.wrap (h * 6364136223846793005) = x := ⟨_, rfl⟩
  obtain ⟨X2, hX2⟩ : ∃ x, IntKind.i64.wrap (X1 + 1442695040888963407) = x := ⟨_, rfl⟩
  obtain ⟨Y1, hY1⟩ : ∃ x, X2.fdiv (2 ^ min (Int.toNat 33) 64) = x := ⟨_, rfl⟩
  obtain ⟨Y2, hY2⟩ : ∃ x, X2.fdiv (2 ^ min (Int.toNat 45) 64) = x := ⟨_, rfl⟩
  obtain ⟨Z, hZ⟩ : ∃ x, bitsI .xor .i64 Y1 Y2 = x := ⟨_, rfl⟩
  obtain ⟨z1, z2⟩ := and255 Z
  by_cases hlt : a < l.length
  · have hI : (a < (l.length : Int)) = True := eq_true hlt
    obtain ⟨b, hb⟩ : ∃ b, l[a.toNat]? = some b := ⟨_, List.getElem?_eq_getElem (by omega)⟩
    have hrow := rowsB_at hb
    obtain ⟨r1, r2⟩ := h2 b (List.mem_of_getElem? hb)
    have hw : IntKind.i64.wrap b = b := wrap_id (by omega) (by omega)
    obtain ⟨V, hV⟩ : ∃ x, bitsI .and .i64 Z 255 = x := ⟨_, rfl⟩
    obtain ⟨U, hU⟩ : ∃ x, IntKind.i64.wrap (V + b) = x := ⟨_, rfl⟩
    obtain ⟨u1, u2⟩ := and255 U
    have hw1 : IntKind.i64.wrap (a + 1) = a + 1 := wrap_id (by omega) (by omega)
    try simp -dsimp (maxSteps := 1000000) only [go_sem, List.forall_mem_nil, ↓reduceIte, Nat.reduceEqDiff, Nat.reduceLT, Nat.reduceLeDiff, Nat.reduceAdd, Nat.reduceMul, reduceCtorEq, Try.f68, hX1, hX2, hY1, hY2, hZ, hV, hU, rowsB_len, ha0, hI, hrow, hw, hw1, Int.reduceLT, Int.reduceLE]
    repeat' (first
      | ((with_reducible refine sl_i ?_ ?_); focus kernel_rfl)
      | ((with_reducible refine ro_i ?_ ?_); focus kernel_rfl)
      | ((with_reducible refine sl_e ?_); kernel_rfl)
      | ((with_reducible refine ro_e ?_); kernel_rfl)
      | ((first | (with_reducible refine gS_d ?_ ?_) | (with_reducible refine gS_dn ?_ ?_) | (with_reducible refine gS_i ?_ ?_)) <;> intro hg <;> (try simp -dsimp (maxSteps := 1000000) only [go_sem, List.forall_mem_nil, ↓reduceIte, Nat.reduceEqDiff, Nat.reduceLT, Nat.reduceLeDiff, Nat.reduceAdd, Nat.reduceMul, reduceCtorEq, Try.f68, hX1, hX2, hY1, hY2, hZ, hV, hU, rowsB_len, ha0, hI, hrow, hw, hw1, Int.reduceLT, Int.reduceLE, *])))
    exact ⟨⟨(_, ⟨(a + 1, X2), by omega⟩), u1, u2⟩, rfl, rfl⟩
  · have hI : (a < (l.length : Int)) = False := eq_false hlt
    try simp -dsimp (maxSteps := 1000000) only [go_sem, List.forall_mem_nil, ↓reduceIte, Nat.reduceEqDiff, Nat.reduceLT, Nat.reduceLeDiff, Nat.reduceAdd, Nat.reduceMul, reduceCtorEq, Try.f68, hX1, hX2, hY1, hY2, hZ, rowsB_len, ha0, hI, Int.reduceLT, Int.reduceLE]
    repeat' (first
      | ((with_reducible refine sl_i ?_ ?_); focus kernel_rfl)
      | ((with_reducible refine ro_i ?_ ?_); focus kernel_rfl)
      | ((with_reducible refine sl_e ?_); kernel_rfl)
      | ((with_reducible refine ro_e ?_); kernel_rfl)
      | ((first | (with_reducible refine gS_d ?_ ?_) | (with_reducible refine gS_dn ?_ ?_) | (with_reducible refine gS_i ?_ ?_)) <;> intro hg <;> (try simp -dsimp (maxSteps := 1000000) only [go_sem, List.forall_mem_nil, ↓reduceIte, Nat.reduceEqDiff, Nat.reduceLT, Nat.reduceLeDiff, Nat.reduceAdd, Nat.reduceMul, reduceCtorEq, Try.f68, hX1, hX2, hY1, hY2, hZ, rowsB_len, ha0, hI, Int.reduceLT, Int.reduceLE, *])))
    exact ⟨⟨(_, ⟨(a, X2), by omega⟩), z1, z2⟩, rfl, rfl⟩

/-! ### l01New -/
theorem ne_int : Nonempty Int = True := by simp only [eq_iff_iff, iff_true]; exact ⟨0⟩
structure ABw where
  l : List Int
  len : l.length ≤ 1048576
  by_ : ∀ b ∈ l, 0 ≤ b ∧ b < 256
def oKNew (l : List Int) : Outs := .any Int (fun h => { val := .c (.ptr 0 0 0 0), roots := [.box [.t (.im (.sl 1 (rowsB l))), .t (.im (.int .i64 0)), .t (.im (.int .i64 h))]] })
noncomputable def ct_l01New : Ct := fam false (fun x : ABw => ([.c (.im (.sl 1 (rowsB x.l)))], [])) (fun x => oKNew x.l)
theorem ABw_ext {x y : ABw} (h : x.l = y.l) : x = y := by
  obtain ⟨l, _, _⟩ := x
  obtain ⟨m, _, _⟩ := y
  obtain rfl := h
  rfl
theorem run_l01New {l : List Int} (h1 : l.length ≤ 1048576) (h2 : ∀ b ∈ l, 0 ≤ b ∧ b < 256) : ct_l01New.run [.c (.im (.sl 1 (rowsB l)))] [] = some (oKNew l) := by
  refine fam_run' (args := fun x : ABw => ([D.c (.im (.sl 1 (rowsB x.l)))], [])) (fun x y h => ?_) ⟨l, h1, h2⟩
  simp only [Prod.mk.injEq, List.cons.injEq, D.c.injEq, C.im.injEq, I.sl.injEq, true_and, and_true] at h
  exact ABw_ext (rowsB_inj h)
theorem okKNew {l : List Int} {h : Int} : OkR false { val := .c (.ptr 0 0 0 0), roots := [.box [.t (.im (.sl 1 (rowsB l))), .t (.im (.int .i64 0)), .t (.im (.int .i64 h))]] } := by
  refine ⟨.c _ (.ptr _ _ _ _ (by simp)), fun r hr => ?_, by simp⟩
  simp only [List.mem_cons, List.not_mem_nil, or_false] at hr
  subst hr
  intro x hx
  simp only [List.mem_cons, List.not_mem_nil, or_false] at hx
  rcases hx with rfl | rfl | rfl <;> exact .t _ (.im _ (.inl rfl))
set_option maxRecDepth 100000 in
set_option maxHeartbeats 4000000 in
theorem law_l01New : Law Try.prog 48 ct_l01New := by
  refine fam_law Env_nil hmixA Try.func48 rfl rfl (fun ⟨l, h1, h2⟩ => ⟨okA (fun o => okKNew), by simp [Try.f48], ?_⟩)
  simp only [oKNew]
  obtain ⟨H, hH⟩ : ∃ x, IntKind.i64.wrap (3223 + (l.length : Int)) = x := ⟨_, rfl⟩
  try simp -dsimp (maxSteps := 1000000) only [go_sem, List.forall_mem_nil, ↓reduceIte, Nat.reduceEqDiff, Nat.reduceLT, Nat.reduceLeDiff, Nat.reduceAdd, Nat.reduceMul, reduceCtorEq, Try.f48, rowsB_len, hH]
  repeat' (first
    | ((with_reducible refine sl_i ?_ ?_); focus kernel_rfl)
    | ((with_reducible refine ro_i ?_ ?_); focus kernel_rfl)
    | ((with_reducible refine sl_e ?_); kernel_rfl)
    | ((with_reducible refine ro_e ?_); kernel_rfl)
    | ((first | (with_reducible refine gS_d ?_ ?_) | (with_reducible refine gS_dn ?_ ?_) | (with_reducible refine gS_i ?_ ?_)) <;> intro hg <;> (try simp -dsimp (maxSteps := 1000000) only [go_sem, List.forall_mem_nil, ↓reduceIte, Nat.reduceEqDiff, Nat.reduceLT, Nat.reduceLeDiff, Nat.reduceAdd, Nat.reduceMul, reduceCtorEq, Try.f48, rowsB_len, hH, *])))
  refine loop_i (ι := { k : Nat // k ≤ l.length } × Int) (fun x => ⟨[(0, some (.c (.im (.sl 1 (rowsB l))))), (3, some (.c (.im (.int .i64 x.2)))), (4, some (.c (.im (.int .i64 (x.1.1 : Int)))))], [], 0⟩) (fun x => l.length - x.1.1) (⟨0, by simp⟩, H) ⟨[], [], by ((simp only [ne_eq, eq_self, subF, folds, wk1, subOk, sOk, hOk, nms, reF, rho, mapD, mapC, mapC1, NmD, NmC, NmC1, mapR, mapB, mapTt, NmR, NmB, NmT, MvRb, MvRn, MvRt, lk, ins, Root.get, Root.setT, List.map_cons, List.map_nil, List.nodup_cons, List.nodup_nil, List.not_mem_nil, List.mem_cons, not_false_eq_true, and_self, and_true, true_and, true_or, or_true, false_or, or_false, ↓reduceIte, Nat.reduceEqDiff, Nat.reduceLT, Nat.reduceLeDiff, reduceCtorEq, Option.isSome_some, List.forall_mem_cons, List.forall_mem_nil, implies_true, forall_const, Nat.le_refl, Nat.zero_le, false_implies, List.mem_singleton, MvB_im, MvB_nil, Mv_im, Option.some.injEq, D.c.injEq, C.im.injEq, I.int.injEq, List.getElem?_cons_zero, List.getElem?_cons_succ, List.set_cons_zero, List.set_cons_succ, List.length_cons, List.length_nil, Nat.zero_add]) <;> (try (simp -dsimp only [ne_eq, eq_self, subF, folds, wk1, subOk, sOk, hOk, nms, reF, rho, mapD, mapC, mapC1, NmD, NmC, NmC1, mapR, mapB, mapTt, NmR, NmB, NmT, MvRb, MvRn, MvRt, lk, ins, Root.get, Root.setT, List.map_cons, List.map_nil, List.nodup_cons, List.nodup_nil, List.not_mem_nil, List.mem_cons, not_false_eq_true, and_self, and_true, true_and, true_or, or_true, false_or, or_false, ↓reduceIte, Nat.reduceEqDiff, Nat.reduceLT, Nat.reduceLeDiff, reduceCtorEq, Option.isSome_some, List.forall_mem_cons, List.forall_mem_nil, implies_true, forall_const, Nat.le_refl, Nat.zero_le, false_implies, List.mem_singleton, MvB_im, MvB_nil, Mv_im, Option.some.injEq, D.c.injEq, C.im.injEq, I.int.injEq, List.getElem?_cons_zero, List.getElem?_cons_succ, List.set_cons_zero, List.set_cons_succ, List.length_cons, List.length_nil, Nat.zero_add]))) <;> simp⟩ (fun ⟨⟨k, hk⟩, h⟩ => ?_)
  simp only
  by_cases hlt : k < l.length
  · have hI : ((k : Int) < (l.length : Int)) = True := eq_true (by omega)
    by_cases h4 : k < 4000
    · have h4' : ((k : Int) < 4000) = True := eq_true (by omega)
      obtain ⟨b, hb⟩ : ∃ b, l[k]? = some b := ⟨_, List.getElem?_eq_getElem (by omega)⟩
      have hrow := rowsB_at hb
      have h0 : (0 ≤ (k : Int)) = True := by simp
      have hwr : IntKind.i64.wrap ((k : Int) + 1) = (k : Int) + 1 := wrap_id (by omega) (by omega)
      obtain ⟨U, hU⟩ : ∃ x, IntKind.i64.wrap (h * 1103) = x := ⟨_, rfl⟩
      obtain ⟨U2, hU2⟩ : ∃ x, IntKind.i64.wrap (U + IntKind.i64.wrap b) = x := ⟨_, rfl⟩
      obtain ⟨U3, hU3⟩ : ∃ x, IntKind.i64.wrap (U2 + 7) = x := ⟨_, rfl⟩
      obtain ⟨U4, hU4⟩ : ∃ x, bitsI .and .i64 U3 1073741823 = x := ⟨_, rfl⟩
      try simp -dsimp (maxSteps := 1000000) only [go_sem, List.forall_mem_nil, ↓reduceIte, Nat.reduceEqDiff, Nat.reduceLT, Nat.reduceLeDiff, Nat.reduceAdd, Nat.reduceMul, reduceCtorEq, Try.f48, rowsB_len, hI, h4', hrow, h0, hwr, hU, hU2, hU3, hU4, Int.toNat_natCast]
      repeat' (first
        | ((with_reducible refine sl_i ?_ ?_); focus kernel_rfl)
        | ((with_reducible refine ro_i ?_ ?_); focus kernel_rfl)
        | ((with_reducible refine sl_e ?_); kernel_rfl)
        | ((with_reducible refine ro_e ?_); kernel_rfl)
        | ((first | (with_reducible refine gS_d ?_ ?_) | (with_reducible refine gS_dn ?_ ?_) | (with_reducible refine gS_i ?_ ?_)) <;> intro hg <;> (try simp -dsimp (maxSteps := 1000000) only [go_sem, List.forall_mem_nil, ↓reduceIte, Nat.reduceEqDiff, Nat.reduceLT, Nat.reduceLeDiff, Nat.reduceAdd, Nat.reduceMul, reduceCtorEq, Try.f48, rowsB_len, hI, h4', hrow, h0, hwr, hU, hU2, hU3, hU4, Int.toNat_natCast, *])))
      exact ⟨(⟨k + 1, by omega⟩, U4), by simp only []; omega, [], [], by ((simp only [ne_eq, eq_self, subF, folds, wk1, subOk, sOk, hOk, nms, reF, rho, mapD, mapC, mapC1, NmD, NmC, NmC1, mapR, mapB, mapTt, NmR, NmB, NmT, MvRb, MvRn, MvRt, lk, ins, Root.get, Root.setT, List.map_cons, List.map_nil, List.nodup_cons, List.nodup_nil, List.not_mem_nil, List.mem_cons, not_false_eq_true, and_self, and_true, true_and, true_or, or_true, false_or, or_false, ↓reduceIte, Nat.reduceEqDiff, Nat.reduceLT, Nat.reduceLeDiff, reduceCtorEq, Option.isSome_some, List.forall_mem_cons, List.forall_mem_nil, implies_true, forall_const, Nat.le_refl, Nat.zero_le, false_implies, List.mem_singleton, MvB_im, MvB_nil, Mv_im, Option.some.injEq, D.c.injEq, C.im.injEq, I.int.injEq, List.getElem?_cons_zero, List.getElem?_cons_succ, List.set_cons_zero, List.set_cons_succ, List.length_cons, List.length_nil, Nat.zero_add]) <;> (try (simp -dsimp only [ne_eq, eq_self, subF, folds, wk1, subOk, sOk, hOk, nms, reF, rho, mapD, mapC, mapC1, NmD, NmC, NmC1, mapR, mapB, mapTt, NmR, NmB, NmT, MvRb, MvRn, MvRt, lk, ins, Root.get, Root.setT, List.map_cons, List.map_nil, List.nodup_cons, List.nodup_nil, List.not_mem_nil, List.mem_cons, not_false_eq_true, and_self, and_true, true_and, true_or, or_true, false_or, or_false, ↓reduceIte, Nat.reduceEqDiff, Nat.reduceLT, Nat.reduceLeDiff, reduceCtorEq, Option.isSome_some, List.forall_mem_cons, List.forall_mem_nil, implies_true, forall_const, Nat.le_refl, Nat.zero_le, false_implies, List.mem_singleton, MvB_im, MvB_nil, Mv_im, Option.some.injEq, D.c.injEq, C.im.injEq, I.int.injEq, List.getElem?_cons_zero, List.getElem?_cons_succ, List.set_cons_zero, List.set_cons_succ, List.length_cons, List.length_nil, Nat.zero_add]))) <;> simp⟩
    · have h4' : ((k : Int) < 4000) = False := eq_false (by omega)
      try simp -dsimp (maxSteps := 1000000) only [go_sem, List.forall_mem_nil, ↓reduceIte, Nat.reduceEqDiff, Nat.reduceLT, Nat.reduceLeDiff, Nat.reduceAdd, Nat.reduceMul, reduceCtorEq, Try.f48, rowsB_len, hI, h4']
      repeat' (first
        | ((with_reducible refine sl_i ?_ ?_); focus kernel_rfl)
        | ((with_reducible refine ro_i ?_ ?_); focus kernel_rfl)
        | ((with_reducible refine sl_e ?_); kernel_rfl)
        | ((with_reducible refine ro_e ?_); kernel_rfl)
        | ((first | (with_reducible refine gS_d ?_ ?_) | (with_reducible refine gS_dn ?_ ?_) | (with_reducible refine gS_i ?_ ?_)) <;> intro hg <;> (try simp -dsimp (maxSteps := 1000000) only [go_sem, List.forall_mem_nil, ↓reduceIte, Nat.reduceEqDiff, Nat.reduceLT, Nat.reduceLeDiff, Nat.reduceAdd, Nat.reduceMul, reduceCtorEq, Try.f48, rowsB_len, hI, h4', *])))
      exact ⟨h, [0], by simp, by simp, by simp [rtOk], rfl⟩
  · have hI : ((k : Int) < (l.length : Int)) = False := eq_false (by omega)
    try simp -dsimp (maxSteps := 1000000) only [go_sem, List.forall_mem_nil, ↓reduceIte, Nat.reduceEqDiff, Nat.reduceLT, Nat.reduceLeDiff, Nat.reduceAdd, Nat.reduceMul, reduceCtorEq, Try.f48, rowsB_len, hI]
    repeat' (first
      | ((with_reducible refine sl_i ?_ ?_); focus kernel_rfl)
      | ((with_reducible refine ro_i ?_ ?_); focus kernel_rfl)
      | ((with_reducible refine sl_e ?_); kernel_rfl)
      | ((with_reducible refine ro_e ?_); kernel_rfl)
      | ((first | (with_reducible refine gS_d ?_ ?_) | (with_reducible refine gS_dn ?_ ?_) | (with_reducible refine gS_i ?_ ?_)) <;> intro hg <;> (try simp -dsimp (maxSteps := 1000000) only [go_sem, List.forall_mem_nil, ↓reduceIte, Nat.reduceEqDiff, Nat.reduceLT, Nat.reduceLeDiff, Nat.reduceAdd, Nat.reduceMul, reduceCtorEq, Try.f48, rowsB_len, hI, *])))
    exact ⟨h, [0], by simp, by simp, by simp [rtOk], rfl⟩

/-! ### l01Below -/
abbrev QBelow (l : List Int) (n : Int) := { q : Int × SK l // 0 ≤ q.1 ∧ q.1 < n }
def oBelow (l : List Int) (n : Int) : Outs := .any (QBelow l n) (fun q => { val := .c (.im (.int .i64 q.1.1)), places := hsK l q.1.2.1.1 q.1.2.1.2 })
abbrev NB := { n : Int // 1 ≤ n ∧ n ≤ 2147483648 }
noncomputable def ct_l01Below : Ct := fam false (fun x : AKn × NB => ([.c (.ptr 0 0 0 0), .c (.im (.int .i64 x.2.1))], hsK x.1.l x.1.a x.1.h)) (fun x => oBelow x.1.l x.2.1)
theorem run_l01Below {l : List Int} {a h n : Int} (h1 : l.length ≤ 1048576) (h2 : ∀ b ∈ l, 0 ≤ b ∧ b < 256) (h3 : 0 ≤ a) (h4 : a ≤ l.length) (h5 : 1 ≤ n) (h6 : n ≤ 2147483648) : ct_l01Below.run [.c (.ptr 0 0 0 0), .c (.im (.int .i64 n))] [[.t (.im (.sl 1 (rowsB l))), .t (.im (.int .i64 a)), .t (.im (.int .i64 h))]] = some (oBelow l n) := by
  refine fam_run' (args := fun x : AKn × NB => ([D.c (.ptr 0 0 0 0), .c (.im (.int .i64 x.2.1))], hsK x.1.l x.1.a x.1.h)) (fun x y h => ?_) (⟨l, h1, h2, a, h, h3, h4⟩, ⟨n, h5, h6⟩)
  simp only [Prod.mk.injEq, List.cons.injEq, D.c.injEq, C.im.injEq, I.int.injEq, true_and, and_true] at h
  exact Prod.ext (AKn_ext (hsK_inj h.2)) (Subtype.ext h.1)
theorem ne_below (l : List Int) {n : Int} (h : 1 ≤ n) : Nonempty (QBelow l n) = True := by simp only [eq_iff_iff, iff_true]; exact ⟨⟨(0, ⟨(0, 0), by simp⟩), by simp only []; omega⟩⟩
set_option maxRecDepth 100000 in
set_option maxHeartbeats 4000000 in
theorem law_l01Below : Law Try.prog 49 ct_l01Below := by
  refine fam_law (Env_cons law_l01Byte Env_nil) hmixA Try.func49 rfl rfl (fun ⟨⟨l, h1, h2, a, h, h3, h4⟩, ⟨n, n1, n2⟩⟩ => ⟨okA (fun o => okK (n := 0) okDi), by simp [Try.f49], ?_⟩)
  simp only [oBelow, hsK]
  have e0 : (n ≤ 0) = False := eq_false (by omega)
  have e00 : (n = 0) = False := eq_false (by omega)
  by_cases hn : n ≤ 256
  · have e1 : (n ≤ 256) = True := eq_true hn
    try simp -dsimp (maxSteps := 1000000) only [go_sem, List.forall_mem_nil, ↓reduceIte, Nat.reduceEqDiff, Nat.reduceLT, Nat.reduceLeDiff, Nat.reduceAdd, Nat.reduceMul, reduceCtorEq, Try.f49, e0, e1, e00, run_l01Byte h1 h2 h3 h4, oByte, hsK, ne_byte]
    repeat' (first
      | ((with_reducible refine sl_i ?_ ?_); focus kernel_rfl)
      | ((with_reducible refine ro_i ?_ ?_); focus kernel_rfl)
      | ((with_reducible refine sl_e ?_); kernel_rfl)
      | ((with_reducible refine ro_e ?_); kernel_rfl)
      | ((first | (with_reducible refine gS_d ?_ ?_) | (with_reducible refine gS_dn ?_ ?_) | (with_reducible refine gS_i ?_ ?_)) <;> intro hg <;> (try simp -dsimp (maxSteps := 1000000) only [go_sem, List.forall_mem_nil, ↓reduceIte, Nat.reduceEqDiff, Nat.reduceLT, Nat.reduceLeDiff, Nat.reduceAdd, Nat.reduceMul, reduceCtorEq, Try.f49, e0, e1, e00, run_l01Byte h1 h2 h3 h4, oByte, hsK, ne_byte, *])))
    rintro ⟨⟨v, ⟨⟨a1, k1⟩, b1⟩⟩, v1, v2⟩
    try simp -dsimp (maxSteps := 1000000) only [go_sem, List.forall_mem_nil, ↓reduceIte, Nat.reduceEqDiff, Nat.reduceLT, Nat.reduceLeDiff, Nat.reduceAdd, Nat.reduceMul, reduceCtorEq, Try.f49, e0, e1, e00, hsK]
    repeat' (first
      | ((with_reducible refine sl_i ?_ ?_); focus kernel_rfl)
      | ((with_reducible refine ro_i ?_ ?_); focus kernel_rfl)
      | ((with_reducible refine sl_e ?_); kernel_rfl)
      | ((with_reducible refine ro_e ?_); kernel_rfl)
      | ((first | (with_reducible refine gS_d ?_ ?_) | (with_reducible refine gS_dn ?_ ?_) | (with_reducible refine gS_i ?_ ?_)) <;> intro hg <;> (try simp -dsimp (maxSteps := 1000000) only [go_sem, List.forall_mem_nil, ↓reduceIte, Nat.reduceEqDiff, Nat.reduceLT, Nat.reduceLeDiff, Nat.reduceAdd, Nat.reduceMul, reduceCtorEq, Try.f49, e0, e1, e00, hsK, *])))
    exact ⟨⟨(_, ⟨(a1, k1), b1⟩), Int.tmod_nonneg _ v1, Int.tmod_lt_of_pos _ (by omega)⟩, rfl, rfl⟩
  · have e1 : (n ≤ 256) = False := eq_false hn
    try simp -dsimp (maxSteps := 1000000) only [go_sem, List.forall_mem_nil, ↓reduceIte, Nat.reduceEqDiff, Nat.reduceLT, Nat.reduceLeDiff, Nat.reduceAdd, Nat.reduceMul, reduceCtorEq, Try.f49, e0, e1, e00, run_l01Byte h1 h2 h3 h4, oByte, hsK, ne_byte]
    repeat' (first
      | ((with_reducible refine sl_i ?_ ?_); focus kernel_rfl)
      | ((with_reducible refine ro_i ?_ ?_); focus kernel_rfl)
      | ((with_reducible refine sl_e ?_); kernel_rfl)
      | ((with_reducible refine ro_e ?_); kernel_rfl)
      | ((first | (with_reducible refine gS_d ?_ ?_) | (with_reducible refine gS_dn ?_ ?_) | (with_reducible refine gS_i ?_ ?_)) <;> intro hg <;> (try simp -dsimp (maxSteps := 1000000) only [go_sem, List.forall_mem_nil, ↓reduceIte, Nat.reduceEqDiff, Nat.reduceLT, Nat.reduceLeDiff, Nat.reduceAdd, Nat.reduceMul, reduceCtorEq, Try.f49, e0, e1, e00, run_l01Byte h1 h2 h3 h4, oByte, hsK, ne_byte, *])))
    rintro ⟨⟨x, ⟨⟨a1, k1⟩, b1⟩⟩, x1, x2⟩
    try simp -dsimp (maxSteps := 1000000) only [go_sem, List.forall_mem_nil, ↓reduceIte, Nat.reduceEqDiff, Nat.reduceLT, Nat.reduceLeDiff, Nat.reduceAdd, Nat.reduceMul, reduceCtorEq, Try.f49, e00, run_l01Byte h1 h2 b1.1 b1.2, oByte, hsK, ne_byte]
    repeat' (first
      | ((with_reducible refine sl_i ?_ ?_); focus kernel_rfl)
      | ((with_reducible refine ro_i ?_ ?_); focus kernel_rfl)
      | ((with_reducible refine sl_e ?_); kernel_rfl)
      | ((with_reducible refine ro_e ?_); kernel_rfl)
      | ((first | (with_reducible refine gS_d ?_ ?_) | (with_reducible refine gS_dn ?_ ?_) | (with_reducible refine gS_i ?_ ?_)) <;> intro hg <;> (try simp -dsimp (maxSteps := 1000000) only [go_sem, List.forall_mem_nil, ↓reduceIte, Nat.reduceEqDiff, Nat.reduceLT, Nat.reduceLeDiff, Nat.reduceAdd, Nat.reduceMul, reduceCtorEq, Try.f49, e00, run_l01Byte h1 h2 b1.1 b1.2, oByte, hsK, ne_byte, *])))
    rintro ⟨⟨y, ⟨⟨a2, k2⟩, b2⟩⟩, y1, y2⟩
    try simp -dsimp (maxSteps := 1000000) only [go_sem, List.forall_mem_nil, ↓reduceIte, Nat.reduceEqDiff, Nat.reduceLT, Nat.reduceLeDiff, Nat.reduceAdd, Nat.reduceMul, reduceCtorEq, Try.f49, e00, run_l01Byte h1 h2 b2.1 b2.2, oByte, hsK, ne_byte]
    repeat' (first
      | ((with_reducible refine sl_i ?_ ?_); focus kernel_rfl)
      | ((with_reducible refine ro_i ?_ ?_); focus kernel_rfl)
      | ((with_reducible refine sl_e ?_); kernel_rfl)
      | ((with_reducible refine ro_e ?_); kernel_rfl)
      | ((first | (with_reducible refine gS_d ?_ ?_) | (with_reducible refine gS_dn ?_ ?_) | (with_reducible refine gS_i ?_ ?_)) <;> intro hg <;> (try simp -dsimp (maxSteps := 1000000) only [go_sem, List.forall_mem_nil, ↓reduceIte, Nat.reduceEqDiff, Nat.reduceLT, Nat.reduceLeDiff, Nat.reduceAdd, Nat.reduceMul, reduceCtorEq, Try.f49, e00, run_l01Byte h1 h2 b2.1 b2.2, oByte, hsK, ne_byte, *])))
    rintro ⟨⟨z, ⟨⟨a3, k3⟩, b3⟩⟩, z1, z2⟩
    try simp -dsimp (maxSteps := 1000000) only [go_sem, List.forall_mem_nil, ↓reduceIte, Nat.reduceEqDiff, Nat.reduceLT, Nat.reduceLeDiff, Nat.reduceAdd, Nat.reduceMul, reduceCtorEq, Try.f49, e00, run_l01Byte h1 h2 b3.1 b3.2, oByte, hsK, ne_byte]
    repeat' (first
      | ((with_reducible refine sl_i ?_ ?_); focus kernel_rfl)
      | ((with_reducible refine ro_i ?_ ?_); focus kernel_rfl)
      | ((with_reducible refine sl_e ?_); kernel_rfl)
      | ((with_reducible refine ro_e ?_); kernel_rfl)
      | ((first | (with_reducible refine gS_d ?_ ?_) | (with_reducible refine gS_dn ?_ ?_) | (with_reducible refine gS_i ?_ ?_)) <;> intro hg <;> (try simp -dsimp (maxSteps := 1000000) only [go_sem, List.forall_mem_nil, ↓reduceIte, Nat.reduceEqDiff, Nat.reduceLT, Nat.reduceLeDiff, Nat.reduceAdd, Nat.reduceMul, reduceCtorEq, Try.f49, e00, run_l01Byte h1 h2 b3.1 b3.2, oByte, hsK, ne_byte, *])))
    rintro ⟨⟨w, ⟨⟨a4, k4⟩, b4⟩⟩, w1, w2⟩
    simp only at x1 x2 y1 y2 z1 z2 w1 w2 b4
    have q1 : IntKind.i64.wrap (x * 16777216) = x * 16777216 := wrap_id (by omega) (by omega)
    have q2 : IntKind.i64.wrap (y * 65536) = y * 65536 := wrap_id (by omega) (by omega)
    have q3 : IntKind.i64.wrap (z * 256) = z * 256 := wrap_id (by omega) (by omega)
    have q4 : IntKind.i64.wrap (x * 16777216 + y * 65536) = x * 16777216 + y * 65536 := wrap_id (by omega) (by omega)
    have q5 : IntKind.i64.wrap (x * 16777216 + y * 65536 + z * 256) = x * 16777216 + y * 65536 + z * 256 := wrap_id (by omega) (by omega)
    obtain ⟨s, hs⟩ : ∃ s, IntKind.i64.wrap (x * 16777216 + y * 65536 + z * 256 + w) = s := ⟨_, rfl⟩
    have s1 : 0 ≤ s := by rw [← hs, wrap_id (by omega) (by omega)]; omega
    try simp -dsimp (maxSteps := 1000000) only [go_sem, List.forall_mem_nil, ↓reduceIte, Nat.reduceEqDiff, Nat.reduceLT, Nat.reduceLeDiff, Nat.reduceAdd, Nat.reduceMul, reduceCtorEq, Try.f49, e00, hsK, q1, q2, q3, q4, q5, hs]
    repeat' (first
      | ((with_reducible refine sl_i ?_ ?_); focus kernel_rfl)
      | ((with_reducible refine ro_i ?_ ?_); focus kernel_rfl)
      | ((with_reducible refine sl_e ?_); kernel_rfl)
      | ((with_reducible refine ro_e ?_); kernel_rfl)
      | ((first | (with_reducible refine gS_d ?_ ?_) | (with_reducible refine gS_dn ?_ ?_) | (with_reducible refine gS_i ?_ ?_)) <;> intro hg <;> (try simp -dsimp (maxSteps := 1000000) only [go_sem, List.forall_mem_nil, ↓reduceIte, Nat.reduceEqDiff, Nat.reduceLT, Nat.reduceLeDiff, Nat.reduceAdd, Nat.reduceMul, reduceCtorEq, Try.f49, e00, hsK, q1, q2, q3, q4, q5, hs, *])))
    exact ⟨⟨(_, ⟨(a4, k4), b4⟩), Int.tmod_nonneg _ s1, Int.tmod_lt_of_pos _ (by omega)⟩, rfl, rfl⟩

/-! ### l2Small -/
abbrev QSmall (l : List Int) := { q : (Int × Int) × SK l // -3 ≤ q.1.1 ∧ q.1.1 ≤ 3 ∧ -3 ≤ q.1.2 ∧ q.1.2 ≤ 3 }
def oSmall (l : List Int) : Outs := .any (QSmall l) (fun q => { val := .c (.im (.cpx .f32 (wI q.1.1.1) (wI q.1.1.2))), places := hsK l q.1.2.1.1 q.1.2.1.2 })
noncomputable def ct_l2Small : Ct := fam false (fun x : AKn => ([.c (.ptr 0 0 0 0)], hsK x.l x.a x.h)) (fun x => oSmall x.l)
theorem run_l2Small {l : List Int} {a h : Int} (h1 : l.length ≤ 1048576) (h2 : ∀ b ∈ l, 0 ≤ b ∧ b < 256) (h3 : 0 ≤ a) (h4 : a ≤ l.length) : ct_l2Small.run [.c (.ptr 0 0 0 0)] [[.t (.im (.sl 1 (rowsB l))), .t (.im (.int .i64 a)), .t (.im (.int .i64 h))]] = some (oSmall l) := by
  refine fam_run' (args := fun x : AKn => ([D.c (.ptr 0 0 0 0)], hsK x.l x.a x.h)) (fun x y h => ?_) ⟨l, h1, h2, a, h, h3, h4⟩
  simp only [Prod.mk.injEq, true_and] at h
  exact AKn_ext (hsK_inj h)
theorem ne_small (l : List Int) : Nonempty (QSmall l) = True := by simp only [eq_iff_iff, iff_true]; exact ⟨⟨((0, 0), ⟨(0, 0), by simp⟩), by simp⟩⟩
set_option maxRecDepth 100000 in
set_option maxHeartbeats 4000000 in
theorem law_l2Small : Law Try.prog 50 ct_l2Small := by
  refine fam_law (Env_cons law_l01Below Env_nil) hmixA Try.func50 rfl rfl (fun ⟨l, h1, h2, a, h, h3, h4⟩ => ⟨okA (fun o => okK (n := 0) okDi), by simp [Try.f50], ?_⟩)
  simp only [oSmall, hsK]
  try simp -dsimp (maxSteps := 1000000) only [go_sem, List.forall_mem_nil, ↓reduceIte, Nat.reduceEqDiff, Nat.reduceLT, Nat.reduceLeDiff, Nat.reduceAdd, Nat.reduceMul, reduceCtorEq, Try.f50, run_l01Below h1 h2 h3 h4 (n := 7) (by decide) (by decide), oBelow, hsK, ne_below l (n := 7) (by decide)]
  repeat' (first
    | ((with_reducible refine sl_i ?_ ?_); focus kernel_rfl)
    | ((with_reducible refine ro_i ?_ ?_); focus kernel_rfl)
    | ((with_reducible refine sl_e ?_); kernel_rfl)
    | ((with_reducible refine ro_e ?_); kernel_rfl)
    | ((first | (with_reducible refine gS_d ?_ ?_) | (with_reducible refine gS_dn ?_ ?_) | (with_reducible refine gS_i ?_ ?_)) <;> intro hg <;> (try simp -dsimp (maxSteps := 1000000) only [go_sem, List.forall_mem_nil, ↓reduceIte, Nat.reduceEqDiff, Nat.reduceLT, Nat.reduceLeDiff, Nat.reduceAdd, Nat.reduceMul, reduceCtorEq, Try.f50, run_l01Below h1 h2 h3 h4 (n := 7) (by decide) (by decide), oBelow, hsK, ne_below l (n := 7) (by decide), *])))
  rintro ⟨⟨u, ⟨⟨a1, k1⟩, b1⟩⟩, u1, u2⟩
  have hu : IntKind.i64.wrap (u - 3) = u - 3 := wrap_id (by simp only at u1; omega) (by simp only at u2; omega)
  try simp -dsimp (maxSteps := 1000000) only [go_sem, List.forall_mem_nil, ↓reduceIte, Nat.reduceEqDiff, Nat.reduceLT, Nat.reduceLeDiff, Nat.reduceAdd, Nat.reduceMul, reduceCtorEq, Try.f50, hu, run_l01Below h1 h2 b1.1 b1.2 (n := 7) (by decide) (by decide), oBelow, hsK, ne_below l (n := 7) (by decide)]
  repeat' (first
    | ((with_reducible refine sl_i ?_ ?_); focus kernel_rfl)
    | ((with_reducible refine ro_i ?_ ?_); focus kernel_rfl)
    | ((with_reducible refine sl_e ?_); kernel_rfl)
    | ((with_reducible refine ro_e ?_); kernel_rfl)
    | ((first | (with_reducible refine gS_d ?_ ?_) | (with_reducible refine gS_dn ?_ ?_) | (with_reducible refine gS_i ?_ ?_)) <;> intro hg <;> (try simp -dsimp (maxSteps := 1000000) only [go_sem, List.forall_mem_nil, ↓reduceIte, Nat.reduceEqDiff, Nat.reduceLT, Nat.reduceLeDiff, Nat.reduceAdd, Nat.reduceMul, reduceCtorEq, Try.f50, hu, run_l01Below h1 h2 b1.1 b1.2 (n := 7) (by decide) (by decide), oBelow, hsK, ne_below l (n := 7) (by decide), *])))
  rintro ⟨⟨v, ⟨⟨a2, k2⟩, b2⟩⟩, v1, v2⟩
  have hv : IntKind.i64.wrap (v - 3) = v - 3 := wrap_id (by simp only at v1; omega) (by simp only at v2; omega)
  try simp -dsimp (maxSteps := 1000000) only [go_sem, List.forall_mem_nil, ↓reduceIte, Nat.reduceEqDiff, Nat.reduceLT, Nat.reduceLeDiff, Nat.reduceAdd, Nat.reduceMul, reduceCtorEq, Try.f50, hu, hv, hsK]
  repeat' (first
    | ((with_reducible refine sl_i ?_ ?_); focus kernel_rfl)
    | ((with_reducible refine ro_i ?_ ?_); focus kernel_rfl)
    | ((with_reducible refine sl_e ?_); kernel_rfl)
    | ((with_reducible refine ro_e ?_); kernel_rfl)
    | ((first | (with_reducible refine gS_d ?_ ?_) | (with_reducible refine gS_dn ?_ ?_) | (with_reducible refine gS_i ?_ ?_)) <;> intro hg <;> (try simp -dsimp (maxSteps := 1000000) only [go_sem, List.forall_mem_nil, ↓reduceIte, Nat.reduceEqDiff, Nat.reduceLT, Nat.reduceLeDiff, Nat.reduceAdd, Nat.reduceMul, reduceCtorEq, Try.f50, hu, hv, hsK, *])))
  exact ⟨⟨((u - 3, v - 3), ⟨(a2, k2), b2⟩), by simp only at u1 u2 v1 v2 ⊢; omega⟩, rfl, rfl, rfl⟩
end Go.SX
