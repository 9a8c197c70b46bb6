/-
  laws.at, laws.equal.
  No condition.
-/
import Derived.Test.YtbhnlplbfhomcaaRkU
set_option linter.unusedVariables false
set_option linter.unusedSimpArgs false
namespace Go.SX
open Go Go.Proofs

def rowsB (l : List Int) : List (List I) := l.map fun b => [.int .u8 b]
theorem rowsB_len (l : List Int) : (rowsB l).length = l.length := by simp [rowsB]
theorem rowsB_at {l : List Int} {k : Nat} {b : Int} (h : l[k]? = some b) : (rowsB l)[k]? = some [.int .u8 b] := by simp [rowsB, h]
theorem rowsB_inj {a b : List Int} (h : rowsB a = rowsB b) : a = b := by
  induction a generalizing b with
  | nil => cases b with
    | nil => rfl
    | cons y b => simp [rowsB] at h
  | cons x a ih => cases b with
    | nil => simp [rowsB] at h
    | cons y b =>
      simp only [rowsB, List.map_cons, List.cons.injEq, I.int.injEq, true_and, and_true] at h
      rw [h.1, ih h.2]
structure ABy where
  l : List Int
  len : l.length ≤ 1048576
  by_ : ∀ b ∈ l, 0 ≤ b ∧ b < 256
def atF (l : List Int) (i : Nat) : Int := match l[i]? with
  | some b => b
  | none => ((i : Int) * 37 + l.length * 11) % 256
noncomputable def ct_at : Ct := fam true (fun x : ABy × { i : Nat // i ≤ 1000 } => ([.c (.im (.sl 1 (rowsB x.1.l))), .c (.im (.int .i64 (x.2.1 : Int)))], [])) (fun x => .one { val := .c (.im (.int .i64 (atF x.1.l x.2.1))) })
theorem run_at {l : List Int} (h1 : l.length ≤ 1048576) (h2 : ∀ b ∈ l, 0 ≤ b ∧ b < 256) {i : Nat} (hi : i ≤ 1000) : ct_at.run [.c (.im (.sl 1 (rowsB l))), .c (.im (.int .i64 (i : Int)))] [] = some (.one { val := .c (.im (.int .i64 (atF l i))) }) := by
  refine fam_run' (args := fun x : ABy × { i : Nat // i ≤ 1000 } => ([D.c (.im (.sl 1 (rowsB x.1.l))), .c (.im (.int .i64 (x.2.1 : Int)))], [])) ?_ (⟨l, h1, h2⟩, ⟨i, hi⟩)
  rintro ⟨⟨a, _, _⟩, ⟨i, _⟩⟩ ⟨⟨a', _, _⟩, ⟨i', _⟩⟩ h
  simp only [Prod.mk.injEq, List.cons.injEq, D.c.injEq, C.im.injEq, I.sl.injEq, I.int.injEq, true_and, and_true] at h
  obtain ⟨h, h'⟩ := h
  have h := rowsB_inj h
  have : i = i' := by omega
  subst this; subst h; rfl
set_option maxRecDepth 100000 in
theorem law_at : Law Try.prog 15 ct_at := by
  refine fam_law Env_nil hmixA Try.func15 rfl rfl (fun ⟨⟨l, h1, h2⟩, ⟨k, hk⟩⟩ => ⟨okO_im rfl, by simp [Try.f15], ?_⟩)
  simp only
  have h0 : (0 ≤ (k : Int)) = True := by simp
  by_cases hlt : k < l.length
  · obtain ⟨b, hb⟩ : ∃ b, l[k]? = some b := ⟨_, List.getElem?_eq_getElem hlt⟩
    have hrow := rowsB_at hb
    have hI : ((k : Int) < (l.length : Int)) = True := by simp; omega
    have hat : atF l k = b := by simp [atF, hb]
    obtain ⟨r1, r2⟩ := h2 b (List.mem_of_getElem? hb)
    have hw : IntKind.i64.wrap b = b := wrap_id (by omega) (by omega)
    try simp -dsimp (maxSteps := 1000000) only [go_sem, List.forall_mem_nil, ↓reduceIte, Nat.reduceEqDiff, Nat.reduceLT, Nat.reduceLeDiff, Nat.reduceAdd, Nat.reduceMul, reduceCtorEq, Try.f15, rowsB_len, h0, hI, Int.toNat_natCast, hrow, hat, hw]
    repeat' (first
      | ((with_reducible refine sl_i ?_ ?_); focus kernel_rfl)
      | ((with_reducible refine ro_i ?_ ?_); focus kernel_rfl)
      | ((with_reducible refine sl_e ?_); kernel_rfl)
      | ((with_reducible refine ro_e ?_); kernel_rfl)
      | ((first | (with_reducible refine gS_d ?_ ?_) | (with_reducible refine gS_dn ?_ ?_) | (with_reducible refine gS_i ?_ ?_)) <;> intro hg <;> (try simp -dsimp (maxSteps := 1000000) only [go_sem, List.forall_mem_nil, ↓reduceIte, Nat.reduceEqDiff, Nat.reduceLT, Nat.reduceLeDiff, Nat.reduceAdd, Nat.reduceMul, reduceCtorEq, Try.f15, rowsB_len, h0, hI, Int.toNat_natCast, hrow, hat, hw, *])))
  · have hI : ((k : Int) < (l.length : Int)) = False := by simp; omega
    have hat : atF l k = ((k : Int) * 37 + (l.length : Int) * 11) % 256 := by simp [atF, List.getElem?_eq_none (show l.length ≤ k by omega)]
    have w1 : IntKind.i64.wrap ((k : Int) * 37) = (k : Int) * 37 := wrap_id (by omega) (by omega)
    have w2 : IntKind.i64.wrap ((l.length : Int) * 11) = (l.length : Int) * 11 := wrap_id (by omega) (by omega)
    have w3 : IntKind.i64.wrap ((k : Int) * 37 + (l.length : Int) * 11) = (k : Int) * 37 + (l.length : Int) * 11 := wrap_id (by omega) (by omega)
    have w4 : ((k : Int) * 37 + (l.length : Int) * 11).tmod 256 = ((k : Int) * 37 + (l.length : Int) * 11) % 256 := Int.tmod_eq_emod_of_nonneg (by omega)
    have h256 : ((256 : Int) = 0) = False := by simp
    try simp -dsimp (maxSteps := 1000000) only [go_sem, List.forall_mem_nil, ↓reduceIte, Nat.reduceEqDiff, Nat.reduceLT, Nat.reduceLeDiff, Nat.reduceAdd, Nat.reduceMul, reduceCtorEq, Try.f15, rowsB_len, h0, hI, Int.toNat_natCast, hat, w1, w2, w3, w4, h256]
    repeat' (first
      | ((with_reducible refine sl_i ?_ ?_); focus kernel_rfl)
      | ((with_reducible refine ro_i ?_ ?_); focus kernel_rfl)
      | ((with_reducible refine sl_e ?_); kernel_rfl)
      | ((with_reducible refine ro_e ?_); kernel_rfl)
      | ((first | (with_reducible refine gS_d ?_ ?_) | (with_reducible refine gS_dn ?_ ?_) | (with_reducible refine gS_i ?_ ?_)) <;> intro hg <;> (try simp -dsimp (maxSteps := 1000000) only [go_sem, List.forall_mem_nil, ↓reduceIte, Nat.reduceEqDiff, Nat.reduceLT, Nat.reduceLeDiff, Nat.reduceAdd, Nat.reduceMul, reduceCtorEq, Try.f15, rowsB_len, h0, hI, Int.toNat_natCast, hat, w1, w2, w3, w4, h256, *])))

def eqZFrom : List Pt → List Pt → Bool
  | [], _ => true
  | p :: l, q :: m => eqPt p q && eqZFrom l m
  | _, [] => false
def eqZ (l m : List Pt) : Bool := decide (l.length = m.length) && eqZFrom l m
theorem eqZFrom_drop {l m : List Pt} {k : Nat} {p q : Pt} (h : l[k]? = some p) (h' : m[k]? = some q) : eqZFrom (l.drop k) (m.drop k) = (eqPt p q && eqZFrom (l.drop (k + 1)) (m.drop (k + 1))) := by
  have hlt : k < l.length := (List.getElem?_eq_some_iff.1 h).1
  have hlt' : k < m.length := (List.getElem?_eq_some_iff.1 h').1
  have hp : l[k] = p := by rw [List.getElem?_eq_getElem hlt] at h; injection h
  have hp' : m[k] = q := by rw [List.getElem?_eq_getElem hlt'] at h'; injection h'
  rw [List.drop_eq_getElem_cons hlt, List.drop_eq_getElem_cons hlt', hp, hp']; rfl
structure AEq where
  l : List Pt
  m : List Pt
  ll : l.length ≤ sm
  ml : m.length ≤ sm
noncomputable def ct_equal : Ct := fam true (fun x : AEq => ([.c (.im (.sl 1 (rowsZ x.l))), .c (.im (.sl 1 (rowsZ x.m)))], [])) (fun x => .one { val := .c (.im (.bool (eqZ x.l x.m))) })
theorem run_equal {l m : List Pt} (h1 : l.length ≤ sm) (h2 : m.length ≤ sm) : ct_equal.run [.c (.im (.sl 1 (rowsZ l))), .c (.im (.sl 1 (rowsZ m)))] [] = some (.one { val := .c (.im (.bool (eqZ l m))) }) := by
  refine fam_run' (args := fun x : AEq => ([D.c (.im (.sl 1 (rowsZ x.l))), .c (.im (.sl 1 (rowsZ x.m)))], [])) ?_ ⟨l, m, h1, h2⟩
  rintro ⟨a, b, _, _⟩ ⟨a', b', _, _⟩ h
  simp [rowsZ_eq] at h ⊢
  exact h
theorem sc_equal : (ct_equal.sc = true) = True := by simp [ct_equal, fam]
set_option maxRecDepth 100000 in
theorem law_equal : Law Try.prog 20 ct_equal := by
  refine fam_law Env_nil hmixA Try.func20 rfl rfl (fun ⟨l, m, h1, h2⟩ => ⟨okO_im rfl, by simp [Try.f20], ?_⟩)
  simp only
  by_cases hlm : l.length = m.length
  rotate_left
  · have hl : ((l.length : Int) = (m.length : Int)) = False := eq_false (by omega)
    have hF : eqZ l m = false := by simp [eqZ, hlm]
    clear hlm
    try simp -dsimp (maxSteps := 1000000) only [go_sem, List.forall_mem_nil, ↓reduceIte, Nat.reduceEqDiff, Nat.reduceLT, Nat.reduceLeDiff, Nat.reduceAdd, Nat.reduceMul, reduceCtorEq, Try.f20, rowsZ_len, hl, hF]
    repeat' (first
      | ((with_reducible refine sl_i ?_ ?_); focus kernel_rfl)
      | ((with_reducible refine ro_i ?_ ?_); focus kernel_rfl)
      | ((with_reducible refine sl_e ?_); kernel_rfl)
      | ((with_reducible refine ro_e ?_); kernel_rfl)
      | ((first | (with_reducible refine gS_d ?_ ?_) | (with_reducible refine gS_dn ?_ ?_) | (with_reducible refine gS_i ?_ ?_)) <;> intro hg <;> (try simp -dsimp (maxSteps := 1000000) only [go_sem, List.forall_mem_nil, ↓reduceIte, Nat.reduceEqDiff, Nat.reduceLT, Nat.reduceLeDiff, Nat.reduceAdd, Nat.reduceMul, reduceCtorEq, Try.f20, rowsZ_len, hl, hF, *])))
  have hl : ((l.length : Int) = (m.length : Int)) = True := eq_true (by omega)
  have hF : eqZ l m = eqZFrom l m := by simp [eqZ, hlm]
  rw [hF]
  clear hF
  try simp -dsimp (maxSteps := 1000000) only [go_sem, List.forall_mem_nil, ↓reduceIte, Nat.reduceEqDiff, Nat.reduceLT, Nat.reduceLeDiff, Nat.reduceAdd, Nat.reduceMul, reduceCtorEq, Try.f20, rowsZ_len, hl]
  repeat' (first
    | ((with_reducible refine sl_i ?_ ?_); focus kernel_rfl)
    | ((with_reducible refine ro_i ?_ ?_); focus kernel_rfl)
    | ((with_reducible refine sl_e ?_); kernel_rfl)
    | ((with_reducible refine ro_e ?_); kernel_rfl)
    | ((first | (with_reducible refine gS_d ?_ ?_) | (with_reducible refine gS_dn ?_ ?_) | (with_reducible refine gS_i ?_ ?_)) <;> intro hg <;> (try simp -dsimp (maxSteps := 1000000) only [go_sem, List.forall_mem_nil, ↓reduceIte, Nat.reduceEqDiff, Nat.reduceLT, Nat.reduceLeDiff, Nat.reduceAdd, Nat.reduceMul, reduceCtorEq, Try.f20, rowsZ_len, hl, *])))
  refine loop_i (ι := { k : Nat // k ≤ l.length ∧ eqZFrom l m = eqZFrom (l.drop k) (m.drop k) }) (fun k => ⟨[(0, some (.c (.im (.sl 1 (rowsZ l))))), (1, some (.c (.im (.sl 1 (rowsZ m))))), (12, some (.c (.im (.int .i64 (l.length : Int))))), (13, some (.c (.im (.int .i64 (k.1 : Int)))))], [], 0⟩) (fun k => l.length - k.1) ⟨0, by simp⟩ ⟨[], [], by ((simp only [ne_eq, eq_self, subF, folds, wk1, subOk, sOk, hOk, nms, reF, rho, mapD, mapC, mapC1, NmD, NmC, NmC1, mapR, mapB, mapTt, NmR, NmB, NmT, MvRb, MvRn, MvRt, lk, ins, Root.get, Root.setT, List.map_cons, List.map_nil, List.nodup_cons, List.nodup_nil, List.not_mem_nil, List.mem_cons, not_false_eq_true, and_self, and_true, true_and, true_or, or_true, false_or, or_false, ↓reduceIte, Nat.reduceEqDiff, Nat.reduceLT, Nat.reduceLeDiff, reduceCtorEq, Option.isSome_some, List.forall_mem_cons, List.forall_mem_nil, implies_true, forall_const, Nat.le_refl, Nat.zero_le, false_implies, List.mem_singleton, MvB_im, MvB_nil, Mv_im, Option.some.injEq, D.c.injEq, C.im.injEq, I.int.injEq, List.getElem?_cons_zero, List.getElem?_cons_succ, List.set_cons_zero, List.set_cons_succ, List.length_cons, List.length_nil, Nat.zero_add]) <;> (try (simp -dsimp only [ne_eq, eq_self, subF, folds, wk1, subOk, sOk, hOk, nms, reF, rho, mapD, mapC, mapC1, NmD, NmC, NmC1, mapR, mapB, mapTt, NmR, NmB, NmT, MvRb, MvRn, MvRt, lk, ins, Root.get, Root.setT, List.map_cons, List.map_nil, List.nodup_cons, List.nodup_nil, List.not_mem_nil, List.mem_cons, not_false_eq_true, and_self, and_true, true_and, true_or, or_true, false_or, or_false, ↓reduceIte, Nat.reduceEqDiff, Nat.reduceLT, Nat.reduceLeDiff, reduceCtorEq, Option.isSome_some, List.forall_mem_cons, List.forall_mem_nil, implies_true, forall_const, Nat.le_refl, Nat.zero_le, false_implies, List.mem_singleton, MvB_im, MvB_nil, Mv_im, Option.some.injEq, D.c.injEq, C.im.injEq, I.int.injEq, List.getElem?_cons_zero, List.getElem?_cons_succ, List.set_cons_zero, List.set_cons_succ, List.length_cons, List.length_nil, Nat.zero_add]))) <;> simp [hlm]⟩ (fun ⟨k, hk, hinv⟩ => ?_)
  by_cases hlt : k < l.length
  · obtain ⟨p, hp⟩ : ∃ p, l[k]? = some p := ⟨_, List.getElem?_eq_getElem hlt⟩
    obtain ⟨q, hq⟩ : ∃ q, m[k]? = some q := ⟨_, List.getElem?_eq_getElem (show k < m.length by omega)⟩
    have hrow := rowsZ_at hp
    have hrow' := rowsZ_at hq
    have hI : ((k : Int) < (l.length : Int)) = True := by simp; omega
    have hI' : ((k : Int) < (m.length : Int)) = True := by simp; omega
    have h0 : (0 ≤ (k : Int)) = True := by simp
    have hidx := eqZFrom_drop hp hq
    have hwr := lt_sm h1 hlt
    try simp -dsimp (maxSteps := 1000000) only [go_sem, List.forall_mem_nil, ↓reduceIte, Nat.reduceEqDiff, Nat.reduceLT, Nat.reduceLeDiff, Nat.reduceAdd, Nat.reduceMul, reduceCtorEq, Try.f20, hI, hI', h0, Int.toNat_natCast, hrow, hrow', hwr, rowsZ_len]
    repeat' (first
      | ((with_reducible refine sl_i ?_ ?_); focus kernel_rfl)
      | ((with_reducible refine ro_i ?_ ?_); focus kernel_rfl)
      | ((with_reducible refine sl_e ?_); kernel_rfl)
      | ((with_reducible refine ro_e ?_); kernel_rfl)
      | ((first | (with_reducible refine gS_d ?_ ?_) | (with_reducible refine gS_dn ?_ ?_) | (with_reducible refine gS_i ?_ ?_)) <;> intro hg <;> (try simp -dsimp (maxSteps := 1000000) only [go_sem, List.forall_mem_nil, ↓reduceIte, Nat.reduceEqDiff, Nat.reduceLT, Nat.reduceLeDiff, Nat.reduceAdd, Nat.reduceMul, reduceCtorEq, Try.f20, hI, hI', h0, Int.toNat_natCast, hrow, hrow', hwr, rowsZ_len, *])))
    · have hb : eqPt p q = false := by rw [Bool.not_eq_true'] at hg; exact hg
      simp [hb]
    · have hb : eqPt p q = true := by simpa [eqPt] using hg
      refine ⟨⟨k + 1, by omega, hinv.trans (hidx.trans (by rw [hb, Bool.true_and]))⟩, by simp only []; omega, [], [], by ((simp only [ne_eq, eq_self, subF, folds, wk1, subOk, sOk, hOk, nms, reF, rho, mapD, mapC, mapC1, NmD, NmC, NmC1, mapR, mapB, mapTt, NmR, NmB, NmT, MvRb, MvRn, MvRt, lk, ins, Root.get, Root.setT, List.map_cons, List.map_nil, List.nodup_cons, List.nodup_nil, List.not_mem_nil, List.mem_cons, not_false_eq_true, and_self, and_true, true_and, true_or, or_true, false_or, or_false, ↓reduceIte, Nat.reduceEqDiff, Nat.reduceLT, Nat.reduceLeDiff, reduceCtorEq, Option.isSome_some, List.forall_mem_cons, List.forall_mem_nil, implies_true, forall_const, Nat.le_refl, Nat.zero_le, false_implies, List.mem_singleton, MvB_im, MvB_nil, Mv_im, Option.some.injEq, D.c.injEq, C.im.injEq, I.int.injEq, List.getElem?_cons_zero, List.getElem?_cons_succ, List.set_cons_zero, List.set_cons_succ, List.length_cons, List.length_nil, Nat.zero_add]) <;> (try (simp -dsimp only [ne_eq, eq_self, subF, folds, wk1, subOk, sOk, hOk, nms, reF, rho, mapD, mapC, mapC1, NmD, NmC, NmC1, mapR, mapB, mapTt, NmR, NmB, NmT, MvRb, MvRn, MvRt, lk, ins, Root.get, Root.setT, List.map_cons, List.map_nil, List.nodup_cons, List.nodup_nil, List.not_mem_nil, List.mem_cons, not_false_eq_true, and_self, and_true, true_and, true_or, or_true, false_or, or_false, ↓reduceIte, Nat.reduceEqDiff, Nat.reduceLT, Nat.reduceLeDiff, reduceCtorEq, Option.isSome_some, List.forall_mem_cons, List.forall_mem_nil, implies_true, forall_const, Nat.le_refl, Nat.zero_le, false_implies, List.mem_singleton, MvB_im, MvB_nil, Mv_im, Option.some.injEq, D.c.injEq, C.im.injEq, I.int.injEq, List.getElem?_cons_zero, List.getElem?_cons_succ, List.set_cons_zero, List.set_cons_succ, List.length_cons, List.length_nil, Nat.zero_add]))) <;> simp⟩
  · have hI : ((k : Int) < (l.length : Int)) = False := by simp; omega
    have hkl : k = l.length := by omega
    subst hkl
    rw [List.drop_length] at hinv
    try simp -dsimp (maxSteps := 1000000) only [go_sem, List.forall_mem_nil, ↓reduceIte, Nat.reduceEqDiff, Nat.reduceLT, Nat.reduceLeDiff, Nat.reduceAdd, Nat.reduceMul, reduceCtorEq, Try.f20, hI, hinv, eqZFrom, rowsZ_len]
    repeat' (first
      | ((with_reducible refine sl_i ?_ ?_); focus kernel_rfl)
      | ((with_reducible refine ro_i ?_ ?_); focus kernel_rfl)
      | ((with_reducible refine sl_e ?_); kernel_rfl)
      | ((with_reducible refine ro_e ?_); kernel_rfl)
      | ((first | (with_reducible refine gS_d ?_ ?_) | (with_reducible refine gS_dn ?_ ?_) | (with_reducible refine gS_i ?_ ?_)) <;> intro hg <;> (try simp -dsimp (maxSteps := 1000000) only [go_sem, List.forall_mem_nil, ↓reduceIte, Nat.reduceEqDiff, Nat.reduceLT, Nat.reduceLeDiff, Nat.reduceAdd, Nat.reduceMul, reduceCtorEq, Try.f20, hI, hinv, eqZFrom, rowsZ_len, *])))
end Go.SX
