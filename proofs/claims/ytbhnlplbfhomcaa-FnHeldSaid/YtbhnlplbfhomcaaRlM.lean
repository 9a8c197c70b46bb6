/-
  Draws: l01Once, l01Int, l1Odd, FromSteps, l1Some, l1Any, l2Any, l4Samples, MakeSamples. Of what is drawn nothing is told.
  No condition.
-/
import Derived.Test.YtbhnlplbfhomcaaRlG
set_option linter.unusedVariables false
set_option linter.unusedSimpArgs false
namespace Go.SX
open Go Go.Proofs

def dK (l : List Int) (v : D) (q : SK l) : Res := { val := v, places := hsK l q.1.1 q.1.2 }
theorem okdK {l : List Int} {v : D} {q : SK l} (hv : OkD false 0 v) : OkR false (dK l v q) := okK (n := 0) hv

/-! ### l01Once -/
def oOnce (l : List Int) : Outs := .any (Bool × SK l) (fun q => { val := .c (.im (.bool q.1)), places := hsK l q.2.1.1 q.2.1.2 })
noncomputable def ct_l01Once : Ct := fam false (fun x : AKn × NB => ([.c (.ptr 0 0 0 0), .c (.im (.int .i64 x.2.1))], hsK x.1.l x.1.a x.1.h)) (fun x => oOnce x.1.l)
theorem run_l01Once {l : List Int} {a h n : Int} (h1 : l.length ≤ 1048576) (h2 : ∀ b ∈ l, 0 ≤ b ∧ b < 256) (h3 : 0 ≤ a) (h4 : a ≤ l.length) (h5 : 1 ≤ n) (h6 : n ≤ 2147483648) : ct_l01Once.run [.c (.ptr 0 0 0 0), .c (.im (.int .i64 n))] [[.t (.im (.sl 1 (rowsB l))), .t (.im (.int .i64 a)), .t (.im (.int .i64 h))]] = some (oOnce l) := by
  refine fam_run' (args := fun x : AKn × NB => ([D.c (.ptr 0 0 0 0), .c (.im (.int .i64 x.2.1))], hsK x.1.l x.1.a x.1.h)) (fun x y h => ?_) (⟨l, h1, h2, a, h, h3, h4⟩, ⟨n, h5, h6⟩)
  simp only [Prod.mk.injEq, List.cons.injEq, D.c.injEq, C.im.injEq, I.int.injEq, true_and, and_true] at h
  exact Prod.ext (AKn_ext (hsK_inj h.2)) (Subtype.ext h.1)
theorem ne_once (l : List Int) : Nonempty (Bool × SK l) = True := by simp only [eq_iff_iff, iff_true]; exact ⟨(true, ⟨(0, 0), by simp⟩)⟩
set_option maxRecDepth 100000 in
set_option maxHeartbeats 4000000 in
theorem law_l01Once : Law Try.prog 77 ct_l01Once := by
  refine fam_law (Env_cons law_l01Below Env_nil) hmixA Try.func77 rfl rfl (fun ⟨⟨l, h1, h2, a, h, h3, h4⟩, ⟨n, n1, n2⟩⟩ => ⟨okA (fun o => okK (n := 0) okDi), by simp [Try.f77], ?_⟩)
  simp only [oOnce, hsK]
  try simp -dsimp (maxSteps := 1000000) only [go_sem, List.forall_mem_nil, ↓reduceIte, Nat.reduceEqDiff, Nat.reduceLT, Nat.reduceLeDiff, Nat.reduceAdd, Nat.reduceMul, reduceCtorEq, Try.f77, run_l01Below h1 h2 h3 h4 n1 n2, oBelow, hsK, ne_below l n1]
  repeat' (first
    | ((with_reducible refine sl_i ?_ ?_); focus kernel_rfl)
    | ((with_reducible refine ro_i ?_ ?_); focus kernel_rfl)
    | ((with_reducible refine sl_e ?_); kernel_rfl)
    | ((with_reducible refine ro_e ?_); kernel_rfl)
    | ((first | (with_reducible refine gS_d ?_ ?_) | (with_reducible refine gS_dn ?_ ?_) | (with_reducible refine gS_i ?_ ?_)) <;> intro hg <;> (try simp -dsimp (maxSteps := 1000000) only [go_sem, List.forall_mem_nil, ↓reduceIte, Nat.reduceEqDiff, Nat.reduceLT, Nat.reduceLeDiff, Nat.reduceAdd, Nat.reduceMul, reduceCtorEq, Try.f77, run_l01Below h1 h2 h3 h4 n1 n2, oBelow, hsK, ne_below l n1, *])))
  rintro ⟨⟨v, ⟨⟨a1, k1⟩, b1⟩⟩, v1, v2⟩
  try simp -dsimp (maxSteps := 1000000) only [go_sem, List.forall_mem_nil, ↓reduceIte, Nat.reduceEqDiff, Nat.reduceLT, Nat.reduceLeDiff, Nat.reduceAdd, Nat.reduceMul, reduceCtorEq, Try.f77, hsK]
  repeat' (first
    | ((with_reducible refine sl_i ?_ ?_); focus kernel_rfl)
    | ((with_reducible refine ro_i ?_ ?_); focus kernel_rfl)
    | ((with_reducible refine sl_e ?_); kernel_rfl)
    | ((with_reducible refine ro_e ?_); kernel_rfl)
    | ((first | (with_reducible refine gS_d ?_ ?_) | (with_reducible refine gS_dn ?_ ?_) | (with_reducible refine gS_i ?_ ?_)) <;> intro hg <;> (try simp -dsimp (maxSteps := 1000000) only [go_sem, List.forall_mem_nil, ↓reduceIte, Nat.reduceEqDiff, Nat.reduceLT, Nat.reduceLeDiff, Nat.reduceAdd, Nat.reduceMul, reduceCtorEq, Try.f77, hsK, *])))
  all_goals exact ⟨(_, ⟨(a1, k1), b1⟩), rfl, rfl⟩

/-! ### l01Int -/
def oInt (l m : List Int) : Outs := .any ({ x : Int // x ∈ m } × SK l) (fun q => { val := .c (.im (.int .i64 q.1.1)), places := hsK l q.2.1.1 q.2.1.2 })
abbrev LN := { l : List Int // 1 ≤ l.length ∧ l.length ≤ 1000 }
noncomputable def ct_l01Int : Ct := fam false (fun x : AKn × LN => ([.c (.ptr 0 0 0 0), .c (.im (.sl 1 (rowsN x.2.1)))], hsK x.1.l x.1.a x.1.h)) (fun x => oInt x.1.l x.2.1)
theorem run_l01Int {l : List Int} {a h : Int} {m : List Int} (h1 : l.length ≤ 1048576) (h2 : ∀ b ∈ l, 0 ≤ b ∧ b < 256) (h3 : 0 ≤ a) (h4 : a ≤ l.length) (h5 : 1 ≤ m.length) (h6 : m.length ≤ 1000) : ct_l01Int.run [.c (.ptr 0 0 0 0), .c (.im (.sl 1 (rowsN m)))] [[.t (.im (.sl 1 (rowsB l))), .t (.im (.int .i64 a)), .t (.im (.int .i64 h))]] = some (oInt l m) := by
  refine fam_run' (args := fun x : AKn × LN => ([D.c (.ptr 0 0 0 0), .c (.im (.sl 1 (rowsN x.2.1)))], hsK x.1.l x.1.a x.1.h)) (fun x y h => ?_) (⟨l, h1, h2, a, h, h3, h4⟩, ⟨m, h5, h6⟩)
  simp only [Prod.mk.injEq, List.cons.injEq, D.c.injEq, C.im.injEq, I.sl.injEq, true_and, and_true] at h
  exact Prod.ext (AKn_ext (hsK_inj h.2)) (Subtype.ext (rowsN_inj h.1))
theorem sc_l01Int : (ct_l01Int.sc = true) = False := by simp [ct_l01Int, fam]
theorem ne_oint (l : List Int) {m : List Int} (h : 1 ≤ m.length) : Nonempty ({ x : Int // x ∈ m } × SK l) = True := by
  simp only [eq_iff_iff, iff_true]
  obtain ⟨x, hx⟩ := List.exists_mem_of_length_pos (show 0 < m.length by omega)
  exact ⟨(⟨x, hx⟩, ⟨(0, 0), by simp⟩)⟩
set_option maxRecDepth 100000 in
set_option maxHeartbeats 4000000 in
theorem law_l01Int : Law Try.prog 105 ct_l01Int := by
  refine fam_law (Env_cons law_l01Below Env_nil) hmixA Try.func105 rfl rfl (fun ⟨⟨l, h1, h2, a, h, h3, h4⟩, ⟨m, n1, n2⟩⟩ => ⟨okA (fun o => okK (n := 0) okDi), by simp [Try.f105], ?_⟩)
  simp only [oInt, hsK]
  try simp -dsimp (maxSteps := 1000000) only [go_sem, List.forall_mem_nil, ↓reduceIte, Nat.reduceEqDiff, Nat.reduceLT, Nat.reduceLeDiff, Nat.reduceAdd, Nat.reduceMul, reduceCtorEq, Try.f105, rowsN_len, run_l01Below h1 h2 h3 h4 (n := (m.length : Int)) (by omega) (by omega), oBelow, hsK, ne_below l (n := (m.length : Int)) (by omega)]
  repeat' (first
    | ((with_reducible refine sl_i ?_ ?_); focus kernel_rfl)
    | ((with_reducible refine ro_i ?_ ?_); focus kernel_rfl)
    | ((with_reducible refine sl_e ?_); kernel_rfl)
    | ((with_reducible refine ro_e ?_); kernel_rfl)
    | ((first | (with_reducible refine gS_d ?_ ?_) | (with_reducible refine gS_dn ?_ ?_) | (with_reducible refine gS_i ?_ ?_)) <;> intro hg <;> (try simp -dsimp (maxSteps := 1000000) only [go_sem, List.forall_mem_nil, ↓reduceIte, Nat.reduceEqDiff, Nat.reduceLT, Nat.reduceLeDiff, Nat.reduceAdd, Nat.reduceMul, reduceCtorEq, Try.f105, rowsN_len, run_l01Below h1 h2 h3 h4 (n := (m.length : Int)) (by omega) (by omega), oBelow, hsK, ne_below l (n := (m.length : Int)) (by omega), *])))
  rintro ⟨⟨v, ⟨⟨a1, k1⟩, b1⟩⟩, v1, v2⟩
  obtain ⟨V, rfl⟩ := Int.eq_ofNat_of_zero_le v1
  simp only at v2
  have hV : V < m.length := by omega
  obtain ⟨x, hx⟩ : ∃ x, m[V]? = some x := ⟨_, List.getElem?_eq_getElem hV⟩
  have hrow := rowsN_at hx
  have q1 : (0 ≤ (V : Int)) = True := by simp
  have q2 : ((V : Int) < (m.length : Int)) = True := eq_true (by omega)
  try simp -dsimp (maxSteps := 1000000) only [go_sem, List.forall_mem_nil, ↓reduceIte, Nat.reduceEqDiff, Nat.reduceLT, Nat.reduceLeDiff, Nat.reduceAdd, Nat.reduceMul, reduceCtorEq, Try.f105, rowsN_len, hrow, q1, q2, hsK, Int.toNat_natCast]
  repeat' (first
    | ((with_reducible refine sl_i ?_ ?_); focus kernel_rfl)
    | ((with_reducible refine ro_i ?_ ?_); focus kernel_rfl)
    | ((with_reducible refine sl_e ?_); kernel_rfl)
    | ((with_reducible refine ro_e ?_); kernel_rfl)
    | ((first | (with_reducible refine gS_d ?_ ?_) | (with_reducible refine gS_dn ?_ ?_) | (with_reducible refine gS_i ?_ ?_)) <;> intro hg <;> (try simp -dsimp (maxSteps := 1000000) only [go_sem, List.forall_mem_nil, ↓reduceIte, Nat.reduceEqDiff, Nat.reduceLT, Nat.reduceLeDiff, Nat.reduceAdd, Nat.reduceMul, reduceCtorEq, Try.f105, rowsN_len, hrow, q1, q2, hsK, Int.toNat_natCast, *])))
  exact ⟨(⟨x, List.mem_of_getElem? hx⟩, ⟨(a1, k1), b1⟩), rfl, rfl⟩

/-! ### l1Odd, l1Some -/
def oNat (l : List Int) : Outs := .any (Nat × SK l) (fun q => { val := .c (.im (.flt .f32 q.1)), places := hsK l q.2.1.1 q.2.1.2 })
theorem ne_onat (l : List Int) : Nonempty (Nat × SK l) = True := by simp only [eq_iff_iff, iff_true]; exact ⟨(0, ⟨(0, 0), by simp⟩)⟩
noncomputable def ctNat : Ct := fam false (fun x : AKn => ([.c (.ptr 0 0 0 0)], hsK x.l x.a x.h)) (fun x => oNat x.l)
theorem runNat {l : List Int} {a h : Int} (h1 : l.length ≤ 1048576) (h2 : ∀ b ∈ l, 0 ≤ b ∧ b < 256) (h3 : 0 ≤ a) (h4 : a ≤ l.length) : ctNat.run [.c (.ptr 0 0 0 0)] [[.t (.im (.sl 1 (rowsB l))), .t (.im (.int .i64 a)), .t (.im (.int .i64 h))]] = some (oNat l) := by
  refine fam_run' (args := fun x : AKn => ([D.c (.ptr 0 0 0 0)], hsK x.l x.a x.h)) (fun x y h => ?_) ⟨l, h1, h2, a, h, h3, h4⟩
  simp only [Prod.mk.injEq, true_and] at h
  exact AKn_ext (hsK_inj h)
set_option maxRecDepth 100000 in
set_option maxHeartbeats 4000000 in
theorem law_l1Odd : Law Try.prog 103 ctNat := by
  refine fam_law (Env_cons law_l01Below Env_nil) hmixA Try.func103 rfl rfl (fun ⟨l, h1, h2, a, h, h3, h4⟩ => ⟨okA (fun o => okK (n := 0) okDi), by simp [Try.f103], ?_⟩)
  simp only [oNat, hsK]
  try simp -dsimp (maxSteps := 1000000) only [go_sem, List.forall_mem_nil, ↓reduceIte, Nat.reduceEqDiff, Nat.reduceLT, Nat.reduceLeDiff, Nat.reduceAdd, Nat.reduceMul, reduceCtorEq, Try.f103, run_l01Below h1 h2 h3 h4 (n := 12) (by decide) (by decide), oBelow, hsK, ne_below l (n := 12) (by decide)]
  repeat' (first
    | ((with_reducible refine sl_i ?_ ?_); focus kernel_rfl)
    | ((with_reducible refine ro_i ?_ ?_); focus kernel_rfl)
    | ((with_reducible refine sl_e ?_); kernel_rfl)
    | ((with_reducible refine ro_e ?_); kernel_rfl)
    | ((first | (with_reducible refine gS_d ?_ ?_) | (with_reducible refine gS_dn ?_ ?_) | (with_reducible refine gS_i ?_ ?_)) <;> intro hg <;> (try simp -dsimp (maxSteps := 1000000) only [go_sem, List.forall_mem_nil, ↓reduceIte, Nat.reduceEqDiff, Nat.reduceLT, Nat.reduceLeDiff, Nat.reduceAdd, Nat.reduceMul, reduceCtorEq, Try.f103, run_l01Below h1 h2 h3 h4 (n := 12) (by decide) (by decide), oBelow, hsK, ne_below l (n := 12) (by decide), *])))
  rintro ⟨⟨v, ⟨⟨a1, k1⟩, b1⟩⟩, v1, v2⟩
  try simp -dsimp (maxSteps := 1000000) only [go_sem, List.forall_mem_nil, ↓reduceIte, Nat.reduceEqDiff, Nat.reduceLT, Nat.reduceLeDiff, Nat.reduceAdd, Nat.reduceMul, reduceCtorEq, Try.f103, hsK]
  repeat' (first
    | ((with_reducible refine sl_i ?_ ?_); focus kernel_rfl)
    | ((with_reducible refine ro_i ?_ ?_); focus kernel_rfl)
    | ((with_reducible refine sl_e ?_); kernel_rfl)
    | ((with_reducible refine ro_e ?_); kernel_rfl)
    | ((first | (with_reducible refine gS_d ?_ ?_) | (with_reducible refine gS_dn ?_ ?_) | (with_reducible refine gS_i ?_ ?_)) <;> intro hg <;> (try simp -dsimp (maxSteps := 1000000) only [go_sem, List.forall_mem_nil, ↓reduceIte, Nat.reduceEqDiff, Nat.reduceLT, Nat.reduceLeDiff, Nat.reduceAdd, Nat.reduceMul, reduceCtorEq, Try.f103, hsK, *])))
  all_goals exact ⟨(_, ⟨(a1, k1), b1⟩), rfl, rfl⟩
set_option maxRecDepth 100000 in
set_option maxHeartbeats 4000000 in
theorem law_l1Some : Law Try.prog 106 ctNat := by
  refine fam_law (Env_cons law_l01Below Env_nil) hmixA Try.func106 rfl rfl (fun ⟨l, h1, h2, a, h, h3, h4⟩ => ⟨okA (fun o => okK (n := 0) okDi), by simp [Try.f106], ?_⟩)
  simp only [oNat, hsK]
  try simp -dsimp (maxSteps := 1000000) only [go_sem, List.forall_mem_nil, ↓reduceIte, Nat.reduceEqDiff, Nat.reduceLT, Nat.reduceLeDiff, Nat.reduceAdd, Nat.reduceMul, reduceCtorEq, Try.f106, run_l01Below h1 h2 h3 h4 (n := 3) (by decide) (by decide), oBelow, hsK, ne_below l (n := 3) (by decide)]
  repeat' (first
    | ((with_reducible refine sl_i ?_ ?_); focus kernel_rfl)
    | ((with_reducible refine ro_i ?_ ?_); focus kernel_rfl)
    | ((with_reducible refine sl_e ?_); kernel_rfl)
    | ((with_reducible refine ro_e ?_); kernel_rfl)
    | ((first | (with_reducible refine gS_d ?_ ?_) | (with_reducible refine gS_dn ?_ ?_) | (with_reducible refine gS_i ?_ ?_)) <;> intro hg <;> (try simp -dsimp (maxSteps := 1000000) only [go_sem, List.forall_mem_nil, ↓reduceIte, Nat.reduceEqDiff, Nat.reduceLT, Nat.reduceLeDiff, Nat.reduceAdd, Nat.reduceMul, reduceCtorEq, Try.f106, run_l01Below h1 h2 h3 h4 (n := 3) (by decide) (by decide), oBelow, hsK, ne_below l (n := 3) (by decide), *])))
  rintro ⟨⟨v, ⟨⟨a1, k1⟩, b1⟩⟩, v1, v2⟩
  by_cases e0 : v = 0
  · have e0' := eq_true e0
    try simp -dsimp (maxSteps := 1000000) only [go_sem, List.forall_mem_nil, ↓reduceIte, Nat.reduceEqDiff, Nat.reduceLT, Nat.reduceLeDiff, Nat.reduceAdd, Nat.reduceMul, reduceCtorEq, Try.f106, e0', run_l01Below h1 h2 b1.1 b1.2 (n := 65) (by decide) (by decide), oBelow, hsK, ne_below l (n := 65) (by decide)]
    repeat' (first
      | ((with_reducible refine sl_i ?_ ?_); focus kernel_rfl)
      | ((with_reducible refine ro_i ?_ ?_); focus kernel_rfl)
      | ((with_reducible refine sl_e ?_); kernel_rfl)
      | ((with_reducible refine ro_e ?_); kernel_rfl)
      | ((first | (with_reducible refine gS_d ?_ ?_) | (with_reducible refine gS_dn ?_ ?_) | (with_reducible refine gS_i ?_ ?_)) <;> intro hg <;> (try simp -dsimp (maxSteps := 1000000) only [go_sem, List.forall_mem_nil, ↓reduceIte, Nat.reduceEqDiff, Nat.reduceLT, Nat.reduceLeDiff, Nat.reduceAdd, Nat.reduceMul, reduceCtorEq, Try.f106, e0', run_l01Below h1 h2 b1.1 b1.2 (n := 65) (by decide) (by decide), oBelow, hsK, ne_below l (n := 65) (by decide), *])))
    rintro ⟨⟨u, ⟨⟨a2, k2⟩, b2⟩⟩, u1, u2⟩
    try simp -dsimp (maxSteps := 1000000) only [go_sem, List.forall_mem_nil, ↓reduceIte, Nat.reduceEqDiff, Nat.reduceLT, Nat.reduceLeDiff, Nat.reduceAdd, Nat.reduceMul, reduceCtorEq, Try.f106, hsK]
    repeat' (first
      | ((with_reducible refine sl_i ?_ ?_); focus kernel_rfl)
      | ((with_reducible refine ro_i ?_ ?_); focus kernel_rfl)
      | ((with_reducible refine sl_e ?_); kernel_rfl)
      | ((with_reducible refine ro_e ?_); kernel_rfl)
      | ((first | (with_reducible refine gS_d ?_ ?_) | (with_reducible refine gS_dn ?_ ?_) | (with_reducible refine gS_i ?_ ?_)) <;> intro hg <;> (try simp -dsimp (maxSteps := 1000000) only [go_sem, List.forall_mem_nil, ↓reduceIte, Nat.reduceEqDiff, Nat.reduceLT, Nat.reduceLeDiff, Nat.reduceAdd, Nat.reduceMul, reduceCtorEq, Try.f106, hsK, *])))
    exact ⟨(_, ⟨(a2, k2), b2⟩), rfl, rfl⟩
  have e0' := eq_false e0
  by_cases e1 : v = 1
  · have e1' := eq_true e1
    try simp -dsimp (maxSteps := 1000000) only [go_sem, List.forall_mem_nil, ↓reduceIte, Nat.reduceEqDiff, Nat.reduceLT, Nat.reduceLeDiff, Nat.reduceAdd, Nat.reduceMul, reduceCtorEq, Try.f106, e0', e1', run_l01Below h1 h2 b1.1 b1.2 (n := 2000001) (by decide) (by decide), oBelow, hsK, ne_below l (n := 2000001) (by decide)]
    repeat' (first
      | ((with_reducible refine sl_i ?_ ?_); focus kernel_rfl)
      | ((with_reducible refine ro_i ?_ ?_); focus kernel_rfl)
      | ((with_reducible refine sl_e ?_); kernel_rfl)
      | ((with_reducible refine ro_e ?_); kernel_rfl)
      | ((first | (with_reducible refine gS_d ?_ ?_) | (with_reducible refine gS_dn ?_ ?_) | (with_reducible refine gS_i ?_ ?_)) <;> intro hg <;> (try simp -dsimp (maxSteps := 1000000) only [go_sem, List.forall_mem_nil, ↓reduceIte, Nat.reduceEqDiff, Nat.reduceLT, Nat.reduceLeDiff, Nat.reduceAdd, Nat.reduceMul, reduceCtorEq, Try.f106, e0', e1', run_l01Below h1 h2 b1.1 b1.2 (n := 2000001) (by decide) (by decide), oBelow, hsK, ne_below l (n := 2000001) (by decide), *])))
    rintro ⟨⟨u, ⟨⟨a2, k2⟩, b2⟩⟩, u1, u2⟩
    try simp -dsimp (maxSteps := 1000000) only [go_sem, List.forall_mem_nil, ↓reduceIte, Nat.reduceEqDiff, Nat.reduceLT, Nat.reduceLeDiff, Nat.reduceAdd, Nat.reduceMul, reduceCtorEq, Try.f106, hsK]
    repeat' (first
      | ((with_reducible refine sl_i ?_ ?_); focus kernel_rfl)
      | ((with_reducible refine ro_i ?_ ?_); focus kernel_rfl)
      | ((with_reducible refine sl_e ?_); kernel_rfl)
      | ((with_reducible refine ro_e ?_); kernel_rfl)
      | ((first | (with_reducible refine gS_d ?_ ?_) | (with_reducible refine gS_dn ?_ ?_) | (with_reducible refine gS_i ?_ ?_)) <;> intro hg <;> (try simp -dsimp (maxSteps := 1000000) only [go_sem, List.forall_mem_nil, ↓reduceIte, Nat.reduceEqDiff, Nat.reduceLT, Nat.reduceLeDiff, Nat.reduceAdd, Nat.reduceMul, reduceCtorEq, Try.f106, hsK, *])))
    exact ⟨(_, ⟨(a2, k2), b2⟩), rfl, rfl⟩
  have e1' := eq_false e1
  try simp -dsimp (maxSteps := 1000000) only [go_sem, List.forall_mem_nil, ↓reduceIte, Nat.reduceEqDiff, Nat.reduceLT, Nat.reduceLeDiff, Nat.reduceAdd, Nat.reduceMul, reduceCtorEq, Try.f106, e0', e1', run_l01Below h1 h2 b1.1 b1.2 (n := 9) (by decide) (by decide), oBelow, hsK, ne_below l (n := 9) (by decide)]
  repeat' (first
    | ((with_reducible refine sl_i ?_ ?_); focus kernel_rfl)
    | ((with_reducible refine ro_i ?_ ?_); focus kernel_rfl)
    | ((with_reducible refine sl_e ?_); kernel_rfl)
    | ((with_reducible refine ro_e ?_); kernel_rfl)
    | ((first | (with_reducible refine gS_d ?_ ?_) | (with_reducible refine gS_dn ?_ ?_) | (with_reducible refine gS_i ?_ ?_)) <;> intro hg <;> (try simp -dsimp (maxSteps := 1000000) only [go_sem, List.forall_mem_nil, ↓reduceIte, Nat.reduceEqDiff, Nat.reduceLT, Nat.reduceLeDiff, Nat.reduceAdd, Nat.reduceMul, reduceCtorEq, Try.f106, e0', e1', run_l01Below h1 h2 b1.1 b1.2 (n := 9) (by decide) (by decide), oBelow, hsK, ne_below l (n := 9) (by decide), *])))
  rintro ⟨⟨u, ⟨⟨a2, k2⟩, b2⟩⟩, u1, u2⟩
  try simp -dsimp (maxSteps := 1000000) only [go_sem, List.forall_mem_nil, ↓reduceIte, Nat.reduceEqDiff, Nat.reduceLT, Nat.reduceLeDiff, Nat.reduceAdd, Nat.reduceMul, reduceCtorEq, Try.f106, hsK]
  repeat' (first
    | ((with_reducible refine sl_i ?_ ?_); focus kernel_rfl)
    | ((with_reducible refine ro_i ?_ ?_); focus kernel_rfl)
    | ((with_reducible refine sl_e ?_); kernel_rfl)
    | ((with_reducible refine ro_e ?_); kernel_rfl)
    | ((first | (with_reducible refine gS_d ?_ ?_) | (with_reducible refine gS_dn ?_ ?_) | (with_reducible refine gS_i ?_ ?_)) <;> intro hg <;> (try simp -dsimp (maxSteps := 1000000) only [go_sem, List.forall_mem_nil, ↓reduceIte, Nat.reduceEqDiff, Nat.reduceLT, Nat.reduceLeDiff, Nat.reduceAdd, Nat.reduceMul, reduceCtorEq, Try.f106, hsK, *])))
  exact ⟨(_, ⟨(a2, k2), b2⟩), rfl, rfl⟩
end Go.SX
