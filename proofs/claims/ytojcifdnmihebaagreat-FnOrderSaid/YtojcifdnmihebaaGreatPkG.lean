/-
  Draws: l01Once, l01Int, l1Odd, FromSteps, l1Some, l1Any, l2Any, l4Samples, MakeSamples. Of what is drawn nothing is told.
  l1In, FromSteps, l1Any, l2Any, l4Samples, MakeSamples.
  spec: small functions of numbers and points; constructors of modules without slices.
  spec: plain words of what is drawn: finite numbers, levels, modules, what a step makes of them.
  spec: tables.
  spec: PutPoint, GridTable, l2Table.
  No condition.
-/
import Derived.Test.YtojcifdnmihebaaGreatPkF
set_option linter.unusedVariables false
set_option linter.unusedSimpArgs false
namespace Go.SX
open Go Go.Proofs
def oOnce (l : List Int) : Outs := .any (Bool × SK l) (fun q => { val := .c (.im (.bool q.1)), places := hsK l q.2.1.1 q.2.1.2 })
noncomputable def ct_l01Once : Ct := fam false (fun x : AKn × NB => ([.c (.ptr 0 0 0 0), .c (.im (.int .i64 x.2.1))], hsK x.1.l x.1.a x.1.h)) (fun x => oOnce x.1.l)
theorem run_l01Once {l : List Int} {a h n : Int} (h1 : l.length ≤ 1048576) (h2 : ∀ b ∈ l, 0 ≤ b ∧ b < 256) (h3 : 0 ≤ a) (h4 : a ≤ l.length) (h5 : 1 ≤ n) (h6 : n ≤ 2147483648) : ct_l01Once.run [.c (.ptr 0 0 0 0), .c (.im (.int .i64 n))] [[.t (.im (.sl 1 (rowsB l))), .t (.im (.int .i64 a)), .t (.im (.int .i64 h))]] = some (oOnce l) := by
  refine fam_run' (args := fun x : AKn × NB => ([D.c (.ptr 0 0 0 0), .c (.im (.int .i64 x.2.1))], hsK x.1.l x.1.a x.1.h)) (fun x y h => ?_) (⟨l, h1, h2, a, h, h3, h4⟩, ⟨n, h5, h6⟩)
  simp only [Prod.mk.injEq, List.cons.injEq, D.c.injEq, C.im.injEq, I.int.injEq, true_and, and_true] at h
  exact Prod.ext (AKn_ext (hsK_inj h.2)) (Subtype.ext h.1)
theorem ne_once (l : List Int) : Nonempty (Bool × SK l) = True := by simp only [eq_iff_iff, iff_true]; exact ⟨(true, ⟨(0, 0), by simp⟩)⟩
set_option maxRecDepth 100000 in
set_option maxHeartbeats 4000000 in
theorem law_l01Once : Law Tryz.prog 87 ct_l01Once := by
  refine fam_law (Env_cons law_l01Below Env_nil) hmixA Tryz.func87 rfl rfl (fun ⟨⟨l, h1, h2, a, h, h3, h4⟩, ⟨n, n1, n2⟩⟩ => ⟨okA (fun o => okK (n := 0) okDi), by simp [Tryz.f87], ?_⟩)
  simp only [oOnce, hsK]
  try simp -dsimp (maxSteps := 1000000) only [go_sem, List.forall_mem_nil, ↓reduceIte, Nat.reduceEqDiff, Nat.reduceLT, Nat.reduceLeDiff, Nat.reduceAdd, Nat.reduceMul, reduceCtorEq, Tryz.f87, run_l01Below h1 h2 h3 h4 n1 n2, oBelow, hsK, ne_below l n1]
  rintro ⟨⟨v, ⟨⟨a1, k1⟩, b1⟩⟩, v1, v2⟩
  try simp -dsimp (maxSteps := 1000000) only [go_sem, List.forall_mem_nil, ↓reduceIte, Nat.reduceEqDiff, Nat.reduceLT, Nat.reduceLeDiff, Nat.reduceAdd, Nat.reduceMul, reduceCtorEq, Tryz.f87, hsK]
  all_goals exact ⟨(_, ⟨(a1, k1), b1⟩), rfl, rfl⟩
def oInt (l m : List Int) : Outs := .any ({ x : Int // x ∈ m } × SK l) (fun q => { val := .c (.im (.int .i64 q.1.1)), places := hsK l q.2.1.1 q.2.1.2 })
abbrev LN := { l : List Int // 1 ≤ l.length ∧ l.length ≤ 1000 }
noncomputable def ct_l01Int : Ct := fam false (fun x : AKn × LN => ([.c (.ptr 0 0 0 0), .c (.im (.sl 1 (rowsN x.2.1)))], hsK x.1.l x.1.a x.1.h)) (fun x => oInt x.1.l x.2.1)
theorem run_l01Int {l : List Int} {a h : Int} {m : List Int} (h1 : l.length ≤ 1048576) (h2 : ∀ b ∈ l, 0 ≤ b ∧ b < 256) (h3 : 0 ≤ a) (h4 : a ≤ l.length) (h5 : 1 ≤ m.length) (h6 : m.length ≤ 1000) : ct_l01Int.run [.c (.ptr 0 0 0 0), .c (.im (.sl 1 (rowsN m)))] [[.t (.im (.sl 1 (rowsB l))), .t (.im (.int .i64 a)), .t (.im (.int .i64 h))]] = some (oInt l m) := by
  refine fam_run' (args := fun x : AKn × LN => ([D.c (.ptr 0 0 0 0), .c (.im (.sl 1 (rowsN x.2.1)))], hsK x.1.l x.1.a x.1.h)) (fun x y h => ?_) (⟨l, h1, h2, a, h, h3, h4⟩, ⟨m, h5, h6⟩)
  simp only [Prod.mk.injEq, List.cons.injEq, D.c.injEq, C.im.injEq, I.sl.injEq, true_and, and_true] at h
  exact Prod.ext (AKn_ext (hsK_inj h.2)) (Subtype.ext (rowsN_inj h.1))
theorem sc_l01Int : (ct_l01Int.sc = true) = False := by simp [ct_l01Int, fam]
theorem ne_oint (l : List Int) {m : List Int} (h : 1 ≤ m.length) : Nonempty ({ x : Int // x ∈ m } × SK l) = True := by
  simp only [eq_iff_iff, iff_true]
  obtain ⟨x, hx⟩ := List.exists_mem_of_length_pos (show 0 < m.length by omega)
  exact ⟨(⟨x, hx⟩, ⟨(0, 0), by simp⟩)⟩
set_option maxRecDepth 100000 in
set_option maxHeartbeats 4000000 in
theorem law_l01Int : Law Tryz.prog 107 ct_l01Int := by
  refine fam_law (Env_cons law_l01Below Env_nil) hmixA Tryz.func107 rfl rfl (fun ⟨⟨l, h1, h2, a, h, h3, h4⟩, ⟨m, n1, n2⟩⟩ => ⟨okA (fun o => okK (n := 0) okDi), by simp [Tryz.f107], ?_⟩)
  simp only [oInt, hsK]
  try simp -dsimp (maxSteps := 1000000) only [go_sem, List.forall_mem_nil, ↓reduceIte, Nat.reduceEqDiff, Nat.reduceLT, Nat.reduceLeDiff, Nat.reduceAdd, Nat.reduceMul, reduceCtorEq, Tryz.f107, rowsN_len, run_l01Below h1 h2 h3 h4 (n := (m.length : Int)) (by omega) (by omega), oBelow, hsK, ne_below l (n := (m.length : Int)) (by omega)]
  rintro ⟨⟨v, ⟨⟨a1, k1⟩, b1⟩⟩, v1, v2⟩
  obtain ⟨V, rfl⟩ := Int.eq_ofNat_of_zero_le v1
  simp only at v2
  have hV : V < m.length := by omega
  obtain ⟨x, hx⟩ : ∃ x, m[V]? = some x := ⟨_, List.getElem?_eq_getElem hV⟩
  have hrow := rowsN_at hx
  have q1 : (0 ≤ (V : Int)) = True := by simp
  have q2 : ((V : Int) < (m.length : Int)) = True := eq_true (by omega)
  try simp -dsimp (maxSteps := 1000000) only [go_sem, List.forall_mem_nil, ↓reduceIte, Nat.reduceEqDiff, Nat.reduceLT, Nat.reduceLeDiff, Nat.reduceAdd, Nat.reduceMul, reduceCtorEq, Tryz.f107, rowsN_len, hrow, q1, q2, hsK, Int.toNat_natCast]
  exact ⟨(⟨x, List.mem_of_getElem? hx⟩, ⟨(a1, k1), b1⟩), rfl, rfl⟩
def oNat (l : List Int) : Outs := .any (Nat × SK l) (fun q => { val := .c (.im (.flt .f32 q.1)), places := hsK l q.2.1.1 q.2.1.2 })
theorem ne_onat (l : List Int) : Nonempty (Nat × SK l) = True := by simp only [eq_iff_iff, iff_true]; exact ⟨(0, ⟨(0, 0), by simp⟩)⟩
noncomputable def ctNat : Ct := fam false (fun x : AKn => ([.c (.ptr 0 0 0 0)], hsK x.l x.a x.h)) (fun x => oNat x.l)
theorem runNat {l : List Int} {a h : Int} (h1 : l.length ≤ 1048576) (h2 : ∀ b ∈ l, 0 ≤ b ∧ b < 256) (h3 : 0 ≤ a) (h4 : a ≤ l.length) : ctNat.run [.c (.ptr 0 0 0 0)] [[.t (.im (.sl 1 (rowsB l))), .t (.im (.int .i64 a)), .t (.im (.int .i64 h))]] = some (oNat l) := by
  refine fam_run' (args := fun x : AKn => ([D.c (.ptr 0 0 0 0)], hsK x.l x.a x.h)) (fun x y h => ?_) ⟨l, h1, h2, a, h, h3, h4⟩
  simp only [Prod.mk.injEq, true_and] at h
  exact AKn_ext (hsK_inj h)
set_option maxRecDepth 100000 in
set_option maxHeartbeats 4000000 in
theorem law_l1Odd : Law Tryz.prog 105 ctNat := by
  refine fam_law (Env_cons law_l01Below Env_nil) hmixA Tryz.func105 rfl rfl (fun ⟨l, h1, h2, a, h, h3, h4⟩ => ⟨okA (fun o => okK (n := 0) okDi), by simp [Tryz.f105], ?_⟩)
  simp only [oNat, hsK]
  try simp -dsimp (maxSteps := 1000000) only [go_sem, List.forall_mem_nil, ↓reduceIte, Nat.reduceEqDiff, Nat.reduceLT, Nat.reduceLeDiff, Nat.reduceAdd, Nat.reduceMul, reduceCtorEq, Tryz.f105, run_l01Below h1 h2 h3 h4 (n := 12) (by decide) (by decide), oBelow, hsK, ne_below l (n := 12) (by decide)]
  rintro ⟨⟨v, ⟨⟨a1, k1⟩, b1⟩⟩, v1, v2⟩
  try simp -dsimp (maxSteps := 1000000) only [go_sem, List.forall_mem_nil, ↓reduceIte, Nat.reduceEqDiff, Nat.reduceLT, Nat.reduceLeDiff, Nat.reduceAdd, Nat.reduceMul, reduceCtorEq, Tryz.f105, hsK]
  repeat' ((first | (with_reducible refine gS_d ?_ ?_) | (with_reducible refine gS_dn ?_ ?_) | (with_reducible refine gS_i ?_ ?_)) <;> intro hg <;> (try simp -dsimp (maxSteps := 1000000) only [go_sem, List.forall_mem_nil, ↓reduceIte, Nat.reduceEqDiff, Nat.reduceLT, Nat.reduceLeDiff, Nat.reduceAdd, Nat.reduceMul, reduceCtorEq, Tryz.f105, hsK, *]))
  all_goals exact ⟨(_, ⟨(a1, k1), b1⟩), rfl, rfl⟩
set_option maxRecDepth 100000 in
set_option maxHeartbeats 4000000 in
theorem law_l1Some : Law Tryz.prog 108 ctNat := by
  refine fam_law (Env_cons law_l01Below Env_nil) hmixA Tryz.func108 rfl rfl (fun ⟨l, h1, h2, a, h, h3, h4⟩ => ⟨okA (fun o => okK (n := 0) okDi), by simp [Tryz.f108], ?_⟩)
  simp only [oNat, hsK]
  try simp -dsimp (maxSteps := 1000000) only [go_sem, List.forall_mem_nil, ↓reduceIte, Nat.reduceEqDiff, Nat.reduceLT, Nat.reduceLeDiff, Nat.reduceAdd, Nat.reduceMul, reduceCtorEq, Tryz.f108, run_l01Below h1 h2 h3 h4 (n := 3) (by decide) (by decide), oBelow, hsK, ne_below l (n := 3) (by decide)]
  rintro ⟨⟨v, ⟨⟨a1, k1⟩, b1⟩⟩, v1, v2⟩
  by_cases e0 : v = 0
  · have e0' := eq_true e0
    try simp -dsimp (maxSteps := 1000000) only [go_sem, List.forall_mem_nil, ↓reduceIte, Nat.reduceEqDiff, Nat.reduceLT, Nat.reduceLeDiff, Nat.reduceAdd, Nat.reduceMul, reduceCtorEq, Tryz.f108, e0', run_l01Below h1 h2 b1.1 b1.2 (n := 65) (by decide) (by decide), oBelow, hsK, ne_below l (n := 65) (by decide)]
    rintro ⟨⟨u, ⟨⟨a2, k2⟩, b2⟩⟩, u1, u2⟩
    try simp -dsimp (maxSteps := 1000000) only [go_sem, List.forall_mem_nil, ↓reduceIte, Nat.reduceEqDiff, Nat.reduceLT, Nat.reduceLeDiff, Nat.reduceAdd, Nat.reduceMul, reduceCtorEq, Tryz.f108, hsK]
    exact ⟨(_, ⟨(a2, k2), b2⟩), rfl, rfl⟩
  have e0' := eq_false e0
  by_cases e1 : v = 1
  · have e1' := eq_true e1
    try simp -dsimp (maxSteps := 1000000) only [go_sem, List.forall_mem_nil, ↓reduceIte, Nat.reduceEqDiff, Nat.reduceLT, Nat.reduceLeDiff, Nat.reduceAdd, Nat.reduceMul, reduceCtorEq, Tryz.f108, e0', e1', run_l01Below h1 h2 b1.1 b1.2 (n := 2000001) (by decide) (by decide), oBelow, hsK, ne_below l (n := 2000001) (by decide)]
    rintro ⟨⟨u, ⟨⟨a2, k2⟩, b2⟩⟩, u1, u2⟩
    try simp -dsimp (maxSteps := 1000000) only [go_sem, List.forall_mem_nil, ↓reduceIte, Nat.reduceEqDiff, Nat.reduceLT, Nat.reduceLeDiff, Nat.reduceAdd, Nat.reduceMul, reduceCtorEq, Tryz.f108, hsK]
    exact ⟨(_, ⟨(a2, k2), b2⟩), rfl, rfl⟩
  have e1' := eq_false e1
  try simp -dsimp (maxSteps := 1000000) only [go_sem, List.forall_mem_nil, ↓reduceIte, Nat.reduceEqDiff, Nat.reduceLT, Nat.reduceLeDiff, Nat.reduceAdd, Nat.reduceMul, reduceCtorEq, Tryz.f108, e0', e1', run_l01Below h1 h2 b1.1 b1.2 (n := 9) (by decide) (by decide), oBelow, hsK, ne_below l (n := 9) (by decide)]
  rintro ⟨⟨u, ⟨⟨a2, k2⟩, b2⟩⟩, u1, u2⟩
  try simp -dsimp (maxSteps := 1000000) only [go_sem, List.forall_mem_nil, ↓reduceIte, Nat.reduceEqDiff, Nat.reduceLT, Nat.reduceLeDiff, Nat.reduceAdd, Nat.reduceMul, reduceCtorEq, Tryz.f108, hsK]
  exact ⟨(_, ⟨(a2, k2), b2⟩), rfl, rfl⟩
end Go.SX
set_option linter.unusedVariables false
set_option linter.unusedSimpArgs false
namespace Go.SX
open Go Go.Proofs
noncomputable def ct_l1In : Ct := fam true (fun x : Int × Int × Int => ([.c (.im (.int .i64 x.1)), .c (.im (.int .i64 x.2.1)), .c (.im (.int .i64 x.2.2))], [])) (fun x => .one { val := .c (.im (.bool (decide (x.2.1 ≤ x.1) && decide (x.1 ≤ x.2.2)))) })
theorem run_l1In (k a b : Int) : ct_l1In.run [.c (.im (.int .i64 k)), .c (.im (.int .i64 a)), .c (.im (.int .i64 b))] [] = some (.one { val := .c (.im (.bool (decide (a ≤ k) && decide (k ≤ b)))) }) := fam_run' (args := fun x : Int × Int × Int => ([D.c (.im (.int .i64 x.1)), .c (.im (.int .i64 x.2.1)), .c (.im (.int .i64 x.2.2))], [])) (by
    intro a b h
    simp only [Prod.mk.injEq, List.cons.injEq, D.c.injEq, D.agg.injEq, C.im.injEq, I.cpx.injEq, I.flt.injEq, I.int.injEq, I.sl.injEq, I.bool.injEq, I.str.injEq, Int.natCast_inj, true_and, and_true] at h
    (try simp only [Prod.ext_iff, Subtype.ext_iff])
    (try simp only [rowsZ_eq, rowsN_eq] at h)
    simp_all) (k, a, b)
set_option maxRecDepth 100000 in
theorem law_l1In : Law Tryz.prog 81 ct_l1In := by
  refine fam_law Env_nil hmixA Tryz.func81 rfl rfl (fun ⟨k, a, b⟩ => ⟨okO_im rfl, by simp [Tryz.f81], ?_⟩)
  simp only
  by_cases h1 : a ≤ k
  · have h1' := eq_true h1
    by_cases h2 : k ≤ b
    · have h2' := eq_true h2
      clear h1 h2
      try simp -dsimp (maxSteps := 1000000) only [go_sem, List.forall_mem_nil, ↓reduceIte, Nat.reduceEqDiff, Nat.reduceLT, Nat.reduceLeDiff, Nat.reduceAdd, Nat.reduceMul, reduceCtorEq, Tryz.f81, h1', h2', Bool.and_true]
    · have h2' := eq_false h2
      clear h1 h2
      try simp -dsimp (maxSteps := 1000000) only [go_sem, List.forall_mem_nil, ↓reduceIte, Nat.reduceEqDiff, Nat.reduceLT, Nat.reduceLeDiff, Nat.reduceAdd, Nat.reduceMul, reduceCtorEq, Tryz.f81, h1', h2', Bool.and_false]
  · have h1' := eq_false h1
    clear h1
    try simp -dsimp (maxSteps := 1000000) only [go_sem, List.forall_mem_nil, ↓reduceIte, Nat.reduceEqDiff, Nat.reduceLT, Nat.reduceLeDiff, Nat.reduceAdd, Nat.reduceMul, reduceCtorEq, Tryz.f81, h1', Bool.false_and]
abbrev KR := { k : Int // -4294967296 ≤ k ∧ k ≤ 4294967296 }
def rFS (q : Nat × Bool) : Res := { val := .tup [.c (.im (.flt .f32 q.1)), .c (.im (.bool q.2))] }
def oFS : Outs := .any (Nat × Bool) (fun q => rFS q)
theorem okR_FS {sc : Bool} {q : Nat × Bool} : OkR sc (rFS q) := by
  refine ⟨.tup _ (fun d hd => ?_), by simp [rFS], by simp [rFS]⟩
  simp only [rFS, List.mem_cons, List.not_mem_nil, or_false] at hd
  rcases hd with rfl | rfl <;> exact .inl ⟨_, rfl, okC_sc rfl⟩
noncomputable def ct_FromSteps : Ct := fam true (fun x : KR => ([.c (.im (.int .i64 x.1))], [])) (fun _ => oFS)
theorem run_FromSteps {k : Int} (h1 : -4294967296 ≤ k) (h2 : k ≤ 4294967296) : ct_FromSteps.run [.c (.im (.int .i64 k))] [] = some oFS := fam_run' (args := fun x : KR => ([D.c (.im (.int .i64 x.1))], [])) (by
    intro a b h
    simp only [Prod.mk.injEq, List.cons.injEq, D.c.injEq, D.agg.injEq, C.im.injEq, I.cpx.injEq, I.flt.injEq, I.int.injEq, I.sl.injEq, I.bool.injEq, I.str.injEq, Int.natCast_inj, true_and, and_true] at h
    (try simp only [Prod.ext_iff, Subtype.ext_iff])
    (try simp only [rowsZ_eq, rowsN_eq] at h)
    simp_all) (⟨k, h1, h2⟩ : KR)
theorem ne_FS : Nonempty (Nat × Bool) = True := by simp only [eq_iff_iff, iff_true]; exact ⟨(0, true)⟩
set_option maxRecDepth 100000 in
set_option maxHeartbeats 4000000 in
theorem law_FromSteps : Law Tryz.prog 106 ct_FromSteps := by
  refine fam_law (Env_cons law_l1In Env_nil) hmixA Tryz.func106 rfl rfl (fun ⟨k, n1, n2⟩ => ⟨okA (fun o => okR_FS), by simp [Tryz.f106], ?_⟩)
  simp only [oFS, rFS]
  by_cases hin : -2139095039 ≤ k ∧ k ≤ 2139095039
  rotate_left
  · have hb : (decide (-2139095039 ≤ k) && decide (k ≤ 2139095039)) = false := by simpa using fun h => by omega
    try simp -dsimp (maxSteps := 1000000) only [go_sem, List.forall_mem_nil, ↓reduceIte, Nat.reduceEqDiff, Nat.reduceLT, Nat.reduceLeDiff, Nat.reduceAdd, Nat.reduceMul, reduceCtorEq, Tryz.f106, run_l1In, hb]
    all_goals exact ⟨(_, _), rfl, rfl⟩
  have hb : (decide (-2139095039 ≤ k) && decide (k ≤ 2139095039)) = true := by simpa using hin
  obtain ⟨m, hm⟩ : ∃ m, (if IntKind.i64.wrap (-k) > k then IntKind.i64.wrap (-k) else k) = m := ⟨_, rfl⟩
  have hmr : m ≤ 4294967296 ∧ 0 ≤ m := by rw [← hm, wrap_id (by omega) (by omega)]; split <;> omega
  try simp -dsimp (maxSteps := 1000000) only [go_sem, List.forall_mem_nil, ↓reduceIte, Nat.reduceEqDiff, Nat.reduceLT, Nat.reduceLeDiff, Nat.reduceAdd, Nat.reduceMul, reduceCtorEq, Tryz.f106, run_l1In, hb, hm]
  refine loop_i (ι := { x : Int × Int // 0 ≤ x.1 ∧ 0 ≤ x.2 ∧ x.2 * 8388608 + x.1 ≤ 4294967296 }) (fun x => ⟨[(0, some (.c (.im (.int .i64 k)))), (4, some (.c (.im (.int .i64 x.1.1)))), (5, some (.c (.im (.int .i64 x.1.2))))], [], 0⟩) (fun x => x.1.1.toNat) ⟨(m, 0), by simp only []; omega⟩ ⟨[], [], by ((simp only [go_sem, eq_self, MvRb, MvRn, MvRt, List.nodup_cons, List.nodup_nil, ↓reduceIte, Nat.reduceEqDiff, Nat.reduceLT, Nat.reduceLeDiff, reduceCtorEq, List.forall_mem_nil, Nat.zero_le, false_implies, List.mem_singleton, hm]) <;> (try (simp -dsimp only [go_sem, eq_self, MvRb, MvRn, MvRt, List.nodup_cons, List.nodup_nil, ↓reduceIte, Nat.reduceEqDiff, Nat.reduceLT, Nat.reduceLeDiff, reduceCtorEq, List.forall_mem_nil, Nat.zero_le, false_implies, List.mem_singleton, hm]))) <;> simp <;> exact hm⟩ (fun ⟨⟨n, e⟩, q1, q2, q3⟩ => ?_)
  simp only at q1 q2 q3 ⊢
  by_cases hn : 16777216 ≤ n
  · have hn' := eq_true hn
    have w1 : IntKind.i64.wrap (n - 8388608) = n - 8388608 := wrap_id (by omega) (by omega)
    have w2 : IntKind.i64.wrap (e + 1) = e + 1 := wrap_id (by omega) (by omega)
    try simp -dsimp (maxSteps := 1000000) only [go_sem, List.forall_mem_nil, ↓reduceIte, Nat.reduceEqDiff, Nat.reduceLT, Nat.reduceLeDiff, Nat.reduceAdd, Nat.reduceMul, reduceCtorEq, Tryz.f106, hn', w1, w2]
    exact ⟨⟨(n - 8388608, e + 1), by simp only []; omega⟩, by simp only []; omega, [], [], by (simp only [go_sem, eq_self, MvRb, MvRn, MvRt, List.nodup_cons, List.nodup_nil, ↓reduceIte, Nat.reduceEqDiff, Nat.reduceLT, Nat.reduceLeDiff, reduceCtorEq, List.forall_mem_nil, Nat.zero_le, false_implies, List.mem_singleton]) <;> simp⟩
  have hn' := eq_false hn
  obtain ⟨y0, hy0⟩ : ∃ y, FloatKind.f64.nearest n = y := ⟨_, rfl⟩
  try simp -dsimp (maxSteps := 1000000) only [go_sem, List.forall_mem_nil, ↓reduceIte, Nat.reduceEqDiff, Nat.reduceLT, Nat.reduceLeDiff, Nat.reduceAdd, Nat.reduceMul, reduceCtorEq, Tryz.f106, hn', hy0]
  refine loop_i (ι := Nat × { i : Nat // i ≤ 149 }) (fun x => ⟨[(0, some (.c (.im (.int .i64 k)))), (5, some (.c (.im (.int .i64 e)))), (6, some (.c (.im (.flt .f64 x.1)))), (7, some (.c (.im (.int .i64 (x.2.1 : Int)))))], [], 0⟩) (fun x => 149 - x.2.1) (y0, ⟨0, by omega⟩) ⟨[], [], by ((simp only [go_sem, eq_self, MvRb, MvRn, MvRt, List.nodup_cons, List.nodup_nil, ↓reduceIte, Nat.reduceEqDiff, Nat.reduceLT, Nat.reduceLeDiff, reduceCtorEq, List.forall_mem_nil, Nat.zero_le, false_implies, List.mem_singleton]) <;> (try (simp -dsimp only [go_sem, eq_self, MvRb, MvRn, MvRt, List.nodup_cons, List.nodup_nil, ↓reduceIte, Nat.reduceEqDiff, Nat.reduceLT, Nat.reduceLeDiff, reduceCtorEq, List.forall_mem_nil, Nat.zero_le, false_implies, List.mem_singleton]))) <;> simp⟩ (fun ⟨y, ⟨i, hi⟩⟩ => ?_)
  simp only
  by_cases hi' : i < 149
  · have hI : ((i : Int) < 149) = True := eq_true (by omega)
    have w1 : IntKind.i64.wrap ((i : Int) + 1) = (i : Int) + 1 := wrap_id (by omega) (by omega)
    try simp -dsimp (maxSteps := 1000000) only [go_sem, List.forall_mem_nil, ↓reduceIte, Nat.reduceEqDiff, Nat.reduceLT, Nat.reduceLeDiff, Nat.reduceAdd, Nat.reduceMul, reduceCtorEq, Tryz.f106, hI, w1]
    exact ⟨(fop .quo .f64 y 4611686018427387904, ⟨i + 1, by omega⟩), by simp only []; omega, [], [], by ((simp only [go_sem, eq_self, MvRb, MvRn, MvRt, List.nodup_cons, List.nodup_nil, ↓reduceIte, Nat.reduceEqDiff, Nat.reduceLT, Nat.reduceLeDiff, reduceCtorEq, List.forall_mem_nil, Nat.zero_le, false_implies, List.mem_singleton]) <;> (try (simp -dsimp only [go_sem, eq_self, MvRb, MvRn, MvRt, List.nodup_cons, List.nodup_nil, ↓reduceIte, Nat.reduceEqDiff, Nat.reduceLT, Nat.reduceLeDiff, reduceCtorEq, List.forall_mem_nil, Nat.zero_le, false_implies, List.mem_singleton]))) <;> simp⟩
  have hI : ((i : Int) < 149) = False := eq_false (by omega)
  try simp -dsimp (maxSteps := 1000000) only [go_sem, List.forall_mem_nil, ↓reduceIte, Nat.reduceEqDiff, Nat.reduceLT, Nat.reduceLeDiff, Nat.reduceAdd, Nat.reduceMul, reduceCtorEq, Tryz.f106, hI]
  refine loop_i (ι := Nat × { e : Int // 0 ≤ e ∧ e ≤ 4294967296 }) (fun x => ⟨[(0, some (.c (.im (.int .i64 k)))), (5, some (.c (.im (.int .i64 x.2.1)))), (6, some (.c (.im (.flt .f64 x.1))))], [], 0⟩) (fun x => x.2.1.toNat) (y, ⟨e, by omega⟩) ⟨[], [], by (simp only [go_sem, eq_self, MvRb, MvRn, MvRt, List.nodup_cons, List.nodup_nil, ↓reduceIte, Nat.reduceEqDiff, Nat.reduceLT, Nat.reduceLeDiff, reduceCtorEq, List.forall_mem_nil, Nat.zero_le, false_implies, List.mem_singleton]) <;> simp⟩ (fun ⟨z, ⟨f, f1, f2⟩⟩ => ?_)
  simp only
  by_cases hf : 0 < f
  · have hF := eq_true hf
    have w1 : IntKind.i64.wrap (f - 1) = f - 1 := wrap_id (by omega) (by omega)
    try simp -dsimp (maxSteps := 1000000) only [go_sem, List.forall_mem_nil, ↓reduceIte, Nat.reduceEqDiff, Nat.reduceLT, Nat.reduceLeDiff, Nat.reduceAdd, Nat.reduceMul, reduceCtorEq, Tryz.f106, hF, w1]
    exact ⟨(fop .mul .f64 z 4611686018427387904, ⟨f - 1, by omega⟩), by simp only []; omega, [], [], by (simp only [go_sem, eq_self, MvRb, MvRn, MvRt, List.nodup_cons, List.nodup_nil, ↓reduceIte, Nat.reduceEqDiff, Nat.reduceLT, Nat.reduceLeDiff, reduceCtorEq, List.forall_mem_nil, Nat.zero_le, false_implies, List.mem_singleton]) <;> simp⟩
  have hF := eq_false hf
  by_cases hk0 : k < 0
  · have hk' := eq_true hk0
    try simp -dsimp (maxSteps := 1000000) only [go_sem, List.forall_mem_nil, ↓reduceIte, Nat.reduceEqDiff, Nat.reduceLT, Nat.reduceLeDiff, Nat.reduceAdd, Nat.reduceMul, reduceCtorEq, Tryz.f106, hF, hk', cK_narrow]
    intro o
    exact ⟨(_, _), rfl, rfl⟩
  · have hk' := eq_false hk0
    try simp -dsimp (maxSteps := 1000000) only [go_sem, List.forall_mem_nil, ↓reduceIte, Nat.reduceEqDiff, Nat.reduceLT, Nat.reduceLeDiff, Nat.reduceAdd, Nat.reduceMul, reduceCtorEq, Tryz.f106, hF, hk', cK_narrow]
    intro o
    exact ⟨(_, _), rfl, rfl⟩
def pick5 : List Int := [0, 8388608, -8388608, 1065353216, 2139095019]
theorem pick5_rng {x : Int} (h : x ∈ pick5) : -8388608 ≤ x ∧ x ≤ 2139095019 := by
  simp only [pick5, List.mem_cons, List.not_mem_nil, or_false] at h
  omega
set_option maxRecDepth 100000 in
set_option maxHeartbeats 4000000 in
theorem law_l1Any : Law Tryz.prog 65 ctNat := by
  refine fam_law (Env_cons law_l01Once (Env_cons law_l1Odd (Env_cons law_l01Below (Env_cons law_l01Int (Env_cons law_FromSteps (Env_cons law_l1Some Env_nil)))))) hmixA Tryz.func65 rfl rfl (fun ⟨l, h1, h2, a, h, h3, h4⟩ => ⟨okA (fun o => okK (n := 0) okDi), by simp [Tryz.f65], ?_⟩)
  simp only [oNat, hsK]
  try simp -dsimp (maxSteps := 1000000) only [go_sem, List.forall_mem_nil, ↓reduceIte, Nat.reduceEqDiff, Nat.reduceLT, Nat.reduceLeDiff, Nat.reduceAdd, Nat.reduceMul, reduceCtorEq, Tryz.f65, run_l01Once h1 h2 h3 h4 (n := 8) (by decide) (by decide), oOnce, hsK, ne_once]
  rintro ⟨c1, ⟨⟨a1, k1⟩, b1⟩⟩
  cases c1 with
  | true =>
    try simp -dsimp (maxSteps := 1000000) only [go_sem, List.forall_mem_nil, ↓reduceIte, Nat.reduceEqDiff, Nat.reduceLT, Nat.reduceLeDiff, Nat.reduceAdd, Nat.reduceMul, reduceCtorEq, Tryz.f65, runNat h1 h2 b1.1 b1.2, oNat, hsK, ne_onat]
    rintro ⟨x, ⟨⟨a2, k2⟩, b2⟩⟩
    try simp -dsimp (maxSteps := 1000000) only [go_sem, List.forall_mem_nil, ↓reduceIte, Nat.reduceEqDiff, Nat.reduceLT, Nat.reduceLeDiff, Nat.reduceAdd, Nat.reduceMul, reduceCtorEq, Tryz.f65, hsK]
    exact ⟨(_, ⟨(a2, k2), b2⟩), rfl, rfl⟩
  | false =>
    try simp -dsimp (maxSteps := 1000000) only [go_sem, List.forall_mem_nil, ↓reduceIte, Nat.reduceEqDiff, Nat.reduceLT, Nat.reduceLeDiff, Nat.reduceAdd, Nat.reduceMul, reduceCtorEq, Tryz.f65, run_l01Once h1 h2 b1.1 b1.2 (n := 6) (by decide) (by decide), oOnce, hsK, ne_once]
    rintro ⟨c2, ⟨⟨a2, k2⟩, b2⟩⟩
    cases c2 with
    | false =>
      try simp -dsimp (maxSteps := 1000000) only [go_sem, List.forall_mem_nil, ↓reduceIte, Nat.reduceEqDiff, Nat.reduceLT, Nat.reduceLeDiff, Nat.reduceAdd, Nat.reduceMul, reduceCtorEq, Tryz.f65, runNat h1 h2 b2.1 b2.2, oNat, hsK, ne_onat]
      rintro ⟨x, ⟨⟨a3, k3⟩, b3⟩⟩
      try simp -dsimp (maxSteps := 1000000) only [go_sem, List.forall_mem_nil, ↓reduceIte, Nat.reduceEqDiff, Nat.reduceLT, Nat.reduceLeDiff, Nat.reduceAdd, Nat.reduceMul, reduceCtorEq, Tryz.f65, hsK]
      exact ⟨(_, ⟨(a3, k3), b3⟩), rfl, rfl⟩
    | true =>
      try simp -dsimp (maxSteps := 1000000) only [go_sem, List.forall_mem_nil, ↓reduceIte, Nat.reduceEqDiff, Nat.reduceLT, Nat.reduceLeDiff, Nat.reduceAdd, Nat.reduceMul, reduceCtorEq, Tryz.f65, run_l01Below h1 h2 b2.1 b2.2 (n := 40) (by decide) (by decide), oBelow, hsK, ne_below l (n := 40) (by decide)]
      rintro ⟨⟨v, ⟨⟨a3, k3⟩, b3⟩⟩, v1, v2⟩
      simp only at v1 v2
      have w1 : IntKind.i64.wrap (v - 20) = v - 20 := wrap_id (by omega) (by omega)
      have ri : ct_l01Int.run [.c (.ptr 0 0 0 0), .c (.im (.sl 1 [[.int .i64 0], [.int .i64 8388608], [.int .i64 (-8388608)], [.int .i64 1065353216], [.int .i64 2139095019]]))] [[.t (.im (.sl 1 (rowsB l))), .t (.im (.int .i64 a3)), .t (.im (.int .i64 k3))]] = some (oInt l pick5) := run_l01Int (m := pick5) h1 h2 b3.1 b3.2 (by decide) (by decide)
      try simp -dsimp (maxSteps := 1000000) only [go_sem, List.forall_mem_nil, ↓reduceIte, Nat.reduceEqDiff, Nat.reduceLT, Nat.reduceLeDiff, Nat.reduceAdd, Nat.reduceMul, reduceCtorEq, Tryz.f65, w1, ri, sc_l01Int, oInt, hsK, ne_oint l (m := pick5) (by decide)]
      rintro ⟨⟨u, hu⟩, ⟨⟨a4, k4⟩, b4⟩⟩
      have hur := pick5_rng hu
      have w2 : IntKind.i64.wrap (v - 20 + u) = v - 20 + u := wrap_id (by omega) (by omega)
      try simp -dsimp (maxSteps := 1000000) only [go_sem, List.forall_mem_nil, ↓reduceIte, Nat.reduceEqDiff, Nat.reduceLT, Nat.reduceLeDiff, Nat.reduceAdd, Nat.reduceMul, reduceCtorEq, Tryz.f65, w1, w2, run_FromSteps (k := v - 20 + u) (by omega) (by omega), oFS, rFS, hsK, ne_FS]
      rintro ⟨x, ok⟩
      try simp -dsimp (maxSteps := 1000000) only [go_sem, List.forall_mem_nil, ↓reduceIte, Nat.reduceEqDiff, Nat.reduceLT, Nat.reduceLeDiff, Nat.reduceAdd, Nat.reduceMul, reduceCtorEq, Tryz.f65, rFS, hsK]
      exact ⟨(_, ⟨(a4, k4), b4⟩), rfl, rfl⟩
def oPt (l : List Int) : Outs := .any (Pt × SK l) (fun q => { val := .c (.im (.cpx .f32 q.1.1 q.1.2)), places := hsK l q.2.1.1 q.2.1.2 })
theorem ne_opt (l : List Int) : Nonempty (Pt × SK l) = True := by simp only [eq_iff_iff, iff_true]; exact ⟨((0, 0), ⟨(0, 0), by simp⟩)⟩
noncomputable def ct_l2Any : Ct := fam false (fun x : AKn => ([.c (.ptr 0 0 0 0)], hsK x.l x.a x.h)) (fun x => oPt x.l)
theorem run_l2Any {l : List Int} {a h : Int} (h1 : l.length ≤ 1048576) (h2 : ∀ b ∈ l, 0 ≤ b ∧ b < 256) (h3 : 0 ≤ a) (h4 : a ≤ l.length) : ct_l2Any.run [.c (.ptr 0 0 0 0)] [[.t (.im (.sl 1 (rowsB l))), .t (.im (.int .i64 a)), .t (.im (.int .i64 h))]] = some (oPt l) := by
  refine fam_run' (args := fun x : AKn => ([D.c (.ptr 0 0 0 0)], hsK x.l x.a x.h)) (fun x y h => ?_) ⟨l, h1, h2, a, h, h3, h4⟩
  simp only [Prod.mk.injEq, true_and] at h
  exact AKn_ext (hsK_inj h)
set_option maxRecDepth 100000 in
set_option maxHeartbeats 4000000 in
theorem law_l2Any : Law Tryz.prog 88 ct_l2Any := by
  refine fam_law (Env_cons law_l1Any Env_nil) hmixA Tryz.func88 rfl rfl (fun ⟨l, h1, h2, a, h, h3, h4⟩ => ⟨okA (fun o => okK (n := 0) okDi), by simp [Tryz.f88], ?_⟩)
  simp only [oPt, hsK]
  try simp -dsimp (maxSteps := 1000000) only [go_sem, List.forall_mem_nil, ↓reduceIte, Nat.reduceEqDiff, Nat.reduceLT, Nat.reduceLeDiff, Nat.reduceAdd, Nat.reduceMul, reduceCtorEq, Tryz.f88, runNat h1 h2 h3 h4, oNat, hsK, ne_onat]
  rintro ⟨x, ⟨⟨a1, k1⟩, b1⟩⟩
  try simp -dsimp (maxSteps := 1000000) only [go_sem, List.forall_mem_nil, ↓reduceIte, Nat.reduceEqDiff, Nat.reduceLT, Nat.reduceLeDiff, Nat.reduceAdd, Nat.reduceMul, reduceCtorEq, Tryz.f88, runNat h1 h2 b1.1 b1.2, oNat, hsK, ne_onat]
  rintro ⟨y, ⟨⟨a2, k2⟩, b2⟩⟩
  try simp -dsimp (maxSteps := 1000000) only [go_sem, List.forall_mem_nil, ↓reduceIte, Nat.reduceEqDiff, Nat.reduceLT, Nat.reduceLeDiff, Nat.reduceAdd, Nat.reduceMul, reduceCtorEq, Tryz.f88, hsK]
  exact ⟨((x, y), ⟨(a2, k2), b2⟩), rfl, rfl, rfl⟩
end Go.SX
set_option linter.unusedVariables false
set_option linter.unusedSimpArgs false
namespace Go.SX
open Go Go.Proofs
def finS (x : Nat) : Bool := fcmp .eql .f32 (fop .sub .f32 x x) 0
noncomputable def ct_l1Finite : Ct := fam true (fun x : Nat => ([.c (.im (.flt .f32 x))], [])) (fun x => .one { val := .c (.im (.bool (finS x))) })
theorem run_l1Finite (x : Nat) : ct_l1Finite.run [.c (.im (.flt .f32 x))] [] = some (.one { val := .c (.im (.bool (finS x))) }) := fam_run' (by
    intro a b h
    simp only [Prod.mk.injEq, List.cons.injEq, D.c.injEq, D.agg.injEq, C.im.injEq, I.cpx.injEq, I.flt.injEq, I.int.injEq, I.sl.injEq, I.bool.injEq, I.str.injEq, Int.natCast_inj, true_and, and_true] at h
    (try simp only [Prod.ext_iff, Subtype.ext_iff])
    (try simp only [rowsZ_eq, rowsN_eq] at h)
    simp_all) x
set_option maxRecDepth 100000 in
theorem law_l1Finite : Law Tryz.prog 127 ct_l1Finite := by
  refine fam_law Env_nil hmixA Tryz.func127 rfl rfl (fun x => ⟨okO_im rfl, by simp [Tryz.f127], ?_⟩)
  simp only [finS]
  try simp -dsimp (maxSteps := 1000000) only [go_sem, List.forall_mem_nil, ↓reduceIte, Nat.reduceEqDiff, Nat.reduceLT, Nat.reduceLeDiff, Nat.reduceAdd, Nat.reduceMul, reduceCtorEq, Tryz.f127]
noncomputable def ct_l2Finite : Ct := fam true (fun x : Pt => ([.c (.im (.cpx .f32 x.1 x.2))], [])) (fun x => .one { val := .c (.im (.bool (finS x.1 && finS x.2))) })
theorem run_l2Finite (x y : Nat) : ct_l2Finite.run [.c (.im (.cpx .f32 x y))] [] = some (.one { val := .c (.im (.bool (finS x && finS y))) }) := fam_run' (by
    intro a b h
    simp only [Prod.mk.injEq, List.cons.injEq, D.c.injEq, D.agg.injEq, C.im.injEq, I.cpx.injEq, I.flt.injEq, I.int.injEq, I.sl.injEq, I.bool.injEq, I.str.injEq, Int.natCast_inj, true_and, and_true] at h
    (try simp only [Prod.ext_iff, Subtype.ext_iff])
    (try simp only [rowsZ_eq, rowsN_eq] at h)
    simp_all) (x, y)
set_option maxRecDepth 100000 in
theorem law_l2Finite : Law Tryz.prog 126 ct_l2Finite := by
  refine fam_law (Env_cons law_l1Finite Env_nil) hmixA Tryz.func126 rfl rfl (fun x => ⟨okO_im rfl, by simp [Tryz.f126], ?_⟩)
  try simp -dsimp (maxSteps := 1000000) only [go_sem, List.forall_mem_nil, ↓reduceIte, Nat.reduceEqDiff, Nat.reduceLT, Nat.reduceLeDiff, Nat.reduceAdd, Nat.reduceMul, reduceCtorEq, Tryz.f126, run_l1Finite]
  repeat' ((first | (with_reducible refine gS_d ?_ ?_) | (with_reducible refine gS_dn ?_ ?_) | (with_reducible refine gS_i ?_ ?_)) <;> intro hg <;> (try simp -dsimp (maxSteps := 1000000) only [go_sem, List.forall_mem_nil, ↓reduceIte, Nat.reduceEqDiff, Nat.reduceLT, Nat.reduceLeDiff, Nat.reduceAdd, Nat.reduceMul, reduceCtorEq, Tryz.f126, run_l1Finite, *]))
  all_goals simp_all
set_option maxRecDepth 100000 in
theorem law_sMul : Law Tryz.prog 113 ct_MultiplyPoints := by
  refine fam_law Env_nil hmixA Tryz.func113 rfl rfl (fun x => ⟨okA (fun o => okR_im rfl), by simp [Tryz.f113], ?_⟩)
  simp only [oMul, mulPt, mulRe, mulIm]
  try simp -dsimp (maxSteps := 1000000) only [go_sem, List.forall_mem_nil, ↓reduceIte, Nat.reduceEqDiff, Nat.reduceLT, Nat.reduceLeDiff, Nat.reduceAdd, Nat.reduceMul, reduceCtorEq, Tryz.f113, fconv_w, cK_narrow]
  exact fun a b => ⟨(a, b), rfl, rfl⟩
set_option maxRecDepth 100000 in
theorem law_sDist : Law Tryz.prog 161 ct_DistanceOf := by
  refine fam_law Env_nil hmixA Tryz.func161 rfl rfl (fun x => ⟨okO_im rfl, by simp [Tryz.f161], ?_⟩)
  simp only [distF]
  try simp -dsimp (maxSteps := 1000000) only [go_sem, List.forall_mem_nil, ↓reduceIte, Nat.reduceEqDiff, Nat.reduceLT, Nat.reduceLeDiff, Nat.reduceAdd, Nat.reduceMul, reduceCtorEq, Tryz.f161]
def absS (x : Nat) : Nat := if fcmp .lss .f32 x 0 = true then Op.negFloat .f32 x else if fcmp .eql .f32 x 0 = true then 0 else x
noncomputable def ct_l1Abs : Ct := fam true (fun x : Nat => ([.c (.im (.flt .f32 x))], [])) (fun x => .one { val := .c (.im (.flt .f32 (absS x))) })
theorem run_l1Abs (x : Nat) : ct_l1Abs.run [.c (.im (.flt .f32 x))] [] = some (.one { val := .c (.im (.flt .f32 (absS x))) }) := fam_run' (by
    intro a b h
    simp only [Prod.mk.injEq, List.cons.injEq, D.c.injEq, D.agg.injEq, C.im.injEq, I.cpx.injEq, I.flt.injEq, I.int.injEq, I.sl.injEq, I.bool.injEq, I.str.injEq, Int.natCast_inj, true_and, and_true] at h
    (try simp only [Prod.ext_iff, Subtype.ext_iff])
    (try simp only [rowsZ_eq, rowsN_eq] at h)
    simp_all) x
set_option maxRecDepth 100000 in
theorem law_l1Abs : Law Tryz.prog 50 ct_l1Abs := by
  refine fam_law Env_nil hmixA Tryz.func50 rfl rfl (fun x => ⟨okO_im rfl, by simp [Tryz.f50], ?_⟩)
  simp only [absS]
  cases h : fcmp .lss .f32 x 0 with
  | true =>
    try simp -dsimp (maxSteps := 1000000) only [go_sem, List.forall_mem_nil, ↓reduceIte, Nat.reduceEqDiff, Nat.reduceLT, Nat.reduceLeDiff, Nat.reduceAdd, Nat.reduceMul, reduceCtorEq, Tryz.f50, h]
  | false =>
    cases h2 : fcmp .eql .f32 x 0 with
    | true =>
      try simp -dsimp (maxSteps := 1000000) only [go_sem, List.forall_mem_nil, ↓reduceIte, Nat.reduceEqDiff, Nat.reduceLT, Nat.reduceLeDiff, Nat.reduceAdd, Nat.reduceMul, reduceCtorEq, Tryz.f50, h, h2]
    | false =>
      try simp -dsimp (maxSteps := 1000000) only [go_sem, List.forall_mem_nil, ↓reduceIte, Nat.reduceEqDiff, Nat.reduceLT, Nat.reduceLeDiff, Nat.reduceAdd, Nat.reduceMul, reduceCtorEq, Tryz.f50, h, h2]
theorem fcmp_neq (k : FloatKind) (x y : Nat) : fcmp .neq k x y = !(fcmp .eql k x y) := rfl
def subnS (x : Nat) : Bool := !(fcmp .eql .f32 x 0) && fcmp .lss .f64 (w64 (absS x)) 4039728865751334912
def flushS (x : Nat) : Nat := if subnS x = true then fop .mul .f32 x 0 else x
noncomputable def ct_sSubn : Ct := fam true (fun x : Nat => ([.c (.im (.flt .f32 x))], [])) (fun x => .one { val := .c (.im (.bool (subnS x))) })
theorem run_sSubn (x : Nat) : ct_sSubn.run [.c (.im (.flt .f32 x))] [] = some (.one { val := .c (.im (.bool (subnS x))) }) := fam_run' (by
    intro a b h
    simp only [Prod.mk.injEq, List.cons.injEq, D.c.injEq, D.agg.injEq, C.im.injEq, I.cpx.injEq, I.flt.injEq, I.int.injEq, I.sl.injEq, I.bool.injEq, I.str.injEq, Int.natCast_inj, true_and, and_true] at h
    (try simp only [Prod.ext_iff, Subtype.ext_iff])
    (try simp only [rowsZ_eq, rowsN_eq] at h)
    simp_all) x
set_option maxRecDepth 100000 in
theorem law_sSubn : Law Tryz.prog 21 ct_sSubn := by
  refine fam_law (Env_cons law_l1Abs Env_nil) hmixA Tryz.func21 rfl rfl (fun x => ⟨okO_im rfl, by simp [Tryz.f21], ?_⟩)
  simp only [subnS]
  cases h : fcmp .eql .f32 x 0 with
  | true =>
    have h' : fcmp .neq .f32 x 0 = false := by rw [fcmp_neq, h]; rfl
    try simp -dsimp (maxSteps := 1000000) only [go_sem, List.forall_mem_nil, ↓reduceIte, Nat.reduceEqDiff, Nat.reduceLT, Nat.reduceLeDiff, Nat.reduceAdd, Nat.reduceMul, reduceCtorEq, Tryz.f21, h, h']
    try simp [h]
  | false =>
    have h' : fcmp .neq .f32 x 0 = true := by rw [fcmp_neq, h]; rfl
    try simp -dsimp (maxSteps := 1000000) only [go_sem, List.forall_mem_nil, ↓reduceIte, Nat.reduceEqDiff, Nat.reduceLT, Nat.reduceLeDiff, Nat.reduceAdd, Nat.reduceMul, reduceCtorEq, Tryz.f21, h, h', run_l1Abs, fconv_w]
    try simp [h]
noncomputable def ct_sFlush : Ct := fam true (fun x : Nat => ([.c (.im (.flt .f32 x))], [])) (fun x => .one { val := .c (.im (.flt .f32 (flushS x))) })
theorem run_sFlush (x : Nat) : ct_sFlush.run [.c (.im (.flt .f32 x))] [] = some (.one { val := .c (.im (.flt .f32 (flushS x))) }) := fam_run' (by
    intro a b h
    simp only [Prod.mk.injEq, List.cons.injEq, D.c.injEq, D.agg.injEq, C.im.injEq, I.cpx.injEq, I.flt.injEq, I.int.injEq, I.sl.injEq, I.bool.injEq, I.str.injEq, Int.natCast_inj, true_and, and_true] at h
    (try simp only [Prod.ext_iff, Subtype.ext_iff])
    (try simp only [rowsZ_eq, rowsN_eq] at h)
    simp_all) x
set_option maxRecDepth 100000 in
theorem law_sFlush : Law Tryz.prog 114 ct_sFlush := by
  refine fam_law (Env_cons law_sSubn Env_nil) hmixA Tryz.func114 rfl rfl (fun x => ⟨okO_im rfl, by simp [Tryz.f114], ?_⟩)
  simp only [flushS]
  cases h : subnS x with
  | true =>
    try simp -dsimp (maxSteps := 1000000) only [go_sem, List.forall_mem_nil, ↓reduceIte, Nat.reduceEqDiff, Nat.reduceLT, Nat.reduceLeDiff, Nat.reduceAdd, Nat.reduceMul, reduceCtorEq, Tryz.f114, run_sSubn, h]
  | false =>
    try simp -dsimp (maxSteps := 1000000) only [go_sem, List.forall_mem_nil, ↓reduceIte, Nat.reduceEqDiff, Nat.reduceLT, Nat.reduceLeDiff, Nat.reduceAdd, Nat.reduceMul, reduceCtorEq, Tryz.f114, run_sSubn, h]
def rM (m : Mod) : Res := { val := .agg (modC m) }
theorem okR_M {m : Mod} : OkR false (rM m) := by
  refine ⟨.agg _ (fun x hx => ?_), by simp [rM], by simp [rM]⟩
  simp only [modC, List.mem_cons, List.not_mem_nil, or_false] at hx
  rcases hx with rfl | rfl | rfl | rfl | rfl | rfl | rfl | rfl | rfl | rfl | rfl <;> exact .im _ (.inl rfl)
def mSum' : Mod := ⟨5, (0, 0), (0, 0), 0, [], 0, 0, [], [], 0, 0⟩
def mSrc' (t s : Pt) : Mod := ⟨1, t, s, 0, [], 0, 0, [], [], 0, 0⟩
def mMix' (t : Pt) : Mod := ⟨2, t, (1065353216, 0), 0, [], 0, 0, [], [], 0, 0⟩
def mGain' (l : Nat) : Mod := ⟨3, (0, 0), (0, 0), l, [], 0, 0, [], [], 0, 0⟩
def mMeter' : Mod := ⟨7, (0, 0), (0, 0), 0, [], 0, 0, [], [], 0, 0⟩
noncomputable def ct_sSum : Ct := fam false (fun _ : Unit => ([], [])) (fun _ => .one (rM mSum'))
theorem run_sSum : ct_sSum.run [] [] = some (.one (rM mSum')) := fam_run' (args := fun _ : Unit => ([], [])) (fun _ _ _ => rfl) ()
set_option maxRecDepth 100000 in
theorem law_sSum : Law Tryz.prog 60 ct_sSum := by
  refine fam_lawF Env_nil hmixA Tryz.func60 rfl rfl (fun _ => ⟨okO okR_M, by simp [Tryz.f60], ?_⟩)
  simp only [mSum', rM, modC, rowsZ_nil, rowsN_nil]
  try simp -dsimp (maxSteps := 1000000) only [go_sem, List.forall_mem_nil, ↓reduceIte, Nat.reduceEqDiff, Nat.reduceLT, Nat.reduceLeDiff, Nat.reduceAdd, Nat.reduceMul, reduceCtorEq, Tryz.f60]
  refine finF_i [.nilI 1 [.b 0 0 4, .b 0 0 7, .b 0 0 8]] ?_
  simp -dsimp (maxSteps := 1000000) only [go_sem, List.forall_mem_nil, ↓reduceIte, Nat.reduceEqDiff, Nat.reduceLT, Nat.reduceLeDiff, Nat.reduceAdd, Nat.reduceMul, reduceCtorEq]
noncomputable def ct_sMeter : Ct := fam false (fun _ : Unit => ([], [])) (fun _ => .one (rM mMeter'))
theorem run_sMeter : ct_sMeter.run [] [] = some (.one (rM mMeter')) := fam_run' (args := fun _ : Unit => ([], [])) (fun _ _ _ => rfl) ()
set_option maxRecDepth 100000 in
theorem law_sMeter : Law Tryz.prog 69 ct_sMeter := by
  refine fam_lawF Env_nil hmixA Tryz.func69 rfl rfl (fun _ => ⟨okO okR_M, by simp [Tryz.f69], ?_⟩)
  simp only [mMeter', rM, modC, rowsZ_nil, rowsN_nil]
  try simp -dsimp (maxSteps := 1000000) only [go_sem, List.forall_mem_nil, ↓reduceIte, Nat.reduceEqDiff, Nat.reduceLT, Nat.reduceLeDiff, Nat.reduceAdd, Nat.reduceMul, reduceCtorEq, Tryz.f69]
  refine finF_i [.nilI 1 [.b 0 0 4, .b 0 0 7, .b 0 0 8]] ?_
  simp -dsimp (maxSteps := 1000000) only [go_sem, List.forall_mem_nil, ↓reduceIte, Nat.reduceEqDiff, Nat.reduceLT, Nat.reduceLeDiff, Nat.reduceAdd, Nat.reduceMul, reduceCtorEq]
noncomputable def ct_sSource : Ct := fam false (fun x : Pt × Pt => ([.c (.im (.cpx .f32 x.1.1 x.1.2)), .c (.im (.cpx .f32 x.2.1 x.2.2))], [])) (fun x => .one (rM (mSrc' x.1 x.2)))
theorem run_sSource (a b c d : Nat) : ct_sSource.run [.c (.im (.cpx .f32 a b)), .c (.im (.cpx .f32 c d))] [] = some (.one (rM (mSrc' (a, b) (c, d)))) := fam_run' (by
    intro a b h
    simp only [Prod.mk.injEq, List.cons.injEq, D.c.injEq, D.agg.injEq, C.im.injEq, I.cpx.injEq, I.flt.injEq, I.int.injEq, I.sl.injEq, I.bool.injEq, I.str.injEq, Int.natCast_inj, true_and, and_true] at h
    (try simp only [Prod.ext_iff, Subtype.ext_iff])
    (try simp only [rowsZ_eq, rowsN_eq] at h)
    simp_all) ((a, b), (c, d))
set_option maxRecDepth 100000 in
theorem law_sSource : Law Tryz.prog 30 ct_sSource := by
  refine fam_lawF Env_nil hmixA Tryz.func30 rfl rfl (fun x => ⟨okO okR_M, by simp [Tryz.f30], ?_⟩)
  simp only [mSrc', rM, modC, rowsZ_nil, rowsN_nil]
  try simp -dsimp (maxSteps := 1000000) only [go_sem, List.forall_mem_nil, ↓reduceIte, Nat.reduceEqDiff, Nat.reduceLT, Nat.reduceLeDiff, Nat.reduceAdd, Nat.reduceMul, reduceCtorEq, Tryz.f30]
  refine finF_i [.nilI 1 [.b 0 0 4, .b 0 0 7, .b 0 0 8]] ?_
  simp -dsimp (maxSteps := 1000000) only [go_sem, List.forall_mem_nil, ↓reduceIte, Nat.reduceEqDiff, Nat.reduceLT, Nat.reduceLeDiff, Nat.reduceAdd, Nat.reduceMul, reduceCtorEq]
noncomputable def ct_sMixer : Ct := fam false (fun x : Pt => ([.c (.im (.cpx .f32 x.1 x.2))], [])) (fun x => .one (rM (mMix' x)))
theorem run_sMixer (a b : Nat) : ct_sMixer.run [.c (.im (.cpx .f32 a b))] [] = some (.one (rM (mMix' (a, b)))) := fam_run' (by
    intro a b h
    simp only [Prod.mk.injEq, List.cons.injEq, D.c.injEq, D.agg.injEq, C.im.injEq, I.cpx.injEq, I.flt.injEq, I.int.injEq, I.sl.injEq, I.bool.injEq, I.str.injEq, Int.natCast_inj, true_and, and_true] at h
    (try simp only [Prod.ext_iff, Subtype.ext_iff])
    (try simp only [rowsZ_eq, rowsN_eq] at h)
    simp_all) (a, b)
set_option maxRecDepth 100000 in
theorem law_sMixer : Law Tryz.prog 63 ct_sMixer := by
  refine fam_lawF Env_nil hmixA Tryz.func63 rfl rfl (fun x => ⟨okO okR_M, by simp [Tryz.f63], ?_⟩)
  simp only [mMix', rM, modC, rowsZ_nil, rowsN_nil]
  try simp -dsimp (maxSteps := 1000000) only [go_sem, List.forall_mem_nil, ↓reduceIte, Nat.reduceEqDiff, Nat.reduceLT, Nat.reduceLeDiff, Nat.reduceAdd, Nat.reduceMul, reduceCtorEq, Tryz.f63]
  refine finF_i [.nilI 1 [.b 0 0 4, .b 0 0 7, .b 0 0 8]] ?_
  simp -dsimp (maxSteps := 1000000) only [go_sem, List.forall_mem_nil, ↓reduceIte, Nat.reduceEqDiff, Nat.reduceLT, Nat.reduceLeDiff, Nat.reduceAdd, Nat.reduceMul, reduceCtorEq]
noncomputable def ct_sGain : Ct := fam false (fun x : Nat => ([.c (.im (.flt .f32 x))], [])) (fun x => .one (rM (mGain' x)))
theorem run_sGain (a : Nat) : ct_sGain.run [.c (.im (.flt .f32 a))] [] = some (.one (rM (mGain' a))) := fam_run' (by
    intro a b h
    simp only [Prod.mk.injEq, List.cons.injEq, D.c.injEq, D.agg.injEq, C.im.injEq, I.cpx.injEq, I.flt.injEq, I.int.injEq, I.sl.injEq, I.bool.injEq, I.str.injEq, Int.natCast_inj, true_and, and_true] at h
    (try simp only [Prod.ext_iff, Subtype.ext_iff])
    (try simp only [rowsZ_eq, rowsN_eq] at h)
    simp_all) a
set_option maxRecDepth 100000 in
theorem law_sGain : Law Tryz.prog 64 ct_sGain := by
  refine fam_lawF Env_nil hmixA Tryz.func64 rfl rfl (fun x => ⟨okO okR_M, by simp [Tryz.f64], ?_⟩)
  simp only [mGain', rM, modC, rowsZ_nil, rowsN_nil]
  try simp -dsimp (maxSteps := 1000000) only [go_sem, List.forall_mem_nil, ↓reduceIte, Nat.reduceEqDiff, Nat.reduceLT, Nat.reduceLeDiff, Nat.reduceAdd, Nat.reduceMul, reduceCtorEq, Tryz.f64]
  refine finF_i [.nilI 1 [.b 0 0 4, .b 0 0 7, .b 0 0 8]] ?_
  simp -dsimp (maxSteps := 1000000) only [go_sem, List.forall_mem_nil, ↓reduceIte, Nat.reduceEqDiff, Nat.reduceLT, Nat.reduceLeDiff, Nat.reduceAdd, Nat.reduceMul, reduceCtorEq]
noncomputable def ct_l5Turn : Ct := fam false (fun x : AKn => ([.c (.ptr 0 0 0 0)], hsK x.l x.a x.h)) (fun x => oPt x.l)
theorem run_l5Turn {l : List Int} {a h : Int} (h1 : l.length ≤ 1048576) (h2 : ∀ b ∈ l, 0 ≤ b ∧ b < 256) (h3 : 0 ≤ a) (h4 : a ≤ l.length) : ct_l5Turn.run [.c (.ptr 0 0 0 0)] [[.t (.im (.sl 1 (rowsB l))), .t (.im (.int .i64 a)), .t (.im (.int .i64 h))]] = some (oPt l) := by
  refine fam_run' (args := fun x : AKn => ([D.c (.ptr 0 0 0 0)], hsK x.l x.a x.h)) (fun x y h => ?_) ⟨l, h1, h2, a, h, h3, h4⟩
  simp only [Prod.mk.injEq, true_and] at h
  exact AKn_ext (hsK_inj h)
set_option maxRecDepth 100000 in
set_option maxHeartbeats 8000000 in
theorem law_l5Turn : Law Tryz.prog 61 ct_l5Turn := by
  refine fam_law (Env_cons law_l01Below (Env_cons law_l2Any Env_nil)) hmixA Tryz.func61 rfl rfl (fun ⟨l, h1, h2, a, h, h3, h4⟩ => ⟨okA (fun o => okK (n := 0) okDi), by simp [Tryz.f61], ?_⟩)
  simp only [oPt, hsK]
  try simp -dsimp (maxSteps := 1000000) only [go_sem, List.forall_mem_nil, ↓reduceIte, Nat.reduceEqDiff, Nat.reduceLT, Nat.reduceLeDiff, Nat.reduceAdd, Nat.reduceMul, reduceCtorEq, Tryz.f61, run_l01Below h1 h2 h3 h4 (n := 6) (by decide) (by decide), oBelow, hsK, ne_below l (n := 6) (by decide)]
  rintro ⟨⟨v, ⟨⟨a1, k1⟩, b1⟩⟩, v1, v2⟩
  by_cases e0 : v = 0
  · have e0' := eq_true e0
    try simp -dsimp (maxSteps := 1000000) only [go_sem, List.forall_mem_nil, ↓reduceIte, Nat.reduceEqDiff, Nat.reduceLT, Nat.reduceLeDiff, Nat.reduceAdd, Nat.reduceMul, reduceCtorEq, Tryz.f61, e0', hsK]
    exact ⟨((_, _), ⟨(a1, k1), b1⟩), rfl, rfl, rfl⟩
  have e0' := eq_false e0
  by_cases e1 : v = 1
  · have e1' := eq_true e1
    try simp -dsimp (maxSteps := 1000000) only [go_sem, List.forall_mem_nil, ↓reduceIte, Nat.reduceEqDiff, Nat.reduceLT, Nat.reduceLeDiff, Nat.reduceAdd, Nat.reduceMul, reduceCtorEq, Tryz.f61, e0', e1', hsK]
    exact ⟨((_, _), ⟨(a1, k1), b1⟩), rfl, rfl, rfl⟩
  have e1' := eq_false e1
  by_cases e2 : v = 2
  · have e2' := eq_true e2
    try simp -dsimp (maxSteps := 1000000) only [go_sem, List.forall_mem_nil, ↓reduceIte, Nat.reduceEqDiff, Nat.reduceLT, Nat.reduceLeDiff, Nat.reduceAdd, Nat.reduceMul, reduceCtorEq, Tryz.f61, e0', e1', e2', hsK]
    exact ⟨((_, _), ⟨(a1, k1), b1⟩), rfl, rfl, rfl⟩
  have e2' := eq_false e2
  by_cases e3 : v = 3
  · have e3' := eq_true e3
    try simp -dsimp (maxSteps := 1000000) only [go_sem, List.forall_mem_nil, ↓reduceIte, Nat.reduceEqDiff, Nat.reduceLT, Nat.reduceLeDiff, Nat.reduceAdd, Nat.reduceMul, reduceCtorEq, Tryz.f61, e0', e1', e2', e3', run_l2Any h1 h2 b1.1 b1.2, oPt, ne_opt, hsK]
    rintro ⟨⟨x, y⟩, ⟨⟨a2, k2⟩, b2⟩⟩
    try simp -dsimp (maxSteps := 1000000) only [go_sem, List.forall_mem_nil, ↓reduceIte, Nat.reduceEqDiff, Nat.reduceLT, Nat.reduceLeDiff, Nat.reduceAdd, Nat.reduceMul, reduceCtorEq, Tryz.f61, hsK]
    exact ⟨((_, _), ⟨(a2, k2), b2⟩), rfl, rfl, rfl⟩
  have e3' := eq_false e3
  try simp -dsimp (maxSteps := 1000000) only [go_sem, List.forall_mem_nil, ↓reduceIte, Nat.reduceEqDiff, Nat.reduceLT, Nat.reduceLeDiff, Nat.reduceAdd, Nat.reduceMul, reduceCtorEq, Tryz.f61, e0', e1', e2', e3', run_l01Below h1 h2 b1.1 b1.2 (n := 9) (by decide) (by decide), oBelow, hsK, ne_below l (n := 9) (by decide)]
  rintro ⟨⟨u, ⟨⟨a2, k2⟩, b2⟩⟩, u1, u2⟩
  try simp -dsimp (maxSteps := 1000000) only [go_sem, List.forall_mem_nil, ↓reduceIte, Nat.reduceEqDiff, Nat.reduceLT, Nat.reduceLeDiff, Nat.reduceAdd, Nat.reduceMul, reduceCtorEq, Tryz.f61, run_l01Below h1 h2 b2.1 b2.2 (n := 9) (by decide) (by decide), oBelow, hsK, ne_below l (n := 9) (by decide)]
  rintro ⟨⟨w, ⟨⟨a3, k3⟩, b3⟩⟩, w1, w2⟩
  try simp -dsimp (maxSteps := 1000000) only [go_sem, List.forall_mem_nil, ↓reduceIte, Nat.reduceEqDiff, Nat.reduceLT, Nat.reduceLeDiff, Nat.reduceAdd, Nat.reduceMul, reduceCtorEq, Tryz.f61, hsK]
  exact ⟨((_, _), ⟨(a3, k3), b3⟩), rfl, rfl, rfl⟩
end Go.SX
set_option linter.unusedVariables false
set_option linter.unusedSimpArgs false
namespace Go.SX
open Go Ieee Go.Proofs
theorem signed_neg (s : Bool) (m k : Nat) : signed s m k + signed (!s) m k = 0 := by cases s <;> simp [signed] <;> omega
theorem finS_eq (x : Nat) : finS x = isFin x := by
  have e1 : single.binade = 8388608 := by decide
  have e2 : single.infRung = 2139095040 := by decide
  have e5 : single.signWeight = 2147483648 := by decide
  have hsub : fop .sub .f32 x x = ((((single.read x).sum (single.read x).opposite).map single.write)).getD (qn .f32) := rfl
  unfold finS isFin
  rw [hsub]
  have hq : fcmp .eql .f32 (qn .f32) 0 = false := by decide
  cases hr : single.read x with
  | nan s t =>
    have hn : isNaNb .f32 x = true := by show (single.read x).isNaN = true; rw [hr]; rfl
    have := nan_low hn
    have h2 : decide (x % 2147483648 ≤ 2139095039) = false := by simp; omega
    rw [h2]
    simpa [Datum.sum] using hq
  | infinity s =>
    have hx : x % 2147483648 = 2139095040 := by
      unfold Format.read at hr
      simp only [e1, e2, e5] at hr
      split at hr
      · cases hr
      · split at hr
        · cases hr
        · split at hr
          · assumption
          · cases hr
    have h2 : decide (x % 2147483648 ≤ 2139095039) = false := by simp; omega
    rw [h2]
    have h3 : (Datum.infinity s).sum (Datum.infinity s).opposite = none := by cases s <;> rfl
    rw [h3]
    simpa using hq
  | number s m e =>
    have hx : x % 2147483648 < 2139095040 := by
      unfold Format.read at hr
      simp only [e1, e2, e5] at hr
      split at hr
      · omega
      · split at hr
        · assumption
        · split at hr <;> cases hr
    have h2 : decide (x % 2147483648 ≤ 2139095039) = true := by simp; omega
    rw [h2]
    have h3 : (Datum.number s m e).sum (Datum.number s m e).opposite = some (.number false 0 e) := by
      simp only [Datum.opposite, Datum.sum, Int.min_self, signed_neg, if_true]
      cases s <;> rfl
    rw [h3]
    have h4 : single.write (.number false 0 e) = 0 := rfl
    simp only [Option.map_some, Option.getD_some, h4]
    decide
def lvlB (x : Nat) : Bool := x == 0 || (x == 1065353216 || (x == 1073741824 || x == 1077936128))
theorem abs_small {a : Int} (h1 : -3 ≤ a) (h2 : a ≤ 3) : lvlB (absS (wI a)) = true := by
  have : a = -3 ∨ a = -2 ∨ a = -1 ∨ a = 0 ∨ a = 1 ∨ a = 2 ∨ a = 3 := by omega
  rcases this with rfl | rfl | rfl | rfl | rfl | rfl | rfl <;> decide +kernel
theorem lvl_cases {x : Nat} (h : lvlB x = true) : x = 0 ∨ x = 1065353216 ∨ x = 1073741824 ∨ x = 1077936128 := by simpa [lvlB] using h
structure Drawn (m : Mod) : Prop where
  ok : OkM m
  mod : isModuleF m = true
  lvl : m.kind = 7 → lvlB m.level = true
theorem Drawn.kind {m : Mod} (h : Drawn m) : m.kind = 1 ∨ m.kind = 2 ∨ m.kind = 3 ∨ m.kind = 4 ∨ m.kind = 5 ∨ m.kind = 6 ∨ m.kind = 7 ∨ m.kind = 8 := by
  have := h.mod
  unfold isModuleF at this
  by_cases h1 : m.kind = 1
  · simp [h1]
  by_cases h2 : m.kind = 2
  · simp [h2]
  by_cases h3 : m.kind = 3
  · simp [h3]
  by_cases h4 : m.kind = 4
  · simp [h4]
  by_cases h5 : m.kind = 5
  · simp [h5]
  by_cases h6 : m.kind = 6
  · simp [h6]
  by_cases h7 : m.kind = 7
  · simp [h7]
  by_cases h8 : m.kind = 8
  · simp [h8]
  simp [h1, h2, h3, h4, h5, h6, h7, h8] at this
theorem bareF_iff (m : Mod) : bareF m = true ↔ (m.turn = (0, 0) ∧ m.state = (0, 0) ∧ m.level = 0 ∧ m.store = [] ∧ m.rat = 0 ∧ m.rcnt = 0 ∧ m.pts = [] ∧ m.lab = [] ∧ m.count = 0 ∧ m.left = 0) := by
  obtain ⟨k, ⟨t1, t2⟩, ⟨s1, s2⟩, lv, st, ra, rc, pts, lab, c, l⟩ := m
  simp only [bareF, nzP, nz, Bool.and_eq_true, decide_eq_true_eq, Prod.mk.injEq, Int.natCast_eq_zero, List.length_eq_zero_iff, and_assoc]
theorem drawn_sum : Drawn mSum' := ⟨⟨by simp [mSum', sm], by simp [mSum', sm], by simp [mSum', sm]⟩, by decide, by decide⟩
theorem drawn_src (t s : Pt) : Drawn (mSrc' t s) := ⟨⟨by simp [mSrc', sm], by simp [mSrc', sm], by simp [mSrc', sm]⟩, by simp [mSrc', isModuleF, bareF_iff], by simp [mSrc']⟩
theorem drawn_mix (t : Pt) : Drawn (mMix' t) := ⟨⟨by simp [mMix', sm], by simp [mMix', sm], by simp [mMix', sm]⟩, by simp [mMix', isModuleF, bareF_iff], by simp [mMix']⟩
theorem drawn_gain (l : Nat) : Drawn (mGain' l) := ⟨⟨by simp [mGain', sm], by simp [mGain', sm], by simp [mGain', sm]⟩, by simp [mGain', isModuleF, bareF_iff], by simp [mGain']⟩
theorem drawn_meter : Drawn mMeter' := ⟨⟨by simp [mMeter', sm], by simp [mMeter', sm], by simp [mMeter', sm]⟩, by decide, by decide⟩
def mDelay' (st : List Pt) (a : Int) : Mod := ⟨4, (0, 0), (0, 0), 0, st, a, (st.length : Int), [], [], 0, 0⟩
def mSlicer' (pts : List Pt) (lab : List Int) (c : Int) : Mod := ⟨6, (0, 0), (0, 0), 0, [], 0, 0, pts, lab, c, 0⟩
def mHold' (s : Pt) (c l : Int) : Mod := ⟨8, (0, 0), s, 0, [], 0, 0, [], [], c, l⟩
theorem isRingF_full {st : List Pt} {a : Int} (h1 : 1 ≤ st.length) (h2 : st.length ≤ 16) (h3 : 0 ≤ a) (h4 : a < st.length) : isRingF st a st.length = true := by
  unfold isRingF
  rw [show st.length - (st.length : Int).toNat = 0 by simp]
  have : ringC st a st.length := ⟨h1, h2, h3, h4, by omega, by omega⟩
  simp [this, ringGo]
theorem drawn_delay {st : List Pt} {a : Int} (h1 : 1 ≤ st.length) (h2 : st.length ≤ 16) (h3 : 0 ≤ a) (h4 : a < st.length) : Drawn (mDelay' st a) :=
  ⟨⟨by simp [mDelay', sm]; omega, by simp [mDelay', sm], by simp [mDelay', sm]⟩, by simp [mDelay', isModuleF, bareF_iff, isRingF_full h1 h2 h3 h4], by simp [mDelay']⟩
theorem table_len {pts : List Pt} {lab : List Int} (h : isTableF pts lab = true) : pts.length = lab.length ∧ pts.length ≤ 64 := by
  simp only [isTableF, Bool.and_eq_true, decide_eq_true_eq] at h; exact ⟨h.1, h.2.1⟩
theorem drawn_slicer {pts : List Pt} {lab : List Int} {c : Int} (h : isTableF pts lab = true) : Drawn (mSlicer' pts lab c) := by
  obtain ⟨h1, h2⟩ := table_len h
  exact ⟨⟨by simp [mSlicer', sm], by simp [mSlicer', sm]; omega, by simp [mSlicer', sm]; omega⟩, by simp [mSlicer', isModuleF, bareF_iff, h], by simp [mSlicer']⟩
theorem drawn_hold {s : Pt} {c l : Int} (h1 : 1 ≤ c) (h2 : c ≤ 100) (h3 : 0 ≤ l) (h4 : l < c) : Drawn (mHold' s c l) :=
  ⟨⟨by simp [mHold', sm], by simp [mHold', sm], by simp [mHold', sm]⟩, by simp [mHold', isModuleF, bareF_iff, h1, h2, h3, h4], by simp [mHold']⟩
def mMeterL (l : Nat) : Mod := ⟨7, (0, 0), (0, 0), l, [], 0, 0, [], [], 0, 0⟩
theorem lvl_pos {l : Nat} (h : lvlB l = true) : (nz l || fcmp .gtr .f32 l 0) = true := by rcases lvl_cases h with rfl | rfl | rfl | rfl <;> decide +kernel
theorem drawn_meterL {l : Nat} (h : lvlB l = true) : Drawn (mMeterL l) :=
  ⟨⟨by simp [mMeterL, sm], by simp [mMeterL, sm], by simp [mMeterL, sm]⟩, by
    have := lvl_pos h
    simp only [mMeterL, isModuleF, bareF_iff]
    simp only [Bool.or_eq_true] at this
    simp [this, bareF_iff], by simp [mMeterL, h]⟩
theorem Drawn.forms {m : Mod} (h : Drawn m) : (∃ t s, m = mSrc' t s) ∨ (∃ t s, m = ⟨2, t, s, 0, [], 0, 0, [], [], 0, 0⟩) ∨ (∃ l, m = mGain' l) ∨ (∃ st a, m = mDelay' st a ∧ 1 ≤ st.length ∧ st.length ≤ 16 ∧ 0 ≤ a ∧ a < st.length) ∨ m = mSum' ∨
    (∃ pts lab c, m = mSlicer' pts lab c ∧ isTableF pts lab = true) ∨ (∃ l, m = mMeterL l ∧ lvlB l = true) ∨ ∃ s c l, m = mHold' s c l ∧ 1 ≤ c ∧ c ≤ 100 ∧ 0 ≤ l ∧ l < c := by
  have hk := h.kind
  have hm := h.mod
  have hl := h.lvl
  obtain ⟨k, t, s, lv, st, ra, rc, pts, lab, c, l⟩ := m
  simp only at hk hl
  rcases hk with rfl | rfl | rfl | rfl | rfl | rfl | rfl | rfl
  · simp [isModuleF, bareF_iff] at hm
    obtain ⟨rfl, rfl, rfl, rfl, rfl, rfl, rfl, rfl⟩ := hm
    exact .inl ⟨t, s, rfl⟩
  · simp [isModuleF, bareF_iff] at hm
    obtain ⟨rfl, rfl, rfl, rfl, rfl, rfl, rfl, rfl⟩ := hm
    exact .inr (.inl ⟨t, s, rfl⟩)
  · simp [isModuleF, bareF_iff] at hm
    obtain ⟨rfl, rfl, rfl, rfl, rfl, rfl, rfl, rfl, rfl⟩ := hm
    exact .inr (.inr (.inl ⟨lv, rfl⟩))
  · simp [isModuleF, bareF_iff] at hm
    obtain ⟨⟨h1, rfl⟩, rfl, rfl, rfl, rfl, rfl, rfl, rfl⟩ := hm
    unfold isRingF at h1
    simp only [Bool.and_eq_true, decide_eq_true_eq] at h1
    obtain ⟨⟨c1, c2, c3, c4, _, _⟩, _⟩ := h1
    exact .inr (.inr (.inr (.inl ⟨st, ra, rfl, c1, c2, c3, c4⟩)))
  · simp [isModuleF, bareF_iff] at hm
    obtain ⟨rfl, rfl, rfl, rfl, rfl, rfl, rfl, rfl, rfl, rfl⟩ := hm
    exact .inr (.inr (.inr (.inr (.inl rfl))))
  · simp [isModuleF, bareF_iff] at hm
    obtain ⟨h1, rfl, rfl, rfl, rfl, rfl, rfl, rfl⟩ := hm
    exact .inr (.inr (.inr (.inr (.inr (.inl ⟨pts, lab, c, rfl, h1⟩)))))
  · simp [isModuleF, bareF_iff] at hm
    obtain ⟨_, rfl, rfl, rfl, rfl, rfl, rfl, rfl, rfl, rfl⟩ := hm
    exact .inr (.inr (.inr (.inr (.inr (.inr (.inl ⟨lv, rfl, hl rfl⟩))))))
  · simp [isModuleF, bareF_iff] at hm
    obtain ⟨⟨h1, h2, h3, h4⟩, rfl, rfl, rfl, rfl, rfl, rfl, rfl⟩ := hm
    exact .inr (.inr (.inr (.inr (.inr (.inr (.inr ⟨s, c, l, rfl, h1, h2, h3, h4⟩))))))
end Go.SX
set_option linter.unusedVariables false
set_option linter.unusedSimpArgs false
namespace Go.SX
open Go Go.Proofs
noncomputable def ct_l2At : Ct := fam true (fun x : Tb × Pt => ([.agg [.im (.sl 1 (rowsZ x.1.1.1)), .im (.sl 1 (rowsN x.1.1.2))], .c (.im (.cpx .f32 x.2.1 x.2.2))], [])) (fun x => .one { val := .c (.im (.int .i64 (idxF (eqPt · x.2) x.1.1.1 0))) })
theorem run_l2At {pts : List Pt} {lab : List Int} (h1 : pts.length ≤ sm) (h2 : lab.length ≤ sm) (u v : Nat) : ct_l2At.run [.agg [.im (.sl 1 (rowsZ pts)), .im (.sl 1 (rowsN lab))], .c (.im (.cpx .f32 u v))] [] = some (.one { val := .c (.im (.int .i64 (idxF (eqPt · (u, v)) pts 0))) }) := by
  refine fam_run' (args := fun x : Tb × Pt => ([D.agg [.im (.sl 1 (rowsZ x.1.1.1)), .im (.sl 1 (rowsN x.1.1.2))], .c (.im (.cpx .f32 x.2.1 x.2.2))], [])) ?_ (⟨(pts, lab), h1, h2⟩, (u, v))
  rintro ⟨⟨⟨a, b⟩, _⟩, ⟨c, d⟩⟩ ⟨⟨⟨a', b'⟩, _⟩, ⟨c', d'⟩⟩ h
  simp [rowsZ_eq, rowsN_eq] at h ⊢
  simp [h]
theorem sc_l2At : (ct_l2At.sc = true) = True := by simp [ct_l2At, fam]
set_option maxRecDepth 100000 in
set_option maxHeartbeats 4000000 in
theorem law_l2At : Law Tryz.prog 146 ct_l2At := by
  refine fam_law Env_nil hmixA Tryz.func146 rfl rfl (fun ⟨⟨⟨l, lab⟩, h1, h2⟩, ⟨u, v⟩⟩ => ⟨okO_im rfl, by simp [Tryz.f146], ?_⟩)
  simp only at h1 h2 ⊢
  try simp -dsimp (maxSteps := 1000000) only [go_sem, List.forall_mem_nil, ↓reduceIte, Nat.reduceEqDiff, Nat.reduceLT, Nat.reduceLeDiff, Nat.reduceAdd, Nat.reduceMul, reduceCtorEq, Tryz.f146, rowsZ_len]
  refine loop_i (ι := { k : Nat // k ≤ l.length ∧ idxF (eqPt · (u, v)) l 0 = idxF (eqPt · (u, v)) (l.drop k) k }) (fun k => ⟨[(1, some (.c (.im (.cpx .f32 u v)))), (8, some (.c (.im (.sl 1 (rowsZ l))))), (9, some (.c (.im (.int .i64 (l.length : Int))))), (10, some (.c (.im (.int .i64 (k.1 : Int)))))],
    [], 0⟩) (fun k => l.length - k.1) ⟨0, by simp⟩ ⟨[], [], by ((simp only [go_sem, eq_self, MvRb, MvRn, MvRt, List.nodup_cons, List.nodup_nil, ↓reduceIte, Nat.reduceEqDiff, Nat.reduceLT, Nat.reduceLeDiff, reduceCtorEq, List.forall_mem_nil, Nat.zero_le, false_implies, List.mem_singleton]) <;> (try (simp -dsimp only [go_sem, eq_self, MvRb, MvRn, MvRt, List.nodup_cons, List.nodup_nil, ↓reduceIte, Nat.reduceEqDiff, Nat.reduceLT, Nat.reduceLeDiff, reduceCtorEq, List.forall_mem_nil, Nat.zero_le, false_implies, List.mem_singleton]))) <;> simp⟩ (fun ⟨k, hk, hinv⟩ => ?_)
  by_cases hlt : k < l.length
  · obtain ⟨p, hp⟩ : ∃ p, l[k]? = some p := ⟨_, List.getElem?_eq_getElem hlt⟩
    have hrow := rowsZ_at hp
    have hI : ((k : Int) < (l.length : Int)) = True := by simp; omega
    have h0 : (0 ≤ (k : Int)) = True := by simp
    have hidx := idxF_drop (f := (eqPt · (u, v))) hp
    have hwr := lt_sm h1 hlt
    obtain ⟨a, b⟩ := p
    have hq0 : (fcmp .eql .f32 a u && fcmp .eql .f32 b v) = eqPt (a, b) (u, v) := rfl
    cases hq : eqPt (a, b) (u, v) with
    | true =>
      simp only [hq, if_true] at hidx
      rw [hidx] at hinv
      clear hidx
      try simp -dsimp (maxSteps := 1000000) only [go_sem, List.forall_mem_nil, ↓reduceIte, Nat.reduceEqDiff, Nat.reduceLT, Nat.reduceLeDiff, Nat.reduceAdd, Nat.reduceMul, reduceCtorEq, Tryz.f146, hI, h0, Int.toNat_natCast, hrow, hq0, hq, hinv, rowsZ_len]
    | false =>
      simp only [hq, if_false, Bool.false_eq_true] at hidx
      rw [hidx] at hinv
      clear hidx
      try simp -dsimp (maxSteps := 1000000) only [go_sem, List.forall_mem_nil, ↓reduceIte, Nat.reduceEqDiff, Nat.reduceLT, Nat.reduceLeDiff, Nat.reduceAdd, Nat.reduceMul, reduceCtorEq, Tryz.f146, hI, h0, Int.toNat_natCast, hrow, hq0, hq, hwr, rowsZ_len]
      exact ⟨⟨k + 1, by omega, hinv⟩, by simp only []; omega, [], [], by (simp only [go_sem, eq_self, MvRb, MvRn, MvRt, List.nodup_cons, List.nodup_nil, ↓reduceIte, Nat.reduceEqDiff, Nat.reduceLT, Nat.reduceLeDiff, reduceCtorEq, List.forall_mem_nil, Nat.zero_le, false_implies, List.mem_singleton]) <;> simp⟩
  · have hI : ((k : Int) < (l.length : Int)) = False := by simp; omega
    have hkl : k = l.length := by omega
    subst hkl
    rw [List.drop_length] at hinv
    try simp -dsimp (maxSteps := 1000000) only [go_sem, List.forall_mem_nil, ↓reduceIte, Nat.reduceEqDiff, Nat.reduceLT, Nat.reduceLeDiff, Nat.reduceAdd, Nat.reduceMul, reduceCtorEq, Tryz.f146, hI, hinv, idxF, rowsZ_len]
set_option maxRecDepth 100000 in
set_option maxHeartbeats 8000000 in
theorem law_sIsTable : Law Tryz.prog 84 ct_IsTable := by
  refine fam_law (Env_cons law_l2Finite Env_nil) hmixA Tryz.func84 rfl rfl (fun ⟨⟨pts, lab⟩, h1, h2⟩ => ⟨okO_im rfl, by simp [Tryz.f84], ?_⟩)
  simp only [] at h1 h2
  by_cases hlen : pts.length = lab.length
  rotate_left
  · have e1 : ((pts.length : Int) = (lab.length : Int)) = False := by simp; omega
    have hF : isTableF pts lab = false := by simp [isTableF, hlen]
    clear hlen
    try simp -dsimp (maxSteps := 1000000) only [go_sem, List.forall_mem_nil, ↓reduceIte, Nat.reduceEqDiff, Nat.reduceLT, Nat.reduceLeDiff, Nat.reduceAdd, Nat.reduceMul, reduceCtorEq, Tryz.f84, rowsZ_len, rowsN_len, e1, hF]
  have e1 : ((pts.length : Int) = (lab.length : Int)) = True := by simp; omega
  by_cases h64 : pts.length ≤ 64
  rotate_left
  · have e2 : ((64 : Int) < (pts.length : Int)) = True := by simp; omega
    have hF : isTableF pts lab = false := by simp [isTableF, h64]
    clear hlen h64
    try simp -dsimp (maxSteps := 1000000) only [go_sem, List.forall_mem_nil, ↓reduceIte, Nat.reduceEqDiff, Nat.reduceLT, Nat.reduceLeDiff, Nat.reduceAdd, Nat.reduceMul, reduceCtorEq, Tryz.f84, rowsZ_len, rowsN_len, e1, e2, hF]
  have e2 : ((64 : Int) < (pts.length : Int)) = False := by simp; omega
  have hF : isTableF pts lab = tblGo pts pts 0 := by unfold isTableF; rw [decide_eq_true hlen, decide_eq_true h64]; simp
  rw [hF]
  clear hlen h64 hF
  try simp -dsimp (maxSteps := 1000000) only [go_sem, List.forall_mem_nil, ↓reduceIte, Nat.reduceEqDiff, Nat.reduceLT, Nat.reduceLeDiff, Nat.reduceAdd, Nat.reduceMul, reduceCtorEq, Tryz.f84, rowsZ_len, rowsN_len, e1, e2]
  refine loop_i (ι := { k : Nat // k ≤ pts.length ∧ tblGo pts pts 0 = tblGo pts (pts.drop k) k }) (fun k => ⟨[(1, some (.c (.ptr 0 0 0 0))), (20, some (.c (.im (.sl 1 (rowsZ pts))))), (21, some (.c (.im (.int .i64 (pts.length : Int))))), (22, some (.c (.im (.int .i64 (k.1 : Int)))))],
    [(0, some (.box [.t (.im (.sl 1 (rowsZ pts))), .t (.im (.sl 1 (rowsN lab)))]))], 1⟩) (fun k => pts.length - k.1) ⟨0, by simp⟩ ⟨[], [], by ((simp only [go_sem, eq_self, MvRb, MvRn, MvRt, List.nodup_cons, List.nodup_nil, ↓reduceIte, Nat.reduceEqDiff, Nat.reduceLT, Nat.reduceLeDiff, reduceCtorEq, List.forall_mem_nil, Nat.zero_le, false_implies, List.mem_singleton]) <;> (try (simp -dsimp only [go_sem, eq_self, MvRb, MvRn, MvRt, List.nodup_cons, List.nodup_nil, ↓reduceIte, Nat.reduceEqDiff, Nat.reduceLT, Nat.reduceLeDiff, reduceCtorEq, List.forall_mem_nil, Nat.zero_le, false_implies, List.mem_singleton]))) <;> simp⟩ (fun ⟨k, hk, hinv⟩ => ?_)
  by_cases hlt : k < pts.length
  rotate_left
  · have hI : ((k : Int) < (pts.length : Int)) = False := by simp; omega
    have hkl : k = pts.length := by omega
    subst hkl
    rw [List.drop_length] at hinv
    try simp -dsimp (maxSteps := 1000000) only [go_sem, List.forall_mem_nil, ↓reduceIte, Nat.reduceEqDiff, Nat.reduceLT, Nat.reduceLeDiff, Nat.reduceAdd, Nat.reduceMul, reduceCtorEq, Tryz.f84, hI, hinv, tblGo, rowsZ_len]
  obtain ⟨p, hp⟩ : ∃ p, pts[k]? = some p := ⟨_, List.getElem?_eq_getElem hlt⟩
  have hrow := rowsZ_at hp
  have hI : ((k : Int) < (pts.length : Int)) = True := by simp; omega
  have h0 : (0 ≤ (k : Int)) = True := by simp
  have hidx := tblGo_drop hp
  have hwr := lt_sm h1 hlt
  obtain ⟨a, b⟩ := p
  cases hf : (isFin a && isFin b) with
  | false =>
    simp only [hf, Bool.false_and] at hidx
    rw [hidx] at hinv
    clear hidx
    try simp -dsimp (maxSteps := 1000000) only [go_sem, List.forall_mem_nil, ↓reduceIte, Nat.reduceEqDiff, Nat.reduceLT, Nat.reduceLeDiff, Nat.reduceAdd, Nat.reduceMul, reduceCtorEq, Tryz.f84, hI, h0, Int.toNat_natCast, hrow, run_l2Finite, finS_eq, hf, hinv, rowsZ_len]
  | true =>
    simp only [hf, Bool.true_and] at hidx
    try simp -dsimp (maxSteps := 1000000) only [go_sem, List.forall_mem_nil, ↓reduceIte, Nat.reduceEqDiff, Nat.reduceLT, Nat.reduceLeDiff, Nat.reduceAdd, Nat.reduceMul, reduceCtorEq, Tryz.f84, hI, h0, Int.toNat_natCast, hrow, run_l2Finite, finS_eq, hf, rowsZ_len]
    refine loop_i (ι := { j : Nat // j ≤ k ∧ idxF (eqPt · (a, b)) (pts.take k) 0 = idxF (eqPt · (a, b)) ((pts.take k).drop j) j }) (fun j => ⟨[(1, some (.c (.ptr 0 0 0 0))), (3, some (.c (.im (.int .i64 (k : Int))))), (4, some (.c (.im (.cpx .f32 a b)))), (5, some (.c (.im (.int .i64 (j.1 : Int))))), (20, some (.c (.im (.sl 1 (rowsZ pts))))), (21, some (.c (.im (.int .i64 (pts.length : Int))))), (22, some (.c (.im (.int .i64 (k : Int)))))],
      [(0, some (.box [.t (.im (.sl 1 (rowsZ pts))), .t (.im (.sl 1 (rowsN lab)))]))], 1⟩) (fun j => k - j.1) ⟨0, by simp⟩ ⟨[], [], by ((simp only [go_sem, eq_self, MvRb, MvRn, MvRt, List.nodup_cons, List.nodup_nil, ↓reduceIte, Nat.reduceEqDiff, Nat.reduceLT, Nat.reduceLeDiff, reduceCtorEq, List.forall_mem_nil, Nat.zero_le, false_implies, List.mem_singleton]) <;> (try (simp -dsimp only [go_sem, eq_self, MvRb, MvRn, MvRt, List.nodup_cons, List.nodup_nil, ↓reduceIte, Nat.reduceEqDiff, Nat.reduceLT, Nat.reduceLeDiff, reduceCtorEq, List.forall_mem_nil, Nat.zero_le, false_implies, List.mem_singleton]))) <;> simp⟩ (fun ⟨j, hj, hjinv⟩ => ?_)
    by_cases hjk : j < k
    rotate_left
    · have hJ : ((j : Int) < (k : Int)) = False := by simp; omega
      have hjk' : j = k := by omega
      subst hjk'
      rw [show List.drop j (List.take j pts) = [] from List.drop_of_length_le (by rw [List.length_take]; omega)] at hjinv
      have hneg : idxF (eqPt · (a, b)) (pts.take j) 0 < 0 := by rw [hjinv]; simp [idxF]
      simp only [hneg, decide_true, Bool.true_and] at hidx
      rw [hidx] at hinv
      clear hidx
      try simp -dsimp (maxSteps := 1000000) only [go_sem, List.forall_mem_nil, ↓reduceIte, Nat.reduceEqDiff, Nat.reduceLT, Nat.reduceLeDiff, Nat.reduceAdd, Nat.reduceMul, reduceCtorEq, Tryz.f84, hJ, hwr]
      exact ⟨⟨j + 1, by omega, hinv⟩, by simp only []; omega, [], [], by (simp only [go_sem, eq_self, MvRb, MvRn, MvRt, List.nodup_cons, List.nodup_nil, ↓reduceIte, Nat.reduceEqDiff, Nat.reduceLT, Nat.reduceLeDiff, reduceCtorEq, List.forall_mem_nil, Nat.zero_le, false_implies, List.mem_singleton]) <;> simp⟩
    obtain ⟨⟨c, d⟩, hq⟩ : ∃ q, pts[j]? = some q := ⟨_, List.getElem?_eq_getElem (by omega)⟩
    have hrowj := rowsZ_at hq
    have hJ : ((j : Int) < (k : Int)) = True := by simp; omega
    have hJp : ((j : Int) < (pts.length : Int)) = True := by simp; omega
    have hj0 : (0 ≤ (j : Int)) = True := by simp
    have hwj : IntKind.i64.wrap ((j : Int) + 1) = ((j + 1 : Nat) : Int) := lt_sm (n := pts.length) h1 (by omega)
    have hjdx := idxF_drop (f := (eqPt · (a, b))) (l := pts.take k) (k := j) (p := (c, d)) (by rw [List.getElem?_take_of_lt hjk]; exact hq)
    have hq0 : (fcmp .eql .f32 c a && fcmp .eql .f32 d b) = eqPt (c, d) (a, b) := rfl
    cases he : eqPt (c, d) (a, b) with
    | true =>
      simp only [he, if_true] at hjdx
      rw [hjdx] at hjinv
      have hneg : ¬ idxF (eqPt · (a, b)) (pts.take k) 0 < 0 := by rw [hjinv]; omega
      simp only [hneg, decide_false, Bool.false_and] at hidx
      rw [hidx] at hinv
      clear hidx hjdx hjinv
      try simp -dsimp (maxSteps := 1000000) only [go_sem, List.forall_mem_nil, ↓reduceIte, Nat.reduceEqDiff, Nat.reduceLT, Nat.reduceLeDiff, Nat.reduceAdd, Nat.reduceMul, reduceCtorEq, Tryz.f84, hJ, hJp, hj0, hrowj, hq0, he, hinv, rowsZ_len, Int.toNat_natCast]
    | false =>
      simp only [he, if_false, Bool.false_eq_true] at hjdx
      rw [hjdx] at hjinv
      clear hjdx
      try simp -dsimp (maxSteps := 1000000) only [go_sem, List.forall_mem_nil, ↓reduceIte, Nat.reduceEqDiff, Nat.reduceLT, Nat.reduceLeDiff, Nat.reduceAdd, Nat.reduceMul, reduceCtorEq, Tryz.f84, hJ, hJp, hj0, hrowj, hq0, he, hwj, rowsZ_len, Int.toNat_natCast]
      exact ⟨⟨j + 1, by omega, hjinv⟩, by simp only []; omega, [], [], by (simp only [go_sem, eq_self, MvRb, MvRn, MvRt, List.nodup_cons, List.nodup_nil, ↓reduceIte, Nat.reduceEqDiff, Nat.reduceLT, Nat.reduceLeDiff, reduceCtorEq, List.forall_mem_nil, Nat.zero_le, false_implies, List.mem_singleton]) <;> simp⟩
theorem sc_IsTable : (ct_IsTable.sc = true) = True := by simp [ct_IsTable, fam]
set_option maxRecDepth 100000 in
set_option maxHeartbeats 4000000 in
theorem law_l2Copy : Law Tryz.prog 110 ct_copyTable := by
  refine fam_law Env_nil hmixA Tryz.func110 rfl rfl (fun ⟨⟨pts, lab⟩, h1, h2⟩ => ⟨okO okR_tb, by simp [Tryz.f110], ?_⟩)
  simp only at h1 h2
  simp only [rTb]
  try simp -dsimp (maxSteps := 1000000) only [go_sem, List.forall_mem_nil, ↓reduceIte, Nat.reduceEqDiff, Nat.reduceLT, Nat.reduceLeDiff, Nat.reduceAdd, Nat.reduceMul, reduceCtorEq, Tryz.f110, rowsZ_len, rowsN_len, bytes_sm h1 (show 8 ≤ 128 by decide), bytes_sm h2 (show 8 ≤ 128 by decide), map_im_tI, tI_len, appendH, srcRows]
  repeat' (first
    | ((with_reducible refine sl_i ?_ ?_); focus kernel_rfl)
    | ((with_reducible refine ro_i ?_ ?_); focus kernel_rfl))
  refine ⟨[_, _], ?_, ?_, ?_, rfl, rfl⟩ <;> simp [rtOk]
end Go.SX
set_option linter.unusedVariables false
set_option linter.unusedSimpArgs false
namespace Go.SX
open Go Go.Proofs
theorem mapO_imT_row (r : List I) : mapO imT (r.map T.im) = some r := by
  induction r with
  | nil => rfl
  | cons x r ih => simp only [List.map_cons, mapO, imT, ih]
theorem tI_imT (rows : List (List I)) : mapO (mapO imT) (tI rows) = some rows := by
  induction rows with
  | nil => rfl
  | cons x r ih =>
    have h : tI (x :: r) = x.map T.im :: tI r := rfl
    simp only [h, mapO, mapO_imT_row, ih]
theorem idxF_lt {α : Type} (f : α → Bool) : ∀ (l : List α) (k : Nat), idxF f l k < (k : Int) + l.length
  | [], k => by simp [idxF]; omega
  | x :: l, k => by
    simp only [idxF, List.length_cons]
    split
    · omega
    · have := idxF_lt f l (k + 1); omega
theorem sc_copyTable : (ct_copyTable.sc = true) = True := by simp [ct_copyTable, fam]
theorem tblGo_lab {pts : List Pt} {lab lab' : List Int} (h : isTableF pts lab = true) (hl : lab'.length = lab.length) : isTableF pts lab' = true := by
  simp only [isTableF, hl] at h ⊢; exact h
abbrev QTab := { t : List Pt × List Int // isTableF t.1 t.2 = true }
def rTO (q : (List Pt × List Int) × Bool) : Res := { val := .tup [.agg [.im (.sl 1 (rowsZ q.1.1)), .im (.sl 1 (rowsN q.1.2))], .c (.im (.bool q.2))] }
theorem okR_TO {q : (List Pt × List Int) × Bool} : OkR false (rTO q) := by
  refine ⟨.tup _ (fun d hd => ?_), by simp [rTO], by simp [rTO]⟩
  simp only [List.mem_cons, List.not_mem_nil, or_false] at hd
  rcases hd with rfl | rfl
  · refine .inr ⟨_, rfl, fun x hx => ?_⟩
    simp only [List.mem_cons, List.not_mem_nil, or_false] at hx
    rcases hx with rfl | rfl <;> exact .im _ (.inl rfl)
  · exact .inl ⟨_, rfl, .im _ (.inl rfl)⟩
def oPut : Outs := .any (QTab × Bool) (fun q => rTO (q.1.1, q.2))
theorem tab_nil : isTableF [] [] = true := by decide
theorem ne_put : Nonempty (QTab × Bool) = True := by simp only [eq_iff_iff, iff_true]; exact ⟨(⟨([], []), tab_nil⟩, true)⟩
noncomputable def ct_PutPoint : Ct := fam false (fun x : QTab × Pt × Int => ([.agg [.im (.sl 1 (rowsZ x.1.1.1)), .im (.sl 1 (rowsN x.1.1.2))], .c (.im (.cpx .f32 x.2.1.1 x.2.1.2)), .c (.im (.int .i64 x.2.2))], [])) (fun _ => oPut)
theorem run_PutPoint {pts : List Pt} {lab : List Int} (h : isTableF pts lab = true) (u v : Nat) (n : Int) : ct_PutPoint.run [.agg [.im (.sl 1 (rowsZ pts)), .im (.sl 1 (rowsN lab))], .c (.im (.cpx .f32 u v)), .c (.im (.int .i64 n))] [] = some oPut :=
  fam_run (args := fun x : QTab × Pt × Int => ([D.agg [.im (.sl 1 (rowsZ x.1.1.1)), .im (.sl 1 (rowsN x.1.1.2))], .c (.im (.cpx .f32 x.2.1.1 x.2.1.2)), .c (.im (.int .i64 x.2.2))], [])) (fun _ _ _ => rfl) (⟨(pts, lab), h⟩, (u, v), n)
set_option maxRecDepth 100000 in
set_option maxHeartbeats 4000000 in
theorem law_PutPoint : Law Tryz.prog 112 ct_PutPoint := by
  refine fam_lawF (Env_cons law_sIsTable (Env_cons law_l2Copy (Env_cons law_l2At Env_nil))) hmixA Tryz.func112 rfl rfl (fun ⟨⟨⟨pts, lab⟩, hT⟩, ⟨u, v⟩, n⟩ => ⟨okA (fun o => okR_TO), by simp [Tryz.f112], ?_⟩)
  simp only at hT
  obtain ⟨e1, e2⟩ := table_len hT
  have h1 : pts.length ≤ sm := by have : sm = 16777216 := rfl; omega
  have h2 : lab.length ≤ sm := by have : sm = 16777216 := rfl; omega
  simp only [oPut, rTO]
  by_cases hi : 0 ≤ idxF (eqPt · (u, v)) pts 0
  · obtain ⟨K, hK⟩ := Int.eq_ofNat_of_zero_le hi
    have hKl : K < pts.length := by have := idxF_lt (eqPt · (u, v)) pts 0; rw [hK] at this; omega
    obtain ⟨q, hq⟩ : ∃ q, lab[K]? = some q := ⟨_, List.getElem?_eq_getElem (by omega)⟩
    have hrow : (tI (rowsN lab))[K]? = some [T.im (.int .i64 q)] := tI_at (rowsN_at hq)
    have hset : (tI (rowsN lab)).set K [T.im (.int .i64 n)] = tI (rowsN (lab.set K n)) := by simp [tI, rowsN, List.map_set]
    have hi0 : (0 ≤ (K : Int)) = True := by simp
    have hi1 : ((K : Int) < (lab.length : Int)) = True := eq_true (by omega)
    have hmp : mapO (mapO imT) (tI (rowsZ pts)) = some (rowsZ pts) := tI_imT _
    have hml : mapO (mapO imT) (tI (rowsN (lab.set K n))) = some (rowsN (lab.set K n)) := tI_imT _
    try simp -dsimp (maxSteps := 1000000) only [go_sem, List.forall_mem_nil, ↓reduceIte, Nat.reduceEqDiff, Nat.reduceLT, Nat.reduceLeDiff, Nat.reduceAdd, Nat.reduceMul, reduceCtorEq, Tryz.f112, run_IsTable h1 h2, hT, run_copyTable h1 h2, rTb, run_l2At h1 h2, hK, hi0, hi1, hrow, hset, tI_len, rowsZ_len, rowsN_len, sc_IsTable, sc_copyTable, sc_l2At, Int.toNat_natCast]
    refine finF_i [.frz 2 [.b 1 0 0], .frz 3 [.b 1 0 1]] ?_
    simp -dsimp (maxSteps := 1000000) only [go_sem, List.forall_mem_nil, ↓reduceIte, Nat.reduceEqDiff, Nat.reduceLT, Nat.reduceLeDiff, Nat.reduceAdd, Nat.reduceMul, reduceCtorEq, hmp, hml, tI_len, rowsZ_len, rowsN_len, List.length_set]
    exact ⟨(⟨(pts, lab.set K n), tblGo_lab hT (by simp)⟩, true), ⟨rfl, rfl⟩, rfl⟩
  have hi' := eq_false hi
  have hby1 : ((pts.length + 1) * 8 ≤ 140737488355328) = True := eq_true (by omega)
  have hby2 : ((lab.length + 1) * 8 ≤ 140737488355328) = True := eq_true (by omega)
  have hap1 : tI (rowsZ pts) ++ [[T.im (.cpx .f32 u v)]] = tI (rowsZ (pts ++ [(u, v)])) := by simp [tI, rowsZ]
  have hap2 : tI (rowsN lab) ++ [[T.im (.int .i64 n)]] = tI (rowsN (lab ++ [n])) := by simp [tI, rowsN]
  have hmp : mapO (mapO imT) (tI (rowsZ (pts ++ [(u, v)]))) = some (rowsZ (pts ++ [(u, v)])) := tI_imT _
  have hml : mapO (mapO imT) (tI (rowsN (lab ++ [n]))) = some (rowsN (lab ++ [n])) := tI_imT _
  have h1' : (pts ++ [(u, v)]).length ≤ sm := by have : sm = 16777216 := rfl; simp; omega
  have h2' : (lab ++ [n]).length ≤ sm := by have : sm = 16777216 := rfl; simp; omega
  have lz : (tI (rowsZ (pts ++ [(u, v)]))).length = pts.length + 1 := by simp [tI_len, rowsZ_len]
  have ln : (tI (rowsN (lab ++ [n]))).length = lab.length + 1 := by simp [tI_len, rowsN_len]
  have tkz : List.take (pts.length + 1) (tI (rowsZ (pts ++ [(u, v)]))) = tI (rowsZ (pts ++ [(u, v)])) := List.take_of_length_le (by omega)
  have tkn : List.take (lab.length + 1) (tI (rowsN (lab ++ [n]))) = tI (rowsN (lab ++ [n])) := List.take_of_length_le (by omega)
  cases hT2 : isTableF (pts ++ [(u, v)]) (lab ++ [n]) with
  | true =>
    try simp -dsimp (maxSteps := 1000000) only [go_sem, List.forall_mem_nil, ↓reduceIte, Nat.reduceEqDiff, Nat.reduceLT, Nat.reduceLeDiff, Nat.reduceAdd, Nat.reduceMul, reduceCtorEq, Tryz.f112, run_IsTable h1 h2, hT, run_copyTable h1 h2, rTb, run_l2At h1 h2, hi', hby1, hby2, hap1, hap2, lz, ln, tkz, tkn, run_IsTable h1' h2', hT2, appendH, srcRows, List.take_succ_cons, List.take_zero, List.all_cons, List.all_nil, okT, Bool.and_true, List.length_append, tI_toI, tI_len, rowsZ_len, rowsN_len, sc_IsTable, sc_copyTable, sc_l2At, Int.toNat_natCast]
    refine finF_i [.frz 6 [.b 1 0 0], .frz 8 [.b 1 0 1]] ?_
    simp -dsimp (maxSteps := 1000000) only [go_sem, List.forall_mem_nil, ↓reduceIte, Nat.reduceEqDiff, Nat.reduceLT, Nat.reduceLeDiff, Nat.reduceAdd, Nat.reduceMul, reduceCtorEq, hmp, hml, lz, ln, tI_len, rowsZ_len, rowsN_len, List.length_set]
    exact ⟨(⟨(pts ++ [(u, v)], lab ++ [n]), hT2⟩, true), ⟨rfl, rfl⟩, rfl⟩
  | false =>
    try simp -dsimp (maxSteps := 1000000) only [go_sem, List.forall_mem_nil, ↓reduceIte, Nat.reduceEqDiff, Nat.reduceLT, Nat.reduceLeDiff, Nat.reduceAdd, Nat.reduceMul, reduceCtorEq, Tryz.f112, run_IsTable h1 h2, hT, run_copyTable h1 h2, rTb, run_l2At h1 h2, hi', hby1, hby2, hap1, hap2, lz, ln, tkz, tkn, run_IsTable h1' h2', hT2, appendH, srcRows, List.take_succ_cons, List.take_zero, List.all_cons, List.all_nil, okT, Bool.and_true, List.length_append, tI_toI, tI_len, rowsZ_len, rowsN_len, sc_IsTable, sc_copyTable, sc_l2At, Int.toNat_natCast]
    refine finF_i [.nilI 1 [.b 1 0 0, .b 1 0 1]] ?_
    simp -dsimp (maxSteps := 1000000) only [go_sem, List.forall_mem_nil, ↓reduceIte, Nat.reduceEqDiff, Nat.reduceLT, Nat.reduceLeDiff, Nat.reduceAdd, Nat.reduceMul, reduceCtorEq]
    exact ⟨(⟨([], []), tab_nil⟩, false), ⟨rfl, rfl⟩, rfl⟩
def gridPt (S i k : Nat) : Pt := (FloatKind.f32.nearest (2 * (i : Int) - (S : Int) + 1), FloatKind.f32.nearest (2 * (k : Int) - (S : Int) + 1))
def gridP (S n : Nat) : List Pt := (List.range n).map fun j => gridPt S (j / S) (j % S)
def gridN (n : Nat) : List Int := (List.range n).map fun (j : Nat) => (j : Int)
theorem gridP_len (S n : Nat) : (gridP S n).length = n := by simp [gridP]
theorem gridN_len (n : Nat) : (gridN n).length = n := by simp [gridN]
theorem gridP_succ {S i k : Nat} (h : k < S) : gridP S (i * S + k) ++ [gridPt S i k] = gridP S (i * S + (k + 1)) := by
  have h1 : (i * S + k) / S = i := by rw [Nat.mul_comm, Nat.mul_add_div (by omega), Nat.div_eq_of_lt h]; omega
  have h2 : (i * S + k) % S = k := by rw [Nat.mul_comm, Nat.mul_add_mod, Nat.mod_eq_of_lt h]
  simp only [gridP]
  rw [show i * S + (k + 1) = (i * S + k) + 1 by omega, List.range_succ, List.map_append, List.map_singleton, h1, h2]
theorem gridN_succ (n : Nat) : gridN n ++ [(n : Int)] = gridN (n + 1) := by simp [gridN, List.range_succ]
theorem grid_tab {S : Nat} (h1 : 1 ≤ S) (h2 : S ≤ 3) : isTableF (gridP S (S * S)) (gridN (S * S)) = true := by
  have : S = 1 ∨ S = 2 ∨ S = 3 := by omega
  rcases this with rfl | rfl | rfl <;> decide +kernel
abbrev N3 := { n : Nat // 1 ≤ n ∧ n ≤ 3 }
noncomputable def ct_GridTable : Ct := fam false (fun x : N3 => ([.c (.im (.int .i64 (x.1 : Int)))], [])) (fun x => .one (rTO ((gridP x.1 (x.1 * x.1), gridN (x.1 * x.1)), true)))
theorem run_GridTable {n : Nat} (h1 : 1 ≤ n) (h2 : n ≤ 3) : ct_GridTable.run [.c (.im (.int .i64 (n : Int)))] [] = some (.one (rTO ((gridP n (n * n), gridN (n * n)), true))) := fam_run' (args := fun x : N3 => ([D.c (.im (.int .i64 (x.1 : Int)))], [])) (by
    intro a b h
    simp only [Prod.mk.injEq, List.cons.injEq, D.c.injEq, D.agg.injEq, C.im.injEq, I.cpx.injEq, I.flt.injEq, I.int.injEq, I.sl.injEq, I.bool.injEq, I.str.injEq, Int.natCast_inj, true_and, and_true] at h
    (try simp only [Prod.ext_iff, Subtype.ext_iff])
    (try simp only [rowsZ_eq, rowsN_eq] at h)
    simp_all) (⟨n, h1, h2⟩ : N3)
set_option maxRecDepth 100000 in
set_option maxHeartbeats 8000000 in
theorem law_GridTable : Law Tryz.prog 111 ct_GridTable := by
  refine fam_lawF (Env_cons law_l1In Env_nil) hmixA Tryz.func111 rfl rfl (fun ⟨S, s1, s2⟩ => ⟨okO okR_TO, by simp [Tryz.f111], ?_⟩)
  simp only [rTO]
  have hb : (decide ((1 : Int) ≤ (S : Int)) && decide ((S : Int) ≤ 8)) = true := by simp; omega
  try simp -dsimp (maxSteps := 1000000) only [go_sem, List.forall_mem_nil, ↓reduceIte, Nat.reduceEqDiff, Nat.reduceLT, Nat.reduceLeDiff, Nat.reduceAdd, Nat.reduceMul, reduceCtorEq, Tryz.f111, run_l1In, hb]
  refine loop_i (ι := { i : Nat // i ≤ S }) (fun i => ⟨[(0, some (.c (.im (.int .i64 (S : Int))))), (2, some (.c (.ptr 0 0 0 0))), (4, some (.c (.ptr 1 0 0 0))), (5, some (.c (.im (.int .i64 (i.1 : Int)))))],
    [(0, some (.box [.t .nil, .t .nil])), (1, some (.box [.t (.own 1 (tI (rowsZ (gridP S (i.1 * S))))), .t (.own 1 (tI (rowsN (gridN (i.1 * S)))))]))], 2⟩) (fun i => S - i.1) ⟨0, by omega⟩ ⟨[.nilT 1 0 0 1, .nilT 1 0 1 1], [0, 1], by ((simp only [go_sem, eq_self, MvRb, MvRn, MvRt, List.nodup_cons, List.nodup_nil, ↓reduceIte, Nat.reduceEqDiff, Nat.reduceLT, Nat.reduceLeDiff, reduceCtorEq, List.forall_mem_nil, Nat.zero_le, false_implies, List.mem_singleton, Option.map_some, Nat.zero_mul, MvB_Z, MvB_N]) <;> (try (simp -dsimp only [go_sem, eq_self, MvRb, MvRn, MvRt, List.nodup_cons, List.nodup_nil, ↓reduceIte, Nat.reduceEqDiff, Nat.reduceLT, Nat.reduceLeDiff, reduceCtorEq, List.forall_mem_nil, Nat.zero_le, false_implies, List.mem_singleton, Option.map_some, Nat.zero_mul, MvB_Z, MvB_N]))) <;> simp [lk, MvB_im, MvB_Z, gridP, gridN, rowsZ, rowsN, tI]⟩ (fun ⟨i, hi⟩ => ?_)
  simp only
  by_cases hlt : i < S
  rotate_left
  · have hI : ((i : Int) < (S : Int)) = False := eq_false (by omega)
    obtain rfl : i = S := by omega
    have hmp : mapO (mapO imT) (tI (rowsZ (gridP i (i * i)))) = some (rowsZ (gridP i (i * i))) := tI_imT _
    have hml : mapO (mapO imT) (tI (rowsN (gridN (i * i)))) = some (rowsN (gridN (i * i))) := tI_imT _
    try simp -dsimp (maxSteps := 1000000) only [go_sem, List.forall_mem_nil, ↓reduceIte, Nat.reduceEqDiff, Nat.reduceLT, Nat.reduceLeDiff, Nat.reduceAdd, Nat.reduceMul, reduceCtorEq, Tryz.f111, hI, tI_len, rowsZ_len, rowsN_len]
    refine finF_i [.frz 2 [.b 0 0 0], .frz 3 [.b 0 0 1]] ?_
    simp -dsimp (maxSteps := 1000000) only [go_sem, List.forall_mem_nil, ↓reduceIte, Nat.reduceEqDiff, Nat.reduceLT, Nat.reduceLeDiff, Nat.reduceAdd, Nat.reduceMul, reduceCtorEq, hmp, hml, tI_len, rowsZ_len, rowsN_len]
  have hI : ((i : Int) < (S : Int)) = True := eq_true (by omega)
  have hwi : IntKind.i64.wrap ((i : Int) + 1) = ((i + 1 : Nat) : Int) := by rw [wrap_id (by omega) (by omega)]; omega
  try simp -dsimp (maxSteps := 1000000) only [go_sem, List.forall_mem_nil, ↓reduceIte, Nat.reduceEqDiff, Nat.reduceLT, Nat.reduceLeDiff, Nat.reduceAdd, Nat.reduceMul, reduceCtorEq, Tryz.f111, hI]
  refine loop_i (ι := { k : Nat // k ≤ S }) (fun k => ⟨[(0, some (.c (.im (.int .i64 (S : Int))))), (2, some (.c (.ptr 0 0 0 0))), (4, some (.c (.ptr 1 0 0 0))), (5, some (.c (.im (.int .i64 (i : Int))))), (6, some (.c (.im (.int .i64 (k.1 : Int)))))],
    [(0, some (.box [.t .nil, .t .nil])), (1, some (.box [.t (.own 1 (tI (rowsZ (gridP S (i * S + k.1))))), .t (.own 1 (tI (rowsN (gridN (i * S + k.1)))))]))], 2⟩) (fun k => S - k.1) ⟨0, by omega⟩ ⟨[], [0, 1], by ((simp only [go_sem, eq_self, MvRb, MvRn, MvRt, List.nodup_cons, List.nodup_nil, ↓reduceIte, Nat.reduceEqDiff, Nat.reduceLT, Nat.reduceLeDiff, reduceCtorEq, List.forall_mem_nil, Nat.zero_le, false_implies, List.mem_singleton, MvB_Z, MvB_N, Nat.add_zero]) <;> (try (simp -dsimp only [go_sem, eq_self, MvRb, MvRn, MvRt, List.nodup_cons, List.nodup_nil, ↓reduceIte, Nat.reduceEqDiff, Nat.reduceLT, Nat.reduceLeDiff, reduceCtorEq, List.forall_mem_nil, Nat.zero_le, false_implies, List.mem_singleton, MvB_Z, MvB_N, Nat.add_zero]))) <;> simp [lk, MvB_im, MvB_Z, MvB_N]⟩ (fun ⟨k, hk⟩ => ?_)
  simp only
  by_cases hkt : k < S
  rotate_left
  · have hJ : ((k : Int) < (S : Int)) = False := eq_false (by omega)
    obtain rfl : k = S := by omega
    try simp -dsimp (maxSteps := 1000000) only [go_sem, List.forall_mem_nil, ↓reduceIte, Nat.reduceEqDiff, Nat.reduceLT, Nat.reduceLeDiff, Nat.reduceAdd, Nat.reduceMul, reduceCtorEq, Tryz.f111, hJ, hwi]
    exact ⟨⟨i + 1, by omega⟩, by simp only []; omega, [], [0, 1], by (simp only [go_sem, eq_self, MvRb, MvRn, MvRt, List.nodup_cons, List.nodup_nil, ↓reduceIte, Nat.reduceEqDiff, Nat.reduceLT, Nat.reduceLeDiff, reduceCtorEq, List.forall_mem_nil, Nat.zero_le, false_implies, List.mem_singleton, MvB_Z, MvB_N, Nat.succ_mul]) <;> simp [lk, MvB_im, MvB_Z, MvB_N]⟩
  have hJ : ((k : Int) < (S : Int)) = True := eq_true (by omega)
  have hwk : IntKind.i64.wrap ((k : Int) + 1) = ((k + 1 : Nat) : Int) := by rw [wrap_id (by omega) (by omega)]; omega
  have a1 : IntKind.i64.wrap (2 * (i : Int)) = 2 * (i : Int) := wrap_id (by omega) (by omega)
  have a2 : IntKind.i64.wrap (2 * (i : Int) - (S : Int)) = 2 * (i : Int) - (S : Int) := wrap_id (by omega) (by omega)
  have a3 : IntKind.i64.wrap (2 * (i : Int) - (S : Int) + 1) = 2 * (i : Int) - (S : Int) + 1 := wrap_id (by omega) (by omega)
  have b1 : IntKind.i64.wrap (2 * (k : Int)) = 2 * (k : Int) := wrap_id (by omega) (by omega)
  have b2 : IntKind.i64.wrap (2 * (k : Int) - (S : Int)) = 2 * (k : Int) - (S : Int) := wrap_id (by omega) (by omega)
  have b3 : IntKind.i64.wrap (2 * (k : Int) - (S : Int) + 1) = 2 * (k : Int) - (S : Int) + 1 := wrap_id (by omega) (by omega)
  have hiS : i * S ≤ 9 := by
    calc i * S ≤ 3 * 3 := Nat.mul_le_mul (by omega) s2
      _ = 9 := rfl
  have c1 : IntKind.i64.wrap ((i : Int) * (S : Int)) = ((i * S : Nat) : Int) := by rw [← Int.natCast_mul, wrap_id (by omega) (by omega)]
  have c2 : IntKind.i64.wrap (((i * S : Nat) : Int) + (k : Int)) = ((i * S + k : Nat) : Int) := by rw [wrap_id (by omega) (by omega)]; omega
  have hby : ((i * S + k + 1) * 8 ≤ 140737488355328) = True := eq_true (by omega)
  have hp : tI (rowsZ (gridP S (i * S + k))) ++ [[T.im (.cpx .f32 (FloatKind.f32.nearest (2 * (i : Int) - (S : Int) + 1)) (FloatKind.f32.nearest (2 * (k : Int) - (S : Int) + 1)))]] = tI (rowsZ (gridP S (i * S + (k + 1)))) := by
    rw [← gridP_succ hkt]; simp [tI, rowsZ, gridPt]
  have hn : tI (rowsN (gridN (i * S + k))) ++ [[T.im (.int .i64 ((i * S + k : Nat) : Int))]] = tI (rowsN (gridN (i * S + (k + 1)))) := by
    rw [show i * S + (k + 1) = (i * S + k) + 1 by omega, ← gridN_succ]; simp [tI, rowsN]
  have lz : (tI (rowsZ (gridP S (i * S + (k + 1))))).length = i * S + k + 1 := by simp [tI_len, rowsZ_len, gridP_len]; omega
  have ln : (tI (rowsN (gridN (i * S + (k + 1))))).length = i * S + k + 1 := by simp [tI_len, rowsN_len, gridN_len]; omega
  try simp -dsimp (maxSteps := 1000000) only [go_sem, List.forall_mem_nil, ↓reduceIte, Nat.reduceEqDiff, Nat.reduceLT, Nat.reduceLeDiff, Nat.reduceAdd, Nat.reduceMul, reduceCtorEq, Tryz.f111, hJ, hwk, a1, a2, a3, b1, b2, b3, c1, c2, hp, hn, lz, ln, hby, appendH, srcRows, List.take_succ_cons, List.take_zero, List.all_cons, List.all_nil, okT, Bool.and_true, List.length_append, tI_len, rowsZ_len, rowsN_len, gridP_len, gridN_len]
  exact ⟨⟨k + 1, by omega⟩, by simp only []; omega, [.fold 1 0 0, .fold 1 0 1], [0, 1], by (simp only [go_sem, eq_self, MvRb, MvRn, MvRt, List.nodup_cons, List.nodup_nil, ↓reduceIte, Nat.reduceEqDiff, Nat.reduceLT, Nat.reduceLeDiff, reduceCtorEq, List.forall_mem_nil, Nat.zero_le, false_implies, List.mem_singleton, Option.map_some, lz, ln, MvB_Z, MvB_N]) <;> simp [lk, MvB_im, MvB_Z, MvB_N]⟩
def oTab (l : List Int) : Outs := .any (QTab × SK l) (fun q => { val := .agg [.im (.sl 1 (rowsZ q.1.1.1)), .im (.sl 1 (rowsN q.1.1.2))], places := hsK l q.2.1.1 q.2.1.2 })
theorem ne_tab (l : List Int) : Nonempty (QTab × SK l) = True := by simp only [eq_iff_iff, iff_true]; exact ⟨(⟨([], []), tab_nil⟩, ⟨(0, 0), by simp⟩)⟩
noncomputable def ct_l2Table : Ct := fam false (fun x : AKn => ([.c (.ptr 0 0 0 0)], hsK x.l x.a x.h)) (fun x => oTab x.l)
theorem run_l2Table {l : List Int} {a h : Int} (h1 : l.length ≤ 1048576) (h2 : ∀ b ∈ l, 0 ≤ b ∧ b < 256) (h3 : 0 ≤ a) (h4 : a ≤ l.length) : ct_l2Table.run [.c (.ptr 0 0 0 0)] [[.t (.im (.sl 1 (rowsB l))), .t (.im (.int .i64 a)), .t (.im (.int .i64 h))]] = some (oTab l) := by
  refine fam_run' (args := fun x : AKn => ([D.c (.ptr 0 0 0 0)], hsK x.l x.a x.h)) (fun x y h => ?_) ⟨l, h1, h2, a, h, h3, h4⟩
  simp only [Prod.mk.injEq, true_and] at h
  exact AKn_ext (hsK_inj h)
theorem okAgg2 {i j : I} : OkD false 0 (.agg [.im i, .im j]) := .agg _ (fun x hx => by
  simp only [List.mem_cons, List.not_mem_nil, or_false] at hx
  rcases hx with rfl | rfl <;> exact .im _ (.inl rfl))
theorem sc_PutPoint : (ct_PutPoint.sc = true) = False := by simp [ct_PutPoint, fam]
set_option maxRecDepth 100000 in
set_option maxHeartbeats 8000000 in
theorem law_l2Table : Law Tryz.prog 68 ct_l2Table := by
  refine fam_lawF (Env_cons law_l01Once (Env_cons law_l01Below (Env_cons law_GridTable (Env_cons law_l2Small (Env_cons law_l2Any (Env_cons law_PutPoint Env_nil)))))) hmixA Tryz.func68 rfl rfl (fun ⟨l, h1, h2, a, h, h3, h4⟩ => ⟨okA (fun o => okK (n := 0) okAgg2), by simp [Tryz.f68], ?_⟩)
  simp only [oTab, hsK]
  have h7 : ∀ (a h : Int), 0 ≤ a → a ≤ l.length → ct_l01Below.run [.c (.ptr 0 0 0 0), .c (.im (.int .i64 7))] [[.t (.im (.sl 1 (rowsB l))), .t (.im (.int .i64 a)), .t (.im (.int .i64 h))]] = some (oBelow l 7) := fun a h q1 q2 => run_l01Below h1 h2 q1 q2 (n := 7) (by decide) (by decide)
  try simp -dsimp (maxSteps := 1000000) only [go_sem, List.forall_mem_nil, ↓reduceIte, Nat.reduceEqDiff, Nat.reduceLT, Nat.reduceLeDiff, Nat.reduceAdd, Nat.reduceMul, reduceCtorEq, Tryz.f68, run_l01Once h1 h2 h3 h4 (n := 4) (by decide) (by decide), oOnce, hsK, ne_once]
  rintro ⟨c1, ⟨⟨a1, k1⟩, b1⟩⟩
  cases c1
  case' true =>
    try simp -dsimp (maxSteps := 1000000) only [go_sem, List.forall_mem_nil, ↓reduceIte, Nat.reduceEqDiff, Nat.reduceLT, Nat.reduceLeDiff, Nat.reduceAdd, Nat.reduceMul, reduceCtorEq, Tryz.f68, run_l01Below h1 h2 b1.1 b1.2 (n := 3) (by decide) (by decide), oBelow, hsK, ne_below l (n := 3) (by decide)]
    rintro ⟨⟨v, ⟨⟨a2, k2⟩, b2⟩⟩, v1, v2⟩
    simp only at v1 v2
    obtain ⟨V, rfl⟩ := Int.eq_ofNat_of_zero_le v1
    have hw : IntKind.i64.wrap (1 + (V : Int)) = ((V + 1 : Nat) : Int) := by rw [wrap_id (by omega) (by omega)]; omega
    obtain ⟨pts0, hp0⟩ : ∃ p, gridP (V + 1) ((V + 1) * (V + 1)) = p := ⟨_, rfl⟩
    obtain ⟨lab0, hl0⟩ : ∃ p, gridN ((V + 1) * (V + 1)) = p := ⟨_, rfl⟩
    have hT0 : isTableF pts0 lab0 = true := by rw [← hp0, ← hl0]; exact grid_tab (by omega) (by omega)
    try simp -dsimp (maxSteps := 1000000) only [go_sem, List.forall_mem_nil, ↓reduceIte, Nat.reduceEqDiff, Nat.reduceLT, Nat.reduceLeDiff, Nat.reduceAdd, Nat.reduceMul, reduceCtorEq, Tryz.f68, hw, run_GridTable (n := V + 1) (by omega) (by omega), rTO, hp0, hl0, hsK, h7 a2 k2 b2.1 b2.2, oBelow, ne_below l (n := 7) (by decide)]
    rintro ⟨⟨v7, ⟨⟨a, k⟩, b⟩⟩, r1, r2⟩
    simp only at r1 r2 b
    obtain ⟨N, rfl⟩ := Int.eq_ofNat_of_zero_le r1
    try simp -dsimp (maxSteps := 1000000) only [go_sem, List.forall_mem_nil, ↓reduceIte, Nat.reduceEqDiff, Nat.reduceLT, Nat.reduceLeDiff, Nat.reduceAdd, Nat.reduceMul, reduceCtorEq, Tryz.f68, hsK]
    have i0 : ∃ x : (QTab × SK l) × { n : Nat // n ≤ 7 }, x = ((⟨(pts0, lab0), hT0⟩, ⟨(a, k), b⟩), ⟨N, by omega⟩) := ⟨_, rfl⟩
    obtain ⟨i0, hi0⟩ := i0
    refine loop_i (ι := (QTab × SK l) × { n : Nat // n ≤ 7 }) (fun x => ⟨[(0, some (.c (.ptr 0 0 0 0))), (2, some (.c (.ptr 1 0 0 0))), (3, some (.c (.ptr 2 0 0 0))), (4, some (.c (.im (.int .i64 (x.2.1 : Int)))))],
      [(0, some (.box [.t (.im (.sl 1 (rowsB l))), .t (.im (.int .i64 x.1.2.1.1)), .t (.im (.int .i64 x.1.2.1.2))])), (1, some (.box [.t .nil, .t .nil])), (2, some (.box [.t (.im (.sl 1 (rowsZ x.1.1.1.1))), .t (.im (.sl 1 (rowsN x.1.1.1.2)))]))], 3⟩) (fun x => x.2.1) i0 ⟨[], [0, 1, 2], by subst hi0; (simp only [go_sem, eq_self, MvRb, MvRn, MvRt, List.nodup_cons, List.nodup_nil, ↓reduceIte, Nat.reduceEqDiff, Nat.reduceLT, Nat.reduceLeDiff, reduceCtorEq, List.forall_mem_nil, Nat.zero_le, false_implies, List.mem_singleton]) <;> simp [lk, MvB_im]⟩ (fun ⟨⟨⟨⟨pts, lab⟩, hT⟩, ⟨⟨a, k⟩, b⟩⟩, ⟨n, hn⟩⟩ => ?_)
  case' false =>
    try simp -dsimp (maxSteps := 1000000) only [go_sem, List.forall_mem_nil, ↓reduceIte, Nat.reduceEqDiff, Nat.reduceLT, Nat.reduceLeDiff, Nat.reduceAdd, Nat.reduceMul, reduceCtorEq, Tryz.f68, hsK, h7 a1 k1 b1.1 b1.2, oBelow, ne_below l (n := 7) (by decide)]
    rintro ⟨⟨v7, ⟨⟨a, k⟩, b⟩⟩, r1, r2⟩
    simp only at r1 r2 b
    obtain ⟨N, rfl⟩ := Int.eq_ofNat_of_zero_le r1
    try simp -dsimp (maxSteps := 1000000) only [go_sem, List.forall_mem_nil, ↓reduceIte, Nat.reduceEqDiff, Nat.reduceLT, Nat.reduceLeDiff, Nat.reduceAdd, Nat.reduceMul, reduceCtorEq, Tryz.f68, hsK]
    have i0 : ∃ x : (QTab × SK l) × { n : Nat // n ≤ 7 }, x = ((⟨([], []), tab_nil⟩, ⟨(a, k), b⟩), ⟨N, by omega⟩) := ⟨_, rfl⟩
    obtain ⟨i0, hi0⟩ := i0
    refine loop_i (ι := (QTab × SK l) × { n : Nat // n ≤ 7 }) (fun x => ⟨[(0, some (.c (.ptr 0 0 0 0))), (2, some (.c (.ptr 1 0 0 0))), (3, some (.c (.ptr 2 0 0 0))), (4, some (.c (.im (.int .i64 (x.2.1 : Int)))))],
      [(0, some (.box [.t (.im (.sl 1 (rowsB l))), .t (.im (.int .i64 x.1.2.1.1)), .t (.im (.int .i64 x.1.2.1.2))])), (1, some (.box [.t .nil, .t .nil])), (2, some (.box [.t (.im (.sl 1 (rowsZ x.1.1.1.1))), .t (.im (.sl 1 (rowsN x.1.1.1.2)))]))], 3⟩) (fun x => x.2.1) i0 ⟨[.nilI 1 [.b 2 0 0, .b 2 0 1]], [0, 1, 2], by subst hi0; (simp only [go_sem, eq_self, MvRb, MvRn, MvRt, List.nodup_cons, List.nodup_nil, ↓reduceIte, Nat.reduceEqDiff, Nat.reduceLT, Nat.reduceLeDiff, reduceCtorEq, List.forall_mem_nil, Nat.zero_le, false_implies, List.mem_singleton, frzLs, frT, rowsZ_nil, rowsN_nil]) <;> simp [lk, MvB_im]⟩ (fun ⟨⟨⟨⟨pts, lab⟩, hT⟩, ⟨⟨a, k⟩, b⟩⟩, ⟨n, hn⟩⟩ => ?_)
  all_goals (
    simp only at hT b ⊢
    have h6 : ∀ (a h : Int), 0 ≤ a → a ≤ l.length → ct_l01Below.run [.c (.ptr 0 0 0 0), .c (.im (.int .i64 6))] [[.t (.im (.sl 1 (rowsB l))), .t (.im (.int .i64 a)), .t (.im (.int .i64 h))]] = some (oBelow l 6) := fun a h q1 q2 => run_l01Below h1 h2 q1 q2 (n := 6) (by decide) (by decide)
    match n with
    | 0 =>
      have c0 : ((0 : Nat) : Int) = 0 := rfl
      have d0 : ((0 : Int) < 0) = False := by simp
      try simp -dsimp (maxSteps := 1000000) only [go_sem, List.forall_mem_nil, ↓reduceIte, Nat.reduceEqDiff, Nat.reduceLT, Nat.reduceLeDiff, Nat.reduceAdd, Nat.reduceMul, reduceCtorEq, Tryz.f68, c0, d0]
      refine finF_i [] ?_
      simp -dsimp (maxSteps := 1000000) only [go_sem, List.forall_mem_nil, ↓reduceIte, Nat.reduceEqDiff, Nat.reduceLT, Nat.reduceLeDiff, Nat.reduceAdd, Nat.reduceMul, reduceCtorEq]
      exact ⟨(⟨(pts, lab), hT⟩, ⟨(a, k), b⟩), rfl, rfl, rfl⟩
    | n + 1 =>
      have d0 : ((0 : Int) < ((n + 1 : Nat) : Int)) = True := eq_true (by omega)
      have hk : IntKind.i64.wrap (((n + 1 : Nat) : Int) - 1) = (n : Int) := by rw [wrap_id (by omega) (by omega)]; omega
      try simp -dsimp (maxSteps := 1000000) only [go_sem, List.forall_mem_nil, ↓reduceIte, Nat.reduceEqDiff, Nat.reduceLT, Nat.reduceLeDiff, Nat.reduceAdd, Nat.reduceMul, reduceCtorEq, Tryz.f68, d0, run_l2Small h1 h2 b.1 b.2, oSmall, hsK, ne_small]
      rintro ⟨⟨⟨u, v⟩, ⟨⟨a2, k2⟩, b2⟩⟩, u1, u2, v1, v2⟩
      obtain ⟨U, hU⟩ : ∃ x, wI u = x := ⟨_, rfl⟩
      obtain ⟨V, hV⟩ : ∃ x, wI v = x := ⟨_, rfl⟩
      try simp -dsimp (maxSteps := 1000000) only [go_sem, List.forall_mem_nil, ↓reduceIte, Nat.reduceEqDiff, Nat.reduceLT, Nat.reduceLeDiff, Nat.reduceAdd, Nat.reduceMul, reduceCtorEq, Tryz.f68, hU, hV, hsK, run_l01Once h1 h2 b2.1 b2.2 (n := 6) (by decide) (by decide), oOnce, ne_once]
      rintro ⟨c, ⟨⟨a3, k3⟩, b3⟩⟩
      cases c
      case' false =>
        try simp -dsimp (maxSteps := 1000000) only [go_sem, List.forall_mem_nil, ↓reduceIte, Nat.reduceEqDiff, Nat.reduceLT, Nat.reduceLeDiff, Nat.reduceAdd, Nat.reduceMul, reduceCtorEq, Tryz.f68, hsK, h6 a3 k3 b3.1 b3.2, oBelow, ne_below l (n := 6) (by decide)]
        repeat' ((with_reducible refine sl_i ?_ ?_); focus kernel_rfl)
      case' true =>
        try simp -dsimp (maxSteps := 1000000) only [go_sem, List.forall_mem_nil, ↓reduceIte, Nat.reduceEqDiff, Nat.reduceLT, Nat.reduceLeDiff, Nat.reduceAdd, Nat.reduceMul, reduceCtorEq, Tryz.f68, hsK, run_l2Any h1 h2 b3.1 b3.2, oPt, ne_opt]
        rintro ⟨⟨U, V⟩, ⟨⟨a3, k3⟩, b3⟩⟩
        try simp -dsimp (maxSteps := 1000000) only [go_sem, List.forall_mem_nil, ↓reduceIte, Nat.reduceEqDiff, Nat.reduceLT, Nat.reduceLeDiff, Nat.reduceAdd, Nat.reduceMul, reduceCtorEq, Tryz.f68, hsK, h6 a3 k3 b3.1 b3.2, oBelow, ne_below l (n := 6) (by decide)]
        repeat' ((with_reducible refine sl_i ?_ ?_); focus kernel_rfl)
      all_goals (
        rintro ⟨⟨v6, ⟨⟨a4, k4⟩, b4⟩⟩, r1, r2⟩
        simp only at r1 r2 b4
        have hw6 : IntKind.i64.wrap (v6 - 2) = v6 - 2 := wrap_id (by omega) (by omega)
        try simp -dsimp (maxSteps := 1000000) only [go_sem, List.forall_mem_nil, ↓reduceIte, Nat.reduceEqDiff, Nat.reduceLT, Nat.reduceLeDiff, Nat.reduceAdd, Nat.reduceMul, reduceCtorEq, Tryz.f68, hw6, hsK, run_PutPoint hT, sc_PutPoint, oPut, rTO, ne_put]
        rintro ⟨⟨⟨pts', lab'⟩, hT'⟩, ok⟩
        cases ok
        · skip
          try simp -dsimp (maxSteps := 1000000) only [go_sem, List.forall_mem_nil, ↓reduceIte, Nat.reduceEqDiff, Nat.reduceLT, Nat.reduceLeDiff, Nat.reduceAdd, Nat.reduceMul, reduceCtorEq, Tryz.f68, hsK, hk, rTO]
          repeat' ((with_reducible refine ro_i ?_ ?_); focus kernel_rfl)
          exact ⟨((⟨(pts, lab), hT⟩, ⟨(a4, k4), b4⟩), ⟨n, by omega⟩), by simp only []; omega, [], [0, 1, 2], by (simp only [go_sem, eq_self, MvRb, MvRn, MvRt, List.nodup_cons, List.nodup_nil, ↓reduceIte, Nat.reduceEqDiff, Nat.reduceLT, Nat.reduceLeDiff, reduceCtorEq, List.forall_mem_nil, Nat.zero_le, false_implies, List.mem_singleton]) <;> simp [lk, MvB_im]⟩
        · skip
          try simp -dsimp (maxSteps := 1000000) only [go_sem, List.forall_mem_nil, ↓reduceIte, Nat.reduceEqDiff, Nat.reduceLT, Nat.reduceLeDiff, Nat.reduceAdd, Nat.reduceMul, reduceCtorEq, Tryz.f68, hsK, hk, rTO]
          repeat' ((with_reducible refine ro_i ?_ ?_); focus kernel_rfl)
          exact ⟨((⟨(pts', lab'), hT'⟩, ⟨(a4, k4), b4⟩), ⟨n, by omega⟩), by simp only []; omega, [], [0, 1, 2], by (simp only [go_sem, eq_self, MvRb, MvRn, MvRt, List.nodup_cons, List.nodup_nil, ↓reduceIte, Nat.reduceEqDiff, Nat.reduceLT, Nat.reduceLeDiff, reduceCtorEq, List.forall_mem_nil, Nat.zero_le, false_implies, List.mem_singleton]) <;> simp [lk, MvB_im]⟩))
end Go.SX
