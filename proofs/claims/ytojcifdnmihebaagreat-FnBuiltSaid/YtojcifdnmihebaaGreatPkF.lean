/-
  Draws: l01New, l01Byte, l01Below, l2Small, MakeWhole. Of what is drawn only its range is told.
  Draws: l01Once, l01Int, l1Odd, FromSteps, l1Some, l1Any, l2Any, l4Samples, MakeSamples. Of what is drawn nothing is told.
  MakeWhole, laws.fresh.
  l1In, FromSteps, l1Any, l2Any, l4Samples, MakeSamples.
  spec: small functions of numbers and points; constructors of modules without slices.
  spec: plain words of what is drawn: finite numbers, levels, modules, what a step makes of them.
  spec: tables.
  No condition.
-/
import Derived.Test.YtojcifdnmihebaaGreatPkE
set_option linter.unusedVariables false
set_option linter.unusedSimpArgs false
namespace Go.SX
open Go Go.Proofs
theorem and255 (x : Int) : 0 ≤ bitsI .and .i64 x 255 ∧ bitsI .and .i64 x 255 < 256 := by
  have h : (BitVec.ofInt 64 x &&& BitVec.ofInt 64 255).toNat ≤ 255 := by
    rw [BitVec.toNat_and]
    have e2 : (BitVec.ofInt 64 255).toNat = 255 := by decide
    rw [e2]; exact Nat.and_le_right
  simp only [bitsI]
  rw [show (IntKind.i64.bits) = 64 from rfl, wrap_id (by omega) (by omega)]
  omega
def hsK (l : List Int) (a h : Int) : List (List B) := [[.t (.im (.sl 1 (rowsB l))), .t (.im (.int .i64 a)), .t (.im (.int .i64 h))]]
abbrev SK (l : List Int) := { q : Int × Int // 0 ≤ q.1 ∧ q.1 ≤ l.length }
structure AKn where
  l : List Int
  len : l.length ≤ 1048576
  by_ : ∀ b ∈ l, 0 ≤ b ∧ b < 256
  a : Int
  h : Int
  a0 : 0 ≤ a
  a1 : a ≤ l.length
theorem hsK_inj {l m : List Int} {a b h k : Int} (e : hsK l a h = hsK m b k) : l = m ∧ a = b ∧ h = k := by
  simp only [hsK, List.cons.injEq, B.t.injEq, T.im.injEq, I.sl.injEq, I.int.injEq, true_and, and_true] at e
  exact ⟨rowsB_inj e.1, e.2⟩
theorem AKn_ext {x y : AKn} (h : x.l = y.l ∧ x.a = y.a ∧ x.h = y.h) : x = y := by
  obtain ⟨l, _, _, a, h1, _, _⟩ := x
  obtain ⟨m, _, _, b, k, _, _⟩ := y
  obtain ⟨rfl, rfl, rfl⟩ := h
  rfl
theorem okK {v : D} {l : List Int} {a h : Int} {n : Nat} (hv : OkD false 0 v) : OkR false { val := v, places := hsK l a h } := by
  refine ⟨hv, by simp, fun c hc x hx => ?_⟩
  simp only [hsK, List.mem_cons, List.not_mem_nil, or_false] at hc
  subst hc
  simp only [List.mem_cons, List.not_mem_nil, or_false] at hx
  rcases hx with rfl | rfl | rfl <;> exact .t _ (.im _ (.inl rfl))
theorem okDi {i : I} : OkD false 0 (.c (.im i)) := .c _ (.im _ (.inl rfl))
abbrev QByte (l : List Int) := { q : Int × SK l // 0 ≤ q.1 ∧ q.1 < 256 }
def oByte (l : List Int) : Outs := .any (QByte l) (fun q => { val := .c (.im (.int .i64 q.1.1)), places := hsK l q.1.2.1.1 q.1.2.1.2 })
noncomputable def ct_l01Byte : Ct := fam false (fun x : AKn => ([.c (.ptr 0 0 0 0)], hsK x.l x.a x.h)) (fun x => oByte x.l)
theorem run_l01Byte {l : List Int} {a h : Int} (h1 : l.length ≤ 1048576) (h2 : ∀ b ∈ l, 0 ≤ b ∧ b < 256) (h3 : 0 ≤ a) (h4 : a ≤ l.length) : ct_l01Byte.run [.c (.ptr 0 0 0 0)] [[.t (.im (.sl 1 (rowsB l))), .t (.im (.int .i64 a)), .t (.im (.int .i64 h))]] = some (oByte l) := by
  refine fam_run' (args := fun x : AKn => ([D.c (.ptr 0 0 0 0)], hsK x.l x.a x.h)) (fun x y h => ?_) ⟨l, h1, h2, a, h, h3, h4⟩
  simp only [Prod.mk.injEq, true_and] at h
  exact AKn_ext (hsK_inj h)
theorem ne_byte (l : List Int) : Nonempty (QByte l) = True := by simp only [eq_iff_iff, iff_true]; exact ⟨⟨(0, ⟨(0, 0), by simp⟩), by simp⟩⟩
set_option maxRecDepth 100000 in
set_option maxHeartbeats 4000000 in
theorem law_l01Byte : Law Tryz.prog 103 ct_l01Byte := by
  refine fam_law Env_nil hmixA Tryz.func103 rfl rfl (fun ⟨l, h1, h2, a, h, h3, h4⟩ => ⟨okA (fun o => okK (n := 0) okDi), by simp [Tryz.f103], ?_⟩)
  simp only [oByte, hsK]
  have ha0 : (0 ≤ a) = True := eq_true h3
  obtain ⟨X1, hX1⟩ : ∃ x, IntKind.i64.wrap (h * 6364136223846793005) = x := ⟨_, rfl⟩
  obtain ⟨X2, hX2⟩ : ∃ x, IntKind.i64.wrap (X1 + 1442695040888963407) = x := ⟨_, rfl⟩
  obtain ⟨Y1, hY1⟩ : ∃ x, X2.fdiv (2 ^ min (Int.toNat 33) 64) = x := ⟨_, rfl⟩
  obtain ⟨Y2, hY2⟩ : ∃ x, X2.fdiv (2 ^ min (Int.toNat 45) 64) = x := ⟨_, rfl⟩
  obtain ⟨Z, hZ⟩ : ∃ x, bitsI .xor .i64 Y1 Y2 = x := ⟨_, rfl⟩
  obtain ⟨z1, z2⟩ := and255 Z
  by_cases hlt : a < l.length
  · have hI : (a < (l.length : Int)) = True := eq_true hlt
    obtain ⟨b, hb⟩ : ∃ b, l[a.toNat]? = some b := ⟨_, List.getElem?_eq_getElem (by omega)⟩
    have hrow := rowsB_at hb
    obtain ⟨r1, r2⟩ := h2 b (List.mem_of_getElem? hb)
    have hw : IntKind.i64.wrap b = b := wrap_id (by omega) (by omega)
    obtain ⟨V, hV⟩ : ∃ x, bitsI .and .i64 Z 255 = x := ⟨_, rfl⟩
    obtain ⟨U, hU⟩ : ∃ x, IntKind.i64.wrap (V + b) = x := ⟨_, rfl⟩
    obtain ⟨u1, u2⟩ := and255 U
    have hw1 : IntKind.i64.wrap (a + 1) = a + 1 := wrap_id (by omega) (by omega)
    try simp -dsimp (maxSteps := 1000000) only [go_sem, List.forall_mem_nil, ↓reduceIte, Nat.reduceEqDiff, Nat.reduceLT, Nat.reduceLeDiff, Nat.reduceAdd, Nat.reduceMul, reduceCtorEq, Tryz.f103, hX1, hX2, hY1, hY2, hZ, hV, hU, rowsB_len, ha0, hI, hrow, hw, hw1, Int.reduceLT, Int.reduceLE]
    repeat' (first
      | ((with_reducible refine sl_i ?_ ?_); focus kernel_rfl)
      | ((with_reducible refine ro_i ?_ ?_); focus kernel_rfl))
    exact ⟨⟨(_, ⟨(a + 1, X2), by omega⟩), u1, u2⟩, rfl, rfl⟩
  · have hI : (a < (l.length : Int)) = False := eq_false hlt
    try simp -dsimp (maxSteps := 1000000) only [go_sem, List.forall_mem_nil, ↓reduceIte, Nat.reduceEqDiff, Nat.reduceLT, Nat.reduceLeDiff, Nat.reduceAdd, Nat.reduceMul, reduceCtorEq, Tryz.f103, hX1, hX2, hY1, hY2, hZ, rowsB_len, ha0, hI, Int.reduceLT, Int.reduceLE]
    repeat' (first
      | ((with_reducible refine sl_i ?_ ?_); focus kernel_rfl)
      | ((with_reducible refine ro_i ?_ ?_); focus kernel_rfl))
    exact ⟨⟨(_, ⟨(a, X2), by omega⟩), z1, z2⟩, rfl, rfl⟩
theorem ne_int : Nonempty Int = True := by simp only [eq_iff_iff, iff_true]; exact ⟨0⟩
structure ABw where
  l : List Int
  len : l.length ≤ 1048576
  by_ : ∀ b ∈ l, 0 ≤ b ∧ b < 256
def oKNew (l : List Int) : Outs := .any Int (fun h => { val := .c (.ptr 0 0 0 0), roots := [.box [.t (.im (.sl 1 (rowsB l))), .t (.im (.int .i64 0)), .t (.im (.int .i64 h))]] })
noncomputable def ct_l01New : Ct := fam false (fun x : ABw => ([.c (.im (.sl 1 (rowsB x.l)))], [])) (fun x => oKNew x.l)
theorem ABw_ext {x y : ABw} (h : x.l = y.l) : x = y := by
  obtain ⟨l, _, _⟩ := x
  obtain ⟨m, _, _⟩ := y
  obtain rfl := h
  rfl
theorem run_l01New {l : List Int} (h1 : l.length ≤ 1048576) (h2 : ∀ b ∈ l, 0 ≤ b ∧ b < 256) : ct_l01New.run [.c (.im (.sl 1 (rowsB l)))] [] = some (oKNew l) := by
  refine fam_run' (args := fun x : ABw => ([D.c (.im (.sl 1 (rowsB x.l)))], [])) (fun x y h => ?_) ⟨l, h1, h2⟩
  simp only [Prod.mk.injEq, List.cons.injEq, D.c.injEq, C.im.injEq, I.sl.injEq, true_and, and_true] at h
  exact ABw_ext (rowsB_inj h)
theorem okKNew {l : List Int} {h : Int} : OkR false { val := .c (.ptr 0 0 0 0), roots := [.box [.t (.im (.sl 1 (rowsB l))), .t (.im (.int .i64 0)), .t (.im (.int .i64 h))]] } := by
  refine ⟨.c _ (.ptr _ _ _ _ (by simp)), fun r hr => ?_, by simp⟩
  simp only [List.mem_cons, List.not_mem_nil, or_false] at hr
  subst hr
  intro x hx
  simp only [List.mem_cons, List.not_mem_nil, or_false] at hx
  rcases hx with rfl | rfl | rfl <;> exact .t _ (.im _ (.inl rfl))
set_option maxRecDepth 100000 in
set_option maxHeartbeats 4000000 in
theorem law_l01New : Law Tryz.prog 29 ct_l01New := by
  refine fam_law Env_nil hmixA Tryz.func29 rfl rfl (fun ⟨l, h1, h2⟩ => ⟨okA (fun o => okKNew), by simp [Tryz.f29], ?_⟩)
  simp only [oKNew]
  obtain ⟨H, hH⟩ : ∃ x, IntKind.i64.wrap (3223 + (l.length : Int)) = x := ⟨_, rfl⟩
  try simp -dsimp (maxSteps := 1000000) only [go_sem, List.forall_mem_nil, ↓reduceIte, Nat.reduceEqDiff, Nat.reduceLT, Nat.reduceLeDiff, Nat.reduceAdd, Nat.reduceMul, reduceCtorEq, Tryz.f29, rowsB_len, hH]
  refine loop_i (ι := { k : Nat // k ≤ l.length } × Int) (fun x => ⟨[(0, some (.c (.im (.sl 1 (rowsB l))))), (3, some (.c (.im (.int .i64 x.2)))), (4, some (.c (.im (.int .i64 (x.1.1 : Int)))))], [], 0⟩) (fun x => l.length - x.1.1) (⟨0, by simp⟩, H) ⟨[], [], by ((simp only [go_sem, eq_self, MvRb, MvRn, MvRt, List.nodup_cons, List.nodup_nil, ↓reduceIte, Nat.reduceEqDiff, Nat.reduceLT, Nat.reduceLeDiff, reduceCtorEq, List.forall_mem_nil, Nat.zero_le, false_implies, List.mem_singleton]) <;> (try (simp -dsimp only [go_sem, eq_self, MvRb, MvRn, MvRt, List.nodup_cons, List.nodup_nil, ↓reduceIte, Nat.reduceEqDiff, Nat.reduceLT, Nat.reduceLeDiff, reduceCtorEq, List.forall_mem_nil, Nat.zero_le, false_implies, List.mem_singleton]))) <;> simp⟩ (fun ⟨⟨k, hk⟩, h⟩ => ?_)
  simp only
  by_cases hlt : k < l.length
  · have hI : ((k : Int) < (l.length : Int)) = True := eq_true (by omega)
    by_cases h4 : k < 4000
    · have h4' : ((k : Int) < 4000) = True := eq_true (by omega)
      obtain ⟨b, hb⟩ : ∃ b, l[k]? = some b := ⟨_, List.getElem?_eq_getElem (by omega)⟩
      have hrow := rowsB_at hb
      have h0 : (0 ≤ (k : Int)) = True := by simp
      have hwr : IntKind.i64.wrap ((k : Int) + 1) = (k : Int) + 1 := wrap_id (by omega) (by omega)
      obtain ⟨U, hU⟩ : ∃ x, IntKind.i64.wrap (h * 1103) = x := ⟨_, rfl⟩
      obtain ⟨U2, hU2⟩ : ∃ x, IntKind.i64.wrap (U + IntKind.i64.wrap b) = x := ⟨_, rfl⟩
      obtain ⟨U3, hU3⟩ : ∃ x, IntKind.i64.wrap (U2 + 7) = x := ⟨_, rfl⟩
      obtain ⟨U4, hU4⟩ : ∃ x, bitsI .and .i64 U3 1073741823 = x := ⟨_, rfl⟩
      try simp -dsimp (maxSteps := 1000000) only [go_sem, List.forall_mem_nil, ↓reduceIte, Nat.reduceEqDiff, Nat.reduceLT, Nat.reduceLeDiff, Nat.reduceAdd, Nat.reduceMul, reduceCtorEq, Tryz.f29, rowsB_len, hI, h4', hrow, h0, hwr, hU, hU2, hU3, hU4, Int.toNat_natCast]
      exact ⟨(⟨k + 1, by omega⟩, U4), by simp only []; omega, [], [], by ((simp only [go_sem, eq_self, MvRb, MvRn, MvRt, List.nodup_cons, List.nodup_nil, ↓reduceIte, Nat.reduceEqDiff, Nat.reduceLT, Nat.reduceLeDiff, reduceCtorEq, List.forall_mem_nil, Nat.zero_le, false_implies, List.mem_singleton]) <;> (try (simp -dsimp only [go_sem, eq_self, MvRb, MvRn, MvRt, List.nodup_cons, List.nodup_nil, ↓reduceIte, Nat.reduceEqDiff, Nat.reduceLT, Nat.reduceLeDiff, reduceCtorEq, List.forall_mem_nil, Nat.zero_le, false_implies, List.mem_singleton]))) <;> simp⟩
    · have h4' : ((k : Int) < 4000) = False := eq_false (by omega)
      try simp -dsimp (maxSteps := 1000000) only [go_sem, List.forall_mem_nil, ↓reduceIte, Nat.reduceEqDiff, Nat.reduceLT, Nat.reduceLeDiff, Nat.reduceAdd, Nat.reduceMul, reduceCtorEq, Tryz.f29, rowsB_len, hI, h4']
      exact ⟨h, [0], by simp, by simp, by simp [rtOk], rfl⟩
  · have hI : ((k : Int) < (l.length : Int)) = False := eq_false (by omega)
    try simp -dsimp (maxSteps := 1000000) only [go_sem, List.forall_mem_nil, ↓reduceIte, Nat.reduceEqDiff, Nat.reduceLT, Nat.reduceLeDiff, Nat.reduceAdd, Nat.reduceMul, reduceCtorEq, Tryz.f29, rowsB_len, hI]
    exact ⟨h, [0], by simp, by simp, by simp [rtOk], rfl⟩
abbrev QBelow (l : List Int) (n : Int) := { q : Int × SK l // 0 ≤ q.1 ∧ q.1 < n }
def oBelow (l : List Int) (n : Int) : Outs := .any (QBelow l n) (fun q => { val := .c (.im (.int .i64 q.1.1)), places := hsK l q.1.2.1.1 q.1.2.1.2 })
abbrev NB := { n : Int // 1 ≤ n ∧ n ≤ 2147483648 }
noncomputable def ct_l01Below : Ct := fam false (fun x : AKn × NB => ([.c (.ptr 0 0 0 0), .c (.im (.int .i64 x.2.1))], hsK x.1.l x.1.a x.1.h)) (fun x => oBelow x.1.l x.2.1)
theorem run_l01Below {l : List Int} {a h n : Int} (h1 : l.length ≤ 1048576) (h2 : ∀ b ∈ l, 0 ≤ b ∧ b < 256) (h3 : 0 ≤ a) (h4 : a ≤ l.length) (h5 : 1 ≤ n) (h6 : n ≤ 2147483648) : ct_l01Below.run [.c (.ptr 0 0 0 0), .c (.im (.int .i64 n))] [[.t (.im (.sl 1 (rowsB l))), .t (.im (.int .i64 a)), .t (.im (.int .i64 h))]] = some (oBelow l n) := by
  refine fam_run' (args := fun x : AKn × NB => ([D.c (.ptr 0 0 0 0), .c (.im (.int .i64 x.2.1))], hsK x.1.l x.1.a x.1.h)) (fun x y h => ?_) (⟨l, h1, h2, a, h, h3, h4⟩, ⟨n, h5, h6⟩)
  simp only [Prod.mk.injEq, List.cons.injEq, D.c.injEq, C.im.injEq, I.int.injEq, true_and, and_true] at h
  exact Prod.ext (AKn_ext (hsK_inj h.2)) (Subtype.ext h.1)
theorem ne_below (l : List Int) {n : Int} (h : 1 ≤ n) : Nonempty (QBelow l n) = True := by simp only [eq_iff_iff, iff_true]; exact ⟨⟨(0, ⟨(0, 0), by simp⟩), by simp only []; omega⟩⟩
set_option maxRecDepth 100000 in
set_option maxHeartbeats 4000000 in
theorem law_l01Below : Law Tryz.prog 58 ct_l01Below := by
  refine fam_law (Env_cons law_l01Byte Env_nil) hmixA Tryz.func58 rfl rfl (fun ⟨⟨l, h1, h2, a, h, h3, h4⟩, ⟨n, n1, n2⟩⟩ => ⟨okA (fun o => okK (n := 0) okDi), by simp [Tryz.f58], ?_⟩)
  simp only [oBelow, hsK]
  have e0 : (n ≤ 0) = False := eq_false (by omega)
  have e00 : (n = 0) = False := eq_false (by omega)
  by_cases hn : n ≤ 256
  · have e1 : (n ≤ 256) = True := eq_true hn
    try simp -dsimp (maxSteps := 1000000) only [go_sem, List.forall_mem_nil, ↓reduceIte, Nat.reduceEqDiff, Nat.reduceLT, Nat.reduceLeDiff, Nat.reduceAdd, Nat.reduceMul, reduceCtorEq, Tryz.f58, e0, e1, e00, run_l01Byte h1 h2 h3 h4, oByte, hsK, ne_byte]
    rintro ⟨⟨v, ⟨⟨a1, k1⟩, b1⟩⟩, v1, v2⟩
    try simp -dsimp (maxSteps := 1000000) only [go_sem, List.forall_mem_nil, ↓reduceIte, Nat.reduceEqDiff, Nat.reduceLT, Nat.reduceLeDiff, Nat.reduceAdd, Nat.reduceMul, reduceCtorEq, Tryz.f58, e0, e1, e00, hsK]
    exact ⟨⟨(_, ⟨(a1, k1), b1⟩), Int.tmod_nonneg _ v1, Int.tmod_lt_of_pos _ (by omega)⟩, rfl, rfl⟩
  · have e1 : (n ≤ 256) = False := eq_false hn
    try simp -dsimp (maxSteps := 1000000) only [go_sem, List.forall_mem_nil, ↓reduceIte, Nat.reduceEqDiff, Nat.reduceLT, Nat.reduceLeDiff, Nat.reduceAdd, Nat.reduceMul, reduceCtorEq, Tryz.f58, e0, e1, e00, run_l01Byte h1 h2 h3 h4, oByte, hsK, ne_byte]
    rintro ⟨⟨x, ⟨⟨a1, k1⟩, b1⟩⟩, x1, x2⟩
    try simp -dsimp (maxSteps := 1000000) only [go_sem, List.forall_mem_nil, ↓reduceIte, Nat.reduceEqDiff, Nat.reduceLT, Nat.reduceLeDiff, Nat.reduceAdd, Nat.reduceMul, reduceCtorEq, Tryz.f58, e00, run_l01Byte h1 h2 b1.1 b1.2, oByte, hsK, ne_byte]
    rintro ⟨⟨y, ⟨⟨a2, k2⟩, b2⟩⟩, y1, y2⟩
    try simp -dsimp (maxSteps := 1000000) only [go_sem, List.forall_mem_nil, ↓reduceIte, Nat.reduceEqDiff, Nat.reduceLT, Nat.reduceLeDiff, Nat.reduceAdd, Nat.reduceMul, reduceCtorEq, Tryz.f58, e00, run_l01Byte h1 h2 b2.1 b2.2, oByte, hsK, ne_byte]
    rintro ⟨⟨z, ⟨⟨a3, k3⟩, b3⟩⟩, z1, z2⟩
    try simp -dsimp (maxSteps := 1000000) only [go_sem, List.forall_mem_nil, ↓reduceIte, Nat.reduceEqDiff, Nat.reduceLT, Nat.reduceLeDiff, Nat.reduceAdd, Nat.reduceMul, reduceCtorEq, Tryz.f58, e00, run_l01Byte h1 h2 b3.1 b3.2, oByte, hsK, ne_byte]
    rintro ⟨⟨w, ⟨⟨a4, k4⟩, b4⟩⟩, w1, w2⟩
    simp only at x1 x2 y1 y2 z1 z2 w1 w2 b4
    have q1 : IntKind.i64.wrap (x * 16777216) = x * 16777216 := wrap_id (by omega) (by omega)
    have q2 : IntKind.i64.wrap (y * 65536) = y * 65536 := wrap_id (by omega) (by omega)
    have q3 : IntKind.i64.wrap (z * 256) = z * 256 := wrap_id (by omega) (by omega)
    have q4 : IntKind.i64.wrap (x * 16777216 + y * 65536) = x * 16777216 + y * 65536 := wrap_id (by omega) (by omega)
    have q5 : IntKind.i64.wrap (x * 16777216 + y * 65536 + z * 256) = x * 16777216 + y * 65536 + z * 256 := wrap_id (by omega) (by omega)
    obtain ⟨s, hs⟩ : ∃ s, IntKind.i64.wrap (x * 16777216 + y * 65536 + z * 256 + w) = s := ⟨_, rfl⟩
    have s1 : 0 ≤ s := by rw [← hs, wrap_id (by omega) (by omega)]; omega
    try simp -dsimp (maxSteps := 1000000) only [go_sem, List.forall_mem_nil, ↓reduceIte, Nat.reduceEqDiff, Nat.reduceLT, Nat.reduceLeDiff, Nat.reduceAdd, Nat.reduceMul, reduceCtorEq, Tryz.f58, e00, hsK, q1, q2, q3, q4, q5, hs]
    exact ⟨⟨(_, ⟨(a4, k4), b4⟩), Int.tmod_nonneg _ s1, Int.tmod_lt_of_pos _ (by omega)⟩, rfl, rfl⟩
abbrev QSmall (l : List Int) := { q : (Int × Int) × SK l // -3 ≤ q.1.1 ∧ q.1.1 ≤ 3 ∧ -3 ≤ q.1.2 ∧ q.1.2 ≤ 3 }
def oSmall (l : List Int) : Outs := .any (QSmall l) (fun q => { val := .c (.im (.cpx .f32 (wI q.1.1.1) (wI q.1.1.2))), places := hsK l q.1.2.1.1 q.1.2.1.2 })
noncomputable def ct_l2Small : Ct := fam false (fun x : AKn => ([.c (.ptr 0 0 0 0)], hsK x.l x.a x.h)) (fun x => oSmall x.l)
theorem run_l2Small {l : List Int} {a h : Int} (h1 : l.length ≤ 1048576) (h2 : ∀ b ∈ l, 0 ≤ b ∧ b < 256) (h3 : 0 ≤ a) (h4 : a ≤ l.length) : ct_l2Small.run [.c (.ptr 0 0 0 0)] [[.t (.im (.sl 1 (rowsB l))), .t (.im (.int .i64 a)), .t (.im (.int .i64 h))]] = some (oSmall l) := by
  refine fam_run' (args := fun x : AKn => ([D.c (.ptr 0 0 0 0)], hsK x.l x.a x.h)) (fun x y h => ?_) ⟨l, h1, h2, a, h, h3, h4⟩
  simp only [Prod.mk.injEq, true_and] at h
  exact AKn_ext (hsK_inj h)
theorem ne_small (l : List Int) : Nonempty (QSmall l) = True := by simp only [eq_iff_iff, iff_true]; exact ⟨⟨((0, 0), ⟨(0, 0), by simp⟩), by simp⟩⟩
set_option maxRecDepth 100000 in
set_option maxHeartbeats 4000000 in
theorem law_l2Small : Law Tryz.prog 62 ct_l2Small := by
  refine fam_law (Env_cons law_l01Below Env_nil) hmixA Tryz.func62 rfl rfl (fun ⟨l, h1, h2, a, h, h3, h4⟩ => ⟨okA (fun o => okK (n := 0) okDi), by simp [Tryz.f62], ?_⟩)
  simp only [oSmall, hsK]
  try simp -dsimp (maxSteps := 1000000) only [go_sem, List.forall_mem_nil, ↓reduceIte, Nat.reduceEqDiff, Nat.reduceLT, Nat.reduceLeDiff, Nat.reduceAdd, Nat.reduceMul, reduceCtorEq, Tryz.f62, run_l01Below h1 h2 h3 h4 (n := 7) (by decide) (by decide), oBelow, hsK, ne_below l (n := 7) (by decide)]
  rintro ⟨⟨u, ⟨⟨a1, k1⟩, b1⟩⟩, u1, u2⟩
  have hu : IntKind.i64.wrap (u - 3) = u - 3 := wrap_id (by simp only at u1; omega) (by simp only at u2; omega)
  try simp -dsimp (maxSteps := 1000000) only [go_sem, List.forall_mem_nil, ↓reduceIte, Nat.reduceEqDiff, Nat.reduceLT, Nat.reduceLeDiff, Nat.reduceAdd, Nat.reduceMul, reduceCtorEq, Tryz.f62, hu, run_l01Below h1 h2 b1.1 b1.2 (n := 7) (by decide) (by decide), oBelow, hsK, ne_below l (n := 7) (by decide)]
  rintro ⟨⟨v, ⟨⟨a2, k2⟩, b2⟩⟩, v1, v2⟩
  have hv : IntKind.i64.wrap (v - 3) = v - 3 := wrap_id (by simp only at v1; omega) (by simp only at v2; omega)
  try simp -dsimp (maxSteps := 1000000) only [go_sem, List.forall_mem_nil, ↓reduceIte, Nat.reduceEqDiff, Nat.reduceLT, Nat.reduceLeDiff, Nat.reduceAdd, Nat.reduceMul, reduceCtorEq, Tryz.f62, hu, hv, hsK]
  exact ⟨⟨((u - 3, v - 3), ⟨(a2, k2), b2⟩), by simp only at u1 u2 v1 v2 ⊢; omega⟩, rfl, rfl, rfl⟩
end Go.SX
set_option linter.unusedVariables false
set_option linter.unusedSimpArgs false
namespace Go.SX
open Go Go.Proofs
def oOnce (l : List Int) : Outs := .any (Bool × SK l) (fun q => { val := .c (.im (.bool q.1)), places := hsK l q.2.1.1 q.2.1.2 })
noncomputable def ct_l01Once : Ct := fam false (fun x : AKn × NB => ([.c (.ptr 0 0 0 0), .c (.im (.int .i64 x.2.1))], hsK x.1.l x.1.a x.1.h)) (fun x => oOnce x.1.l)
theorem run_l01Once {l : List Int} {a h n : Int} (h1 : l.length ≤ 1048576) (h2 : ∀ b ∈ l, 0 ≤ b ∧ b < 256) (h3 : 0 ≤ a) (h4 : a ≤ l.length) (h5 : 1 ≤ n) (h6 : n ≤ 2147483648) : ct_l01Once.run [.c (.ptr 0 0 0 0), .c (.im (.int .i64 n))] [[.t (.im (.sl 1 (rowsB l))), .t (.im (.int .i64 a)), .t (.im (.int .i64 h))]] = some (oOnce l) := by
  refine fam_run' (args := fun x : AKn × NB => ([D.c (.ptr 0 0 0 0), .c (.im (.int .i64 x.2.1))], hsK x.1.l x.1.a x.1.h)) (fun x y h => ?_) (⟨l, h1, h2, a, h, h3, h4⟩, ⟨n, h5, h6⟩)
  simp only [Prod.mk.injEq, List.cons.injEq, D.c.injEq, C.im.injEq, I.int.injEq, true_and, and_true] at h
  exact Prod.ext (AKn_ext (hsK_inj h.2)) (Subtype.ext h.1)
theorem ne_once (l : List Int) : Nonempty (Bool × SK l) = True := by simp only [eq_iff_iff, iff_true]; exact ⟨(true, ⟨(0, 0), by simp⟩)⟩
set_option maxRecDepth 100000 in
set_option maxHeartbeats 4000000 in
theorem law_l01Once : Law Tryz.prog 87 ct_l01Once := by
  refine fam_law (Env_cons law_l01Below Env_nil) hmixA Tryz.func87 rfl rfl (fun ⟨⟨l, h1, h2, a, h, h3, h4⟩, ⟨n, n1, n2⟩⟩ => ⟨okA (fun o => okK (n := 0) okDi), by simp [Tryz.f87], ?_⟩)
  simp only [oOnce, hsK]
  try simp -dsimp (maxSteps := 1000000) only [go_sem, List.forall_mem_nil, ↓reduceIte, Nat.reduceEqDiff, Nat.reduceLT, Nat.reduceLeDiff, Nat.reduceAdd, Nat.reduceMul, reduceCtorEq, Tryz.f87, run_l01Below h1 h2 h3 h4 n1 n2, oBelow, hsK, ne_below l n1]
  rintro ⟨⟨v, ⟨⟨a1, k1⟩, b1⟩⟩, v1, v2⟩
  try simp -dsimp (maxSteps := 1000000) only [go_sem, List.forall_mem_nil, ↓reduceIte, Nat.reduceEqDiff, Nat.reduceLT, Nat.reduceLeDiff, Nat.reduceAdd, Nat.reduceMul, reduceCtorEq, Tryz.f87, hsK]
  all_goals exact ⟨(_, ⟨(a1, k1), b1⟩), rfl, rfl⟩
def oInt (l m : List Int) : Outs := .any ({ x : Int // x ∈ m } × SK l) (fun q => { val := .c (.im (.int .i64 q.1.1)), places := hsK l q.2.1.1 q.2.1.2 })
abbrev LN := { l : List Int // 1 ≤ l.length ∧ l.length ≤ 1000 }
noncomputable def ct_l01Int : Ct := fam false (fun x : AKn × LN => ([.c (.ptr 0 0 0 0), .c (.im (.sl 1 (rowsN x.2.1)))], hsK x.1.l x.1.a x.1.h)) (fun x => oInt x.1.l x.2.1)
theorem run_l01Int {l : List Int} {a h : Int} {m : List Int} (h1 : l.length ≤ 1048576) (h2 : ∀ b ∈ l, 0 ≤ b ∧ b < 256) (h3 : 0 ≤ a) (h4 : a ≤ l.length) (h5 : 1 ≤ m.length) (h6 : m.length ≤ 1000) : ct_l01Int.run [.c (.ptr 0 0 0 0), .c (.im (.sl 1 (rowsN m)))] [[.t (.im (.sl 1 (rowsB l))), .t (.im (.int .i64 a)), .t (.im (.int .i64 h))]] = some (oInt l m) := by
  refine fam_run' (args := fun x : AKn × LN => ([D.c (.ptr 0 0 0 0), .c (.im (.sl 1 (rowsN x.2.1)))], hsK x.1.l x.1.a x.1.h)) (fun x y h => ?_) (⟨l, h1, h2, a, h, h3, h4⟩, ⟨m, h5, h6⟩)
  simp only [Prod.mk.injEq, List.cons.injEq, D.c.injEq, C.im.injEq, I.sl.injEq, true_and, and_true] at h
  exact Prod.ext (AKn_ext (hsK_inj h.2)) (Subtype.ext (rowsN_inj h.1))
theorem sc_l01Int : (ct_l01Int.sc = true) = False := by simp [ct_l01Int, fam]
theorem ne_oint (l : List Int) {m : List Int} (h : 1 ≤ m.length) : Nonempty ({ x : Int // x ∈ m } × SK l) = True := by
  simp only [eq_iff_iff, iff_true]
  obtain ⟨x, hx⟩ := List.exists_mem_of_length_pos (show 0 < m.length by omega)
  exact ⟨(⟨x, hx⟩, ⟨(0, 0), by simp⟩)⟩
set_option maxRecDepth 100000 in
set_option maxHeartbeats 4000000 in
theorem law_l01Int : Law Tryz.prog 107 ct_l01Int := by
  refine fam_law (Env_cons law_l01Below Env_nil) hmixA Tryz.func107 rfl rfl (fun ⟨⟨l, h1, h2, a, h, h3, h4⟩, ⟨m, n1, n2⟩⟩ => ⟨okA (fun o => okK (n := 0) okDi), by simp [Tryz.f107], ?_⟩)
  simp only [oInt, hsK]
  try simp -dsimp (maxSteps := 1000000) only [go_sem, List.forall_mem_nil, ↓reduceIte, Nat.reduceEqDiff, Nat.reduceLT, Nat.reduceLeDiff, Nat.reduceAdd, Nat.reduceMul, reduceCtorEq, Tryz.f107, rowsN_len, run_l01Below h1 h2 h3 h4 (n := (m.length : Int)) (by omega) (by omega), oBelow, hsK, ne_below l (n := (m.length : Int)) (by omega)]
  rintro ⟨⟨v, ⟨⟨a1, k1⟩, b1⟩⟩, v1, v2⟩
  obtain ⟨V, rfl⟩ := Int.eq_ofNat_of_zero_le v1
  simp only at v2
  have hV : V < m.length := by omega
  obtain ⟨x, hx⟩ : ∃ x, m[V]? = some x := ⟨_, List.getElem?_eq_getElem hV⟩
  have hrow := rowsN_at hx
  have q1 : (0 ≤ (V : Int)) = True := by simp
  have q2 : ((V : Int) < (m.length : Int)) = True := eq_true (by omega)
  try simp -dsimp (maxSteps := 1000000) only [go_sem, List.forall_mem_nil, ↓reduceIte, Nat.reduceEqDiff, Nat.reduceLT, Nat.reduceLeDiff, Nat.reduceAdd, Nat.reduceMul, reduceCtorEq, Tryz.f107, rowsN_len, hrow, q1, q2, hsK, Int.toNat_natCast]
  exact ⟨(⟨x, List.mem_of_getElem? hx⟩, ⟨(a1, k1), b1⟩), rfl, rfl⟩
def oNat (l : List Int) : Outs := .any (Nat × SK l) (fun q => { val := .c (.im (.flt .f32 q.1)), places := hsK l q.2.1.1 q.2.1.2 })
theorem ne_onat (l : List Int) : Nonempty (Nat × SK l) = True := by simp only [eq_iff_iff, iff_true]; exact ⟨(0, ⟨(0, 0), by simp⟩)⟩
noncomputable def ctNat : Ct := fam false (fun x : AKn => ([.c (.ptr 0 0 0 0)], hsK x.l x.a x.h)) (fun x => oNat x.l)
theorem runNat {l : List Int} {a h : Int} (h1 : l.length ≤ 1048576) (h2 : ∀ b ∈ l, 0 ≤ b ∧ b < 256) (h3 : 0 ≤ a) (h4 : a ≤ l.length) : ctNat.run [.c (.ptr 0 0 0 0)] [[.t (.im (.sl 1 (rowsB l))), .t (.im (.int .i64 a)), .t (.im (.int .i64 h))]] = some (oNat l) := by
  refine fam_run' (args := fun x : AKn => ([D.c (.ptr 0 0 0 0)], hsK x.l x.a x.h)) (fun x y h => ?_) ⟨l, h1, h2, a, h, h3, h4⟩
  simp only [Prod.mk.injEq, true_and] at h
  exact AKn_ext (hsK_inj h)
set_option maxRecDepth 100000 in
set_option maxHeartbeats 4000000 in
theorem law_l1Odd : Law Tryz.prog 105 ctNat := by
  refine fam_law (Env_cons law_l01Below Env_nil) hmixA Tryz.func105 rfl rfl (fun ⟨l, h1, h2, a, h, h3, h4⟩ => ⟨okA (fun o => okK (n := 0) okDi), by simp [Tryz.f105], ?_⟩)
  simp only [oNat, hsK]
  try simp -dsimp (maxSteps := 1000000) only [go_sem, List.forall_mem_nil, ↓reduceIte, Nat.reduceEqDiff, Nat.reduceLT, Nat.reduceLeDiff, Nat.reduceAdd, Nat.reduceMul, reduceCtorEq, Tryz.f105, run_l01Below h1 h2 h3 h4 (n := 12) (by decide) (by decide), oBelow, hsK, ne_below l (n := 12) (by decide)]
  rintro ⟨⟨v, ⟨⟨a1, k1⟩, b1⟩⟩, v1, v2⟩
  try simp -dsimp (maxSteps := 1000000) only [go_sem, List.forall_mem_nil, ↓reduceIte, Nat.reduceEqDiff, Nat.reduceLT, Nat.reduceLeDiff, Nat.reduceAdd, Nat.reduceMul, reduceCtorEq, Tryz.f105, hsK]
  repeat' ((first | (with_reducible refine gS_d ?_ ?_) | (with_reducible refine gS_dn ?_ ?_) | (with_reducible refine gS_i ?_ ?_)) <;> intro hg <;> (try simp -dsimp (maxSteps := 1000000) only [go_sem, List.forall_mem_nil, ↓reduceIte, Nat.reduceEqDiff, Nat.reduceLT, Nat.reduceLeDiff, Nat.reduceAdd, Nat.reduceMul, reduceCtorEq, Tryz.f105, hsK, *]))
  all_goals exact ⟨(_, ⟨(a1, k1), b1⟩), rfl, rfl⟩
set_option maxRecDepth 100000 in
set_option maxHeartbeats 4000000 in
theorem law_l1Some : Law Tryz.prog 108 ctNat := by
  refine fam_law (Env_cons law_l01Below Env_nil) hmixA Tryz.func108 rfl rfl (fun ⟨l, h1, h2, a, h, h3, h4⟩ => ⟨okA (fun o => okK (n := 0) okDi), by simp [Tryz.f108], ?_⟩)
  simp only [oNat, hsK]
  try simp -dsimp (maxSteps := 1000000) only [go_sem, List.forall_mem_nil, ↓reduceIte, Nat.reduceEqDiff, Nat.reduceLT, Nat.reduceLeDiff, Nat.reduceAdd, Nat.reduceMul, reduceCtorEq, Tryz.f108, run_l01Below h1 h2 h3 h4 (n := 3) (by decide) (by decide), oBelow, hsK, ne_below l (n := 3) (by decide)]
  rintro ⟨⟨v, ⟨⟨a1, k1⟩, b1⟩⟩, v1, v2⟩
  by_cases e0 : v = 0
  · have e0' := eq_true e0
    try simp -dsimp (maxSteps := 1000000) only [go_sem, List.forall_mem_nil, ↓reduceIte, Nat.reduceEqDiff, Nat.reduceLT, Nat.reduceLeDiff, Nat.reduceAdd, Nat.reduceMul, reduceCtorEq, Tryz.f108, e0', run_l01Below h1 h2 b1.1 b1.2 (n := 65) (by decide) (by decide), oBelow, hsK, ne_below l (n := 65) (by decide)]
    rintro ⟨⟨u, ⟨⟨a2, k2⟩, b2⟩⟩, u1, u2⟩
    try simp -dsimp (maxSteps := 1000000) only [go_sem, List.forall_mem_nil, ↓reduceIte, Nat.reduceEqDiff, Nat.reduceLT, Nat.reduceLeDiff, Nat.reduceAdd, Nat.reduceMul, reduceCtorEq, Tryz.f108, hsK]
    exact ⟨(_, ⟨(a2, k2), b2⟩), rfl, rfl⟩
  have e0' := eq_false e0
  by_cases e1 : v = 1
  · have e1' := eq_true e1
    try simp -dsimp (maxSteps := 1000000) only [go_sem, List.forall_mem_nil, ↓reduceIte, Nat.reduceEqDiff, Nat.reduceLT, Nat.reduceLeDiff, Nat.reduceAdd, Nat.reduceMul, reduceCtorEq, Tryz.f108, e0', e1', run_l01Below h1 h2 b1.1 b1.2 (n := 2000001) (by decide) (by decide), oBelow, hsK, ne_below l (n := 2000001) (by decide)]
    rintro ⟨⟨u, ⟨⟨a2, k2⟩, b2⟩⟩, u1, u2⟩
    try simp -dsimp (maxSteps := 1000000) only [go_sem, List.forall_mem_nil, ↓reduceIte, Nat.reduceEqDiff, Nat.reduceLT, Nat.reduceLeDiff, Nat.reduceAdd, Nat.reduceMul, reduceCtorEq, Tryz.f108, hsK]
    exact ⟨(_, ⟨(a2, k2), b2⟩), rfl, rfl⟩
  have e1' := eq_false e1
  try simp -dsimp (maxSteps := 1000000) only [go_sem, List.forall_mem_nil, ↓reduceIte, Nat.reduceEqDiff, Nat.reduceLT, Nat.reduceLeDiff, Nat.reduceAdd, Nat.reduceMul, reduceCtorEq, Tryz.f108, e0', e1', run_l01Below h1 h2 b1.1 b1.2 (n := 9) (by decide) (by decide), oBelow, hsK, ne_below l (n := 9) (by decide)]
  rintro ⟨⟨u, ⟨⟨a2, k2⟩, b2⟩⟩, u1, u2⟩
  try simp -dsimp (maxSteps := 1000000) only [go_sem, List.forall_mem_nil, ↓reduceIte, Nat.reduceEqDiff, Nat.reduceLT, Nat.reduceLeDiff, Nat.reduceAdd, Nat.reduceMul, reduceCtorEq, Tryz.f108, hsK]
  exact ⟨(_, ⟨(a2, k2), b2⟩), rfl, rfl⟩
end Go.SX
set_option linter.unusedVariables false
set_option linter.unusedSimpArgs false
namespace Go.SX
open Go Go.Proofs
abbrev QFresh := { l : List Int // l.length ≤ 601 ∧ ∀ b ∈ l, 0 ≤ b ∧ b < 256 }
def oFresh : Outs := .any QFresh (fun q => rNew 1 (rowsB q.1))
abbrev ABs := ABw × { s : Int // 0 ≤ s ∧ s ≤ 1000 }
noncomputable def ct_fresh : Ct := fam true (fun x : ABs => ([.c (.im (.sl 1 (rowsB x.1.l))), .c (.im (.int .i64 x.2.1))], [])) (fun _ => oFresh)
theorem run_fresh {l : List Int} (h1 : l.length ≤ 1048576) (h2 : ∀ b ∈ l, 0 ≤ b ∧ b < 256) {s : Int} (h3 : 0 ≤ s) (h4 : s ≤ 1000) : ct_fresh.run [.c (.im (.sl 1 (rowsB l))), .c (.im (.int .i64 s))] [] = some oFresh := by
  refine fam_run' (args := fun x : ABs => ([D.c (.im (.sl 1 (rowsB x.1.l))), .c (.im (.int .i64 x.2.1))], [])) (fun x y h => ?_) (⟨l, h1, h2⟩, ⟨s, h3, h4⟩)
  simp only [Prod.mk.injEq, List.cons.injEq, D.c.injEq, C.im.injEq, I.sl.injEq, I.int.injEq, true_and, and_true] at h
  exact Prod.ext (ABw_ext (rowsB_inj h.1)) (Subtype.ext h.2)
theorem ne_fresh : Nonempty QFresh = True := by simp only [eq_iff_iff, iff_true]; exact ⟨⟨[], by simp⟩⟩
theorem sc_rowsB (l : List Int) : ∀ r ∈ rowsB l, ∀ i ∈ r, scI i = true := by
  intro r hr i hi
  simp only [rowsB, List.mem_map] at hr
  obtain ⟨p, _, rfl⟩ := hr
  simp at hi; subst hi; rfl
theorem MvR_B (l : List Int) : MvR false (.arr 1 (tI (rowsB l))) = True := eq_true (sc_false _ _)
theorem tIB_app (l : List Int) (x : Int) : tI (rowsB l) ++ [[T.im (.int .u8 x)]] = tI (rowsB (l ++ [x])) := by simp [tI, rowsB]
theorem u8_rng (x : Int) : 0 ≤ IntKind.u8.wrap x ∧ IntKind.u8.wrap x < 256 := by
  show 0 ≤ x % 256 ∧ x % 256 < 256
  omega
set_option maxRecDepth 100000 in
set_option maxHeartbeats 4000000 in
theorem law_fresh : Law Tryz.prog 8 ct_fresh := by
  refine fam_law Env_nil hmixA Tryz.func8 rfl rfl (fun ⟨⟨l, h1, h2⟩, ⟨s, s1, s2⟩⟩ => ⟨okA (fun o => okR_new (sc_rowsB _)), by simp [Tryz.f8], ?_⟩)
  simp only [oFresh, rNew]
  obtain ⟨e, he⟩ : ∃ e, IntKind.u8.wrap s = e := ⟨_, rfl⟩
  have her := u8_rng s
  rw [he] at her
  try simp -dsimp (maxSteps := 1000000) only [go_sem, List.forall_mem_nil, ↓reduceIte, Nat.reduceEqDiff, Nat.reduceLT, Nat.reduceLeDiff, Nat.reduceAdd, Nat.reduceMul, reduceCtorEq, Tryz.f8, he]
  refine loop_i (ι := { x : List Int × Nat // x.1.length = x.2 + 1 ∧ x.2 ≤ 600 ∧ x.2 ≤ l.length ∧ ∀ b ∈ x.1, 0 ≤ b ∧ b < 256 }) (fun x => ⟨[(0, some (.c (.im (.sl 1 (rowsB l))))), (1, some (.c (.im (.int .i64 s)))), (5, some (.c (.view 0 1 0 x.1.1.length))), (6, some (.c (.im (.int .i64 (x.1.2 : Int)))))],
    [(0, some (.arr 1 (tI (rowsB x.1.1))))], 1⟩) (fun x => l.length - x.1.2) ⟨([e], 0), by simp; exact her⟩ ⟨[], [0], by ((simp only [go_sem, eq_self, MvRb, MvRn, MvRt, List.nodup_cons, List.nodup_nil, ↓reduceIte, Nat.reduceEqDiff, Nat.reduceLT, Nat.reduceLeDiff, reduceCtorEq, List.forall_mem_nil, Nat.zero_le, false_implies, List.mem_singleton, MvR_B]) <;> (try (simp -dsimp only [go_sem, eq_self, MvRb, MvRn, MvRt, List.nodup_cons, List.nodup_nil, ↓reduceIte, Nat.reduceEqDiff, Nat.reduceLT, Nat.reduceLeDiff, reduceCtorEq, List.forall_mem_nil, Nat.zero_le, false_implies, List.mem_singleton, MvR_B]))) <;> simp [lk, rowsB, tI]⟩ (fun ⟨⟨out, k⟩, hz, hk6, hkl, hin⟩ => ?_)
  simp only at hz hk6 hkl hin ⊢
  by_cases hlt : k < l.length
  rotate_left
  · have hI : ((k : Int) < (l.length : Int)) = False := eq_false (by omega)
    try simp -dsimp (maxSteps := 1000000) only [go_sem, List.forall_mem_nil, ↓reduceIte, Nat.reduceEqDiff, Nat.reduceLT, Nat.reduceLeDiff, Nat.reduceAdd, Nat.reduceMul, reduceCtorEq, Tryz.f8, rowsB_len, hI]
    exact ⟨⟨out, by omega, hin⟩, [0], by simp, by simp, by simp [rtOk], rfl⟩
  have hI : ((k : Int) < (l.length : Int)) = True := eq_true (by omega)
  by_cases h6 : k < 600
  rotate_left
  · have hJ : ((k : Int) < 600) = False := eq_false (by omega)
    try simp -dsimp (maxSteps := 1000000) only [go_sem, List.forall_mem_nil, ↓reduceIte, Nat.reduceEqDiff, Nat.reduceLT, Nat.reduceLeDiff, Nat.reduceAdd, Nat.reduceMul, reduceCtorEq, Tryz.f8, rowsB_len, hI, hJ]
    exact ⟨⟨out, by omega, hin⟩, [0], by simp, by simp, by simp [rtOk], rfl⟩
  have hJ : ((k : Int) < 600) = True := eq_true (by omega)
  obtain ⟨b, hb⟩ : ∃ b, l[k]? = some b := ⟨_, List.getElem?_eq_getElem (by omega)⟩
  have hrow := rowsB_at hb
  have h0 : (0 ≤ (k : Int)) = True := by simp
  have h7 : ((7 : Int) = 0) = False := by simp
  have hwr : IntKind.i64.wrap ((k : Int) + 1) = (k : Int) + 1 := wrap_id (by omega) (by omega)
  obtain ⟨U1, hU1⟩ : ∃ x, IntKind.i64.wrap (IntKind.i64.wrap b * 3) = x := ⟨_, rfl⟩
  obtain ⟨U2, hU2⟩ : ∃ x, IntKind.i64.wrap ((k : Int).tmod 7 + 1) = x := ⟨_, rfl⟩
  obtain ⟨U3, hU3⟩ : ∃ x, IntKind.i64.wrap (s * U2) = x := ⟨_, rfl⟩
  obtain ⟨U4, hU4⟩ : ∃ x, IntKind.i64.wrap (U1 + U3) = x := ⟨_, rfl⟩
  obtain ⟨U5, hU5⟩ : ∃ x, IntKind.u8.wrap U4 = x := ⟨_, rfl⟩
  have hur := u8_rng U4
  rw [hU5] at hur
  have hby : ((out.length + 1) * 1 ≤ 140737488355328) = True := bytes_sm (by have : sm = 16777216 := rfl; omega) (by decide)
  try simp -dsimp (maxSteps := 1000000) only [go_sem, List.forall_mem_nil, ↓reduceIte, Nat.reduceEqDiff, Nat.reduceLT, Nat.reduceLeDiff, Nat.reduceAdd, Nat.reduceMul, reduceCtorEq, Tryz.f8, rowsB_len, hI, hJ, hrow, h0, h7, hwr, hU1, hU2, hU3, hU4, hU5, hby, tIB_app, tI_len, appendH, srcRows, List.take_succ_cons, List.take_zero, List.all_cons, List.all_nil, okT, Bool.and_true, List.length_append, Int.toNat_natCast]
  refine ⟨⟨(out ++ [U5], k + 1), by simp; omega, by simp only []; omega, by simp only []; omega, fun p hp => ?_⟩, by simp only []; omega, [], [2], by ((simp only [go_sem, eq_self, MvRb, MvRn, MvRt, List.nodup_cons, List.nodup_nil, ↓reduceIte, Nat.reduceEqDiff, Nat.reduceLT, Nat.reduceLeDiff, reduceCtorEq, List.forall_mem_nil, Nat.zero_le, false_implies, List.mem_singleton, MvR_B]) <;> (try (simp -dsimp only [go_sem, eq_self, MvRb, MvRn, MvRt, List.nodup_cons, List.nodup_nil, ↓reduceIte, Nat.reduceEqDiff, Nat.reduceLT, Nat.reduceLeDiff, reduceCtorEq, List.forall_mem_nil, Nat.zero_le, false_implies, List.mem_singleton, MvR_B]))) <;> simp [lk]⟩
  rcases List.mem_append.1 hp with hp | hp
  · exact hin p hp
  · simp at hp; subst hp; exact hur
end Go.SX
set_option linter.unusedVariables false
set_option linter.unusedSimpArgs false
namespace Go.SX
open Go Go.Proofs
noncomputable def ct_l1In : Ct := fam true (fun x : Int × Int × Int => ([.c (.im (.int .i64 x.1)), .c (.im (.int .i64 x.2.1)), .c (.im (.int .i64 x.2.2))], [])) (fun x => .one { val := .c (.im (.bool (decide (x.2.1 ≤ x.1) && decide (x.1 ≤ x.2.2)))) })
theorem run_l1In (k a b : Int) : ct_l1In.run [.c (.im (.int .i64 k)), .c (.im (.int .i64 a)), .c (.im (.int .i64 b))] [] = some (.one { val := .c (.im (.bool (decide (a ≤ k) && decide (k ≤ b)))) }) := fam_run' (args := fun x : Int × Int × Int => ([D.c (.im (.int .i64 x.1)), .c (.im (.int .i64 x.2.1)), .c (.im (.int .i64 x.2.2))], [])) (by
    intro a b h
    simp only [Prod.mk.injEq, List.cons.injEq, D.c.injEq, D.agg.injEq, C.im.injEq, I.cpx.injEq, I.flt.injEq, I.int.injEq, I.sl.injEq, I.bool.injEq, I.str.injEq, Int.natCast_inj, true_and, and_true] at h
    (try simp only [Prod.ext_iff, Subtype.ext_iff])
    (try simp only [rowsZ_eq, rowsN_eq] at h)
    simp_all) (k, a, b)
set_option maxRecDepth 100000 in
theorem law_l1In : Law Tryz.prog 81 ct_l1In := by
  refine fam_law Env_nil hmixA Tryz.func81 rfl rfl (fun ⟨k, a, b⟩ => ⟨okO_im rfl, by simp [Tryz.f81], ?_⟩)
  simp only
  by_cases h1 : a ≤ k
  · have h1' := eq_true h1
    by_cases h2 : k ≤ b
    · have h2' := eq_true h2
      clear h1 h2
      try simp -dsimp (maxSteps := 1000000) only [go_sem, List.forall_mem_nil, ↓reduceIte, Nat.reduceEqDiff, Nat.reduceLT, Nat.reduceLeDiff, Nat.reduceAdd, Nat.reduceMul, reduceCtorEq, Tryz.f81, h1', h2', Bool.and_true]
    · have h2' := eq_false h2
      clear h1 h2
      try simp -dsimp (maxSteps := 1000000) only [go_sem, List.forall_mem_nil, ↓reduceIte, Nat.reduceEqDiff, Nat.reduceLT, Nat.reduceLeDiff, Nat.reduceAdd, Nat.reduceMul, reduceCtorEq, Tryz.f81, h1', h2', Bool.and_false]
  · have h1' := eq_false h1
    clear h1
    try simp -dsimp (maxSteps := 1000000) only [go_sem, List.forall_mem_nil, ↓reduceIte, Nat.reduceEqDiff, Nat.reduceLT, Nat.reduceLeDiff, Nat.reduceAdd, Nat.reduceMul, reduceCtorEq, Tryz.f81, h1', Bool.false_and]
abbrev KR := { k : Int // -4294967296 ≤ k ∧ k ≤ 4294967296 }
def rFS (q : Nat × Bool) : Res := { val := .tup [.c (.im (.flt .f32 q.1)), .c (.im (.bool q.2))] }
def oFS : Outs := .any (Nat × Bool) (fun q => rFS q)
theorem okR_FS {sc : Bool} {q : Nat × Bool} : OkR sc (rFS q) := by
  refine ⟨.tup _ (fun d hd => ?_), by simp [rFS], by simp [rFS]⟩
  simp only [rFS, List.mem_cons, List.not_mem_nil, or_false] at hd
  rcases hd with rfl | rfl <;> exact .inl ⟨_, rfl, okC_sc rfl⟩
noncomputable def ct_FromSteps : Ct := fam true (fun x : KR => ([.c (.im (.int .i64 x.1))], [])) (fun _ => oFS)
theorem run_FromSteps {k : Int} (h1 : -4294967296 ≤ k) (h2 : k ≤ 4294967296) : ct_FromSteps.run [.c (.im (.int .i64 k))] [] = some oFS := fam_run' (args := fun x : KR => ([D.c (.im (.int .i64 x.1))], [])) (by
    intro a b h
    simp only [Prod.mk.injEq, List.cons.injEq, D.c.injEq, D.agg.injEq, C.im.injEq, I.cpx.injEq, I.flt.injEq, I.int.injEq, I.sl.injEq, I.bool.injEq, I.str.injEq, Int.natCast_inj, true_and, and_true] at h
    (try simp only [Prod.ext_iff, Subtype.ext_iff])
    (try simp only [rowsZ_eq, rowsN_eq] at h)
    simp_all) (⟨k, h1, h2⟩ : KR)
theorem ne_FS : Nonempty (Nat × Bool) = True := by simp only [eq_iff_iff, iff_true]; exact ⟨(0, true)⟩
set_option maxRecDepth 100000 in
set_option maxHeartbeats 4000000 in
theorem law_FromSteps : Law Tryz.prog 106 ct_FromSteps := by
  refine fam_law (Env_cons law_l1In Env_nil) hmixA Tryz.func106 rfl rfl (fun ⟨k, n1, n2⟩ => ⟨okA (fun o => okR_FS), by simp [Tryz.f106], ?_⟩)
  simp only [oFS, rFS]
  by_cases hin : -2139095039 ≤ k ∧ k ≤ 2139095039
  rotate_left
  · have hb : (decide (-2139095039 ≤ k) && decide (k ≤ 2139095039)) = false := by simpa using fun h => by omega
    try simp -dsimp (maxSteps := 1000000) only [go_sem, List.forall_mem_nil, ↓reduceIte, Nat.reduceEqDiff, Nat.reduceLT, Nat.reduceLeDiff, Nat.reduceAdd, Nat.reduceMul, reduceCtorEq, Tryz.f106, run_l1In, hb]
    all_goals exact ⟨(_, _), rfl, rfl⟩
  have hb : (decide (-2139095039 ≤ k) && decide (k ≤ 2139095039)) = true := by simpa using hin
  obtain ⟨m, hm⟩ : ∃ m, (if IntKind.i64.wrap (-k) > k then IntKind.i64.wrap (-k) else k) = m := ⟨_, rfl⟩
  have hmr : m ≤ 4294967296 ∧ 0 ≤ m := by rw [← hm, wrap_id (by omega) (by omega)]; split <;> omega
  try simp -dsimp (maxSteps := 1000000) only [go_sem, List.forall_mem_nil, ↓reduceIte, Nat.reduceEqDiff, Nat.reduceLT, Nat.reduceLeDiff, Nat.reduceAdd, Nat.reduceMul, reduceCtorEq, Tryz.f106, run_l1In, hb, hm]
  refine loop_i (ι := { x : Int × Int // 0 ≤ x.1 ∧ 0 ≤ x.2 ∧ x.2 * 8388608 + x.1 ≤ 4294967296 }) (fun x => ⟨[(0, some (.c (.im (.int .i64 k)))), (4, some (.c (.im (.int .i64 x.1.1)))), (5, some (.c (.im (.int .i64 x.1.2))))], [], 0⟩) (fun x => x.1.1.toNat) ⟨(m, 0), by simp only []; omega⟩ ⟨[], [], by ((simp only [go_sem, eq_self, MvRb, MvRn, MvRt, List.nodup_cons, List.nodup_nil, ↓reduceIte, Nat.reduceEqDiff, Nat.reduceLT, Nat.reduceLeDiff, reduceCtorEq, List.forall_mem_nil, Nat.zero_le, false_implies, List.mem_singleton, hm]) <;> (try (simp -dsimp only [go_sem, eq_self, MvRb, MvRn, MvRt, List.nodup_cons, List.nodup_nil, ↓reduceIte, Nat.reduceEqDiff, Nat.reduceLT, Nat.reduceLeDiff, reduceCtorEq, List.forall_mem_nil, Nat.zero_le, false_implies, List.mem_singleton, hm]))) <;> simp <;> exact hm⟩ (fun ⟨⟨n, e⟩, q1, q2, q3⟩ => ?_)
  simp only at q1 q2 q3 ⊢
  by_cases hn : 16777216 ≤ n
  · have hn' := eq_true hn
    have w1 : IntKind.i64.wrap (n - 8388608) = n - 8388608 := wrap_id (by omega) (by omega)
    have w2 : IntKind.i64.wrap (e + 1) = e + 1 := wrap_id (by omega) (by omega)
    try simp -dsimp (maxSteps := 1000000) only [go_sem, List.forall_mem_nil, ↓reduceIte, Nat.reduceEqDiff, Nat.reduceLT, Nat.reduceLeDiff, Nat.reduceAdd, Nat.reduceMul, reduceCtorEq, Tryz.f106, hn', w1, w2]
    exact ⟨⟨(n - 8388608, e + 1), by simp only []; omega⟩, by simp only []; omega, [], [], by (simp only [go_sem, eq_self, MvRb, MvRn, MvRt, List.nodup_cons, List.nodup_nil, ↓reduceIte, Nat.reduceEqDiff, Nat.reduceLT, Nat.reduceLeDiff, reduceCtorEq, List.forall_mem_nil, Nat.zero_le, false_implies, List.mem_singleton]) <;> simp⟩
  have hn' := eq_false hn
  obtain ⟨y0, hy0⟩ : ∃ y, FloatKind.f64.nearest n = y := ⟨_, rfl⟩
  try simp -dsimp (maxSteps := 1000000) only [go_sem, List.forall_mem_nil, ↓reduceIte, Nat.reduceEqDiff, Nat.reduceLT, Nat.reduceLeDiff, Nat.reduceAdd, Nat.reduceMul, reduceCtorEq, Tryz.f106, hn', hy0]
  refine loop_i (ι := Nat × { i : Nat // i ≤ 149 }) (fun x => ⟨[(0, some (.c (.im (.int .i64 k)))), (5, some (.c (.im (.int .i64 e)))), (6, some (.c (.im (.flt .f64 x.1)))), (7, some (.c (.im (.int .i64 (x.2.1 : Int)))))], [], 0⟩) (fun x => 149 - x.2.1) (y0, ⟨0, by omega⟩) ⟨[], [], by ((simp only [go_sem, eq_self, MvRb, MvRn, MvRt, List.nodup_cons, List.nodup_nil, ↓reduceIte, Nat.reduceEqDiff, Nat.reduceLT, Nat.reduceLeDiff, reduceCtorEq, List.forall_mem_nil, Nat.zero_le, false_implies, List.mem_singleton]) <;> (try (simp -dsimp only [go_sem, eq_self, MvRb, MvRn, MvRt, List.nodup_cons, List.nodup_nil, ↓reduceIte, Nat.reduceEqDiff, Nat.reduceLT, Nat.reduceLeDiff, reduceCtorEq, List.forall_mem_nil, Nat.zero_le, false_implies, List.mem_singleton]))) <;> simp⟩ (fun ⟨y, ⟨i, hi⟩⟩ => ?_)
  simp only
  by_cases hi' : i < 149
  · have hI : ((i : Int) < 149) = True := eq_true (by omega)
    have w1 : IntKind.i64.wrap ((i : Int) + 1) = (i : Int) + 1 := wrap_id (by omega) (by omega)
    try simp -dsimp (maxSteps := 1000000) only [go_sem, List.forall_mem_nil, ↓reduceIte, Nat.reduceEqDiff, Nat.reduceLT, Nat.reduceLeDiff, Nat.reduceAdd, Nat.reduceMul, reduceCtorEq, Tryz.f106, hI, w1]
    exact ⟨(fop .quo .f64 y 4611686018427387904, ⟨i + 1, by omega⟩), by simp only []; omega, [], [], by ((simp only [go_sem, eq_self, MvRb, MvRn, MvRt, List.nodup_cons, List.nodup_nil, ↓reduceIte, Nat.reduceEqDiff, Nat.reduceLT, Nat.reduceLeDiff, reduceCtorEq, List.forall_mem_nil, Nat.zero_le, false_implies, List.mem_singleton]) <;> (try (simp -dsimp only [go_sem, eq_self, MvRb, MvRn, MvRt, List.nodup_cons, List.nodup_nil, ↓reduceIte, Nat.reduceEqDiff, Nat.reduceLT, Nat.reduceLeDiff, reduceCtorEq, List.forall_mem_nil, Nat.zero_le, false_implies, List.mem_singleton]))) <;> simp⟩
  have hI : ((i : Int) < 149) = False := eq_false (by omega)
  try simp -dsimp (maxSteps := 1000000) only [go_sem, List.forall_mem_nil, ↓reduceIte, Nat.reduceEqDiff, Nat.reduceLT, Nat.reduceLeDiff, Nat.reduceAdd, Nat.reduceMul, reduceCtorEq, Tryz.f106, hI]
  refine loop_i (ι := Nat × { e : Int // 0 ≤ e ∧ e ≤ 4294967296 }) (fun x => ⟨[(0, some (.c (.im (.int .i64 k)))), (5, some (.c (.im (.int .i64 x.2.1)))), (6, some (.c (.im (.flt .f64 x.1))))], [], 0⟩) (fun x => x.2.1.toNat) (y, ⟨e, by omega⟩) ⟨[], [], by (simp only [go_sem, eq_self, MvRb, MvRn, MvRt, List.nodup_cons, List.nodup_nil, ↓reduceIte, Nat.reduceEqDiff, Nat.reduceLT, Nat.reduceLeDiff, reduceCtorEq, List.forall_mem_nil, Nat.zero_le, false_implies, List.mem_singleton]) <;> simp⟩ (fun ⟨z, ⟨f, f1, f2⟩⟩ => ?_)
  simp only
  by_cases hf : 0 < f
  · have hF := eq_true hf
    have w1 : IntKind.i64.wrap (f - 1) = f - 1 := wrap_id (by omega) (by omega)
    try simp -dsimp (maxSteps := 1000000) only [go_sem, List.forall_mem_nil, ↓reduceIte, Nat.reduceEqDiff, Nat.reduceLT, Nat.reduceLeDiff, Nat.reduceAdd, Nat.reduceMul, reduceCtorEq, Tryz.f106, hF, w1]
    exact ⟨(fop .mul .f64 z 4611686018427387904, ⟨f - 1, by omega⟩), by simp only []; omega, [], [], by (simp only [go_sem, eq_self, MvRb, MvRn, MvRt, List.nodup_cons, List.nodup_nil, ↓reduceIte, Nat.reduceEqDiff, Nat.reduceLT, Nat.reduceLeDiff, reduceCtorEq, List.forall_mem_nil, Nat.zero_le, false_implies, List.mem_singleton]) <;> simp⟩
  have hF := eq_false hf
  by_cases hk0 : k < 0
  · have hk' := eq_true hk0
    try simp -dsimp (maxSteps := 1000000) only [go_sem, List.forall_mem_nil, ↓reduceIte, Nat.reduceEqDiff, Nat.reduceLT, Nat.reduceLeDiff, Nat.reduceAdd, Nat.reduceMul, reduceCtorEq, Tryz.f106, hF, hk', cK_narrow]
    intro o
    exact ⟨(_, _), rfl, rfl⟩
  · have hk' := eq_false hk0
    try simp -dsimp (maxSteps := 1000000) only [go_sem, List.forall_mem_nil, ↓reduceIte, Nat.reduceEqDiff, Nat.reduceLT, Nat.reduceLeDiff, Nat.reduceAdd, Nat.reduceMul, reduceCtorEq, Tryz.f106, hF, hk', cK_narrow]
    intro o
    exact ⟨(_, _), rfl, rfl⟩
def pick5 : List Int := [0, 8388608, -8388608, 1065353216, 2139095019]
theorem pick5_rng {x : Int} (h : x ∈ pick5) : -8388608 ≤ x ∧ x ≤ 2139095019 := by
  simp only [pick5, List.mem_cons, List.not_mem_nil, or_false] at h
  omega
set_option maxRecDepth 100000 in
set_option maxHeartbeats 4000000 in
theorem law_l1Any : Law Tryz.prog 65 ctNat := by
  refine fam_law (Env_cons law_l01Once (Env_cons law_l1Odd (Env_cons law_l01Below (Env_cons law_l01Int (Env_cons law_FromSteps (Env_cons law_l1Some Env_nil)))))) hmixA Tryz.func65 rfl rfl (fun ⟨l, h1, h2, a, h, h3, h4⟩ => ⟨okA (fun o => okK (n := 0) okDi), by simp [Tryz.f65], ?_⟩)
  simp only [oNat, hsK]
  try simp -dsimp (maxSteps := 1000000) only [go_sem, List.forall_mem_nil, ↓reduceIte, Nat.reduceEqDiff, Nat.reduceLT, Nat.reduceLeDiff, Nat.reduceAdd, Nat.reduceMul, reduceCtorEq, Tryz.f65, run_l01Once h1 h2 h3 h4 (n := 8) (by decide) (by decide), oOnce, hsK, ne_once]
  rintro ⟨c1, ⟨⟨a1, k1⟩, b1⟩⟩
  cases c1 with
  | true =>
    try simp -dsimp (maxSteps := 1000000) only [go_sem, List.forall_mem_nil, ↓reduceIte, Nat.reduceEqDiff, Nat.reduceLT, Nat.reduceLeDiff, Nat.reduceAdd, Nat.reduceMul, reduceCtorEq, Tryz.f65, runNat h1 h2 b1.1 b1.2, oNat, hsK, ne_onat]
    rintro ⟨x, ⟨⟨a2, k2⟩, b2⟩⟩
    try simp -dsimp (maxSteps := 1000000) only [go_sem, List.forall_mem_nil, ↓reduceIte, Nat.reduceEqDiff, Nat.reduceLT, Nat.reduceLeDiff, Nat.reduceAdd, Nat.reduceMul, reduceCtorEq, Tryz.f65, hsK]
    exact ⟨(_, ⟨(a2, k2), b2⟩), rfl, rfl⟩
  | false =>
    try simp -dsimp (maxSteps := 1000000) only [go_sem, List.forall_mem_nil, ↓reduceIte, Nat.reduceEqDiff, Nat.reduceLT, Nat.reduceLeDiff, Nat.reduceAdd, Nat.reduceMul, reduceCtorEq, Tryz.f65, run_l01Once h1 h2 b1.1 b1.2 (n := 6) (by decide) (by decide), oOnce, hsK, ne_once]
    rintro ⟨c2, ⟨⟨a2, k2⟩, b2⟩⟩
    cases c2 with
    | false =>
      try simp -dsimp (maxSteps := 1000000) only [go_sem, List.forall_mem_nil, ↓reduceIte, Nat.reduceEqDiff, Nat.reduceLT, Nat.reduceLeDiff, Nat.reduceAdd, Nat.reduceMul, reduceCtorEq, Tryz.f65, runNat h1 h2 b2.1 b2.2, oNat, hsK, ne_onat]
      rintro ⟨x, ⟨⟨a3, k3⟩, b3⟩⟩
      try simp -dsimp (maxSteps := 1000000) only [go_sem, List.forall_mem_nil, ↓reduceIte, Nat.reduceEqDiff, Nat.reduceLT, Nat.reduceLeDiff, Nat.reduceAdd, Nat.reduceMul, reduceCtorEq, Tryz.f65, hsK]
      exact ⟨(_, ⟨(a3, k3), b3⟩), rfl, rfl⟩
    | true =>
      try simp -dsimp (maxSteps := 1000000) only [go_sem, List.forall_mem_nil, ↓reduceIte, Nat.reduceEqDiff, Nat.reduceLT, Nat.reduceLeDiff, Nat.reduceAdd, Nat.reduceMul, reduceCtorEq, Tryz.f65, run_l01Below h1 h2 b2.1 b2.2 (n := 40) (by decide) (by decide), oBelow, hsK, ne_below l (n := 40) (by decide)]
      rintro ⟨⟨v, ⟨⟨a3, k3⟩, b3⟩⟩, v1, v2⟩
      simp only at v1 v2
      have w1 : IntKind.i64.wrap (v - 20) = v - 20 := wrap_id (by omega) (by omega)
      have ri : ct_l01Int.run [.c (.ptr 0 0 0 0), .c (.im (.sl 1 [[.int .i64 0], [.int .i64 8388608], [.int .i64 (-8388608)], [.int .i64 1065353216], [.int .i64 2139095019]]))] [[.t (.im (.sl 1 (rowsB l))), .t (.im (.int .i64 a3)), .t (.im (.int .i64 k3))]] = some (oInt l pick5) := run_l01Int (m := pick5) h1 h2 b3.1 b3.2 (by decide) (by decide)
      try simp -dsimp (maxSteps := 1000000) only [go_sem, List.forall_mem_nil, ↓reduceIte, Nat.reduceEqDiff, Nat.reduceLT, Nat.reduceLeDiff, Nat.reduceAdd, Nat.reduceMul, reduceCtorEq, Tryz.f65, w1, ri, sc_l01Int, oInt, hsK, ne_oint l (m := pick5) (by decide)]
      rintro ⟨⟨u, hu⟩, ⟨⟨a4, k4⟩, b4⟩⟩
      have hur := pick5_rng hu
      have w2 : IntKind.i64.wrap (v - 20 + u) = v - 20 + u := wrap_id (by omega) (by omega)
      try simp -dsimp (maxSteps := 1000000) only [go_sem, List.forall_mem_nil, ↓reduceIte, Nat.reduceEqDiff, Nat.reduceLT, Nat.reduceLeDiff, Nat.reduceAdd, Nat.reduceMul, reduceCtorEq, Tryz.f65, w1, w2, run_FromSteps (k := v - 20 + u) (by omega) (by omega), oFS, rFS, hsK, ne_FS]
      rintro ⟨x, ok⟩
      try simp -dsimp (maxSteps := 1000000) only [go_sem, List.forall_mem_nil, ↓reduceIte, Nat.reduceEqDiff, Nat.reduceLT, Nat.reduceLeDiff, Nat.reduceAdd, Nat.reduceMul, reduceCtorEq, Tryz.f65, rFS, hsK]
      exact ⟨(_, ⟨(a4, k4), b4⟩), rfl, rfl⟩
def oPt (l : List Int) : Outs := .any (Pt × SK l) (fun q => { val := .c (.im (.cpx .f32 q.1.1 q.1.2)), places := hsK l q.2.1.1 q.2.1.2 })
theorem ne_opt (l : List Int) : Nonempty (Pt × SK l) = True := by simp only [eq_iff_iff, iff_true]; exact ⟨((0, 0), ⟨(0, 0), by simp⟩)⟩
noncomputable def ct_l2Any : Ct := fam false (fun x : AKn => ([.c (.ptr 0 0 0 0)], hsK x.l x.a x.h)) (fun x => oPt x.l)
theorem run_l2Any {l : List Int} {a h : Int} (h1 : l.length ≤ 1048576) (h2 : ∀ b ∈ l, 0 ≤ b ∧ b < 256) (h3 : 0 ≤ a) (h4 : a ≤ l.length) : ct_l2Any.run [.c (.ptr 0 0 0 0)] [[.t (.im (.sl 1 (rowsB l))), .t (.im (.int .i64 a)), .t (.im (.int .i64 h))]] = some (oPt l) := by
  refine fam_run' (args := fun x : AKn => ([D.c (.ptr 0 0 0 0)], hsK x.l x.a x.h)) (fun x y h => ?_) ⟨l, h1, h2, a, h, h3, h4⟩
  simp only [Prod.mk.injEq, true_and] at h
  exact AKn_ext (hsK_inj h)
set_option maxRecDepth 100000 in
set_option maxHeartbeats 4000000 in
theorem law_l2Any : Law Tryz.prog 88 ct_l2Any := by
  refine fam_law (Env_cons law_l1Any Env_nil) hmixA Tryz.func88 rfl rfl (fun ⟨l, h1, h2, a, h, h3, h4⟩ => ⟨okA (fun o => okK (n := 0) okDi), by simp [Tryz.f88], ?_⟩)
  simp only [oPt, hsK]
  try simp -dsimp (maxSteps := 1000000) only [go_sem, List.forall_mem_nil, ↓reduceIte, Nat.reduceEqDiff, Nat.reduceLT, Nat.reduceLeDiff, Nat.reduceAdd, Nat.reduceMul, reduceCtorEq, Tryz.f88, runNat h1 h2 h3 h4, oNat, hsK, ne_onat]
  rintro ⟨x, ⟨⟨a1, k1⟩, b1⟩⟩
  try simp -dsimp (maxSteps := 1000000) only [go_sem, List.forall_mem_nil, ↓reduceIte, Nat.reduceEqDiff, Nat.reduceLT, Nat.reduceLeDiff, Nat.reduceAdd, Nat.reduceMul, reduceCtorEq, Tryz.f88, runNat h1 h2 b1.1 b1.2, oNat, hsK, ne_onat]
  rintro ⟨y, ⟨⟨a2, k2⟩, b2⟩⟩
  try simp -dsimp (maxSteps := 1000000) only [go_sem, List.forall_mem_nil, ↓reduceIte, Nat.reduceEqDiff, Nat.reduceLT, Nat.reduceLeDiff, Nat.reduceAdd, Nat.reduceMul, reduceCtorEq, Tryz.f88, hsK]
  exact ⟨((x, y), ⟨(a2, k2), b2⟩), rfl, rfl, rfl⟩
end Go.SX
set_option linter.unusedVariables false
set_option linter.unusedSimpArgs false
namespace Go.SX
open Go Go.Proofs
def finS (x : Nat) : Bool := fcmp .eql .f32 (fop .sub .f32 x x) 0
noncomputable def ct_l1Finite : Ct := fam true (fun x : Nat => ([.c (.im (.flt .f32 x))], [])) (fun x => .one { val := .c (.im (.bool (finS x))) })
theorem run_l1Finite (x : Nat) : ct_l1Finite.run [.c (.im (.flt .f32 x))] [] = some (.one { val := .c (.im (.bool (finS x))) }) := fam_run' (by
    intro a b h
    simp only [Prod.mk.injEq, List.cons.injEq, D.c.injEq, D.agg.injEq, C.im.injEq, I.cpx.injEq, I.flt.injEq, I.int.injEq, I.sl.injEq, I.bool.injEq, I.str.injEq, Int.natCast_inj, true_and, and_true] at h
    (try simp only [Prod.ext_iff, Subtype.ext_iff])
    (try simp only [rowsZ_eq, rowsN_eq] at h)
    simp_all) x
set_option maxRecDepth 100000 in
theorem law_l1Finite : Law Tryz.prog 127 ct_l1Finite := by
  refine fam_law Env_nil hmixA Tryz.func127 rfl rfl (fun x => ⟨okO_im rfl, by simp [Tryz.f127], ?_⟩)
  simp only [finS]
  try simp -dsimp (maxSteps := 1000000) only [go_sem, List.forall_mem_nil, ↓reduceIte, Nat.reduceEqDiff, Nat.reduceLT, Nat.reduceLeDiff, Nat.reduceAdd, Nat.reduceMul, reduceCtorEq, Tryz.f127]
noncomputable def ct_l2Finite : Ct := fam true (fun x : Pt => ([.c (.im (.cpx .f32 x.1 x.2))], [])) (fun x => .one { val := .c (.im (.bool (finS x.1 && finS x.2))) })
theorem run_l2Finite (x y : Nat) : ct_l2Finite.run [.c (.im (.cpx .f32 x y))] [] = some (.one { val := .c (.im (.bool (finS x && finS y))) }) := fam_run' (by
    intro a b h
    simp only [Prod.mk.injEq, List.cons.injEq, D.c.injEq, D.agg.injEq, C.im.injEq, I.cpx.injEq, I.flt.injEq, I.int.injEq, I.sl.injEq, I.bool.injEq, I.str.injEq, Int.natCast_inj, true_and, and_true] at h
    (try simp only [Prod.ext_iff, Subtype.ext_iff])
    (try simp only [rowsZ_eq, rowsN_eq] at h)
    simp_all) (x, y)
set_option maxRecDepth 100000 in
theorem law_l2Finite : Law Tryz.prog 126 ct_l2Finite := by
  refine fam_law (Env_cons law_l1Finite Env_nil) hmixA Tryz.func126 rfl rfl (fun x => ⟨okO_im rfl, by simp [Tryz.f126], ?_⟩)
  try simp -dsimp (maxSteps := 1000000) only [go_sem, List.forall_mem_nil, ↓reduceIte, Nat.reduceEqDiff, Nat.reduceLT, Nat.reduceLeDiff, Nat.reduceAdd, Nat.reduceMul, reduceCtorEq, Tryz.f126, run_l1Finite]
  repeat' ((first | (with_reducible refine gS_d ?_ ?_) | (with_reducible refine gS_dn ?_ ?_) | (with_reducible refine gS_i ?_ ?_)) <;> intro hg <;> (try simp -dsimp (maxSteps := 1000000) only [go_sem, List.forall_mem_nil, ↓reduceIte, Nat.reduceEqDiff, Nat.reduceLT, Nat.reduceLeDiff, Nat.reduceAdd, Nat.reduceMul, reduceCtorEq, Tryz.f126, run_l1Finite, *]))
  all_goals simp_all
set_option maxRecDepth 100000 in
theorem law_sMul : Law Tryz.prog 113 ct_MultiplyPoints := by
  refine fam_law Env_nil hmixA Tryz.func113 rfl rfl (fun x => ⟨okA (fun o => okR_im rfl), by simp [Tryz.f113], ?_⟩)
  simp only [oMul, mulPt, mulRe, mulIm]
  try simp -dsimp (maxSteps := 1000000) only [go_sem, List.forall_mem_nil, ↓reduceIte, Nat.reduceEqDiff, Nat.reduceLT, Nat.reduceLeDiff, Nat.reduceAdd, Nat.reduceMul, reduceCtorEq, Tryz.f113, fconv_w, cK_narrow]
  exact fun a b => ⟨(a, b), rfl, rfl⟩
set_option maxRecDepth 100000 in
theorem law_sDist : Law Tryz.prog 161 ct_DistanceOf := by
  refine fam_law Env_nil hmixA Tryz.func161 rfl rfl (fun x => ⟨okO_im rfl, by simp [Tryz.f161], ?_⟩)
  simp only [distF]
  try simp -dsimp (maxSteps := 1000000) only [go_sem, List.forall_mem_nil, ↓reduceIte, Nat.reduceEqDiff, Nat.reduceLT, Nat.reduceLeDiff, Nat.reduceAdd, Nat.reduceMul, reduceCtorEq, Tryz.f161]
def absS (x : Nat) : Nat := if fcmp .lss .f32 x 0 = true then Op.negFloat .f32 x else if fcmp .eql .f32 x 0 = true then 0 else x
noncomputable def ct_l1Abs : Ct := fam true (fun x : Nat => ([.c (.im (.flt .f32 x))], [])) (fun x => .one { val := .c (.im (.flt .f32 (absS x))) })
theorem run_l1Abs (x : Nat) : ct_l1Abs.run [.c (.im (.flt .f32 x))] [] = some (.one { val := .c (.im (.flt .f32 (absS x))) }) := fam_run' (by
    intro a b h
    simp only [Prod.mk.injEq, List.cons.injEq, D.c.injEq, D.agg.injEq, C.im.injEq, I.cpx.injEq, I.flt.injEq, I.int.injEq, I.sl.injEq, I.bool.injEq, I.str.injEq, Int.natCast_inj, true_and, and_true] at h
    (try simp only [Prod.ext_iff, Subtype.ext_iff])
    (try simp only [rowsZ_eq, rowsN_eq] at h)
    simp_all) x
set_option maxRecDepth 100000 in
theorem law_l1Abs : Law Tryz.prog 50 ct_l1Abs := by
  refine fam_law Env_nil hmixA Tryz.func50 rfl rfl (fun x => ⟨okO_im rfl, by simp [Tryz.f50], ?_⟩)
  simp only [absS]
  cases h : fcmp .lss .f32 x 0 with
  | true =>
    try simp -dsimp (maxSteps := 1000000) only [go_sem, List.forall_mem_nil, ↓reduceIte, Nat.reduceEqDiff, Nat.reduceLT, Nat.reduceLeDiff, Nat.reduceAdd, Nat.reduceMul, reduceCtorEq, Tryz.f50, h]
  | false =>
    cases h2 : fcmp .eql .f32 x 0 with
    | true =>
      try simp -dsimp (maxSteps := 1000000) only [go_sem, List.forall_mem_nil, ↓reduceIte, Nat.reduceEqDiff, Nat.reduceLT, Nat.reduceLeDiff, Nat.reduceAdd, Nat.reduceMul, reduceCtorEq, Tryz.f50, h, h2]
    | false =>
      try simp -dsimp (maxSteps := 1000000) only [go_sem, List.forall_mem_nil, ↓reduceIte, Nat.reduceEqDiff, Nat.reduceLT, Nat.reduceLeDiff, Nat.reduceAdd, Nat.reduceMul, reduceCtorEq, Tryz.f50, h, h2]
theorem fcmp_neq (k : FloatKind) (x y : Nat) : fcmp .neq k x y = !(fcmp .eql k x y) := rfl
def subnS (x : Nat) : Bool := !(fcmp .eql .f32 x 0) && fcmp .lss .f64 (w64 (absS x)) 4039728865751334912
def flushS (x : Nat) : Nat := if subnS x = true then fop .mul .f32 x 0 else x
noncomputable def ct_sSubn : Ct := fam true (fun x : Nat => ([.c (.im (.flt .f32 x))], [])) (fun x => .one { val := .c (.im (.bool (subnS x))) })
theorem run_sSubn (x : Nat) : ct_sSubn.run [.c (.im (.flt .f32 x))] [] = some (.one { val := .c (.im (.bool (subnS x))) }) := fam_run' (by
    intro a b h
    simp only [Prod.mk.injEq, List.cons.injEq, D.c.injEq, D.agg.injEq, C.im.injEq, I.cpx.injEq, I.flt.injEq, I.int.injEq, I.sl.injEq, I.bool.injEq, I.str.injEq, Int.natCast_inj, true_and, and_true] at h
    (try simp only [Prod.ext_iff, Subtype.ext_iff])
    (try simp only [rowsZ_eq, rowsN_eq] at h)
    simp_all) x
set_option maxRecDepth 100000 in
theorem law_sSubn : Law Tryz.prog 21 ct_sSubn := by
  refine fam_law (Env_cons law_l1Abs Env_nil) hmixA Tryz.func21 rfl rfl (fun x => ⟨okO_im rfl, by simp [Tryz.f21], ?_⟩)
  simp only [subnS]
  cases h : fcmp .eql .f32 x 0 with
  | true =>
    have h' : fcmp .neq .f32 x 0 = false := by rw [fcmp_neq, h]; rfl
    try simp -dsimp (maxSteps := 1000000) only [go_sem, List.forall_mem_nil, ↓reduceIte, Nat.reduceEqDiff, Nat.reduceLT, Nat.reduceLeDiff, Nat.reduceAdd, Nat.reduceMul, reduceCtorEq, Tryz.f21, h, h']
    try simp [h]
  | false =>
    have h' : fcmp .neq .f32 x 0 = true := by rw [fcmp_neq, h]; rfl
    try simp -dsimp (maxSteps := 1000000) only [go_sem, List.forall_mem_nil, ↓reduceIte, Nat.reduceEqDiff, Nat.reduceLT, Nat.reduceLeDiff, Nat.reduceAdd, Nat.reduceMul, reduceCtorEq, Tryz.f21, h, h', run_l1Abs, fconv_w]
    try simp [h]
noncomputable def ct_sFlush : Ct := fam true (fun x : Nat => ([.c (.im (.flt .f32 x))], [])) (fun x => .one { val := .c (.im (.flt .f32 (flushS x))) })
theorem run_sFlush (x : Nat) : ct_sFlush.run [.c (.im (.flt .f32 x))] [] = some (.one { val := .c (.im (.flt .f32 (flushS x))) }) := fam_run' (by
    intro a b h
    simp only [Prod.mk.injEq, List.cons.injEq, D.c.injEq, D.agg.injEq, C.im.injEq, I.cpx.injEq, I.flt.injEq, I.int.injEq, I.sl.injEq, I.bool.injEq, I.str.injEq, Int.natCast_inj, true_and, and_true] at h
    (try simp only [Prod.ext_iff, Subtype.ext_iff])
    (try simp only [rowsZ_eq, rowsN_eq] at h)
    simp_all) x
set_option maxRecDepth 100000 in
theorem law_sFlush : Law Tryz.prog 114 ct_sFlush := by
  refine fam_law (Env_cons law_sSubn Env_nil) hmixA Tryz.func114 rfl rfl (fun x => ⟨okO_im rfl, by simp [Tryz.f114], ?_⟩)
  simp only [flushS]
  cases h : subnS x with
  | true =>
    try simp -dsimp (maxSteps := 1000000) only [go_sem, List.forall_mem_nil, ↓reduceIte, Nat.reduceEqDiff, Nat.reduceLT, Nat.reduceLeDiff, Nat.reduceAdd, Nat.reduceMul, reduceCtorEq, Tryz.f114, run_sSubn, h]
  | false =>
    try simp -dsimp (maxSteps := 1000000) only [go_sem, List.forall_mem_nil, ↓reduceIte, Nat.reduceEqDiff, Nat.reduceLT, Nat.reduceLeDiff, Nat.reduceAdd, Nat.reduceMul, reduceCtorEq, Tryz.f114, run_sSubn, h]
def rM (m : Mod) : Res := { val := .agg (modC m) }
theorem okR_M {m : Mod} : OkR false (rM m) := by
  refine ⟨.agg _ (fun x hx => ?_), by simp [rM], by simp [rM]⟩
  simp only [modC, List.mem_cons, List.not_mem_nil, or_false] at hx
  rcases hx with rfl | rfl | rfl | rfl | rfl | rfl | rfl | rfl | rfl | rfl | rfl <;> exact .im _ (.inl rfl)
def mSum' : Mod := ⟨5, (0, 0), (0, 0), 0, [], 0, 0, [], [], 0, 0⟩
def mSrc' (t s : Pt) : Mod := ⟨1, t, s, 0, [], 0, 0, [], [], 0, 0⟩
def mMix' (t : Pt) : Mod := ⟨2, t, (1065353216, 0), 0, [], 0, 0, [], [], 0, 0⟩
def mGain' (l : Nat) : Mod := ⟨3, (0, 0), (0, 0), l, [], 0, 0, [], [], 0, 0⟩
def mMeter' : Mod := ⟨7, (0, 0), (0, 0), 0, [], 0, 0, [], [], 0, 0⟩
noncomputable def ct_sSum : Ct := fam false (fun _ : Unit => ([], [])) (fun _ => .one (rM mSum'))
theorem run_sSum : ct_sSum.run [] [] = some (.one (rM mSum')) := fam_run' (args := fun _ : Unit => ([], [])) (fun _ _ _ => rfl) ()
set_option maxRecDepth 100000 in
theorem law_sSum : Law Tryz.prog 60 ct_sSum := by
  refine fam_lawF Env_nil hmixA Tryz.func60 rfl rfl (fun _ => ⟨okO okR_M, by simp [Tryz.f60], ?_⟩)
  simp only [mSum', rM, modC, rowsZ_nil, rowsN_nil]
  try simp -dsimp (maxSteps := 1000000) only [go_sem, List.forall_mem_nil, ↓reduceIte, Nat.reduceEqDiff, Nat.reduceLT, Nat.reduceLeDiff, Nat.reduceAdd, Nat.reduceMul, reduceCtorEq, Tryz.f60]
  refine finF_i [.nilI 1 [.b 0 0 4, .b 0 0 7, .b 0 0 8]] ?_
  simp -dsimp (maxSteps := 1000000) only [go_sem, List.forall_mem_nil, ↓reduceIte, Nat.reduceEqDiff, Nat.reduceLT, Nat.reduceLeDiff, Nat.reduceAdd, Nat.reduceMul, reduceCtorEq]
noncomputable def ct_sMeter : Ct := fam false (fun _ : Unit => ([], [])) (fun _ => .one (rM mMeter'))
theorem run_sMeter : ct_sMeter.run [] [] = some (.one (rM mMeter')) := fam_run' (args := fun _ : Unit => ([], [])) (fun _ _ _ => rfl) ()
set_option maxRecDepth 100000 in
theorem law_sMeter : Law Tryz.prog 69 ct_sMeter := by
  refine fam_lawF Env_nil hmixA Tryz.func69 rfl rfl (fun _ => ⟨okO okR_M, by simp [Tryz.f69], ?_⟩)
  simp only [mMeter', rM, modC, rowsZ_nil, rowsN_nil]
  try simp -dsimp (maxSteps := 1000000) only [go_sem, List.forall_mem_nil, ↓reduceIte, Nat.reduceEqDiff, Nat.reduceLT, Nat.reduceLeDiff, Nat.reduceAdd, Nat.reduceMul, reduceCtorEq, Tryz.f69]
  refine finF_i [.nilI 1 [.b 0 0 4, .b 0 0 7, .b 0 0 8]] ?_
  simp -dsimp (maxSteps := 1000000) only [go_sem, List.forall_mem_nil, ↓reduceIte, Nat.reduceEqDiff, Nat.reduceLT, Nat.reduceLeDiff, Nat.reduceAdd, Nat.reduceMul, reduceCtorEq]
noncomputable def ct_sSource : Ct := fam false (fun x : Pt × Pt => ([.c (.im (.cpx .f32 x.1.1 x.1.2)), .c (.im (.cpx .f32 x.2.1 x.2.2))], [])) (fun x => .one (rM (mSrc' x.1 x.2)))
theorem run_sSource (a b c d : Nat) : ct_sSource.run [.c (.im (.cpx .f32 a b)), .c (.im (.cpx .f32 c d))] [] = some (.one (rM (mSrc' (a, b) (c, d)))) := fam_run' (by
    intro a b h
    simp only [Prod.mk.injEq, List.cons.injEq, D.c.injEq, D.agg.injEq, C.im.injEq, I.cpx.injEq, I.flt.injEq, I.int.injEq, I.sl.injEq, I.bool.injEq, I.str.injEq, Int.natCast_inj, true_and, and_true] at h
    (try simp only [Prod.ext_iff, Subtype.ext_iff])
    (try simp only [rowsZ_eq, rowsN_eq] at h)
    simp_all) ((a, b), (c, d))
set_option maxRecDepth 100000 in
theorem law_sSource : Law Tryz.prog 30 ct_sSource := by
  refine fam_lawF Env_nil hmixA Tryz.func30 rfl rfl (fun x => ⟨okO okR_M, by simp [Tryz.f30], ?_⟩)
  simp only [mSrc', rM, modC, rowsZ_nil, rowsN_nil]
  try simp -dsimp (maxSteps := 1000000) only [go_sem, List.forall_mem_nil, ↓reduceIte, Nat.reduceEqDiff, Nat.reduceLT, Nat.reduceLeDiff, Nat.reduceAdd, Nat.reduceMul, reduceCtorEq, Tryz.f30]
  refine finF_i [.nilI 1 [.b 0 0 4, .b 0 0 7, .b 0 0 8]] ?_
  simp -dsimp (maxSteps := 1000000) only [go_sem, List.forall_mem_nil, ↓reduceIte, Nat.reduceEqDiff, Nat.reduceLT, Nat.reduceLeDiff, Nat.reduceAdd, Nat.reduceMul, reduceCtorEq]
noncomputable def ct_sMixer : Ct := fam false (fun x : Pt => ([.c (.im (.cpx .f32 x.1 x.2))], [])) (fun x => .one (rM (mMix' x)))
theorem run_sMixer (a b : Nat) : ct_sMixer.run [.c (.im (.cpx .f32 a b))] [] = some (.one (rM (mMix' (a, b)))) := fam_run' (by
    intro a b h
    simp only [Prod.mk.injEq, List.cons.injEq, D.c.injEq, D.agg.injEq, C.im.injEq, I.cpx.injEq, I.flt.injEq, I.int.injEq, I.sl.injEq, I.bool.injEq, I.str.injEq, Int.natCast_inj, true_and, and_true] at h
    (try simp only [Prod.ext_iff, Subtype.ext_iff])
    (try simp only [rowsZ_eq, rowsN_eq] at h)
    simp_all) (a, b)
set_option maxRecDepth 100000 in
theorem law_sMixer : Law Tryz.prog 63 ct_sMixer := by
  refine fam_lawF Env_nil hmixA Tryz.func63 rfl rfl (fun x => ⟨okO okR_M, by simp [Tryz.f63], ?_⟩)
  simp only [mMix', rM, modC, rowsZ_nil, rowsN_nil]
  try simp -dsimp (maxSteps := 1000000) only [go_sem, List.forall_mem_nil, ↓reduceIte, Nat.reduceEqDiff, Nat.reduceLT, Nat.reduceLeDiff, Nat.reduceAdd, Nat.reduceMul, reduceCtorEq, Tryz.f63]
  refine finF_i [.nilI 1 [.b 0 0 4, .b 0 0 7, .b 0 0 8]] ?_
  simp -dsimp (maxSteps := 1000000) only [go_sem, List.forall_mem_nil, ↓reduceIte, Nat.reduceEqDiff, Nat.reduceLT, Nat.reduceLeDiff, Nat.reduceAdd, Nat.reduceMul, reduceCtorEq]
noncomputable def ct_sGain : Ct := fam false (fun x : Nat => ([.c (.im (.flt .f32 x))], [])) (fun x => .one (rM (mGain' x)))
theorem run_sGain (a : Nat) : ct_sGain.run [.c (.im (.flt .f32 a))] [] = some (.one (rM (mGain' a))) := fam_run' (by
    intro a b h
    simp only [Prod.mk.injEq, List.cons.injEq, D.c.injEq, D.agg.injEq, C.im.injEq, I.cpx.injEq, I.flt.injEq, I.int.injEq, I.sl.injEq, I.bool.injEq, I.str.injEq, Int.natCast_inj, true_and, and_true] at h
    (try simp only [Prod.ext_iff, Subtype.ext_iff])
    (try simp only [rowsZ_eq, rowsN_eq] at h)
    simp_all) a
set_option maxRecDepth 100000 in
theorem law_sGain : Law Tryz.prog 64 ct_sGain := by
  refine fam_lawF Env_nil hmixA Tryz.func64 rfl rfl (fun x => ⟨okO okR_M, by simp [Tryz.f64], ?_⟩)
  simp only [mGain', rM, modC, rowsZ_nil, rowsN_nil]
  try simp -dsimp (maxSteps := 1000000) only [go_sem, List.forall_mem_nil, ↓reduceIte, Nat.reduceEqDiff, Nat.reduceLT, Nat.reduceLeDiff, Nat.reduceAdd, Nat.reduceMul, reduceCtorEq, Tryz.f64]
  refine finF_i [.nilI 1 [.b 0 0 4, .b 0 0 7, .b 0 0 8]] ?_
  simp -dsimp (maxSteps := 1000000) only [go_sem, List.forall_mem_nil, ↓reduceIte, Nat.reduceEqDiff, Nat.reduceLT, Nat.reduceLeDiff, Nat.reduceAdd, Nat.reduceMul, reduceCtorEq]
noncomputable def ct_l5Turn : Ct := fam false (fun x : AKn => ([.c (.ptr 0 0 0 0)], hsK x.l x.a x.h)) (fun x => oPt x.l)
theorem run_l5Turn {l : List Int} {a h : Int} (h1 : l.length ≤ 1048576) (h2 : ∀ b ∈ l, 0 ≤ b ∧ b < 256) (h3 : 0 ≤ a) (h4 : a ≤ l.length) : ct_l5Turn.run [.c (.ptr 0 0 0 0)] [[.t (.im (.sl 1 (rowsB l))), .t (.im (.int .i64 a)), .t (.im (.int .i64 h))]] = some (oPt l) := by
  refine fam_run' (args := fun x : AKn => ([D.c (.ptr 0 0 0 0)], hsK x.l x.a x.h)) (fun x y h => ?_) ⟨l, h1, h2, a, h, h3, h4⟩
  simp only [Prod.mk.injEq, true_and] at h
  exact AKn_ext (hsK_inj h)
set_option maxRecDepth 100000 in
set_option maxHeartbeats 8000000 in
theorem law_l5Turn : Law Tryz.prog 61 ct_l5Turn := by
  refine fam_law (Env_cons law_l01Below (Env_cons law_l2Any Env_nil)) hmixA Tryz.func61 rfl rfl (fun ⟨l, h1, h2, a, h, h3, h4⟩ => ⟨okA (fun o => okK (n := 0) okDi), by simp [Tryz.f61], ?_⟩)
  simp only [oPt, hsK]
  try simp -dsimp (maxSteps := 1000000) only [go_sem, List.forall_mem_nil, ↓reduceIte, Nat.reduceEqDiff, Nat.reduceLT, Nat.reduceLeDiff, Nat.reduceAdd, Nat.reduceMul, reduceCtorEq, Tryz.f61, run_l01Below h1 h2 h3 h4 (n := 6) (by decide) (by decide), oBelow, hsK, ne_below l (n := 6) (by decide)]
  rintro ⟨⟨v, ⟨⟨a1, k1⟩, b1⟩⟩, v1, v2⟩
  by_cases e0 : v = 0
  · have e0' := eq_true e0
    try simp -dsimp (maxSteps := 1000000) only [go_sem, List.forall_mem_nil, ↓reduceIte, Nat.reduceEqDiff, Nat.reduceLT, Nat.reduceLeDiff, Nat.reduceAdd, Nat.reduceMul, reduceCtorEq, Tryz.f61, e0', hsK]
    exact ⟨((_, _), ⟨(a1, k1), b1⟩), rfl, rfl, rfl⟩
  have e0' := eq_false e0
  by_cases e1 : v = 1
  · have e1' := eq_true e1
    try simp -dsimp (maxSteps := 1000000) only [go_sem, List.forall_mem_nil, ↓reduceIte, Nat.reduceEqDiff, Nat.reduceLT, Nat.reduceLeDiff, Nat.reduceAdd, Nat.reduceMul, reduceCtorEq, Tryz.f61, e0', e1', hsK]
    exact ⟨((_, _), ⟨(a1, k1), b1⟩), rfl, rfl, rfl⟩
  have e1' := eq_false e1
  by_cases e2 : v = 2
  · have e2' := eq_true e2
    try simp -dsimp (maxSteps := 1000000) only [go_sem, List.forall_mem_nil, ↓reduceIte, Nat.reduceEqDiff, Nat.reduceLT, Nat.reduceLeDiff, Nat.reduceAdd, Nat.reduceMul, reduceCtorEq, Tryz.f61, e0', e1', e2', hsK]
    exact ⟨((_, _), ⟨(a1, k1), b1⟩), rfl, rfl, rfl⟩
  have e2' := eq_false e2
  by_cases e3 : v = 3
  · have e3' := eq_true e3
    try simp -dsimp (maxSteps := 1000000) only [go_sem, List.forall_mem_nil, ↓reduceIte, Nat.reduceEqDiff, Nat.reduceLT, Nat.reduceLeDiff, Nat.reduceAdd, Nat.reduceMul, reduceCtorEq, Tryz.f61, e0', e1', e2', e3', run_l2Any h1 h2 b1.1 b1.2, oPt, ne_opt, hsK]
    rintro ⟨⟨x, y⟩, ⟨⟨a2, k2⟩, b2⟩⟩
    try simp -dsimp (maxSteps := 1000000) only [go_sem, List.forall_mem_nil, ↓reduceIte, Nat.reduceEqDiff, Nat.reduceLT, Nat.reduceLeDiff, Nat.reduceAdd, Nat.reduceMul, reduceCtorEq, Tryz.f61, hsK]
    exact ⟨((_, _), ⟨(a2, k2), b2⟩), rfl, rfl, rfl⟩
  have e3' := eq_false e3
  try simp -dsimp (maxSteps := 1000000) only [go_sem, List.forall_mem_nil, ↓reduceIte, Nat.reduceEqDiff, Nat.reduceLT, Nat.reduceLeDiff, Nat.reduceAdd, Nat.reduceMul, reduceCtorEq, Tryz.f61, e0', e1', e2', e3', run_l01Below h1 h2 b1.1 b1.2 (n := 9) (by decide) (by decide), oBelow, hsK, ne_below l (n := 9) (by decide)]
  rintro ⟨⟨u, ⟨⟨a2, k2⟩, b2⟩⟩, u1, u2⟩
  try simp -dsimp (maxSteps := 1000000) only [go_sem, List.forall_mem_nil, ↓reduceIte, Nat.reduceEqDiff, Nat.reduceLT, Nat.reduceLeDiff, Nat.reduceAdd, Nat.reduceMul, reduceCtorEq, Tryz.f61, run_l01Below h1 h2 b2.1 b2.2 (n := 9) (by decide) (by decide), oBelow, hsK, ne_below l (n := 9) (by decide)]
  rintro ⟨⟨w, ⟨⟨a3, k3⟩, b3⟩⟩, w1, w2⟩
  try simp -dsimp (maxSteps := 1000000) only [go_sem, List.forall_mem_nil, ↓reduceIte, Nat.reduceEqDiff, Nat.reduceLT, Nat.reduceLeDiff, Nat.reduceAdd, Nat.reduceMul, reduceCtorEq, Tryz.f61, hsK]
  exact ⟨((_, _), ⟨(a3, k3), b3⟩), rfl, rfl, rfl⟩
end Go.SX
set_option linter.unusedVariables false
set_option linter.unusedSimpArgs false
namespace Go.SX
open Go Ieee Go.Proofs
theorem signed_neg (s : Bool) (m k : Nat) : signed s m k + signed (!s) m k = 0 := by cases s <;> simp [signed] <;> omega
theorem finS_eq (x : Nat) : finS x = isFin x := by
  have e1 : single.binade = 8388608 := by decide
  have e2 : single.infRung = 2139095040 := by decide
  have e5 : single.signWeight = 2147483648 := by decide
  have hsub : fop .sub .f32 x x = ((((single.read x).sum (single.read x).opposite).map single.write)).getD (qn .f32) := rfl
  unfold finS isFin
  rw [hsub]
  have hq : fcmp .eql .f32 (qn .f32) 0 = false := by decide
  cases hr : single.read x with
  | nan s t =>
    have hn : isNaNb .f32 x = true := by show (single.read x).isNaN = true; rw [hr]; rfl
    have := nan_low hn
    have h2 : decide (x % 2147483648 ≤ 2139095039) = false := by simp; omega
    rw [h2]
    simpa [Datum.sum] using hq
  | infinity s =>
    have hx : x % 2147483648 = 2139095040 := by
      unfold Format.read at hr
      simp only [e1, e2, e5] at hr
      split at hr
      · cases hr
      · split at hr
        · cases hr
        · split at hr
          · assumption
          · cases hr
    have h2 : decide (x % 2147483648 ≤ 2139095039) = false := by simp; omega
    rw [h2]
    have h3 : (Datum.infinity s).sum (Datum.infinity s).opposite = none := by cases s <;> rfl
    rw [h3]
    simpa using hq
  | number s m e =>
    have hx : x % 2147483648 < 2139095040 := by
      unfold Format.read at hr
      simp only [e1, e2, e5] at hr
      split at hr
      · omega
      · split at hr
        · assumption
        · split at hr <;> cases hr
    have h2 : decide (x % 2147483648 ≤ 2139095039) = true := by simp; omega
    rw [h2]
    have h3 : (Datum.number s m e).sum (Datum.number s m e).opposite = some (.number false 0 e) := by
      simp only [Datum.opposite, Datum.sum, Int.min_self, signed_neg, if_true]
      cases s <;> rfl
    rw [h3]
    have h4 : single.write (.number false 0 e) = 0 := rfl
    simp only [Option.map_some, Option.getD_some, h4]
    decide
def lvlB (x : Nat) : Bool := x == 0 || (x == 1065353216 || (x == 1073741824 || x == 1077936128))
theorem abs_small {a : Int} (h1 : -3 ≤ a) (h2 : a ≤ 3) : lvlB (absS (wI a)) = true := by
  have : a = -3 ∨ a = -2 ∨ a = -1 ∨ a = 0 ∨ a = 1 ∨ a = 2 ∨ a = 3 := by omega
  rcases this with rfl | rfl | rfl | rfl | rfl | rfl | rfl <;> decide +kernel
theorem lvl_cases {x : Nat} (h : lvlB x = true) : x = 0 ∨ x = 1065353216 ∨ x = 1073741824 ∨ x = 1077936128 := by simpa [lvlB] using h
structure Drawn (m : Mod) : Prop where
  ok : OkM m
  mod : isModuleF m = true
  lvl : m.kind = 7 → lvlB m.level = true
theorem Drawn.kind {m : Mod} (h : Drawn m) : m.kind = 1 ∨ m.kind = 2 ∨ m.kind = 3 ∨ m.kind = 4 ∨ m.kind = 5 ∨ m.kind = 6 ∨ m.kind = 7 ∨ m.kind = 8 := by
  have := h.mod
  unfold isModuleF at this
  by_cases h1 : m.kind = 1
  · simp [h1]
  by_cases h2 : m.kind = 2
  · simp [h2]
  by_cases h3 : m.kind = 3
  · simp [h3]
  by_cases h4 : m.kind = 4
  · simp [h4]
  by_cases h5 : m.kind = 5
  · simp [h5]
  by_cases h6 : m.kind = 6
  · simp [h6]
  by_cases h7 : m.kind = 7
  · simp [h7]
  by_cases h8 : m.kind = 8
  · simp [h8]
  simp [h1, h2, h3, h4, h5, h6, h7, h8] at this
theorem bareF_iff (m : Mod) : bareF m = true ↔ (m.turn = (0, 0) ∧ m.state = (0, 0) ∧ m.level = 0 ∧ m.store = [] ∧ m.rat = 0 ∧ m.rcnt = 0 ∧ m.pts = [] ∧ m.lab = [] ∧ m.count = 0 ∧ m.left = 0) := by
  obtain ⟨k, ⟨t1, t2⟩, ⟨s1, s2⟩, lv, st, ra, rc, pts, lab, c, l⟩ := m
  simp only [bareF, nzP, nz, Bool.and_eq_true, decide_eq_true_eq, Prod.mk.injEq, Int.natCast_eq_zero, List.length_eq_zero_iff, and_assoc]
theorem drawn_sum : Drawn mSum' := ⟨⟨by simp [mSum', sm], by simp [mSum', sm], by simp [mSum', sm]⟩, by decide, by decide⟩
theorem drawn_src (t s : Pt) : Drawn (mSrc' t s) := ⟨⟨by simp [mSrc', sm], by simp [mSrc', sm], by simp [mSrc', sm]⟩, by simp [mSrc', isModuleF, bareF_iff], by simp [mSrc']⟩
theorem drawn_mix (t : Pt) : Drawn (mMix' t) := ⟨⟨by simp [mMix', sm], by simp [mMix', sm], by simp [mMix', sm]⟩, by simp [mMix', isModuleF, bareF_iff], by simp [mMix']⟩
theorem drawn_gain (l : Nat) : Drawn (mGain' l) := ⟨⟨by simp [mGain', sm], by simp [mGain', sm], by simp [mGain', sm]⟩, by simp [mGain', isModuleF, bareF_iff], by simp [mGain']⟩
theorem drawn_meter : Drawn mMeter' := ⟨⟨by simp [mMeter', sm], by simp [mMeter', sm], by simp [mMeter', sm]⟩, by decide, by decide⟩
def mDelay' (st : List Pt) (a : Int) : Mod := ⟨4, (0, 0), (0, 0), 0, st, a, (st.length : Int), [], [], 0, 0⟩
def mSlicer' (pts : List Pt) (lab : List Int) (c : Int) : Mod := ⟨6, (0, 0), (0, 0), 0, [], 0, 0, pts, lab, c, 0⟩
def mHold' (s : Pt) (c l : Int) : Mod := ⟨8, (0, 0), s, 0, [], 0, 0, [], [], c, l⟩
theorem isRingF_full {st : List Pt} {a : Int} (h1 : 1 ≤ st.length) (h2 : st.length ≤ 16) (h3 : 0 ≤ a) (h4 : a < st.length) : isRingF st a st.length = true := by
  unfold isRingF
  rw [show st.length - (st.length : Int).toNat = 0 by simp]
  have : ringC st a st.length := ⟨h1, h2, h3, h4, by omega, by omega⟩
  simp [this, ringGo]
theorem drawn_delay {st : List Pt} {a : Int} (h1 : 1 ≤ st.length) (h2 : st.length ≤ 16) (h3 : 0 ≤ a) (h4 : a < st.length) : Drawn (mDelay' st a) :=
  ⟨⟨by simp [mDelay', sm]; omega, by simp [mDelay', sm], by simp [mDelay', sm]⟩, by simp [mDelay', isModuleF, bareF_iff, isRingF_full h1 h2 h3 h4], by simp [mDelay']⟩
theorem table_len {pts : List Pt} {lab : List Int} (h : isTableF pts lab = true) : pts.length = lab.length ∧ pts.length ≤ 64 := by
  simp only [isTableF, Bool.and_eq_true, decide_eq_true_eq] at h; exact ⟨h.1, h.2.1⟩
theorem drawn_slicer {pts : List Pt} {lab : List Int} {c : Int} (h : isTableF pts lab = true) : Drawn (mSlicer' pts lab c) := by
  obtain ⟨h1, h2⟩ := table_len h
  exact ⟨⟨by simp [mSlicer', sm], by simp [mSlicer', sm]; omega, by simp [mSlicer', sm]; omega⟩, by simp [mSlicer', isModuleF, bareF_iff, h], by simp [mSlicer']⟩
theorem drawn_hold {s : Pt} {c l : Int} (h1 : 1 ≤ c) (h2 : c ≤ 100) (h3 : 0 ≤ l) (h4 : l < c) : Drawn (mHold' s c l) :=
  ⟨⟨by simp [mHold', sm], by simp [mHold', sm], by simp [mHold', sm]⟩, by simp [mHold', isModuleF, bareF_iff, h1, h2, h3, h4], by simp [mHold']⟩
def mMeterL (l : Nat) : Mod := ⟨7, (0, 0), (0, 0), l, [], 0, 0, [], [], 0, 0⟩
theorem lvl_pos {l : Nat} (h : lvlB l = true) : (nz l || fcmp .gtr .f32 l 0) = true := by rcases lvl_cases h with rfl | rfl | rfl | rfl <;> decide +kernel
theorem drawn_meterL {l : Nat} (h : lvlB l = true) : Drawn (mMeterL l) :=
  ⟨⟨by simp [mMeterL, sm], by simp [mMeterL, sm], by simp [mMeterL, sm]⟩, by
    have := lvl_pos h
    simp only [mMeterL, isModuleF, bareF_iff]
    simp only [Bool.or_eq_true] at this
    simp [this, bareF_iff], by simp [mMeterL, h]⟩
theorem Drawn.forms {m : Mod} (h : Drawn m) : (∃ t s, m = mSrc' t s) ∨ (∃ t s, m = ⟨2, t, s, 0, [], 0, 0, [], [], 0, 0⟩) ∨ (∃ l, m = mGain' l) ∨ (∃ st a, m = mDelay' st a ∧ 1 ≤ st.length ∧ st.length ≤ 16 ∧ 0 ≤ a ∧ a < st.length) ∨ m = mSum' ∨
    (∃ pts lab c, m = mSlicer' pts lab c ∧ isTableF pts lab = true) ∨ (∃ l, m = mMeterL l ∧ lvlB l = true) ∨ ∃ s c l, m = mHold' s c l ∧ 1 ≤ c ∧ c ≤ 100 ∧ 0 ≤ l ∧ l < c := by
  have hk := h.kind
  have hm := h.mod
  have hl := h.lvl
  obtain ⟨k, t, s, lv, st, ra, rc, pts, lab, c, l⟩ := m
  simp only at hk hl
  rcases hk with rfl | rfl | rfl | rfl | rfl | rfl | rfl | rfl
  · simp [isModuleF, bareF_iff] at hm
    obtain ⟨rfl, rfl, rfl, rfl, rfl, rfl, rfl, rfl⟩ := hm
    exact .inl ⟨t, s, rfl⟩
  · simp [isModuleF, bareF_iff] at hm
    obtain ⟨rfl, rfl, rfl, rfl, rfl, rfl, rfl, rfl⟩ := hm
    exact .inr (.inl ⟨t, s, rfl⟩)
  · simp [isModuleF, bareF_iff] at hm
    obtain ⟨rfl, rfl, rfl, rfl, rfl, rfl, rfl, rfl, rfl⟩ := hm
    exact .inr (.inr (.inl ⟨lv, rfl⟩))
  · simp [isModuleF, bareF_iff] at hm
    obtain ⟨⟨h1, rfl⟩, rfl, rfl, rfl, rfl, rfl, rfl, rfl⟩ := hm
    unfold isRingF at h1
    simp only [Bool.and_eq_true, decide_eq_true_eq] at h1
    obtain ⟨⟨c1, c2, c3, c4, _, _⟩, _⟩ := h1
    exact .inr (.inr (.inr (.inl ⟨st, ra, rfl, c1, c2, c3, c4⟩)))
  · simp [isModuleF, bareF_iff] at hm
    obtain ⟨rfl, rfl, rfl, rfl, rfl, rfl, rfl, rfl, rfl, rfl⟩ := hm
    exact .inr (.inr (.inr (.inr (.inl rfl))))
  · simp [isModuleF, bareF_iff] at hm
    obtain ⟨h1, rfl, rfl, rfl, rfl, rfl, rfl, rfl⟩ := hm
    exact .inr (.inr (.inr (.inr (.inr (.inl ⟨pts, lab, c, rfl, h1⟩)))))
  · simp [isModuleF, bareF_iff] at hm
    obtain ⟨_, rfl, rfl, rfl, rfl, rfl, rfl, rfl, rfl, rfl⟩ := hm
    exact .inr (.inr (.inr (.inr (.inr (.inr (.inl ⟨lv, rfl, hl rfl⟩))))))
  · simp [isModuleF, bareF_iff] at hm
    obtain ⟨⟨h1, h2, h3, h4⟩, rfl, rfl, rfl, rfl, rfl, rfl, rfl⟩ := hm
    exact .inr (.inr (.inr (.inr (.inr (.inr (.inr ⟨s, c, l, rfl, h1, h2, h3, h4⟩))))))
end Go.SX
set_option linter.unusedVariables false
set_option linter.unusedSimpArgs false
namespace Go.SX
open Go Go.Proofs
noncomputable def ct_l2At : Ct := fam true (fun x : Tb × Pt => ([.agg [.im (.sl 1 (rowsZ x.1.1.1)), .im (.sl 1 (rowsN x.1.1.2))], .c (.im (.cpx .f32 x.2.1 x.2.2))], [])) (fun x => .one { val := .c (.im (.int .i64 (idxF (eqPt · x.2) x.1.1.1 0))) })
theorem run_l2At {pts : List Pt} {lab : List Int} (h1 : pts.length ≤ sm) (h2 : lab.length ≤ sm) (u v : Nat) : ct_l2At.run [.agg [.im (.sl 1 (rowsZ pts)), .im (.sl 1 (rowsN lab))], .c (.im (.cpx .f32 u v))] [] = some (.one { val := .c (.im (.int .i64 (idxF (eqPt · (u, v)) pts 0))) }) := by
  refine fam_run' (args := fun x : Tb × Pt => ([D.agg [.im (.sl 1 (rowsZ x.1.1.1)), .im (.sl 1 (rowsN x.1.1.2))], .c (.im (.cpx .f32 x.2.1 x.2.2))], [])) ?_ (⟨(pts, lab), h1, h2⟩, (u, v))
  rintro ⟨⟨⟨a, b⟩, _⟩, ⟨c, d⟩⟩ ⟨⟨⟨a', b'⟩, _⟩, ⟨c', d'⟩⟩ h
  simp [rowsZ_eq, rowsN_eq] at h ⊢
  simp [h]
theorem sc_l2At : (ct_l2At.sc = true) = True := by simp [ct_l2At, fam]
set_option maxRecDepth 100000 in
set_option maxHeartbeats 4000000 in
theorem law_l2At : Law Tryz.prog 146 ct_l2At := by
  refine fam_law Env_nil hmixA Tryz.func146 rfl rfl (fun ⟨⟨⟨l, lab⟩, h1, h2⟩, ⟨u, v⟩⟩ => ⟨okO_im rfl, by simp [Tryz.f146], ?_⟩)
  simp only at h1 h2 ⊢
  try simp -dsimp (maxSteps := 1000000) only [go_sem, List.forall_mem_nil, ↓reduceIte, Nat.reduceEqDiff, Nat.reduceLT, Nat.reduceLeDiff, Nat.reduceAdd, Nat.reduceMul, reduceCtorEq, Tryz.f146, rowsZ_len]
  refine loop_i (ι := { k : Nat // k ≤ l.length ∧ idxF (eqPt · (u, v)) l 0 = idxF (eqPt · (u, v)) (l.drop k) k }) (fun k => ⟨[(1, some (.c (.im (.cpx .f32 u v)))), (8, some (.c (.im (.sl 1 (rowsZ l))))), (9, some (.c (.im (.int .i64 (l.length : Int))))), (10, some (.c (.im (.int .i64 (k.1 : Int)))))],
    [], 0⟩) (fun k => l.length - k.1) ⟨0, by simp⟩ ⟨[], [], by ((simp only [go_sem, eq_self, MvRb, MvRn, MvRt, List.nodup_cons, List.nodup_nil, ↓reduceIte, Nat.reduceEqDiff, Nat.reduceLT, Nat.reduceLeDiff, reduceCtorEq, List.forall_mem_nil, Nat.zero_le, false_implies, List.mem_singleton]) <;> (try (simp -dsimp only [go_sem, eq_self, MvRb, MvRn, MvRt, List.nodup_cons, List.nodup_nil, ↓reduceIte, Nat.reduceEqDiff, Nat.reduceLT, Nat.reduceLeDiff, reduceCtorEq, List.forall_mem_nil, Nat.zero_le, false_implies, List.mem_singleton]))) <;> simp⟩ (fun ⟨k, hk, hinv⟩ => ?_)
  by_cases hlt : k < l.length
  · obtain ⟨p, hp⟩ : ∃ p, l[k]? = some p := ⟨_, List.getElem?_eq_getElem hlt⟩
    have hrow := rowsZ_at hp
    have hI : ((k : Int) < (l.length : Int)) = True := by simp; omega
    have h0 : (0 ≤ (k : Int)) = True := by simp
    have hidx := idxF_drop (f := (eqPt · (u, v))) hp
    have hwr := lt_sm h1 hlt
    obtain ⟨a, b⟩ := p
    have hq0 : (fcmp .eql .f32 a u && fcmp .eql .f32 b v) = eqPt (a, b) (u, v) := rfl
    cases hq : eqPt (a, b) (u, v) with
    | true =>
      simp only [hq, if_true] at hidx
      rw [hidx] at hinv
      clear hidx
      try simp -dsimp (maxSteps := 1000000) only [go_sem, List.forall_mem_nil, ↓reduceIte, Nat.reduceEqDiff, Nat.reduceLT, Nat.reduceLeDiff, Nat.reduceAdd, Nat.reduceMul, reduceCtorEq, Tryz.f146, hI, h0, Int.toNat_natCast, hrow, hq0, hq, hinv, rowsZ_len]
    | false =>
      simp only [hq, if_false, Bool.false_eq_true] at hidx
      rw [hidx] at hinv
      clear hidx
      try simp -dsimp (maxSteps := 1000000) only [go_sem, List.forall_mem_nil, ↓reduceIte, Nat.reduceEqDiff, Nat.reduceLT, Nat.reduceLeDiff, Nat.reduceAdd, Nat.reduceMul, reduceCtorEq, Tryz.f146, hI, h0, Int.toNat_natCast, hrow, hq0, hq, hwr, rowsZ_len]
      exact ⟨⟨k + 1, by omega, hinv⟩, by simp only []; omega, [], [], by (simp only [go_sem, eq_self, MvRb, MvRn, MvRt, List.nodup_cons, List.nodup_nil, ↓reduceIte, Nat.reduceEqDiff, Nat.reduceLT, Nat.reduceLeDiff, reduceCtorEq, List.forall_mem_nil, Nat.zero_le, false_implies, List.mem_singleton]) <;> simp⟩
  · have hI : ((k : Int) < (l.length : Int)) = False := by simp; omega
    have hkl : k = l.length := by omega
    subst hkl
    rw [List.drop_length] at hinv
    try simp -dsimp (maxSteps := 1000000) only [go_sem, List.forall_mem_nil, ↓reduceIte, Nat.reduceEqDiff, Nat.reduceLT, Nat.reduceLeDiff, Nat.reduceAdd, Nat.reduceMul, reduceCtorEq, Tryz.f146, hI, hinv, idxF, rowsZ_len]
set_option maxRecDepth 100000 in
set_option maxHeartbeats 8000000 in
theorem law_sIsTable : Law Tryz.prog 84 ct_IsTable := by
  refine fam_law (Env_cons law_l2Finite Env_nil) hmixA Tryz.func84 rfl rfl (fun ⟨⟨pts, lab⟩, h1, h2⟩ => ⟨okO_im rfl, by simp [Tryz.f84], ?_⟩)
  simp only [] at h1 h2
  by_cases hlen : pts.length = lab.length
  rotate_left
  · have e1 : ((pts.length : Int) = (lab.length : Int)) = False := by simp; omega
    have hF : isTableF pts lab = false := by simp [isTableF, hlen]
    clear hlen
    try simp -dsimp (maxSteps := 1000000) only [go_sem, List.forall_mem_nil, ↓reduceIte, Nat.reduceEqDiff, Nat.reduceLT, Nat.reduceLeDiff, Nat.reduceAdd, Nat.reduceMul, reduceCtorEq, Tryz.f84, rowsZ_len, rowsN_len, e1, hF]
  have e1 : ((pts.length : Int) = (lab.length : Int)) = True := by simp; omega
  by_cases h64 : pts.length ≤ 64
  rotate_left
  · have e2 : ((64 : Int) < (pts.length : Int)) = True := by simp; omega
    have hF : isTableF pts lab = false := by simp [isTableF, h64]
    clear hlen h64
    try simp -dsimp (maxSteps := 1000000) only [go_sem, List.forall_mem_nil, ↓reduceIte, Nat.reduceEqDiff, Nat.reduceLT, Nat.reduceLeDiff, Nat.reduceAdd, Nat.reduceMul, reduceCtorEq, Tryz.f84, rowsZ_len, rowsN_len, e1, e2, hF]
  have e2 : ((64 : Int) < (pts.length : Int)) = False := by simp; omega
  have hF : isTableF pts lab = tblGo pts pts 0 := by unfold isTableF; rw [decide_eq_true hlen, decide_eq_true h64]; simp
  rw [hF]
  clear hlen h64 hF
  try simp -dsimp (maxSteps := 1000000) only [go_sem, List.forall_mem_nil, ↓reduceIte, Nat.reduceEqDiff, Nat.reduceLT, Nat.reduceLeDiff, Nat.reduceAdd, Nat.reduceMul, reduceCtorEq, Tryz.f84, rowsZ_len, rowsN_len, e1, e2]
  refine loop_i (ι := { k : Nat // k ≤ pts.length ∧ tblGo pts pts 0 = tblGo pts (pts.drop k) k }) (fun k => ⟨[(1, some (.c (.ptr 0 0 0 0))), (20, some (.c (.im (.sl 1 (rowsZ pts))))), (21, some (.c (.im (.int .i64 (pts.length : Int))))), (22, some (.c (.im (.int .i64 (k.1 : Int)))))],
    [(0, some (.box [.t (.im (.sl 1 (rowsZ pts))), .t (.im (.sl 1 (rowsN lab)))]))], 1⟩) (fun k => pts.length - k.1) ⟨0, by simp⟩ ⟨[], [], by ((simp only [go_sem, eq_self, MvRb, MvRn, MvRt, List.nodup_cons, List.nodup_nil, ↓reduceIte, Nat.reduceEqDiff, Nat.reduceLT, Nat.reduceLeDiff, reduceCtorEq, List.forall_mem_nil, Nat.zero_le, false_implies, List.mem_singleton]) <;> (try (simp -dsimp only [go_sem, eq_self, MvRb, MvRn, MvRt, List.nodup_cons, List.nodup_nil, ↓reduceIte, Nat.reduceEqDiff, Nat.reduceLT, Nat.reduceLeDiff, reduceCtorEq, List.forall_mem_nil, Nat.zero_le, false_implies, List.mem_singleton]))) <;> simp⟩ (fun ⟨k, hk, hinv⟩ => ?_)
  by_cases hlt : k < pts.length
  rotate_left
  · have hI : ((k : Int) < (pts.length : Int)) = False := by simp; omega
    have hkl : k = pts.length := by omega
    subst hkl
    rw [List.drop_length] at hinv
    try simp -dsimp (maxSteps := 1000000) only [go_sem, List.forall_mem_nil, ↓reduceIte, Nat.reduceEqDiff, Nat.reduceLT, Nat.reduceLeDiff, Nat.reduceAdd, Nat.reduceMul, reduceCtorEq, Tryz.f84, hI, hinv, tblGo, rowsZ_len]
  obtain ⟨p, hp⟩ : ∃ p, pts[k]? = some p := ⟨_, List.getElem?_eq_getElem hlt⟩
  have hrow := rowsZ_at hp
  have hI : ((k : Int) < (pts.length : Int)) = True := by simp; omega
  have h0 : (0 ≤ (k : Int)) = True := by simp
  have hidx := tblGo_drop hp
  have hwr := lt_sm h1 hlt
  obtain ⟨a, b⟩ := p
  cases hf : (isFin a && isFin b) with
  | false =>
    simp only [hf, Bool.false_and] at hidx
    rw [hidx] at hinv
    clear hidx
    try simp -dsimp (maxSteps := 1000000) only [go_sem, List.forall_mem_nil, ↓reduceIte, Nat.reduceEqDiff, Nat.reduceLT, Nat.reduceLeDiff, Nat.reduceAdd, Nat.reduceMul, reduceCtorEq, Tryz.f84, hI, h0, Int.toNat_natCast, hrow, run_l2Finite, finS_eq, hf, hinv, rowsZ_len]
  | true =>
    simp only [hf, Bool.true_and] at hidx
    try simp -dsimp (maxSteps := 1000000) only [go_sem, List.forall_mem_nil, ↓reduceIte, Nat.reduceEqDiff, Nat.reduceLT, Nat.reduceLeDiff, Nat.reduceAdd, Nat.reduceMul, reduceCtorEq, Tryz.f84, hI, h0, Int.toNat_natCast, hrow, run_l2Finite, finS_eq, hf, rowsZ_len]
    refine loop_i (ι := { j : Nat // j ≤ k ∧ idxF (eqPt · (a, b)) (pts.take k) 0 = idxF (eqPt · (a, b)) ((pts.take k).drop j) j }) (fun j => ⟨[(1, some (.c (.ptr 0 0 0 0))), (3, some (.c (.im (.int .i64 (k : Int))))), (4, some (.c (.im (.cpx .f32 a b)))), (5, some (.c (.im (.int .i64 (j.1 : Int))))), (20, some (.c (.im (.sl 1 (rowsZ pts))))), (21, some (.c (.im (.int .i64 (pts.length : Int))))), (22, some (.c (.im (.int .i64 (k : Int)))))],
      [(0, some (.box [.t (.im (.sl 1 (rowsZ pts))), .t (.im (.sl 1 (rowsN lab)))]))], 1⟩) (fun j => k - j.1) ⟨0, by simp⟩ ⟨[], [], by ((simp only [go_sem, eq_self, MvRb, MvRn, MvRt, List.nodup_cons, List.nodup_nil, ↓reduceIte, Nat.reduceEqDiff, Nat.reduceLT, Nat.reduceLeDiff, reduceCtorEq, List.forall_mem_nil, Nat.zero_le, false_implies, List.mem_singleton]) <;> (try (simp -dsimp only [go_sem, eq_self, MvRb, MvRn, MvRt, List.nodup_cons, List.nodup_nil, ↓reduceIte, Nat.reduceEqDiff, Nat.reduceLT, Nat.reduceLeDiff, reduceCtorEq, List.forall_mem_nil, Nat.zero_le, false_implies, List.mem_singleton]))) <;> simp⟩ (fun ⟨j, hj, hjinv⟩ => ?_)
    by_cases hjk : j < k
    rotate_left
    · have hJ : ((j : Int) < (k : Int)) = False := by simp; omega
      have hjk' : j = k := by omega
      subst hjk'
      rw [show List.drop j (List.take j pts) = [] from List.drop_of_length_le (by rw [List.length_take]; omega)] at hjinv
      have hneg : idxF (eqPt · (a, b)) (pts.take j) 0 < 0 := by rw [hjinv]; simp [idxF]
      simp only [hneg, decide_true, Bool.true_and] at hidx
      rw [hidx] at hinv
      clear hidx
      try simp -dsimp (maxSteps := 1000000) only [go_sem, List.forall_mem_nil, ↓reduceIte, Nat.reduceEqDiff, Nat.reduceLT, Nat.reduceLeDiff, Nat.reduceAdd, Nat.reduceMul, reduceCtorEq, Tryz.f84, hJ, hwr]
      exact ⟨⟨j + 1, by omega, hinv⟩, by simp only []; omega, [], [], by (simp only [go_sem, eq_self, MvRb, MvRn, MvRt, List.nodup_cons, List.nodup_nil, ↓reduceIte, Nat.reduceEqDiff, Nat.reduceLT, Nat.reduceLeDiff, reduceCtorEq, List.forall_mem_nil, Nat.zero_le, false_implies, List.mem_singleton]) <;> simp⟩
    obtain ⟨⟨c, d⟩, hq⟩ : ∃ q, pts[j]? = some q := ⟨_, List.getElem?_eq_getElem (by omega)⟩
    have hrowj := rowsZ_at hq
    have hJ : ((j : Int) < (k : Int)) = True := by simp; omega
    have hJp : ((j : Int) < (pts.length : Int)) = True := by simp; omega
    have hj0 : (0 ≤ (j : Int)) = True := by simp
    have hwj : IntKind.i64.wrap ((j : Int) + 1) = ((j + 1 : Nat) : Int) := lt_sm (n := pts.length) h1 (by omega)
    have hjdx := idxF_drop (f := (eqPt · (a, b))) (l := pts.take k) (k := j) (p := (c, d)) (by rw [List.getElem?_take_of_lt hjk]; exact hq)
    have hq0 : (fcmp .eql .f32 c a && fcmp .eql .f32 d b) = eqPt (c, d) (a, b) := rfl
    cases he : eqPt (c, d) (a, b) with
    | true =>
      simp only [he, if_true] at hjdx
      rw [hjdx] at hjinv
      have hneg : ¬ idxF (eqPt · (a, b)) (pts.take k) 0 < 0 := by rw [hjinv]; omega
      simp only [hneg, decide_false, Bool.false_and] at hidx
      rw [hidx] at hinv
      clear hidx hjdx hjinv
      try simp -dsimp (maxSteps := 1000000) only [go_sem, List.forall_mem_nil, ↓reduceIte, Nat.reduceEqDiff, Nat.reduceLT, Nat.reduceLeDiff, Nat.reduceAdd, Nat.reduceMul, reduceCtorEq, Tryz.f84, hJ, hJp, hj0, hrowj, hq0, he, hinv, rowsZ_len, Int.toNat_natCast]
    | false =>
      simp only [he, if_false, Bool.false_eq_true] at hjdx
      rw [hjdx] at hjinv
      clear hjdx
      try simp -dsimp (maxSteps := 1000000) only [go_sem, List.forall_mem_nil, ↓reduceIte, Nat.reduceEqDiff, Nat.reduceLT, Nat.reduceLeDiff, Nat.reduceAdd, Nat.reduceMul, reduceCtorEq, Tryz.f84, hJ, hJp, hj0, hrowj, hq0, he, hwj, rowsZ_len, Int.toNat_natCast]
      exact ⟨⟨j + 1, by omega, hjinv⟩, by simp only []; omega, [], [], by (simp only [go_sem, eq_self, MvRb, MvRn, MvRt, List.nodup_cons, List.nodup_nil, ↓reduceIte, Nat.reduceEqDiff, Nat.reduceLT, Nat.reduceLeDiff, reduceCtorEq, List.forall_mem_nil, Nat.zero_le, false_implies, List.mem_singleton]) <;> simp⟩
theorem sc_IsTable : (ct_IsTable.sc = true) = True := by simp [ct_IsTable, fam]
set_option maxRecDepth 100000 in
set_option maxHeartbeats 4000000 in
theorem law_l2Copy : Law Tryz.prog 110 ct_copyTable := by
  refine fam_law Env_nil hmixA Tryz.func110 rfl rfl (fun ⟨⟨pts, lab⟩, h1, h2⟩ => ⟨okO okR_tb, by simp [Tryz.f110], ?_⟩)
  simp only at h1 h2
  simp only [rTb]
  try simp -dsimp (maxSteps := 1000000) only [go_sem, List.forall_mem_nil, ↓reduceIte, Nat.reduceEqDiff, Nat.reduceLT, Nat.reduceLeDiff, Nat.reduceAdd, Nat.reduceMul, reduceCtorEq, Tryz.f110, rowsZ_len, rowsN_len, bytes_sm h1 (show 8 ≤ 128 by decide), bytes_sm h2 (show 8 ≤ 128 by decide), map_im_tI, tI_len, appendH, srcRows]
  repeat' (first
    | ((with_reducible refine sl_i ?_ ?_); focus kernel_rfl)
    | ((with_reducible refine ro_i ?_ ?_); focus kernel_rfl))
  refine ⟨[_, _], ?_, ?_, ?_, rfl, rfl⟩ <;> simp [rtOk]
end Go.SX
