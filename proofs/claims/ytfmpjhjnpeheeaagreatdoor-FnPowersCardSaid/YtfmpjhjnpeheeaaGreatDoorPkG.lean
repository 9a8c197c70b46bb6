/-
  Draws: l01New, l01Byte, l01Below, l2Small, MakeWhole. Of what is drawn only its range is told.
  Draws: l01Once, l01Int, l1Odd, FromSteps, l1Some, l1Any, l2Any, l4Samples, MakeSamples. Of what is drawn nothing is told.
  MakeWhole, laws.fresh.
  l1In, FromSteps, l1Any, l2Any, l4Samples, MakeSamples.
  spec: small functions of numbers and points; constructors of modules without slices.
  The text of a module, and how it is read: plain words.
  spec: plain words of what is drawn: finite numbers, levels, modules, what a step makes of them.
  Reading a module's text gives the module again.
  spec: tables.
  spec: PutPoint, GridTable, l2Table.
  No condition.
-/
import Derived.Test.YtfmpjhjnpeheeaaGreatDoorPkF
set_option linter.unusedVariables false
set_option linter.unusedSimpArgs false
namespace Go.SX
open Go Go.Proofs
theorem and255 (x : Int) : 0 ≤ bitsI .and .i64 x 255 ∧ bitsI .and .i64 x 255 < 256 := by
 have h : (BitVec.ofInt 64 x &&& BitVec.ofInt 64 255).toNat ≤ 255 := by
   rw [BitVec.toNat_and]
   have e2 : (BitVec.ofInt 64 255).toNat = 255 := by decide
   rw [e2]; exact Nat.and_le_right
 simp only [bitsI]
 rw [show (IntKind.i64.bits) = 64 from rfl, zAi (by omega) (by omega)]
 omega
def hsK (l : List Int) (a h : Int) : List (List B) := [[.t (.im (.sl 1 (rowsB l))), .t (.im (.int .i64 a)), .t (.im (.int .i64 h))]]
abbrev SK (l : List Int) := { q : Int × Int // 0 ≤ q.1 ∧ q.1 ≤ l.length }
structure AKn where
 l : List Int
 len : l.length ≤ 1048576
 by_ : ∀ b ∈ l, 0 ≤ b ∧ b < 256
 a : Int
 h : Int
 a0 : 0 ≤ a
 a1 : a ≤ l.length
theorem zGg {l m : List Int} {a b h k : Int} (e : hsK l a h = hsK m b k) : l = m ∧ a = b ∧ h = k := by
 simp only [hsK, List.cons.injEq, B.t.injEq, T.im.injEq, I.sl.injEq, I.int.injEq, true_and, and_true] at e
 exact ⟨rowsB_inj e.1, e.2⟩
theorem zGh {x y : AKn} (h : x.l = y.l ∧ x.a = y.a ∧ x.h = y.h) : x = y := by
 obtain ⟨l, _, _, a, h1, _, _⟩ := x
 obtain ⟨m, _, _, b, k, _, _⟩ := y
 obtain ⟨rfl, rfl, rfl⟩ := h
 rfl
theorem okK {v : D} {l : List Int} {a h : Int} {n : Nat} (hv : OkD false 0 v) : OkR false { val := v, places := hsK l a h } := by
 refine ⟨hv, by simp, fun c hc x hx => ?_⟩
 simp only [hsK, List.mem_cons, List.not_mem_nil, or_false] at hc
 subst hc
 simp only [List.mem_cons, List.not_mem_nil, or_false] at hx
 rcases hx with rfl | rfl | rfl <;> exact .t _ (.im _ (.inl rfl))
theorem okDi {i : I} : OkD false 0 (.c (.im i)) := .c _ (.im _ (.inl rfl))
abbrev QByte (l : List Int) := { q : Int × SK l // 0 ≤ q.1 ∧ q.1 < 256 }
def oByte (l : List Int) : Outs := .any (QByte l) (fun q => { val := .c (.im (.int .i64 q.1.1)), places := hsK l q.1.2.1.1 q.1.2.1.2 })
noncomputable def ct_l01Byte : Ct := fam false (fun x : AKn => ([.c (.ptr 0 0 0 0)], hsK x.l x.a x.h)) (fun x => oByte x.l)
theorem zFi {l : List Int} {a h : Int} (h1 : l.length ≤ 1048576) (h2 : ∀ b ∈ l, 0 ≤ b ∧ b < 256) (h3 : 0 ≤ a) (h4 : a ≤ l.length) : ct_l01Byte.run [.c (.ptr 0 0 0 0)] [[.t (.im (.sl 1 (rowsB l))), .t (.im (.int .i64 a)), .t (.im (.int .i64 h))]] = some (oByte l) := by
 refine zAd (args := fun x : AKn => ([D.c (.ptr 0 0 0 0)], hsK x.l x.a x.h)) (fun x y h => ?_) ⟨l, h1, h2, a, h, h3, h4⟩
 simp only [Prod.mk.injEq, true_and] at h
 exact zGh (zGg h)
theorem ne_byte (l : List Int) : Nonempty (QByte l) = True := by simp only [eq_iff_iff, iff_true]; exact ⟨⟨(0, ⟨(0, 0), by simp⟩), by simp⟩⟩
set_option maxRecDepth 100000 in
set_option maxHeartbeats 4000000 in
theorem law_l01Byte : Law Tryz.prog 190 ct_l01Byte := by
 refine zAf zAe hmixA Tryz.func190 rfl rfl (fun ⟨l, h1, h2, a, h, h3, h4⟩ => ⟨okA (fun o => okK (n := 0) okDi), by simp [Tryz.f190], ?_⟩)
 simp only [oByte, hsK]
 have ha0 : (0 ≤ a) = True := eq_true h3
 obtain ⟨X1, hX1⟩ : ∃ x, IntKind.i64.wrap (h * 6364136223846793005) = x := ⟨_, rfl⟩
 obtain ⟨X2, hX2⟩ : ∃ x, IntKind.i64.wrap (X1 + 1442695040888963407) = x := ⟨_, rfl⟩
 obtain ⟨Y1, hY1⟩ : ∃ x, X2.fdiv (2 ^ min (Int.toNat 33) 64) = x := ⟨_, rfl⟩
 obtain ⟨Y2, hY2⟩ : ∃ x, X2.fdiv (2 ^ min (Int.toNat 45) 64) = x := ⟨_, rfl⟩
 obtain ⟨Z, hZ⟩ : ∃ x, bitsI .xor .i64 Y1 Y2 = x := ⟨_, rfl⟩
 obtain ⟨z1, z2⟩ := and255 Z
 by_cases hlt : a < l.length
 · have hI : (a < (l.length : Int)) = True := eq_true hlt
   obtain ⟨b, hb⟩ : ∃ b, l[a.toNat]? = some b := ⟨_, List.getElem?_eq_getElem (by omega)⟩
   have hrow := rowsB_at hb
   obtain ⟨r1, r2⟩ := h2 b (List.mem_of_getElem? hb)
   have hw : IntKind.i64.wrap b = b := zAi (by omega) (by omega)
   obtain ⟨V, hV⟩ : ∃ x, bitsI .and .i64 Z 255 = x := ⟨_, rfl⟩
   obtain ⟨U, hU⟩ : ∃ x, IntKind.i64.wrap (V + b) = x := ⟨_, rfl⟩
   obtain ⟨u1, u2⟩ := and255 U
   have hw1 : IntKind.i64.wrap (a + 1) = a + 1 := zAi (by omega) (by omega)
   try simp -dsimp (maxSteps := 1000000) only [go_sem, List.forall_mem_nil, ↓reduceIte, Nat.reduceEqDiff, Nat.reduceLT, Nat.reduceLeDiff, Nat.reduceAdd, Nat.reduceMul, reduceCtorEq, Tryz.f190, hX1, hX2, hY1, hY2, hZ, hV, hU, zAl, ha0, hI, hrow, hw, hw1, Int.reduceLT, Int.reduceLE]
   repeat' (first
     | ((with_reducible refine sl_i ?_ ?_); focus kernel_rfl)
     | ((with_reducible refine ro_i ?_ ?_); focus kernel_rfl))
   exact ⟨⟨(_, ⟨(a + 1, X2), by omega⟩), u1, u2⟩, rfl, rfl⟩
 · have hI : (a < (l.length : Int)) = False := eq_false hlt
   try simp -dsimp (maxSteps := 1000000) only [go_sem, List.forall_mem_nil, ↓reduceIte, Nat.reduceEqDiff, Nat.reduceLT, Nat.reduceLeDiff, Nat.reduceAdd, Nat.reduceMul, reduceCtorEq, Tryz.f190, hX1, hX2, hY1, hY2, hZ, zAl, ha0, hI, Int.reduceLT, Int.reduceLE]
   repeat' (first
     | ((with_reducible refine sl_i ?_ ?_); focus kernel_rfl)
     | ((with_reducible refine ro_i ?_ ?_); focus kernel_rfl))
   exact ⟨⟨(_, ⟨(a, X2), by omega⟩), z1, z2⟩, rfl, rfl⟩
theorem ne_int : Nonempty Int = True := by simp only [eq_iff_iff, iff_true]; exact ⟨0⟩
structure ABw where
 l : List Int
 len : l.length ≤ 1048576
 by_ : ∀ b ∈ l, 0 ≤ b ∧ b < 256
def oKNew (l : List Int) : Outs := .any Int (fun h => { val := .c (.ptr 0 0 0 0), roots := [.box [.t (.im (.sl 1 (rowsB l))), .t (.im (.int .i64 0)), .t (.im (.int .i64 h))]] })
noncomputable def ct_l01New : Ct := fam false (fun x : ABw => ([.c (.im (.sl 1 (rowsB x.l)))], [])) (fun x => oKNew x.l)
theorem ABw_ext {x y : ABw} (h : x.l = y.l) : x = y := by
 obtain ⟨l, _, _⟩ := x
 obtain ⟨m, _, _⟩ := y
 obtain rfl := h
 rfl
theorem run_l01New {l : List Int} (h1 : l.length ≤ 1048576) (h2 : ∀ b ∈ l, 0 ≤ b ∧ b < 256) : ct_l01New.run [.c (.im (.sl 1 (rowsB l)))] [] = some (oKNew l) := by
 refine zAd (args := fun x : ABw => ([D.c (.im (.sl 1 (rowsB x.l)))], [])) (fun x y h => ?_) ⟨l, h1, h2⟩
 simp only [Prod.mk.injEq, List.cons.injEq, D.c.injEq, C.im.injEq, I.sl.injEq, true_and, and_true] at h
 exact ABw_ext (rowsB_inj h)
theorem okKNew {l : List Int} {h : Int} : OkR false { val := .c (.ptr 0 0 0 0), roots := [.box [.t (.im (.sl 1 (rowsB l))), .t (.im (.int .i64 0)), .t (.im (.int .i64 h))]] } := by
 refine ⟨.c _ (.ptr _ _ _ _ (by simp)), fun r hr => ?_, by simp⟩
 simp only [List.mem_cons, List.not_mem_nil, or_false] at hr
 subst hr
 intro x hx
 simp only [List.mem_cons, List.not_mem_nil, or_false] at hx
 rcases hx with rfl | rfl | rfl <;> exact .t _ (.im _ (.inl rfl))
set_option maxRecDepth 100000 in
set_option maxHeartbeats 4000000 in
theorem law_l01New : Law Tryz.prog 55 ct_l01New := by
 refine zAf zAe hmixA Tryz.func55 rfl rfl (fun ⟨l, h1, h2⟩ => ⟨okA (fun o => okKNew), by simp [Tryz.f55], ?_⟩)
 simp only [oKNew]
 obtain ⟨H, hH⟩ : ∃ x, IntKind.i64.wrap (3223 + (l.length : Int)) = x := ⟨_, rfl⟩
 try simp -dsimp (maxSteps := 1000000) only [go_sem, List.forall_mem_nil, ↓reduceIte, Nat.reduceEqDiff, Nat.reduceLT, Nat.reduceLeDiff, Nat.reduceAdd, Nat.reduceMul, reduceCtorEq, Tryz.f55, zAl, hH]
 refine zBh (ι := { k : Nat // k ≤ l.length } × Int) (fun x => ⟨[(0, some (.c (.im (.sl 1 (rowsB l))))), (3, some (.c (.im (.int .i64 x.2)))), (4, some (.c (.im (.int .i64 (x.1.1 : Int)))))], [], 0⟩) (fun x => l.length - x.1.1) (⟨0, by simp⟩, H) ⟨[], [], by ((simp only [go_sem, eq_self, MvRb, MvRn, MvRt, List.nodup_cons, List.nodup_nil, ↓reduceIte, Nat.reduceEqDiff, Nat.reduceLT, Nat.reduceLeDiff, reduceCtorEq, List.forall_mem_nil, Nat.zero_le, false_implies, List.mem_singleton]) <;> (try (simp -dsimp only [go_sem, eq_self, MvRb, MvRn, MvRt, List.nodup_cons, List.nodup_nil, ↓reduceIte, Nat.reduceEqDiff, Nat.reduceLT, Nat.reduceLeDiff, reduceCtorEq, List.forall_mem_nil, Nat.zero_le, false_implies, List.mem_singleton]))) <;> simp⟩ (fun ⟨⟨k, hk⟩, h⟩ => ?_)
 simp only
 by_cases hlt : k < l.length
 · have hI : ((k : Int) < (l.length : Int)) = True := eq_true (by omega)
   by_cases h4 : k < 4000
   · have h4' : ((k : Int) < 4000) = True := eq_true (by omega)
     obtain ⟨b, hb⟩ : ∃ b, l[k]? = some b := ⟨_, List.getElem?_eq_getElem (by omega)⟩
     have hrow := rowsB_at hb
     have h0 : (0 ≤ (k : Int)) = True := by simp
     have hwr : IntKind.i64.wrap ((k : Int) + 1) = (k : Int) + 1 := zAi (by omega) (by omega)
     obtain ⟨U, hU⟩ : ∃ x, IntKind.i64.wrap (h * 1103) = x := ⟨_, rfl⟩
     obtain ⟨U2, hU2⟩ : ∃ x, IntKind.i64.wrap (U + IntKind.i64.wrap b) = x := ⟨_, rfl⟩
     obtain ⟨U3, hU3⟩ : ∃ x, IntKind.i64.wrap (U2 + 7) = x := ⟨_, rfl⟩
     obtain ⟨U4, hU4⟩ : ∃ x, bitsI .and .i64 U3 1073741823 = x := ⟨_, rfl⟩
     try simp -dsimp (maxSteps := 1000000) only [go_sem, List.forall_mem_nil, ↓reduceIte, Nat.reduceEqDiff, Nat.reduceLT, Nat.reduceLeDiff, Nat.reduceAdd, Nat.reduceMul, reduceCtorEq, Tryz.f55, zAl, hI, h4', hrow, h0, hwr, hU, hU2, hU3, hU4, Int.toNat_natCast]
     exact ⟨(⟨k + 1, by omega⟩, U4), by simp only []; omega, [], [], by ((simp only [go_sem, eq_self, MvRb, MvRn, MvRt, List.nodup_cons, List.nodup_nil, ↓reduceIte, Nat.reduceEqDiff, Nat.reduceLT, Nat.reduceLeDiff, reduceCtorEq, List.forall_mem_nil, Nat.zero_le, false_implies, List.mem_singleton]) <;> (try (simp -dsimp only [go_sem, eq_self, MvRb, MvRn, MvRt, List.nodup_cons, List.nodup_nil, ↓reduceIte, Nat.reduceEqDiff, Nat.reduceLT, Nat.reduceLeDiff, reduceCtorEq, List.forall_mem_nil, Nat.zero_le, false_implies, List.mem_singleton]))) <;> simp⟩
   · have h4' : ((k : Int) < 4000) = False := eq_false (by omega)
     try simp -dsimp (maxSteps := 1000000) only [go_sem, List.forall_mem_nil, ↓reduceIte, Nat.reduceEqDiff, Nat.reduceLT, Nat.reduceLeDiff, Nat.reduceAdd, Nat.reduceMul, reduceCtorEq, Tryz.f55, zAl, hI, h4']
     exact ⟨h, [0], by simp, by simp, by simp [rtOk], rfl⟩
 · have hI : ((k : Int) < (l.length : Int)) = False := eq_false (by omega)
   try simp -dsimp (maxSteps := 1000000) only [go_sem, List.forall_mem_nil, ↓reduceIte, Nat.reduceEqDiff, Nat.reduceLT, Nat.reduceLeDiff, Nat.reduceAdd, Nat.reduceMul, reduceCtorEq, Tryz.f55, zAl, hI]
   exact ⟨h, [0], by simp, by simp, by simp [rtOk], rfl⟩
abbrev QBelow (l : List Int) (n : Int) := { q : Int × SK l // 0 ≤ q.1 ∧ q.1 < n }
def oBelow (l : List Int) (n : Int) : Outs := .any (QBelow l n) (fun q => { val := .c (.im (.int .i64 q.1.1)), places := hsK l q.1.2.1.1 q.1.2.1.2 })
abbrev NB := { n : Int // 1 ≤ n ∧ n ≤ 2147483648 }
noncomputable def zFp : Ct := fam false (fun x : AKn × NB => ([.c (.ptr 0 0 0 0), .c (.im (.int .i64 x.2.1))], hsK x.1.l x.1.a x.1.h)) (fun x => oBelow x.1.l x.2.1)
theorem zAy {l : List Int} {a h n : Int} (h1 : l.length ≤ 1048576) (h2 : ∀ b ∈ l, 0 ≤ b ∧ b < 256) (h3 : 0 ≤ a) (h4 : a ≤ l.length) (h5 : 1 ≤ n) (h6 : n ≤ 2147483648) : zFp.run [.c (.ptr 0 0 0 0), .c (.im (.int .i64 n))] [[.t (.im (.sl 1 (rowsB l))), .t (.im (.int .i64 a)), .t (.im (.int .i64 h))]] = some (oBelow l n) := by
 refine zAd (args := fun x : AKn × NB => ([D.c (.ptr 0 0 0 0), .c (.im (.int .i64 x.2.1))], hsK x.1.l x.1.a x.1.h)) (fun x y h => ?_) (⟨l, h1, h2, a, h, h3, h4⟩, ⟨n, h5, h6⟩)
 simp only [Prod.mk.injEq, List.cons.injEq, D.c.injEq, C.im.injEq, I.int.injEq, true_and, and_true] at h
 exact Prod.ext (zGh (zGg h.2)) (Subtype.ext h.1)
theorem zBd (l : List Int) {n : Int} (h : 1 ≤ n) : Nonempty (QBelow l n) = True := by simp only [eq_iff_iff, iff_true]; exact ⟨⟨(0, ⟨(0, 0), by simp⟩), by simp only []; omega⟩⟩
set_option maxRecDepth 100000 in
set_option maxHeartbeats 4000000 in
theorem zCi : Law Tryz.prog 114 zFp := by
 refine zAf (zAc law_l01Byte zAe) hmixA Tryz.func114 rfl rfl (fun ⟨⟨l, h1, h2, a, h, h3, h4⟩, ⟨n, n1, n2⟩⟩ => ⟨okA (fun o => okK (n := 0) okDi), by simp [Tryz.f114], ?_⟩)
 simp only [oBelow, hsK]
 have e0 : (n ≤ 0) = False := eq_false (by omega)
 have e00 : (n = 0) = False := eq_false (by omega)
 by_cases hn : n ≤ 256
 · have e1 : (n ≤ 256) = True := eq_true hn
   try simp -dsimp (maxSteps := 1000000) only [go_sem, List.forall_mem_nil, ↓reduceIte, Nat.reduceEqDiff, Nat.reduceLT, Nat.reduceLeDiff, Nat.reduceAdd, Nat.reduceMul, reduceCtorEq, Tryz.f114, e0, e1, e00, zFi h1 h2 h3 h4, oByte, hsK, ne_byte]
   rintro ⟨⟨v, ⟨⟨a1, k1⟩, b1⟩⟩, v1, v2⟩
   try simp -dsimp (maxSteps := 1000000) only [go_sem, List.forall_mem_nil, ↓reduceIte, Nat.reduceEqDiff, Nat.reduceLT, Nat.reduceLeDiff, Nat.reduceAdd, Nat.reduceMul, reduceCtorEq, Tryz.f114, e0, e1, e00, hsK]
   exact ⟨⟨(_, ⟨(a1, k1), b1⟩), Int.tmod_nonneg _ v1, Int.tmod_lt_of_pos _ (by omega)⟩, rfl, rfl⟩
 · have e1 : (n ≤ 256) = False := eq_false hn
   try simp -dsimp (maxSteps := 1000000) only [go_sem, List.forall_mem_nil, ↓reduceIte, Nat.reduceEqDiff, Nat.reduceLT, Nat.reduceLeDiff, Nat.reduceAdd, Nat.reduceMul, reduceCtorEq, Tryz.f114, e0, e1, e00, zFi h1 h2 h3 h4, oByte, hsK, ne_byte]
   rintro ⟨⟨x, ⟨⟨a1, k1⟩, b1⟩⟩, x1, x2⟩
   try simp -dsimp (maxSteps := 1000000) only [go_sem, List.forall_mem_nil, ↓reduceIte, Nat.reduceEqDiff, Nat.reduceLT, Nat.reduceLeDiff, Nat.reduceAdd, Nat.reduceMul, reduceCtorEq, Tryz.f114, e00, zFi h1 h2 b1.1 b1.2, oByte, hsK, ne_byte]
   rintro ⟨⟨y, ⟨⟨a2, k2⟩, b2⟩⟩, y1, y2⟩
   try simp -dsimp (maxSteps := 1000000) only [go_sem, List.forall_mem_nil, ↓reduceIte, Nat.reduceEqDiff, Nat.reduceLT, Nat.reduceLeDiff, Nat.reduceAdd, Nat.reduceMul, reduceCtorEq, Tryz.f114, e00, zFi h1 h2 b2.1 b2.2, oByte, hsK, ne_byte]
   rintro ⟨⟨z, ⟨⟨a3, k3⟩, b3⟩⟩, z1, z2⟩
   try simp -dsimp (maxSteps := 1000000) only [go_sem, List.forall_mem_nil, ↓reduceIte, Nat.reduceEqDiff, Nat.reduceLT, Nat.reduceLeDiff, Nat.reduceAdd, Nat.reduceMul, reduceCtorEq, Tryz.f114, e00, zFi h1 h2 b3.1 b3.2, oByte, hsK, ne_byte]
   rintro ⟨⟨w, ⟨⟨a4, k4⟩, b4⟩⟩, w1, w2⟩
   simp only at x1 x2 y1 y2 z1 z2 w1 w2 b4
   have q1 : IntKind.i64.wrap (x * 16777216) = x * 16777216 := zAi (by omega) (by omega)
   have q2 : IntKind.i64.wrap (y * 65536) = y * 65536 := zAi (by omega) (by omega)
   have q3 : IntKind.i64.wrap (z * 256) = z * 256 := zAi (by omega) (by omega)
   have q4 : IntKind.i64.wrap (x * 16777216 + y * 65536) = x * 16777216 + y * 65536 := zAi (by omega) (by omega)
   have q5 : IntKind.i64.wrap (x * 16777216 + y * 65536 + z * 256) = x * 16777216 + y * 65536 + z * 256 := zAi (by omega) (by omega)
   obtain ⟨s, hs⟩ : ∃ s, IntKind.i64.wrap (x * 16777216 + y * 65536 + z * 256 + w) = s := ⟨_, rfl⟩
   have s1 : 0 ≤ s := by rw [← hs, zAi (by omega) (by omega)]; omega
   try simp -dsimp (maxSteps := 1000000) only [go_sem, List.forall_mem_nil, ↓reduceIte, Nat.reduceEqDiff, Nat.reduceLT, Nat.reduceLeDiff, Nat.reduceAdd, Nat.reduceMul, reduceCtorEq, Tryz.f114, e00, hsK, q1, q2, q3, q4, q5, hs]
   exact ⟨⟨(_, ⟨(a4, k4), b4⟩), Int.tmod_nonneg _ s1, Int.tmod_lt_of_pos _ (by omega)⟩, rfl, rfl⟩
abbrev QSmall (l : List Int) := { q : (Int × Int) × SK l // -3 ≤ q.1.1 ∧ q.1.1 ≤ 3 ∧ -3 ≤ q.1.2 ∧ q.1.2 ≤ 3 }
def oSmall (l : List Int) : Outs := .any (QSmall l) (fun q => { val := .c (.im (.cpx .f32 (wI q.1.1.1) (wI q.1.1.2))), places := hsK l q.1.2.1.1 q.1.2.1.2 })
noncomputable def ct_l2Small : Ct := fam false (fun x : AKn => ([.c (.ptr 0 0 0 0)], hsK x.l x.a x.h)) (fun x => oSmall x.l)
theorem zGo {l : List Int} {a h : Int} (h1 : l.length ≤ 1048576) (h2 : ∀ b ∈ l, 0 ≤ b ∧ b < 256) (h3 : 0 ≤ a) (h4 : a ≤ l.length) : ct_l2Small.run [.c (.ptr 0 0 0 0)] [[.t (.im (.sl 1 (rowsB l))), .t (.im (.int .i64 a)), .t (.im (.int .i64 h))]] = some (oSmall l) := by
 refine zAd (args := fun x : AKn => ([D.c (.ptr 0 0 0 0)], hsK x.l x.a x.h)) (fun x y h => ?_) ⟨l, h1, h2, a, h, h3, h4⟩
 simp only [Prod.mk.injEq, true_and] at h
 exact zGh (zGg h)
theorem ne_small (l : List Int) : Nonempty (QSmall l) = True := by simp only [eq_iff_iff, iff_true]; exact ⟨⟨((0, 0), ⟨(0, 0), by simp⟩), by simp⟩⟩
set_option maxRecDepth 100000 in
set_option maxHeartbeats 4000000 in
theorem law_l2Small : Law Tryz.prog 58 ct_l2Small := by
 refine zAf (zAc zCi zAe) hmixA Tryz.func58 rfl rfl (fun ⟨l, h1, h2, a, h, h3, h4⟩ => ⟨okA (fun o => okK (n := 0) okDi), by simp [Tryz.f58], ?_⟩)
 simp only [oSmall, hsK]
 try simp -dsimp (maxSteps := 1000000) only [go_sem, List.forall_mem_nil, ↓reduceIte, Nat.reduceEqDiff, Nat.reduceLT, Nat.reduceLeDiff, Nat.reduceAdd, Nat.reduceMul, reduceCtorEq, Tryz.f58, zAy h1 h2 h3 h4 (n := 7) (by decide) (by decide), oBelow, hsK, zBd l (n := 7) (by decide)]
 rintro ⟨⟨u, ⟨⟨a1, k1⟩, b1⟩⟩, u1, u2⟩
 have hu : IntKind.i64.wrap (u - 3) = u - 3 := zAi (by simp only at u1; omega) (by simp only at u2; omega)
 try simp -dsimp (maxSteps := 1000000) only [go_sem, List.forall_mem_nil, ↓reduceIte, Nat.reduceEqDiff, Nat.reduceLT, Nat.reduceLeDiff, Nat.reduceAdd, Nat.reduceMul, reduceCtorEq, Tryz.f58, hu, zAy h1 h2 b1.1 b1.2 (n := 7) (by decide) (by decide), oBelow, hsK, zBd l (n := 7) (by decide)]
 rintro ⟨⟨v, ⟨⟨a2, k2⟩, b2⟩⟩, v1, v2⟩
 have hv : IntKind.i64.wrap (v - 3) = v - 3 := zAi (by simp only at v1; omega) (by simp only at v2; omega)
 try simp -dsimp (maxSteps := 1000000) only [go_sem, List.forall_mem_nil, ↓reduceIte, Nat.reduceEqDiff, Nat.reduceLT, Nat.reduceLeDiff, Nat.reduceAdd, Nat.reduceMul, reduceCtorEq, Tryz.f58, hu, hv, hsK]
 exact ⟨⟨((u - 3, v - 3), ⟨(a2, k2), b2⟩), by simp only at u1 u2 v1 v2 ⊢; omega⟩, rfl, rfl, rfl⟩
end Go.SX
namespace Go.SX
open Go Go.Proofs
def oOnce (l : List Int) : Outs := .any (Bool × SK l) (fun q => { val := .c (.im (.bool q.1)), places := hsK l q.2.1.1 q.2.1.2 })
noncomputable def ct_l01Once : Ct := fam false (fun x : AKn × NB => ([.c (.ptr 0 0 0 0), .c (.im (.int .i64 x.2.1))], hsK x.1.l x.1.a x.1.h)) (fun x => oOnce x.1.l)
theorem zGp {l : List Int} {a h n : Int} (h1 : l.length ≤ 1048576) (h2 : ∀ b ∈ l, 0 ≤ b ∧ b < 256) (h3 : 0 ≤ a) (h4 : a ≤ l.length) (h5 : 1 ≤ n) (h6 : n ≤ 2147483648) : ct_l01Once.run [.c (.ptr 0 0 0 0), .c (.im (.int .i64 n))] [[.t (.im (.sl 1 (rowsB l))), .t (.im (.int .i64 a)), .t (.im (.int .i64 h))]] = some (oOnce l) := by
 refine zAd (args := fun x : AKn × NB => ([D.c (.ptr 0 0 0 0), .c (.im (.int .i64 x.2.1))], hsK x.1.l x.1.a x.1.h)) (fun x y h => ?_) (⟨l, h1, h2, a, h, h3, h4⟩, ⟨n, h5, h6⟩)
 simp only [Prod.mk.injEq, List.cons.injEq, D.c.injEq, C.im.injEq, I.int.injEq, true_and, and_true] at h
 exact Prod.ext (zGh (zGg h.2)) (Subtype.ext h.1)
theorem ne_once (l : List Int) : Nonempty (Bool × SK l) = True := by simp only [eq_iff_iff, iff_true]; exact ⟨(true, ⟨(0, 0), by simp⟩)⟩
set_option maxRecDepth 100000 in
set_option maxHeartbeats 4000000 in
theorem law_l01Once : Law Tryz.prog 134 ct_l01Once := by
 refine zAf (zAc zCi zAe) hmixA Tryz.func134 rfl rfl (fun ⟨⟨l, h1, h2, a, h, h3, h4⟩, ⟨n, n1, n2⟩⟩ => ⟨okA (fun o => okK (n := 0) okDi), by simp [Tryz.f134], ?_⟩)
 simp only [oOnce, hsK]
 try simp -dsimp (maxSteps := 1000000) only [go_sem, List.forall_mem_nil, ↓reduceIte, Nat.reduceEqDiff, Nat.reduceLT, Nat.reduceLeDiff, Nat.reduceAdd, Nat.reduceMul, reduceCtorEq, Tryz.f134, zAy h1 h2 h3 h4 n1 n2, oBelow, hsK, zBd l n1]
 rintro ⟨⟨v, ⟨⟨a1, k1⟩, b1⟩⟩, v1, v2⟩
 try simp -dsimp (maxSteps := 1000000) only [go_sem, List.forall_mem_nil, ↓reduceIte, Nat.reduceEqDiff, Nat.reduceLT, Nat.reduceLeDiff, Nat.reduceAdd, Nat.reduceMul, reduceCtorEq, Tryz.f134, hsK]
 all_goals exact ⟨(_, ⟨(a1, k1), b1⟩), rfl, rfl⟩
def oInt (l m : List Int) : Outs := .any ({ x : Int // x ∈ m } × SK l) (fun q => { val := .c (.im (.int .i64 q.1.1)), places := hsK l q.2.1.1 q.2.1.2 })
abbrev LN := { l : List Int // 1 ≤ l.length ∧ l.length ≤ 1000 }
noncomputable def ct_l01Int : Ct := fam false (fun x : AKn × LN => ([.c (.ptr 0 0 0 0), .c (.im (.sl 1 (rowsN x.2.1)))], hsK x.1.l x.1.a x.1.h)) (fun x => oInt x.1.l x.2.1)
theorem run_l01Int {l : List Int} {a h : Int} {m : List Int} (h1 : l.length ≤ 1048576) (h2 : ∀ b ∈ l, 0 ≤ b ∧ b < 256) (h3 : 0 ≤ a) (h4 : a ≤ l.length) (h5 : 1 ≤ m.length) (h6 : m.length ≤ 1000) : ct_l01Int.run [.c (.ptr 0 0 0 0), .c (.im (.sl 1 (rowsN m)))] [[.t (.im (.sl 1 (rowsB l))), .t (.im (.int .i64 a)), .t (.im (.int .i64 h))]] = some (oInt l m) := by
 refine zAd (args := fun x : AKn × LN => ([D.c (.ptr 0 0 0 0), .c (.im (.sl 1 (rowsN x.2.1)))], hsK x.1.l x.1.a x.1.h)) (fun x y h => ?_) (⟨l, h1, h2, a, h, h3, h4⟩, ⟨m, h5, h6⟩)
 simp only [Prod.mk.injEq, List.cons.injEq, D.c.injEq, C.im.injEq, I.sl.injEq, true_and, and_true] at h
 exact Prod.ext (zGh (zGg h.2)) (Subtype.ext (rowsN_inj h.1))
theorem sc_l01Int : (ct_l01Int.sc = true) = False := by simp [ct_l01Int, fam]
theorem ne_oint (l : List Int) {m : List Int} (h : 1 ≤ m.length) : Nonempty ({ x : Int // x ∈ m } × SK l) = True := by
 simp only [eq_iff_iff, iff_true]
 obtain ⟨x, hx⟩ := List.exists_mem_of_length_pos (show 0 < m.length by omega)
 exact ⟨(⟨x, hx⟩, ⟨(0, 0), by simp⟩)⟩
set_option maxRecDepth 100000 in
set_option maxHeartbeats 4000000 in
theorem law_l01Int : Law Tryz.prog 137 ct_l01Int := by
 refine zAf (zAc zCi zAe) hmixA Tryz.func137 rfl rfl (fun ⟨⟨l, h1, h2, a, h, h3, h4⟩, ⟨m, n1, n2⟩⟩ => ⟨okA (fun o => okK (n := 0) okDi), by simp [Tryz.f137], ?_⟩)
 simp only [oInt, hsK]
 try simp -dsimp (maxSteps := 1000000) only [go_sem, List.forall_mem_nil, ↓reduceIte, Nat.reduceEqDiff, Nat.reduceLT, Nat.reduceLeDiff, Nat.reduceAdd, Nat.reduceMul, reduceCtorEq, Tryz.f137, zAb, zAy h1 h2 h3 h4 (n := (m.length : Int)) (by omega) (by omega), oBelow, hsK, zBd l (n := (m.length : Int)) (by omega)]
 rintro ⟨⟨v, ⟨⟨a1, k1⟩, b1⟩⟩, v1, v2⟩
 obtain ⟨V, rfl⟩ := Int.eq_ofNat_of_zero_le v1
 simp only at v2
 have hV : V < m.length := by omega
 obtain ⟨x, hx⟩ : ∃ x, m[V]? = some x := ⟨_, List.getElem?_eq_getElem hV⟩
 have hrow := zGs hx
 have q1 : (0 ≤ (V : Int)) = True := by simp
 have q2 : ((V : Int) < (m.length : Int)) = True := eq_true (by omega)
 try simp -dsimp (maxSteps := 1000000) only [go_sem, List.forall_mem_nil, ↓reduceIte, Nat.reduceEqDiff, Nat.reduceLT, Nat.reduceLeDiff, Nat.reduceAdd, Nat.reduceMul, reduceCtorEq, Tryz.f137, zAb, hrow, q1, q2, hsK, Int.toNat_natCast]
 exact ⟨(⟨x, List.mem_of_getElem? hx⟩, ⟨(a1, k1), b1⟩), rfl, rfl⟩
end Go.SX
namespace Go.SX
open Go Go.Proofs
theorem MvR_Z (l : List Pt) : MvR false (.arr 1 (tI (rowsZ l))) = True := eq_true (sc_false _ _)
abbrev QFresh := { l : List Int // l.length ≤ 601 ∧ ∀ b ∈ l, 0 ≤ b ∧ b < 256 }
def oFresh : Outs := .any QFresh (fun q => rNew 1 (rowsB q.1))
abbrev ABs := ABw × { s : Int // 0 ≤ s ∧ s ≤ 1000 }
noncomputable def ct_fresh : Ct := fam true (fun x : ABs => ([.c (.im (.sl 1 (rowsB x.1.l))), .c (.im (.int .i64 x.2.1))], [])) (fun _ => oFresh)
theorem run_fresh {l : List Int} (h1 : l.length ≤ 1048576) (h2 : ∀ b ∈ l, 0 ≤ b ∧ b < 256) {s : Int} (h3 : 0 ≤ s) (h4 : s ≤ 1000) : ct_fresh.run [.c (.im (.sl 1 (rowsB l))), .c (.im (.int .i64 s))] [] = some oFresh := by
 refine zAd (args := fun x : ABs => ([D.c (.im (.sl 1 (rowsB x.1.l))), .c (.im (.int .i64 x.2.1))], [])) (fun x y h => ?_) (⟨l, h1, h2⟩, ⟨s, h3, h4⟩)
 simp only [Prod.mk.injEq, List.cons.injEq, D.c.injEq, C.im.injEq, I.sl.injEq, I.int.injEq, true_and, and_true] at h
 exact Prod.ext (ABw_ext (rowsB_inj h.1)) (Subtype.ext h.2)
theorem zDf : Nonempty QFresh = True := by simp only [eq_iff_iff, iff_true]; exact ⟨⟨[], by simp⟩⟩
theorem sc_rowsB (l : List Int) : ∀ r ∈ rowsB l, ∀ i ∈ r, scI i = true := by
 intro r hr i hi
 simp only [rowsB, List.mem_map] at hr
 obtain ⟨p, _, rfl⟩ := hr
 simp at hi; subst hi; rfl
theorem MvR_B (l : List Int) : MvR false (.arr 1 (tI (rowsB l))) = True := eq_true (sc_false _ _)
theorem tIB_app (l : List Int) (x : Int) : tI (rowsB l) ++ [[T.im (.int .u8 x)]] = tI (rowsB (l ++ [x])) := by simp [tI, rowsB]
theorem u8_rng (x : Int) : 0 ≤ IntKind.u8.wrap x ∧ IntKind.u8.wrap x < 256 := by
 show 0 ≤ x % 256 ∧ x % 256 < 256
 omega
set_option maxRecDepth 100000 in
set_option maxHeartbeats 4000000 in
theorem law_fresh : Law Tryz.prog 17 ct_fresh := by
 refine zAf zAe hmixA Tryz.func17 rfl rfl (fun ⟨⟨l, h1, h2⟩, ⟨s, s1, s2⟩⟩ => ⟨okA (fun o => okR_new (sc_rowsB _)), by simp [Tryz.f17], ?_⟩)
 simp only [oFresh, rNew]
 obtain ⟨e, he⟩ : ∃ e, IntKind.u8.wrap s = e := ⟨_, rfl⟩
 have her := u8_rng s
 rw [he] at her
 try simp -dsimp (maxSteps := 1000000) only [go_sem, List.forall_mem_nil, ↓reduceIte, Nat.reduceEqDiff, Nat.reduceLT, Nat.reduceLeDiff, Nat.reduceAdd, Nat.reduceMul, reduceCtorEq, Tryz.f17, he]
 refine zBh (ι := { x : List Int × Nat // x.1.length = x.2 + 1 ∧ x.2 ≤ 600 ∧ x.2 ≤ l.length ∧ ∀ b ∈ x.1, 0 ≤ b ∧ b < 256 }) (fun x => ⟨[(0, some (.c (.im (.sl 1 (rowsB l))))), (1, some (.c (.im (.int .i64 s)))), (5, some (.c (.view 0 1 0 x.1.1.length))), (6, some (.c (.im (.int .i64 (x.1.2 : Int)))))],
   [(0, some (.arr 1 (tI (rowsB x.1.1))))], 1⟩) (fun x => l.length - x.1.2) ⟨([e], 0), by simp; exact her⟩ ⟨[], [0], by ((simp only [go_sem, eq_self, MvRb, MvRn, MvRt, List.nodup_cons, List.nodup_nil, ↓reduceIte, Nat.reduceEqDiff, Nat.reduceLT, Nat.reduceLeDiff, reduceCtorEq, List.forall_mem_nil, Nat.zero_le, false_implies, List.mem_singleton, MvR_B]) <;> (try (simp -dsimp only [go_sem, eq_self, MvRb, MvRn, MvRt, List.nodup_cons, List.nodup_nil, ↓reduceIte, Nat.reduceEqDiff, Nat.reduceLT, Nat.reduceLeDiff, reduceCtorEq, List.forall_mem_nil, Nat.zero_le, false_implies, List.mem_singleton, MvR_B]))) <;> simp [lk, rowsB, tI]⟩ (fun ⟨⟨out, k⟩, hz, hk6, hkl, hin⟩ => ?_)
 simp only at hz hk6 hkl hin ⊢
 by_cases hlt : k < l.length
 rotate_left
 · have hI : ((k : Int) < (l.length : Int)) = False := eq_false (by omega)
   try simp -dsimp (maxSteps := 1000000) only [go_sem, List.forall_mem_nil, ↓reduceIte, Nat.reduceEqDiff, Nat.reduceLT, Nat.reduceLeDiff, Nat.reduceAdd, Nat.reduceMul, reduceCtorEq, Tryz.f17, zAl, hI]
   exact ⟨⟨out, by omega, hin⟩, [0], by simp, by simp, by simp [rtOk], rfl⟩
 have hI : ((k : Int) < (l.length : Int)) = True := eq_true (by omega)
 by_cases h6 : k < 600
 rotate_left
 · have hJ : ((k : Int) < 600) = False := eq_false (by omega)
   try simp -dsimp (maxSteps := 1000000) only [go_sem, List.forall_mem_nil, ↓reduceIte, Nat.reduceEqDiff, Nat.reduceLT, Nat.reduceLeDiff, Nat.reduceAdd, Nat.reduceMul, reduceCtorEq, Tryz.f17, zAl, hI, hJ]
   exact ⟨⟨out, by omega, hin⟩, [0], by simp, by simp, by simp [rtOk], rfl⟩
 have hJ : ((k : Int) < 600) = True := eq_true (by omega)
 obtain ⟨b, hb⟩ : ∃ b, l[k]? = some b := ⟨_, List.getElem?_eq_getElem (by omega)⟩
 have hrow := rowsB_at hb
 have h0 : (0 ≤ (k : Int)) = True := by simp
 have h7 : ((7 : Int) = 0) = False := by simp
 have hwr : IntKind.i64.wrap ((k : Int) + 1) = (k : Int) + 1 := zAi (by omega) (by omega)
 obtain ⟨U1, hU1⟩ : ∃ x, IntKind.i64.wrap (IntKind.i64.wrap b * 3) = x := ⟨_, rfl⟩
 obtain ⟨U2, hU2⟩ : ∃ x, IntKind.i64.wrap ((k : Int).tmod 7 + 1) = x := ⟨_, rfl⟩
 obtain ⟨U3, hU3⟩ : ∃ x, IntKind.i64.wrap (s * U2) = x := ⟨_, rfl⟩
 obtain ⟨U4, hU4⟩ : ∃ x, IntKind.i64.wrap (U1 + U3) = x := ⟨_, rfl⟩
 obtain ⟨U5, hU5⟩ : ∃ x, IntKind.u8.wrap U4 = x := ⟨_, rfl⟩
 have hur := u8_rng U4
 rw [hU5] at hur
 have hby : ((out.length + 1) * 1 ≤ 140737488355328) = True := bytes_sm (by have : sm = 16777216 := rfl; omega) (by decide)
 try simp -dsimp (maxSteps := 1000000) only [go_sem, List.forall_mem_nil, ↓reduceIte, Nat.reduceEqDiff, Nat.reduceLT, Nat.reduceLeDiff, Nat.reduceAdd, Nat.reduceMul, reduceCtorEq, Tryz.f17, zAl, hI, hJ, hrow, h0, h7, hwr, hU1, hU2, hU3, hU4, hU5, hby, tIB_app, zAg, appendH, srcRows, List.take_succ_cons, List.take_zero, List.all_cons, List.all_nil, okT, Bool.and_true, List.length_append, Int.toNat_natCast]
 refine ⟨⟨(out ++ [U5], k + 1), by simp; omega, by simp only []; omega, by simp only []; omega, fun p hp => ?_⟩, by simp only []; omega, [], [2], by ((simp only [go_sem, eq_self, MvRb, MvRn, MvRt, List.nodup_cons, List.nodup_nil, ↓reduceIte, Nat.reduceEqDiff, Nat.reduceLT, Nat.reduceLeDiff, reduceCtorEq, List.forall_mem_nil, Nat.zero_le, false_implies, List.mem_singleton, MvR_B]) <;> (try (simp -dsimp only [go_sem, eq_self, MvRb, MvRn, MvRt, List.nodup_cons, List.nodup_nil, ↓reduceIte, Nat.reduceEqDiff, Nat.reduceLT, Nat.reduceLeDiff, reduceCtorEq, List.forall_mem_nil, Nat.zero_le, false_implies, List.mem_singleton, MvR_B]))) <;> simp [lk]⟩
 rcases List.mem_append.1 hp with hp | hp
 · exact hin p hp
 · simp at hp; subst hp; exact hur
end Go.SX
namespace Go.SX
open Go Go.Proofs
noncomputable def ct_l1In : Ct := fam true (fun x : Int × Int × Int => ([.c (.im (.int .i64 x.1)), .c (.im (.int .i64 x.2.1)), .c (.im (.int .i64 x.2.2))], [])) (fun x => .one { val := .c (.im (.bool (decide (x.2.1 ≤ x.1) && decide (x.1 ≤ x.2.2)))) })
theorem zBm (k a b : Int) : ct_l1In.run [.c (.im (.int .i64 k)), .c (.im (.int .i64 a)), .c (.im (.int .i64 b))] [] = some (.one { val := .c (.im (.bool (decide (a ≤ k) && decide (k ≤ b)))) }) := zAd (args := fun x : Int × Int × Int => ([D.c (.im (.int .i64 x.1)), .c (.im (.int .i64 x.2.1)), .c (.im (.int .i64 x.2.2))], [])) (by
   intro a b h
   simp only [Prod.mk.injEq, List.cons.injEq, D.c.injEq, D.agg.injEq, C.im.injEq, I.cpx.injEq, I.flt.injEq, I.int.injEq, I.sl.injEq, I.bool.injEq, I.str.injEq, Int.natCast_inj, true_and, and_true] at h
   (try simp only [Prod.ext_iff, Subtype.ext_iff])
   (try simp only [zAs, zAw] at h)
   simp_all) (k, a, b)
set_option maxRecDepth 100000 in
theorem law_l1In : Law Tryz.prog 59 ct_l1In := by
 refine zAf zAe hmixA Tryz.func59 rfl rfl (fun ⟨k, a, b⟩ => ⟨zAv rfl, by simp [Tryz.f59], ?_⟩)
 simp only
 by_cases h1 : a ≤ k
 · have h1' := eq_true h1
   by_cases h2 : k ≤ b
   · have h2' := eq_true h2
     clear h1 h2
     try simp -dsimp (maxSteps := 1000000) only [go_sem, List.forall_mem_nil, ↓reduceIte, Nat.reduceEqDiff, Nat.reduceLT, Nat.reduceLeDiff, Nat.reduceAdd, Nat.reduceMul, reduceCtorEq, Tryz.f59, h1', h2', Bool.and_true]
   · have h2' := eq_false h2
     clear h1 h2
     try simp -dsimp (maxSteps := 1000000) only [go_sem, List.forall_mem_nil, ↓reduceIte, Nat.reduceEqDiff, Nat.reduceLT, Nat.reduceLeDiff, Nat.reduceAdd, Nat.reduceMul, reduceCtorEq, Tryz.f59, h1', h2', Bool.and_false]
 · have h1' := eq_false h1
   clear h1
   try simp -dsimp (maxSteps := 1000000) only [go_sem, List.forall_mem_nil, ↓reduceIte, Nat.reduceEqDiff, Nat.reduceLT, Nat.reduceLeDiff, Nat.reduceAdd, Nat.reduceMul, reduceCtorEq, Tryz.f59, h1', Bool.false_and]
abbrev KR := { k : Int // -4294967296 ≤ k ∧ k ≤ 4294967296 }
def pick5 : List Int := [0, 8388608, -8388608, 1065353216, 2139095019]
theorem pick5_rng {x : Int} (h : x ∈ pick5) : -8388608 ≤ x ∧ x ≤ 2139095019 := by
 simp only [pick5, List.mem_cons, List.not_mem_nil, or_false] at h
 omega
end Go.SX
namespace Go.SX
open Go Go.Proofs
def finS (x : Nat) : Bool := fcmp .eql .f32 (fop .sub .f32 x x) 0
noncomputable def ct_l1Finite : Ct := fam true (fun x : Nat => ([.c (.im (.flt .f32 x))], [])) (fun x => .one { val := .c (.im (.bool (finS x))) })
theorem zCu (x : Nat) : ct_l1Finite.run [.c (.im (.flt .f32 x))] [] = some (.one { val := .c (.im (.bool (finS x))) }) := zAd (by
   intro a b h
   simp only [Prod.mk.injEq, List.cons.injEq, D.c.injEq, D.agg.injEq, C.im.injEq, I.cpx.injEq, I.flt.injEq, I.int.injEq, I.sl.injEq, I.bool.injEq, I.str.injEq, Int.natCast_inj, true_and, and_true] at h
   (try simp only [Prod.ext_iff, Subtype.ext_iff])
   (try simp only [zAs, zAw] at h)
   simp_all) x
set_option maxRecDepth 100000 in
theorem law_l1Finite : Law Tryz.prog 131 ct_l1Finite := by
 refine zAf zAe hmixA Tryz.func131 rfl rfl (fun x => ⟨zAv rfl, by simp [Tryz.f131], ?_⟩)
 simp only [finS]
 try simp -dsimp (maxSteps := 1000000) only [go_sem, List.forall_mem_nil, ↓reduceIte, Nat.reduceEqDiff, Nat.reduceLT, Nat.reduceLeDiff, Nat.reduceAdd, Nat.reduceMul, reduceCtorEq, Tryz.f131]
noncomputable def ct_l2Finite : Ct := fam true (fun x : Pt => ([.c (.im (.cpx .f32 x.1 x.2))], [])) (fun x => .one { val := .c (.im (.bool (finS x.1 && finS x.2))) })
theorem run_l2Finite (x y : Nat) : ct_l2Finite.run [.c (.im (.cpx .f32 x y))] [] = some (.one { val := .c (.im (.bool (finS x && finS y))) }) := zAd (by
   intro a b h
   simp only [Prod.mk.injEq, List.cons.injEq, D.c.injEq, D.agg.injEq, C.im.injEq, I.cpx.injEq, I.flt.injEq, I.int.injEq, I.sl.injEq, I.bool.injEq, I.str.injEq, Int.natCast_inj, true_and, and_true] at h
   (try simp only [Prod.ext_iff, Subtype.ext_iff])
   (try simp only [zAs, zAw] at h)
   simp_all) (x, y)
set_option maxRecDepth 100000 in
theorem law_l2Finite : Law Tryz.prog 130 ct_l2Finite := by
 refine zAf (zAc law_l1Finite zAe) hmixA Tryz.func130 rfl rfl (fun x => ⟨zAv rfl, by simp [Tryz.f130], ?_⟩)
 try simp -dsimp (maxSteps := 1000000) only [go_sem, List.forall_mem_nil, ↓reduceIte, Nat.reduceEqDiff, Nat.reduceLT, Nat.reduceLeDiff, Nat.reduceAdd, Nat.reduceMul, reduceCtorEq, Tryz.f130, zCu]
 repeat' ((first | (with_reducible refine gS_d ?_ ?_) | (with_reducible refine gS_dn ?_ ?_) | (with_reducible refine gS_i ?_ ?_)) <;> intro hg <;> (try simp -dsimp (maxSteps := 1000000) only [go_sem, List.forall_mem_nil, ↓reduceIte, Nat.reduceEqDiff, Nat.reduceLT, Nat.reduceLeDiff, Nat.reduceAdd, Nat.reduceMul, reduceCtorEq, Tryz.f130, zCu, *]))
 all_goals simp_all
set_option maxRecDepth 100000 in
theorem law_sMul : Law Tryz.prog 195 zEg := by
 refine zAf zAe hmixA Tryz.func195 rfl rfl (fun x => ⟨okA (fun o => okR_im rfl), by simp [Tryz.f195], ?_⟩)
 simp only [oMul, mulPt, mulRe, mulIm]
 try simp -dsimp (maxSteps := 1000000) only [go_sem, List.forall_mem_nil, ↓reduceIte, Nat.reduceEqDiff, Nat.reduceLT, Nat.reduceLeDiff, Nat.reduceAdd, Nat.reduceMul, reduceCtorEq, Tryz.f195, fconv_w, cK_narrow]
 exact fun a b => ⟨(a, b), rfl, rfl⟩
set_option maxRecDepth 100000 in
theorem law_sDist : Law Tryz.prog 278 zHa := by
 refine zAf zAe hmixA Tryz.func278 rfl rfl (fun x => ⟨zAv rfl, by simp [Tryz.f278], ?_⟩)
 simp only [distF]
 try simp -dsimp (maxSteps := 1000000) only [go_sem, List.forall_mem_nil, ↓reduceIte, Nat.reduceEqDiff, Nat.reduceLT, Nat.reduceLeDiff, Nat.reduceAdd, Nat.reduceMul, reduceCtorEq, Tryz.f278]
def absS (x : Nat) : Nat := if fcmp .lss .f32 x 0 = true then Op.negFloat .f32 x else if fcmp .eql .f32 x 0 = true then 0 else x
noncomputable def ct_l1Abs : Ct := fam true (fun x : Nat => ([.c (.im (.flt .f32 x))], [])) (fun x => .one { val := .c (.im (.flt .f32 (absS x))) })
theorem zFh (x : Nat) : ct_l1Abs.run [.c (.im (.flt .f32 x))] [] = some (.one { val := .c (.im (.flt .f32 (absS x))) }) := zAd (by
   intro a b h
   simp only [Prod.mk.injEq, List.cons.injEq, D.c.injEq, D.agg.injEq, C.im.injEq, I.cpx.injEq, I.flt.injEq, I.int.injEq, I.sl.injEq, I.bool.injEq, I.str.injEq, Int.natCast_inj, true_and, and_true] at h
   (try simp only [Prod.ext_iff, Subtype.ext_iff])
   (try simp only [zAs, zAw] at h)
   simp_all) x
set_option maxRecDepth 100000 in
theorem law_l1Abs : Law Tryz.prog 132 ct_l1Abs := by
 refine zAf zAe hmixA Tryz.func132 rfl rfl (fun x => ⟨zAv rfl, by simp [Tryz.f132], ?_⟩)
 simp only [absS]
 cases h : fcmp .lss .f32 x 0 with
 | true =>
   try simp -dsimp (maxSteps := 1000000) only [go_sem, List.forall_mem_nil, ↓reduceIte, Nat.reduceEqDiff, Nat.reduceLT, Nat.reduceLeDiff, Nat.reduceAdd, Nat.reduceMul, reduceCtorEq, Tryz.f132, h]
 | false =>
   cases h2 : fcmp .eql .f32 x 0 with
   | true =>
     try simp -dsimp (maxSteps := 1000000) only [go_sem, List.forall_mem_nil, ↓reduceIte, Nat.reduceEqDiff, Nat.reduceLT, Nat.reduceLeDiff, Nat.reduceAdd, Nat.reduceMul, reduceCtorEq, Tryz.f132, h, h2]
   | false =>
     try simp -dsimp (maxSteps := 1000000) only [go_sem, List.forall_mem_nil, ↓reduceIte, Nat.reduceEqDiff, Nat.reduceLT, Nat.reduceLeDiff, Nat.reduceAdd, Nat.reduceMul, reduceCtorEq, Tryz.f132, h, h2]
theorem fcmp_neq (k : FloatKind) (x y : Nat) : fcmp .neq k x y = !(fcmp .eql k x y) := rfl
def subnS (x : Nat) : Bool := !(fcmp .eql .f32 x 0) && fcmp .lss .f64 (w64 (absS x)) 4039728865751334912
def flushS (x : Nat) : Nat := if subnS x = true then fop .mul .f32 x 0 else x
noncomputable def ct_sSubn : Ct := fam true (fun x : Nat => ([.c (.im (.flt .f32 x))], [])) (fun x => .one { val := .c (.im (.bool (subnS x))) })
theorem run_sSubn (x : Nat) : ct_sSubn.run [.c (.im (.flt .f32 x))] [] = some (.one { val := .c (.im (.bool (subnS x))) }) := zAd (by
   intro a b h
   simp only [Prod.mk.injEq, List.cons.injEq, D.c.injEq, D.agg.injEq, C.im.injEq, I.cpx.injEq, I.flt.injEq, I.int.injEq, I.sl.injEq, I.bool.injEq, I.str.injEq, Int.natCast_inj, true_and, and_true] at h
   (try simp only [Prod.ext_iff, Subtype.ext_iff])
   (try simp only [zAs, zAw] at h)
   simp_all) x
set_option maxRecDepth 100000 in
theorem law_sSubn : Law Tryz.prog 248 ct_sSubn := by
 refine zAf (zAc law_l1Abs zAe) hmixA Tryz.func248 rfl rfl (fun x => ⟨zAv rfl, by simp [Tryz.f248], ?_⟩)
 simp only [subnS]
 cases h : fcmp .eql .f32 x 0 with
 | true =>
   have h' : fcmp .neq .f32 x 0 = false := by rw [fcmp_neq, h]; rfl
   try simp -dsimp (maxSteps := 1000000) only [go_sem, List.forall_mem_nil, ↓reduceIte, Nat.reduceEqDiff, Nat.reduceLT, Nat.reduceLeDiff, Nat.reduceAdd, Nat.reduceMul, reduceCtorEq, Tryz.f248, h, h']
   try simp [h]
 | false =>
   have h' : fcmp .neq .f32 x 0 = true := by rw [fcmp_neq, h]; rfl
   try simp -dsimp (maxSteps := 1000000) only [go_sem, List.forall_mem_nil, ↓reduceIte, Nat.reduceEqDiff, Nat.reduceLT, Nat.reduceLeDiff, Nat.reduceAdd, Nat.reduceMul, reduceCtorEq, Tryz.f248, h, h', zFh, fconv_w]
   try simp [h]
noncomputable def ct_sFlush : Ct := fam true (fun x : Nat => ([.c (.im (.flt .f32 x))], [])) (fun x => .one { val := .c (.im (.flt .f32 (flushS x))) })
theorem run_sFlush (x : Nat) : ct_sFlush.run [.c (.im (.flt .f32 x))] [] = some (.one { val := .c (.im (.flt .f32 (flushS x))) }) := zAd (by
   intro a b h
   simp only [Prod.mk.injEq, List.cons.injEq, D.c.injEq, D.agg.injEq, C.im.injEq, I.cpx.injEq, I.flt.injEq, I.int.injEq, I.sl.injEq, I.bool.injEq, I.str.injEq, Int.natCast_inj, true_and, and_true] at h
   (try simp only [Prod.ext_iff, Subtype.ext_iff])
   (try simp only [zAs, zAw] at h)
   simp_all) x
set_option maxRecDepth 100000 in
theorem law_sFlush : Law Tryz.prog 196 ct_sFlush := by
 refine zAf (zAc law_sSubn zAe) hmixA Tryz.func196 rfl rfl (fun x => ⟨zAv rfl, by simp [Tryz.f196], ?_⟩)
 simp only [flushS]
 cases h : subnS x with
 | true =>
   try simp -dsimp (maxSteps := 1000000) only [go_sem, List.forall_mem_nil, ↓reduceIte, Nat.reduceEqDiff, Nat.reduceLT, Nat.reduceLeDiff, Nat.reduceAdd, Nat.reduceMul, reduceCtorEq, Tryz.f196, run_sSubn, h]
 | false =>
   try simp -dsimp (maxSteps := 1000000) only [go_sem, List.forall_mem_nil, ↓reduceIte, Nat.reduceEqDiff, Nat.reduceLT, Nat.reduceLeDiff, Nat.reduceAdd, Nat.reduceMul, reduceCtorEq, Tryz.f196, run_sSubn, h]
def rM (m : Mod) : Res := { val := .agg (modC m) }
theorem okR_M {m : Mod} : OkR false (rM m) := by
 refine ⟨.agg _ (fun x hx => ?_), by simp [rM], by simp [rM]⟩
 simp only [modC, List.mem_cons, List.not_mem_nil, or_false] at hx
 rcases hx with rfl | rfl | rfl | rfl | rfl | rfl | rfl | rfl | rfl | rfl | rfl <;> exact .im _ (.inl rfl)
def mSum' : Mod := ⟨5, (0, 0), (0, 0), 0, [], 0, 0, [], [], 0, 0⟩
def mSrc' (t s : Pt) : Mod := ⟨1, t, s, 0, [], 0, 0, [], [], 0, 0⟩
def mMix' (t : Pt) : Mod := ⟨2, t, (1065353216, 0), 0, [], 0, 0, [], [], 0, 0⟩
def mGain' (l : Nat) : Mod := ⟨3, (0, 0), (0, 0), l, [], 0, 0, [], [], 0, 0⟩
def mMeter' : Mod := ⟨7, (0, 0), (0, 0), 0, [], 0, 0, [], [], 0, 0⟩
noncomputable def ct_sSum : Ct := fam false (fun _ : Unit => ([], [])) (fun _ => .one (rM mSum'))
theorem run_sSum : ct_sSum.run [] [] = some (.one (rM mSum')) := zAd (args := fun _ : Unit => ([], [])) (fun _ _ _ => rfl) ()
set_option maxRecDepth 100000 in
theorem law_sSum : Law Tryz.prog 35 ct_sSum := by
 refine zBl zAe hmixA Tryz.func35 rfl rfl (fun _ => ⟨okO okR_M, by simp [Tryz.f35], ?_⟩)
 simp only [mSum', rM, modC, zAk, zAo]
 try simp -dsimp (maxSteps := 1000000) only [go_sem, List.forall_mem_nil, ↓reduceIte, Nat.reduceEqDiff, Nat.reduceLT, Nat.reduceLeDiff, Nat.reduceAdd, Nat.reduceMul, reduceCtorEq, Tryz.f35]
 refine zAj [.nilI 1 [.b 0 0 4, .b 0 0 7, .b 0 0 8]] ?_
 simp -dsimp (maxSteps := 1000000) only [go_sem, List.forall_mem_nil, ↓reduceIte, Nat.reduceEqDiff, Nat.reduceLT, Nat.reduceLeDiff, Nat.reduceAdd, Nat.reduceMul, reduceCtorEq]
noncomputable def ct_sMeter : Ct := fam false (fun _ : Unit => ([], [])) (fun _ => .one (rM mMeter'))
theorem run_sMeter : ct_sMeter.run [] [] = some (.one (rM mMeter')) := zAd (args := fun _ : Unit => ([], [])) (fun _ _ _ => rfl) ()
set_option maxRecDepth 100000 in
theorem law_sMeter : Law Tryz.prog 121 ct_sMeter := by
 refine zBl zAe hmixA Tryz.func121 rfl rfl (fun _ => ⟨okO okR_M, by simp [Tryz.f121], ?_⟩)
 simp only [mMeter', rM, modC, zAk, zAo]
 try simp -dsimp (maxSteps := 1000000) only [go_sem, List.forall_mem_nil, ↓reduceIte, Nat.reduceEqDiff, Nat.reduceLT, Nat.reduceLeDiff, Nat.reduceAdd, Nat.reduceMul, reduceCtorEq, Tryz.f121]
 refine zAj [.nilI 1 [.b 0 0 4, .b 0 0 7, .b 0 0 8]] ?_
 simp -dsimp (maxSteps := 1000000) only [go_sem, List.forall_mem_nil, ↓reduceIte, Nat.reduceEqDiff, Nat.reduceLT, Nat.reduceLeDiff, Nat.reduceAdd, Nat.reduceMul, reduceCtorEq]
noncomputable def ct_sSource : Ct := fam false (fun x : Pt × Pt => ([.c (.im (.cpx .f32 x.1.1 x.1.2)), .c (.im (.cpx .f32 x.2.1 x.2.2))], [])) (fun x => .one (rM (mSrc' x.1 x.2)))
theorem run_sSource (a b c d : Nat) : ct_sSource.run [.c (.im (.cpx .f32 a b)), .c (.im (.cpx .f32 c d))] [] = some (.one (rM (mSrc' (a, b) (c, d)))) := zAd (by
   intro a b h
   simp only [Prod.mk.injEq, List.cons.injEq, D.c.injEq, D.agg.injEq, C.im.injEq, I.cpx.injEq, I.flt.injEq, I.int.injEq, I.sl.injEq, I.bool.injEq, I.str.injEq, Int.natCast_inj, true_and, and_true] at h
   (try simp only [Prod.ext_iff, Subtype.ext_iff])
   (try simp only [zAs, zAw] at h)
   simp_all) ((a, b), (c, d))
set_option maxRecDepth 100000 in
theorem law_sSource : Law Tryz.prog 87 ct_sSource := by
 refine zBl zAe hmixA Tryz.func87 rfl rfl (fun x => ⟨okO okR_M, by simp [Tryz.f87], ?_⟩)
 simp only [mSrc', rM, modC, zAk, zAo]
 try simp -dsimp (maxSteps := 1000000) only [go_sem, List.forall_mem_nil, ↓reduceIte, Nat.reduceEqDiff, Nat.reduceLT, Nat.reduceLeDiff, Nat.reduceAdd, Nat.reduceMul, reduceCtorEq, Tryz.f87]
 refine zAj [.nilI 1 [.b 0 0 4, .b 0 0 7, .b 0 0 8]] ?_
 simp -dsimp (maxSteps := 1000000) only [go_sem, List.forall_mem_nil, ↓reduceIte, Nat.reduceEqDiff, Nat.reduceLT, Nat.reduceLeDiff, Nat.reduceAdd, Nat.reduceMul, reduceCtorEq]
noncomputable def ct_sMixer : Ct := fam false (fun x : Pt => ([.c (.im (.cpx .f32 x.1 x.2))], [])) (fun x => .one (rM (mMix' x)))
theorem run_sMixer (a b : Nat) : ct_sMixer.run [.c (.im (.cpx .f32 a b))] [] = some (.one (rM (mMix' (a, b)))) := zAd (by
   intro a b h
   simp only [Prod.mk.injEq, List.cons.injEq, D.c.injEq, D.agg.injEq, C.im.injEq, I.cpx.injEq, I.flt.injEq, I.int.injEq, I.sl.injEq, I.bool.injEq, I.str.injEq, Int.natCast_inj, true_and, and_true] at h
   (try simp only [Prod.ext_iff, Subtype.ext_iff])
   (try simp only [zAs, zAw] at h)
   simp_all) (a, b)
set_option maxRecDepth 100000 in
theorem law_sMixer : Law Tryz.prog 116 ct_sMixer := by
 refine zBl zAe hmixA Tryz.func116 rfl rfl (fun x => ⟨okO okR_M, by simp [Tryz.f116], ?_⟩)
 simp only [mMix', rM, modC, zAk, zAo]
 try simp -dsimp (maxSteps := 1000000) only [go_sem, List.forall_mem_nil, ↓reduceIte, Nat.reduceEqDiff, Nat.reduceLT, Nat.reduceLeDiff, Nat.reduceAdd, Nat.reduceMul, reduceCtorEq, Tryz.f116]
 refine zAj [.nilI 1 [.b 0 0 4, .b 0 0 7, .b 0 0 8]] ?_
 simp -dsimp (maxSteps := 1000000) only [go_sem, List.forall_mem_nil, ↓reduceIte, Nat.reduceEqDiff, Nat.reduceLT, Nat.reduceLeDiff, Nat.reduceAdd, Nat.reduceMul, reduceCtorEq]
noncomputable def ct_sGain : Ct := fam false (fun x : Nat => ([.c (.im (.flt .f32 x))], [])) (fun x => .one (rM (mGain' x)))
theorem run_sGain (a : Nat) : ct_sGain.run [.c (.im (.flt .f32 a))] [] = some (.one (rM (mGain' a))) := zAd (by
   intro a b h
   simp only [Prod.mk.injEq, List.cons.injEq, D.c.injEq, D.agg.injEq, C.im.injEq, I.cpx.injEq, I.flt.injEq, I.int.injEq, I.sl.injEq, I.bool.injEq, I.str.injEq, Int.natCast_inj, true_and, and_true] at h
   (try simp only [Prod.ext_iff, Subtype.ext_iff])
   (try simp only [zAs, zAw] at h)
   simp_all) a
set_option maxRecDepth 100000 in
theorem law_sGain : Law Tryz.prog 117 ct_sGain := by
 refine zBl zAe hmixA Tryz.func117 rfl rfl (fun x => ⟨okO okR_M, by simp [Tryz.f117], ?_⟩)
 simp only [mGain', rM, modC, zAk, zAo]
 try simp -dsimp (maxSteps := 1000000) only [go_sem, List.forall_mem_nil, ↓reduceIte, Nat.reduceEqDiff, Nat.reduceLT, Nat.reduceLeDiff, Nat.reduceAdd, Nat.reduceMul, reduceCtorEq, Tryz.f117]
 refine zAj [.nilI 1 [.b 0 0 4, .b 0 0 7, .b 0 0 8]] ?_
 simp -dsimp (maxSteps := 1000000) only [go_sem, List.forall_mem_nil, ↓reduceIte, Nat.reduceEqDiff, Nat.reduceLT, Nat.reduceLeDiff, Nat.reduceAdd, Nat.reduceMul, reduceCtorEq]
end Go.SX
namespace Go.SX
open Go Ieee
def nanT : Txt := [110, 97, 110]
def infT : Txt := [105, 110, 102]
def ninfT : Txt := [45, 105, 110, 102]
def sglT (w : Nat) : Txt := if 2139095040 < w % 2147483648 then nanT else if w % 2147483648 = 2139095040 then (if 2147483648 ≤ w then ninfT else infT) else fmtT w
def cW (w : Nat) : Nat := if 2139095040 < w % 2147483648 then qn .f32 else w
noncomputable def sglP (s : Txt) : Nat × Bool := if s = nanT then (qn .f32, true) else if s = infT then (2139095040, true) else if s = ninfT then (4286578688, true) else match prsT s with
 | some w => (w, true)
 | none => (0, false)
theorem fmtT_first {w : Nat} (h : Fin32 w) : ∃ c t, fmtT w = c :: t ∧ (isDig c ∨ (c = 45 ∧ ∃ d t', t = d :: t' ∧ isDig d)) := by
 unfold fmtT
 obtain ⟨c, t, e, hd⟩ := magT_head h.fin
 rw [e]
 unfold sgnT
 split
 · exact ⟨45, c :: t, rfl, .inr ⟨rfl, c, t, rfl, hd⟩⟩
 · exact ⟨c, t, rfl, .inl hd⟩
theorem fmtT_special {w : Nat} (h : Fin32 w) : fmtT w ≠ nanT ∧ fmtT w ≠ infT ∧ fmtT w ≠ ninfT := by
 obtain ⟨c, t, e, hd⟩ := fmtT_first h
 rw [e]
 refine ⟨fun h => ?_, fun h => ?_, fun h => ?_⟩
 · unfold nanT at h; injection h with h1 h2; subst h1
   rcases hd with hd | ⟨hd, _⟩
   · unfold isDig at hd; revert hd; decide
   · revert hd; decide
 · unfold infT at h; injection h with h1 h2; subst h1
   rcases hd with hd | ⟨hd, _⟩
   · unfold isDig at hd; revert hd; decide
   · revert hd; decide
 · unfold ninfT at h; injection h with h1 h2; subst h1 h2
   rcases hd with hd | ⟨_, d, t', h3, hd⟩
   · unfold isDig at hd; revert hd; decide
   · injection h3 with h3 _; subst h3; unfold isDig at hd; revert hd; decide
theorem sglP_T {w : Nat} (h : w < 4294967296) : sglP (sglT w) = (cW w, true) := by
 unfold sglT cW
 by_cases h1 : 2139095040 < w % 2147483648
 · rw [if_pos h1, if_pos h1]; simp [sglP]
 · rw [if_neg h1, if_neg h1]
   by_cases h2 : w % 2147483648 = 2139095040
   · rw [if_pos h2]
     by_cases h3 : 2147483648 ≤ w
     · rw [if_pos h3]
       have : w = 4286578688 := by omega
       subst this
       simp [sglP, ninfT, nanT, infT]
     · rw [if_neg h3]
       have : w = 2139095040 := by omega
       subst this
       simp [sglP, nanT, infT]
   · rw [if_neg h2]
     have hf : Fin32 w := ⟨h, by omega⟩
     obtain ⟨a, b, c⟩ := fmtT_special hf
     simp only [sglP, if_neg a, if_neg b, if_neg c, prsT_fmt hf]
theorem sglT_no {w : Nat} {c : UInt8} (h1 : c ≠ 45) (h2 : ¬ isDig c) (h3 : c ≠ 112) (h4 : c ∉ nanT) (h5 : c ∉ infT) : c ∉ sglT w := by
 unfold sglT
 split
 · exact h4
 · split
   · split
     · intro h
       simp only [ninfT, List.mem_cons] at h
       rcases h with h | h
       · exact h1 h
       · exact h5 (by simpa [infT] using h)
     · exact h5
   · exact fmtT_no h1 h2 h3
theorem sglT_noS (w : Nat) : (32 : UInt8) ∉ sglT w := sglT_no (by decide) (by unfold isDig; decide) (by decide) (by decide) (by decide)
def sourceT : Txt := [115, 111, 117, 114, 99, 101]
def mixerT : Txt := [109, 105, 120, 101, 114]
def gainT : Txt := [103, 97, 105, 110]
def delayT : Txt := [100, 101, 108, 97, 121]
def sumT : Txt := [115, 117, 109]
def slicerT : Txt := [115, 108, 105, 99, 101, 114]
def meterT : Txt := [109, 101, 116, 101, 114]
def holdT : Txt := [104, 111, 108, 100]
def ptW (p : Pt) : List Txt := [sglT p.1, sglT p.2]
def ptsW (l : List Pt) : List Txt := l.flatMap ptW
def tabW : List Pt → List Int → List Txt
 | p :: ps, n :: ns => sglT p.1 :: sglT p.2 :: Lib.itoa n :: tabW ps ns
 | _, _ => []
def nameT (k : Int) : Txt := if k = 1 then sourceT else if k = 2 then mixerT else if k = 3 then gainT else if k = 4 then delayT else if k = 5 then sumT else if k = 6 then slicerT else if k = 7 then meterT else holdT
def restW (m : Mod) : List Txt :=
 if m.kind = 1 then ptW m.turn ++ ptW m.state
 else if m.kind = 2 then ptW m.turn ++ ptW m.state
 else if m.kind = 3 then [sglT m.level]
 else if m.kind = 4 then Lib.itoa m.rat :: ptsW m.store
 else if m.kind = 5 then []
 else if m.kind = 6 then Lib.itoa m.count :: tabW m.pts m.lab
 else if m.kind = 7 then [sglT m.level]
 else Lib.itoa m.count :: Lib.itoa m.left :: ptW m.state
def behind (ws : List Txt) : Txt := ws.flatMap fun p => 32 :: p
def fmtM (m : Mod) : Txt := if isModuleF m then nameT m.kind ++ behind (restW m) else []
theorem joinT_cons (c : UInt8) : ∀ (p : Txt) (q : List Txt), joinT c (p :: q) = p ++ q.flatMap (fun x => c :: x)
 | p, [] => by simp [joinT]
 | p, q :: r => by
   simp only [joinT, joinT_cons c q r, List.flatMap_cons, List.cons_append]
theorem fmtM_join {m : Mod} (h : isModuleF m = true) : fmtM m = joinT 32 (nameT m.kind :: restW m) := by
 rw [joinT_cons, fmtM, if_pos h]; rfl
theorem nameT_noS (k : Int) : (32 : UInt8) ∉ nameT k := by
 unfold nameT
 repeat' split
 all_goals decide
theorem tabW_no {c : UInt8} (h1 : ∀ w, c ∉ sglT w) (h2 : ∀ n, c ∉ Lib.itoa n) : ∀ (ps : List Pt) (ns : List Int), ∀ p ∈ tabW ps ns, c ∉ p
 | [], _, p, h => by simp [tabW] at h
 | _ :: _, [], p, h => by simp [tabW] at h
 | x :: ps, n :: ns, p, h => by
   simp only [tabW, List.mem_cons] at h
   rcases h with rfl | rfl | rfl | h
   · exact h1 _
   · exact h1 _
   · exact h2 _
   · exact tabW_no h1 h2 ps ns p h
theorem ptsW_no {c : UInt8} (h1 : ∀ w, c ∉ sglT w) (l : List Pt) : ∀ p ∈ ptsW l, c ∉ p := fun p h => by
 simp only [ptsW, ptW, List.mem_flatMap, List.mem_cons, List.not_mem_nil, or_false] at h
 obtain ⟨x, _, rfl | rfl⟩ := h <;> exact h1 _
theorem restW_no {c : UInt8} (h1 : ∀ w, c ∉ sglT w) (h2 : ∀ n, c ∉ Lib.itoa n) (m : Mod) : ∀ p ∈ restW m, c ∉ p := fun p h => by
 have hp : ∀ q, p ∈ ptW q → c ∉ p := fun q h => by
   simp only [ptW, List.mem_cons, List.not_mem_nil, or_false] at h
   rcases h with rfl | rfl <;> exact h1 _
 unfold restW at h
 split at h
 · rcases List.mem_append.1 h with h | h <;> exact hp _ h
 split at h
 · rcases List.mem_append.1 h with h | h <;> exact hp _ h
 split at h
 · simp only [List.mem_singleton] at h; subst h; exact h1 _
 split at h
 · rcases List.mem_cons.1 h with rfl | h
   · exact h2 _
   · exact ptsW_no h1 _ p h
 split at h
 · cases h
 split at h
 · rcases List.mem_cons.1 h with rfl | h
   · exact h2 _
   · exact tabW_no h1 h2 _ _ p h
 split at h
 · simp only [List.mem_singleton] at h; subst h; exact h1 _
 · rcases List.mem_cons.1 h with rfl | h
   · exact h2 _
   rcases List.mem_cons.1 h with rfl | h
   · exact h2 _
   · exact hp _ h
theorem splT_fmtM {m : Mod} (h : isModuleF m = true) : splT 32 (fmtM m) = nameT m.kind :: restW m := by
 rw [fmtM_join h]
 refine splT_join (by simp) fun p hp => ?_
 rcases List.mem_cons.1 hp with rfl | hp
 · exact nameT_noS _
 · exact restW_no sglT_noS itoa_noS m p hp
noncomputable def rdS (ps : List Txt) (bad : Bool) : Nat × List Txt × Bool := match ps with
 | [] => (0, [], true)
 | p :: t => ((sglP p).1, t, bad || !(sglP p).2)
def rdI (ps : List Txt) (bad : Bool) : Int × List Txt × Bool := match ps with
 | [] => (0, [], true)
 | p :: t => ((numF p).1, t, bad || !(numF p).2)
noncomputable def rdP (ps : List Txt) (bad : Bool) : Pt × List Txt × Bool :=
 (((rdS ps bad).1, (rdS (rdS ps bad).2.1 (rdS ps bad).2.2).1), (rdS (rdS ps bad).2.1 (rdS ps bad).2.2).2)
theorem rdS_len (ps : List Txt) (bad : Bool) : (rdS ps bad).2.1.length = ps.length - 1 := by cases ps <;> simp [rdS]
theorem zGu (ps : List Txt) (bad : Bool) : (rdI ps bad).2.1.length = ps.length - 1 := by cases ps <;> simp [rdI]
theorem zGe (ps : List Txt) (bad : Bool) : (rdP ps bad).2.1.length = ps.length - 2 := by simp only [rdP, rdS_len]; omega
noncomputable def dlyP (ps : List Txt) (bad : Bool) : List Pt × List Txt × Bool :=
 if h : ps ≠ [] ∧ bad = false then ((rdP ps bad).1 :: (dlyP (rdP ps bad).2.1 (rdP ps bad).2.2).1, (dlyP (rdP ps bad).2.1 (rdP ps bad).2.2).2) else ([], ps, bad)
termination_by ps.length
decreasing_by all_goals (rw [zGe]; have : 0 < ps.length := List.length_pos_iff.2 h.1; omega)
noncomputable def slcP (ps : List Txt) (bad : Bool) : List Pt × List Int × List Txt × Bool :=
 if h : ps ≠ [] ∧ bad = false then
   ((rdP ps bad).1 :: (slcP (rdI (rdP ps bad).2.1 (rdP ps bad).2.2).2.1 (rdI (rdP ps bad).2.1 (rdP ps bad).2.2).2.2).1,
    (rdI (rdP ps bad).2.1 (rdP ps bad).2.2).1 :: (slcP (rdI (rdP ps bad).2.1 (rdP ps bad).2.2).2.1 (rdI (rdP ps bad).2.1 (rdP ps bad).2.2).2.2).2.1,
    (slcP (rdI (rdP ps bad).2.1 (rdP ps bad).2.2).2.1 (rdI (rdP ps bad).2.1 (rdP ps bad).2.2).2.2).2.2)
 else ([], [], ps, bad)
termination_by ps.length
decreasing_by all_goals (rw [zGu, zGe]; have : 0 < ps.length := List.length_pos_iff.2 h.1; omega)
def kindT (w : Txt) : Int := if w = sourceT then 1 else if w = mixerT then 2 else if w = gainT then 3 else if w = delayT then 4 else if w = sumT then 5 else if w = slicerT then 6 else if w = meterT then 7 else if w = holdT then 8 else 0
def mod0 (k : Int) : Mod := ⟨k, (0, 0), (0, 0), 0, [], 0, 0, [], [], 0, 0⟩
noncomputable def readM (k : Int) (ps : List Txt) : Mod × List Txt × Bool :=
 if k = 1 ∨ k = 2 then ({ mod0 k with turn := (rdP ps false).1, state := (rdP (rdP ps false).2.1 (rdP ps false).2.2).1 }, (rdP (rdP ps false).2.1 (rdP ps false).2.2).2)
 else if k = 3 ∨ k = 7 then ({ mod0 k with level := (rdS ps false).1 }, (rdS ps false).2)
 else if k = 4 then ({ mod0 k with rat := (rdI ps false).1, store := (dlyP (rdI ps false).2.1 (rdI ps false).2.2).1, rcnt := ((dlyP (rdI ps false).2.1 (rdI ps false).2.2).1.length : Int) }, (dlyP (rdI ps false).2.1 (rdI ps false).2.2).2)
 else if k = 6 then ({ mod0 k with count := (rdI ps false).1, pts := (slcP (rdI ps false).2.1 (rdI ps false).2.2).1, lab := (slcP (rdI ps false).2.1 (rdI ps false).2.2).2.1 }, (slcP (rdI ps false).2.1 (rdI ps false).2.2).2.2)
 else if k = 8 then ({ mod0 k with count := (rdI ps false).1, left := (rdI (rdI ps false).2.1 (rdI ps false).2.2).1, state := (rdP (rdI (rdI ps false).2.1 (rdI ps false).2.2).2.1 (rdI (rdI ps false).2.1 (rdI ps false).2.2).2.2).1 },
   (rdP (rdI (rdI ps false).2.1 (rdI ps false).2.2).2.1 (rdI (rdI ps false).2.1 (rdI ps false).2.2).2.2).2)
 else (mod0 k, ps, false)
noncomputable def implM (s : Txt) : Option Mod := match splT 32 s with
 | [] => none
 | w :: ps => if (readM (kindT w) ps).2.2 = false ∧ (readM (kindT w) ps).2.1 = [] ∧ isModuleF (readM (kindT w) ps).1 = true ∧ fmtM (readM (kindT w) ps).1 = s then some (readM (kindT w) ps).1 else none
def cP (p : Pt) : Pt := (cW p.1, cW p.2)
def cM (m : Mod) : Mod := { m with turn := cP m.turn, state := cP m.state, level := cW m.level, store := m.store.map cP, pts := m.pts.map cP }
structure W32 (m : Mod) : Prop where
 turn : m.turn.1 < 4294967296 ∧ m.turn.2 < 4294967296
 state : m.state.1 < 4294967296 ∧ m.state.2 < 4294967296
 level : m.level < 4294967296
 store : ∀ p ∈ m.store, p.1 < 4294967296 ∧ p.2 < 4294967296
 pts : ∀ p ∈ m.pts, p.1 < 4294967296 ∧ p.2 < 4294967296
theorem rdS_T {w : Nat} (h : w < 4294967296) (t : List Txt) : rdS (sglT w :: t) false = (cW w, t, false) := by simp [rdS, sglP_T h]
theorem rdI_T {n : Int} (h : i64B n) (t : List Txt) : rdI (Lib.itoa n :: t) false = (n, t, false) := by simp [rdI, numF_itoa h.1 h.2]
theorem rdP_T {p : Pt} (h : p.1 < 4294967296 ∧ p.2 < 4294967296) (t : List Txt) : rdP (ptW p ++ t) false = (cP p, t, false) := by
 simp [rdP, ptW, rdS_T h.1, rdS_T h.2, cP]
theorem dlyP_T : ∀ (l : List Pt), (∀ p ∈ l, p.1 < 4294967296 ∧ p.2 < 4294967296) → dlyP (ptsW l) false = (l.map cP, [], false)
 | [], _ => by unfold dlyP; simp [ptsW]
 | p :: l, h => by
   have ih := dlyP_T l (fun q hq => h q (List.mem_cons_of_mem _ hq))
   have e : ptsW (p :: l) = ptW p ++ ptsW l := by simp [ptsW]
   unfold dlyP
   rw [dif_pos ⟨by rw [e]; simp [ptW], rfl⟩, e, rdP_T (h p (by simp)), ih]
   simp
theorem slcP_T : ∀ (l : List Pt) (n : List Int), l.length = n.length → (∀ p ∈ l, p.1 < 4294967296 ∧ p.2 < 4294967296) → (∀ x ∈ n, i64B x) → slcP (tabW l n) false = (l.map cP, n, [], false)
 | [], [], _, _, _ => by unfold slcP; simp [tabW]
 | [], _ :: _, h, _, _ => by simp at h
 | _ :: _, [], h, _, _ => by simp at h
 | p :: l, x :: n, h, h1, h2 => by
   have ih := slcP_T l n (by simpa using h) (fun q hq => h1 q (List.mem_cons_of_mem _ hq)) (fun q hq => h2 q (List.mem_cons_of_mem _ hq))
   have e : tabW (p :: l) (x :: n) = ptW p ++ Lib.itoa x :: tabW l n := by simp [tabW, ptW]
   unfold slcP
   rw [dif_pos ⟨by rw [e]; simp [ptW], rfl⟩, e, rdP_T (h1 p (by simp))]
   simp only [rdI_T (h2 x (by simp)), ih]
   simp
end Go.SX
namespace Go.SX
open Go Ieee Go.Proofs
theorem signed_neg (s : Bool) (m k : Nat) : signed s m k + signed (!s) m k = 0 := by cases s <;> simp [signed] <;> omega
theorem finS_eq (x : Nat) : finS x = isFin x := by
 have e1 : single.binade = 8388608 := by decide
 have e2 : single.infRung = 2139095040 := by decide
 have e5 : single.signWeight = 2147483648 := by decide
 have hsub : fop .sub .f32 x x = ((((single.read x).sum (single.read x).opposite).map single.write)).getD (qn .f32) := rfl
 unfold finS isFin
 rw [hsub]
 have hq : fcmp .eql .f32 (qn .f32) 0 = false := by decide
 cases hr : single.read x with
 | nan s t =>
   have hn : isNaNb .f32 x = true := by show (single.read x).isNaN = true; rw [hr]; rfl
   have := nan_low hn
   have h2 : decide (x % 2147483648 ≤ 2139095039) = false := by simp; omega
   rw [h2]
   simpa [Datum.sum] using hq
 | infinity s =>
   have hx : x % 2147483648 = 2139095040 := by
     unfold Format.read at hr
     simp only [e1, e2, e5] at hr
     split at hr
     · cases hr
     · split at hr
       · cases hr
       · split at hr
         · assumption
         · cases hr
   have h2 : decide (x % 2147483648 ≤ 2139095039) = false := by simp; omega
   rw [h2]
   have h3 : (Datum.infinity s).sum (Datum.infinity s).opposite = none := by cases s <;> rfl
   rw [h3]
   simpa using hq
 | number s m e =>
   have hx : x % 2147483648 < 2139095040 := by
     unfold Format.read at hr
     simp only [e1, e2, e5] at hr
     split at hr
     · omega
     · split at hr
       · assumption
       · split at hr <;> cases hr
   have h2 : decide (x % 2147483648 ≤ 2139095039) = true := by simp; omega
   rw [h2]
   have h3 : (Datum.number s m e).sum (Datum.number s m e).opposite = some (.number false 0 e) := by
     simp only [Datum.opposite, Datum.sum, Int.min_self, signed_neg, if_true]
     cases s <;> rfl
   rw [h3]
   have h4 : single.write (.number false 0 e) = 0 := rfl
   simp only [Option.map_some, Option.getD_some, h4]
   decide
def lvlB (x : Nat) : Bool := x == 0 || (x == 1065353216 || (x == 1073741824 || x == 1077936128))
theorem abs_small {a : Int} (h1 : -3 ≤ a) (h2 : a ≤ 3) : lvlB (absS (wI a)) = true := by
 have : a = -3 ∨ a = -2 ∨ a = -1 ∨ a = 0 ∨ a = 1 ∨ a = 2 ∨ a = 3 := by omega
 rcases this with rfl | rfl | rfl | rfl | rfl | rfl | rfl <;> decide +kernel
theorem lvl_cases {x : Nat} (h : lvlB x = true) : x = 0 ∨ x = 1065353216 ∨ x = 1073741824 ∨ x = 1077936128 := by simpa [lvlB] using h
structure Drawn (m : Mod) : Prop where
 ok : OkM m
 mod : isModuleF m = true
 lvl : m.kind = 7 → lvlB m.level = true
theorem Drawn.kind {m : Mod} (h : Drawn m) : m.kind = 1 ∨ m.kind = 2 ∨ m.kind = 3 ∨ m.kind = 4 ∨ m.kind = 5 ∨ m.kind = 6 ∨ m.kind = 7 ∨ m.kind = 8 := by
 have := h.mod
 unfold isModuleF at this
 by_cases h1 : m.kind = 1
 · simp [h1]
 by_cases h2 : m.kind = 2
 · simp [h2]
 by_cases h3 : m.kind = 3
 · simp [h3]
 by_cases h4 : m.kind = 4
 · simp [h4]
 by_cases h5 : m.kind = 5
 · simp [h5]
 by_cases h6 : m.kind = 6
 · simp [h6]
 by_cases h7 : m.kind = 7
 · simp [h7]
 by_cases h8 : m.kind = 8
 · simp [h8]
 simp [h1, h2, h3, h4, h5, h6, h7, h8] at this
theorem zAq (m : Mod) : bareF m = true ↔ (m.turn = (0, 0) ∧ m.state = (0, 0) ∧ m.level = 0 ∧ m.store = [] ∧ m.rat = 0 ∧ m.rcnt = 0 ∧ m.pts = [] ∧ m.lab = [] ∧ m.count = 0 ∧ m.left = 0) := by
 obtain ⟨k, ⟨t1, t2⟩, ⟨s1, s2⟩, lv, st, ra, rc, pts, lab, c, l⟩ := m
 simp only [bareF, nzP, nz, Bool.and_eq_true, decide_eq_true_eq, Prod.mk.injEq, Int.natCast_eq_zero, List.length_eq_zero_iff, and_assoc]
theorem zHq : Drawn mSum' := ⟨⟨by simp [mSum', sm], by simp [mSum', sm], by simp [mSum', sm]⟩, by decide, by decide⟩
theorem drawn_src (t s : Pt) : Drawn (mSrc' t s) := ⟨⟨by simp [mSrc', sm], by simp [mSrc', sm], by simp [mSrc', sm]⟩, by simp [mSrc', isModuleF, zAq], by simp [mSrc']⟩
theorem drawn_mix (t : Pt) : Drawn (mMix' t) := ⟨⟨by simp [mMix', sm], by simp [mMix', sm], by simp [mMix', sm]⟩, by simp [mMix', isModuleF, zAq], by simp [mMix']⟩
theorem drawn_gain (l : Nat) : Drawn (mGain' l) := ⟨⟨by simp [mGain', sm], by simp [mGain', sm], by simp [mGain', sm]⟩, by simp [mGain', isModuleF, zAq], by simp [mGain']⟩
theorem drawn_meter : Drawn mMeter' := ⟨⟨by simp [mMeter', sm], by simp [mMeter', sm], by simp [mMeter', sm]⟩, by decide, by decide⟩
def mDelay' (st : List Pt) (a : Int) : Mod := ⟨4, (0, 0), (0, 0), 0, st, a, (st.length : Int), [], [], 0, 0⟩
def mSlicer' (pts : List Pt) (lab : List Int) (c : Int) : Mod := ⟨6, (0, 0), (0, 0), 0, [], 0, 0, pts, lab, c, 0⟩
def mHold' (s : Pt) (c l : Int) : Mod := ⟨8, (0, 0), s, 0, [], 0, 0, [], [], c, l⟩
theorem isRingF_full {st : List Pt} {a : Int} (h1 : 1 ≤ st.length) (h2 : st.length ≤ 16) (h3 : 0 ≤ a) (h4 : a < st.length) : isRingF st a st.length = true := by
 unfold isRingF
 rw [show st.length - (st.length : Int).toNat = 0 by simp]
 have : ringC st a st.length := ⟨h1, h2, h3, h4, by omega, by omega⟩
 simp [this, ringGo]
theorem zGx {st : List Pt} {a : Int} (h1 : 1 ≤ st.length) (h2 : st.length ≤ 16) (h3 : 0 ≤ a) (h4 : a < st.length) : Drawn (mDelay' st a) :=
 ⟨⟨by simp [mDelay', sm]; omega, by simp [mDelay', sm], by simp [mDelay', sm]⟩, by simp [mDelay', isModuleF, zAq, isRingF_full h1 h2 h3 h4], by simp [mDelay']⟩
theorem zHh {pts : List Pt} {lab : List Int} (h : isTableF pts lab = true) : pts.length = lab.length ∧ pts.length ≤ 64 := by
 simp only [isTableF, Bool.and_eq_true, decide_eq_true_eq] at h; exact ⟨h.1, h.2.1⟩
theorem zHr {pts : List Pt} {lab : List Int} {c : Int} (h : isTableF pts lab = true) : Drawn (mSlicer' pts lab c) := by
 obtain ⟨h1, h2⟩ := zHh h
 exact ⟨⟨by simp [mSlicer', sm], by simp [mSlicer', sm]; omega, by simp [mSlicer', sm]; omega⟩, by simp [mSlicer', isModuleF, zAq, h], by simp [mSlicer']⟩
theorem zFe {s : Pt} {c l : Int} (h1 : 1 ≤ c) (h2 : c ≤ 100) (h3 : 0 ≤ l) (h4 : l < c) : Drawn (mHold' s c l) :=
 ⟨⟨by simp [mHold', sm], by simp [mHold', sm], by simp [mHold', sm]⟩, by simp [mHold', isModuleF, zAq, h1, h2, h3, h4], by simp [mHold']⟩
def mMeterL (l : Nat) : Mod := ⟨7, (0, 0), (0, 0), l, [], 0, 0, [], [], 0, 0⟩
theorem lvl_pos {l : Nat} (h : lvlB l = true) : (nz l || fcmp .gtr .f32 l 0) = true := by rcases lvl_cases h with rfl | rfl | rfl | rfl <;> decide +kernel
theorem drawn_meterL {l : Nat} (h : lvlB l = true) : Drawn (mMeterL l) :=
 ⟨⟨by simp [mMeterL, sm], by simp [mMeterL, sm], by simp [mMeterL, sm]⟩, by
   have := lvl_pos h
   simp only [mMeterL, isModuleF, zAq]
   simp only [Bool.or_eq_true] at this
   simp [this, zAq], by simp [mMeterL, h]⟩
theorem Drawn.forms {m : Mod} (h : Drawn m) : (∃ t s, m = mSrc' t s) ∨ (∃ t s, m = ⟨2, t, s, 0, [], 0, 0, [], [], 0, 0⟩) ∨ (∃ l, m = mGain' l) ∨ (∃ st a, m = mDelay' st a ∧ 1 ≤ st.length ∧ st.length ≤ 16 ∧ 0 ≤ a ∧ a < st.length) ∨ m = mSum' ∨
   (∃ pts lab c, m = mSlicer' pts lab c ∧ isTableF pts lab = true) ∨ (∃ l, m = mMeterL l ∧ lvlB l = true) ∨ ∃ s c l, m = mHold' s c l ∧ 1 ≤ c ∧ c ≤ 100 ∧ 0 ≤ l ∧ l < c := by
 have hk := h.kind
 have hm := h.mod
 have hl := h.lvl
 obtain ⟨k, t, s, lv, st, ra, rc, pts, lab, c, l⟩ := m
 simp only at hk hl
 rcases hk with rfl | rfl | rfl | rfl | rfl | rfl | rfl | rfl
 · simp [isModuleF, zAq] at hm
   obtain ⟨rfl, rfl, rfl, rfl, rfl, rfl, rfl, rfl⟩ := hm
   exact .inl ⟨t, s, rfl⟩
 · simp [isModuleF, zAq] at hm
   obtain ⟨rfl, rfl, rfl, rfl, rfl, rfl, rfl, rfl⟩ := hm
   exact .inr (.inl ⟨t, s, rfl⟩)
 · simp [isModuleF, zAq] at hm
   obtain ⟨rfl, rfl, rfl, rfl, rfl, rfl, rfl, rfl, rfl⟩ := hm
   exact .inr (.inr (.inl ⟨lv, rfl⟩))
 · simp [isModuleF, zAq] at hm
   obtain ⟨⟨h1, rfl⟩, rfl, rfl, rfl, rfl, rfl, rfl, rfl⟩ := hm
   unfold isRingF at h1
   simp only [Bool.and_eq_true, decide_eq_true_eq] at h1
   obtain ⟨⟨c1, c2, c3, c4, _, _⟩, _⟩ := h1
   exact .inr (.inr (.inr (.inl ⟨st, ra, rfl, c1, c2, c3, c4⟩)))
 · simp [isModuleF, zAq] at hm
   obtain ⟨rfl, rfl, rfl, rfl, rfl, rfl, rfl, rfl, rfl, rfl⟩ := hm
   exact .inr (.inr (.inr (.inr (.inl rfl))))
 · simp [isModuleF, zAq] at hm
   obtain ⟨h1, rfl, rfl, rfl, rfl, rfl, rfl, rfl⟩ := hm
   exact .inr (.inr (.inr (.inr (.inr (.inl ⟨pts, lab, c, rfl, h1⟩)))))
 · simp [isModuleF, zAq] at hm
   obtain ⟨_, rfl, rfl, rfl, rfl, rfl, rfl, rfl, rfl, rfl⟩ := hm
   exact .inr (.inr (.inr (.inr (.inr (.inr (.inl ⟨lv, rfl, hl rfl⟩))))))
 · simp [isModuleF, zAq] at hm
   obtain ⟨⟨h1, h2, h3, h4⟩, rfl, rfl, rfl, rfl, rfl, rfl, rfl⟩ := hm
   exact .inr (.inr (.inr (.inr (.inr (.inr (.inr ⟨s, c, l, rfl, h1, h2, h3, h4⟩))))))
end Go.SX
namespace Go.SX
open Go Ieee
theorem qn_low : 2139095040 < qn .f32 % 2147483648 := by decide
theorem sglT_cW (w : Nat) : sglT (cW w) = sglT w := by
 unfold cW
 split
 · rename_i h
   unfold sglT
   rw [if_pos qn_low, if_pos h]
 · rfl
theorem ptW_cP (p : Pt) : ptW (cP p) = ptW p := by simp [ptW, cP, sglT_cW]
theorem ptsW_cP (l : List Pt) : ptsW (l.map cP) = ptsW l := by
 simp only [ptsW, List.flatMap_map]
 congr 1; funext p; exact ptW_cP p
theorem tabW_cP : ∀ (l : List Pt) (n : List Int), tabW (l.map cP) n = tabW l n
 | [], _ => rfl
 | _ :: _, [] => rfl
 | p :: l, x :: n => by simp [tabW, tabW_cP l n, cP, sglT_cW]
theorem restW_cM (m : Mod) : restW (cM m) = restW m := by
 have e : (cM m).kind = m.kind := rfl
 simp only [restW, e]
 simp only [cM, ptW_cP, ptsW_cP, tabW_cP, sglT_cW]
theorem cW_fin {w : Nat} (h : isFin w = true) : cW w = w := by
 simp only [isFin, decide_eq_true_eq] at h
 unfold cW
 rw [if_neg (by omega)]
theorem tbl_fin : ∀ (pts l : List Pt) (k : Nat), tblGo pts l k = true → ∀ p ∈ l, isFin p.1 = true ∧ isFin p.2 = true
 | _, [], _, _, p, h => by cases h
 | pts, q :: l, k, ht, p, h => by
   simp only [tblGo, Bool.and_eq_true] at ht
   rcases List.mem_cons.1 h with rfl | h
   · exact ht.1
   · exact tbl_fin pts l (k + 1) ht.2.2 p h
theorem map_cP {l : List Pt} (h : ∀ p ∈ l, isFin p.1 = true ∧ isFin p.2 = true) : l.map cP = l := by
 conv => rhs; rw [← List.map_id l]
 refine List.map_congr_left fun p hp => ?_
 obtain ⟨h1, h2⟩ := h p hp
 simp [cP, cW_fin h1, cW_fin h2]
theorem read_nanW {w : Nat} (h : 2139095040 < w % 2147483648) : ∃ s t, single.read w = .nan s t := by
 unfold Format.read
 simp only [show single.signWeight = 2147483648 from by decide, show single.binade = 8388608 from by decide, show single.infRung = 2139095040 from by decide]
 rw [if_neg (by omega), if_neg (by omega), if_neg (by omega)]
 exact ⟨_, _, rfl⟩
theorem meter_num {w : Nat} (h : (nz w || fcmp .gtr .f32 w 0) = true) : cW w = w := by
 unfold cW
 split
 · rename_i hn
   exfalso
   obtain ⟨s, t, hr⟩ := read_nanW hn
   have h1 : fcmp .gtr .f32 w 0 = false := by
     show (single.order w 0 == some .gt) = false
     unfold Format.order
     rw [hr]; rfl
   rw [h1, Bool.or_false] at h
   simp only [nz, decide_eq_true_eq] at h
   have : w = 0 := by omega
   subst this
   simp at hn
 · rfl
theorem zDi {m : Mod} (h : isModuleF m = true) : (∃ t s, m = ⟨1, t, s, 0, [], 0, 0, [], [], 0, 0⟩) ∨ (∃ t s, m = ⟨2, t, s, 0, [], 0, 0, [], [], 0, 0⟩) ∨ (∃ l, m = ⟨3, (0, 0), (0, 0), l, [], 0, 0, [], [], 0, 0⟩) ∨
   (∃ st a, m = ⟨4, (0, 0), (0, 0), 0, st, a, (st.length : Int), [], [], 0, 0⟩ ∧ isRingF st a (st.length : Int) = true) ∨ m = ⟨5, (0, 0), (0, 0), 0, [], 0, 0, [], [], 0, 0⟩ ∨
   (∃ pts lab c, m = ⟨6, (0, 0), (0, 0), 0, [], 0, 0, pts, lab, c, 0⟩ ∧ isTableF pts lab = true) ∨ (∃ l, m = ⟨7, (0, 0), (0, 0), l, [], 0, 0, [], [], 0, 0⟩ ∧ (nz l || fcmp .gtr .f32 l 0) = true) ∨
   (∃ s c l, m = ⟨8, (0, 0), s, 0, [], 0, 0, [], [], c, l⟩ ∧ 1 ≤ c ∧ c ≤ 100 ∧ 0 ≤ l ∧ l < c) := by
 obtain ⟨k, t, s, lv, st, ra, rc, pts, lab, c, l⟩ := m
 unfold isModuleF at h
 simp only at h
 split at h
 · rename_i hk
   simp only [zAq] at h
   obtain ⟨-, -, rfl, rfl, rfl, rfl, rfl, rfl, rfl, rfl⟩ := h
   exact .inl ⟨t, s, by simp [hk]⟩
 split at h
 · rename_i hk
   simp only [zAq] at h
   obtain ⟨-, -, rfl, rfl, rfl, rfl, rfl, rfl, rfl, rfl⟩ := h
   exact .inr (.inl ⟨t, s, by simp [hk]⟩)
 split at h
 · rename_i hk
   simp only [zAq] at h
   obtain ⟨rfl, rfl, -, rfl, rfl, rfl, rfl, rfl, rfl, rfl⟩ := h
   exact .inr (.inr (.inl ⟨lv, by simp [hk]⟩))
 split at h
 · rename_i hk
   simp only [Bool.and_eq_true, decide_eq_true_eq, zAq] at h
   obtain ⟨⟨h1, rfl⟩, rfl, rfl, rfl, -, -, -, rfl, rfl, rfl, rfl⟩ := h
   exact .inr (.inr (.inr (.inl ⟨st, ra, by simp [hk], h1⟩)))
 split at h
 · rename_i hk
   simp only [zAq] at h
   obtain ⟨rfl, rfl, rfl, rfl, rfl, rfl, rfl, rfl, rfl, rfl⟩ := h
   exact .inr (.inr (.inr (.inr (.inl (by simp [hk])))))
 split at h
 · rename_i hk
   simp only [Bool.and_eq_true, zAq] at h
   obtain ⟨h1, rfl, rfl, rfl, rfl, rfl, rfl, -, -, -, rfl⟩ := h
   exact .inr (.inr (.inr (.inr (.inr (.inl ⟨pts, lab, c, by simp [hk], h1⟩)))))
 split at h
 · rename_i hk
   rw [Bool.and_eq_true, zAq] at h
   obtain ⟨h1, rfl, rfl, -, rfl, rfl, rfl, rfl, rfl, rfl, rfl⟩ := h
   exact .inr (.inr (.inr (.inr (.inr (.inr (.inl ⟨lv, by simp [hk], h1⟩))))))
 split at h
 · rename_i hk
   simp only [Bool.and_eq_true, decide_eq_true_eq, zAq] at h
   obtain ⟨⟨h1, h2, h3, h4⟩, rfl, -, rfl, rfl, rfl, rfl, rfl, rfl, -, -⟩ := h
   exact .inr (.inr (.inr (.inr (.inr (.inr (.inr ⟨s, c, l, by simp [hk], h1, h2, h3, h4⟩))))))
 · cases h
structure I64 (m : Mod) : Prop where
 count : i64B m.count
 lab : ∀ x ∈ m.lab, i64B x
theorem valid_cM {m : Mod} (h : isModuleF m = true) : isModuleF (cM m) = true := by
 have c0 : cP (0, 0) = (0, 0) := by decide
 have w0 : cW 0 = 0 := by decide
 rcases zDi h with ⟨t, s, rfl⟩ | ⟨t, s, rfl⟩ | ⟨l, rfl⟩ | ⟨st, a, rfl, hr⟩ | rfl | ⟨pts, lab, c, rfl, ht⟩ | ⟨l, rfl, hl⟩ | ⟨s, c, l, rfl, h1, h2, h3, h4⟩
 · simp [cM, isModuleF, zAq, c0, w0]
 · simp [cM, isModuleF, zAq, c0, w0]
 · simp [cM, isModuleF, zAq, c0, w0]
 · have : isRingF (st.map cP) a (st.length : Int) = true := by
     simp only [isRingF, Bool.and_eq_true, decide_eq_true_eq, ringC] at hr ⊢
     refine ⟨by simpa using hr.1, ?_⟩
     simp [ringGo]
   simp [cM, isModuleF, zAq, c0, w0, this]
 · simp [cM, isModuleF, zAq, c0, w0]
 · have : pts.map cP = pts := by
     simp only [isTableF, Bool.and_eq_true] at ht
     exact map_cP (tbl_fin pts pts 0 ht.2.2)
   simp [cM, isModuleF, zAq, c0, w0, this, ht]
 · have := meter_num hl
   simp only [cM, this, isModuleF, hl, c0, List.map_nil, Int.reduceEq, if_false, if_true, Bool.true_and]
   simp [zAq]
 · simp [cM, isModuleF, zAq, c0, w0, h1, h2, h3, h4]
theorem fmtM_cM {m : Mod} (h : isModuleF m = true) : fmtM (cM m) = fmtM m := by
 unfold fmtM
 rw [if_pos h, if_pos (valid_cM h), restW_cM]; rfl
theorem readM_fmt {m : Mod} (h : isModuleF m = true) (hw : W32 m) (hi : I64 m) : readM (kindT (nameT m.kind)) (restW m) = (cM m, [], false) := by
 have c0 : cP (0, 0) = (0, 0) := by decide
 have w0 : cW 0 = 0 := by decide
 rcases zDi h with ⟨t, s, rfl⟩ | ⟨t, s, rfl⟩ | ⟨l, rfl⟩ | ⟨st, a, rfl, hr⟩ | rfl | ⟨pts, lab, c, rfl, ht⟩ | ⟨l, rfl, hl⟩ | ⟨s, c, l, rfl, h1, h2, h3, h4⟩
 · have e := rdP_T hw.turn (ptW s)
   have e2 := rdP_T hw.state []
   rw [List.append_nil] at e2
   have k : kindT (nameT 1) = 1 := by decide
   simp only [k, readM, restW, if_pos, true_or, e, e2, cM, mod0, w0, List.map_nil]
 · have e := rdP_T hw.turn (ptW s)
   have e2 := rdP_T hw.state []
   rw [List.append_nil] at e2
   have k : kindT (nameT 2) = 2 := by decide
   simp only [k, readM, restW, Int.reduceEq, if_false, if_pos, or_true, e, e2, cM, mod0, w0, List.map_nil]
 · have e := rdS_T hw.level []
   have k : kindT (nameT 3) = 3 := by decide
   simp only [k, readM, restW, Int.reduceEq, or_self, true_or, if_false, if_true, e, cM, mod0, c0, List.map_nil]
 · simp only [isRingF, Bool.and_eq_true] at hr
   have hr1 : ringC st a (st.length : Int) := of_decide_eq_true hr.1
   unfold ringC at hr1
   obtain ⟨g1, g2, g3, g4, _⟩ := hr1
   have e := rdI_T (n := a) ⟨by omega, by omega⟩ (ptsW st)
   have e2 := dlyP_T st hw.store
   have k : kindT (nameT 4) = 4 := by decide
   simp only [k, readM, restW, Int.reduceEq, or_self, if_false, if_true, e, e2, cM, mod0, c0, w0, List.map_nil, List.length_map]
 · have k : kindT (nameT 5) = 5 := by decide
   simp only [k, readM, restW, Int.reduceEq, or_self, if_false, if_true, cM, mod0, c0, w0, List.map_nil]
 · simp only [isTableF, Bool.and_eq_true, decide_eq_true_eq] at ht
   have e := rdI_T (n := c) hi.count (tabW pts lab)
   have e2 := slcP_T pts lab ht.1 hw.pts hi.lab
   have k : kindT (nameT 6) = 6 := by decide
   simp only [k, readM, restW, Int.reduceEq, or_self, if_false, if_true, e, e2, cM, mod0, c0, w0, List.map_nil]
 · have e := rdS_T hw.level []
   have k : kindT (nameT 7) = 7 := by decide
   simp only [k, readM, restW, Int.reduceEq, or_true, or_self, if_false, if_true, e, cM, mod0, c0, List.map_nil]
 · have e := rdI_T (n := c) ⟨by omega, by omega⟩ (Lib.itoa l :: ptW s)
   have e1 := rdI_T (n := l) ⟨by omega, by omega⟩ (ptW s)
   have e2 := rdP_T hw.state []
   rw [List.append_nil] at e2
   have k : kindT (nameT 8) = 8 := by decide
   simp only [k, readM, restW, Int.reduceEq, or_self, if_false, if_true, e, e1, e2, cM, mod0, c0, w0, List.map_nil]
theorem implM_fmt {m : Mod} (h : isModuleF m = true) (hw : W32 m) (hi : I64 m) : implM (fmtM m) = some (cM m) := by
 unfold implM
 rw [splT_fmtM h]
 simp only [readM_fmt h hw hi, valid_cM h, fmtM_cM h, and_self, if_true]
end Go.SX
namespace Go.SX
open Go Go.Proofs
noncomputable def ct_l2At : Ct := fam true (fun x : Tb × Pt => ([.agg [.im (.sl 1 (rowsZ x.1.1.1)), .im (.sl 1 (rowsN x.1.1.2))], .c (.im (.cpx .f32 x.2.1 x.2.2))], [])) (fun x => .one { val := .c (.im (.int .i64 (idxF (eqPt · x.2) x.1.1.1 0))) })
theorem run_l2At {pts : List Pt} {lab : List Int} (h1 : pts.length ≤ sm) (h2 : lab.length ≤ sm) (u v : Nat) : ct_l2At.run [.agg [.im (.sl 1 (rowsZ pts)), .im (.sl 1 (rowsN lab))], .c (.im (.cpx .f32 u v))] [] = some (.one { val := .c (.im (.int .i64 (idxF (eqPt · (u, v)) pts 0))) }) := by
 refine zAd (args := fun x : Tb × Pt => ([D.agg [.im (.sl 1 (rowsZ x.1.1.1)), .im (.sl 1 (rowsN x.1.1.2))], .c (.im (.cpx .f32 x.2.1 x.2.2))], [])) ?_ (⟨(pts, lab), h1, h2⟩, (u, v))
 rintro ⟨⟨⟨a, b⟩, _⟩, ⟨c, d⟩⟩ ⟨⟨⟨a', b'⟩, _⟩, ⟨c', d'⟩⟩ h
 simp [zAs, zAw] at h ⊢
 simp [h]
theorem sc_l2At : (ct_l2At.sc = true) = True := by simp [ct_l2At, fam]
set_option maxRecDepth 100000 in
set_option maxHeartbeats 4000000 in
theorem law_l2At : Law Tryz.prog 247 ct_l2At := by
 refine zAf zAe hmixA Tryz.func247 rfl rfl (fun ⟨⟨⟨l, lab⟩, h1, h2⟩, ⟨u, v⟩⟩ => ⟨zAv rfl, by simp [Tryz.f247], ?_⟩)
 simp only at h1 h2 ⊢
 try simp -dsimp (maxSteps := 1000000) only [go_sem, List.forall_mem_nil, ↓reduceIte, Nat.reduceEqDiff, Nat.reduceLT, Nat.reduceLeDiff, Nat.reduceAdd, Nat.reduceMul, reduceCtorEq, Tryz.f247, zAa]
 refine zBh (ι := { k : Nat // k ≤ l.length ∧ idxF (eqPt · (u, v)) l 0 = idxF (eqPt · (u, v)) (l.drop k) k }) (fun k => ⟨[(1, some (.c (.im (.cpx .f32 u v)))), (8, some (.c (.im (.sl 1 (rowsZ l))))), (9, some (.c (.im (.int .i64 (l.length : Int))))), (10, some (.c (.im (.int .i64 (k.1 : Int)))))],
   [], 0⟩) (fun k => l.length - k.1) ⟨0, by simp⟩ ⟨[], [], by ((simp only [go_sem, eq_self, MvRb, MvRn, MvRt, List.nodup_cons, List.nodup_nil, ↓reduceIte, Nat.reduceEqDiff, Nat.reduceLT, Nat.reduceLeDiff, reduceCtorEq, List.forall_mem_nil, Nat.zero_le, false_implies, List.mem_singleton]) <;> (try (simp -dsimp only [go_sem, eq_self, MvRb, MvRn, MvRt, List.nodup_cons, List.nodup_nil, ↓reduceIte, Nat.reduceEqDiff, Nat.reduceLT, Nat.reduceLeDiff, reduceCtorEq, List.forall_mem_nil, Nat.zero_le, false_implies, List.mem_singleton]))) <;> simp⟩ (fun ⟨k, hk, hinv⟩ => ?_)
 by_cases hlt : k < l.length
 · obtain ⟨p, hp⟩ : ∃ p, l[k]? = some p := ⟨_, List.getElem?_eq_getElem hlt⟩
   have hrow := zCf hp
   have hI : ((k : Int) < (l.length : Int)) = True := by simp; omega
   have h0 : (0 ≤ (k : Int)) = True := by simp
   have hidx := idxF_drop (f := (eqPt · (u, v))) hp
   have hwr := lt_sm h1 hlt
   obtain ⟨a, b⟩ := p
   have hq0 : (fcmp .eql .f32 a u && fcmp .eql .f32 b v) = eqPt (a, b) (u, v) := rfl
   cases hq : eqPt (a, b) (u, v) with
   | true =>
     simp only [hq, if_true] at hidx
     rw [hidx] at hinv
     clear hidx
     try simp -dsimp (maxSteps := 1000000) only [go_sem, List.forall_mem_nil, ↓reduceIte, Nat.reduceEqDiff, Nat.reduceLT, Nat.reduceLeDiff, Nat.reduceAdd, Nat.reduceMul, reduceCtorEq, Tryz.f247, hI, h0, Int.toNat_natCast, hrow, hq0, hq, hinv, zAa]
   | false =>
     simp only [hq, if_false, Bool.false_eq_true] at hidx
     rw [hidx] at hinv
     clear hidx
     try simp -dsimp (maxSteps := 1000000) only [go_sem, List.forall_mem_nil, ↓reduceIte, Nat.reduceEqDiff, Nat.reduceLT, Nat.reduceLeDiff, Nat.reduceAdd, Nat.reduceMul, reduceCtorEq, Tryz.f247, hI, h0, Int.toNat_natCast, hrow, hq0, hq, hwr, zAa]
     exact ⟨⟨k + 1, by omega, hinv⟩, by simp only []; omega, [], [], by (simp only [go_sem, eq_self, MvRb, MvRn, MvRt, List.nodup_cons, List.nodup_nil, ↓reduceIte, Nat.reduceEqDiff, Nat.reduceLT, Nat.reduceLeDiff, reduceCtorEq, List.forall_mem_nil, Nat.zero_le, false_implies, List.mem_singleton]) <;> simp⟩
 · have hI : ((k : Int) < (l.length : Int)) = False := by simp; omega
   have hkl : k = l.length := by omega
   subst hkl
   rw [List.drop_length] at hinv
   try simp -dsimp (maxSteps := 1000000) only [go_sem, List.forall_mem_nil, ↓reduceIte, Nat.reduceEqDiff, Nat.reduceLT, Nat.reduceLeDiff, Nat.reduceAdd, Nat.reduceMul, reduceCtorEq, Tryz.f247, hI, hinv, idxF, zAa]
set_option maxRecDepth 100000 in
set_option maxHeartbeats 8000000 in
theorem zHp : Law Tryz.prog 62 zGm := by
 refine zAf (zAc law_l2Finite zAe) hmixA Tryz.func62 rfl rfl (fun ⟨⟨pts, lab⟩, h1, h2⟩ => ⟨zAv rfl, by simp [Tryz.f62], ?_⟩)
 simp only [] at h1 h2
 by_cases hlen : pts.length = lab.length
 rotate_left
 · have e1 : ((pts.length : Int) = (lab.length : Int)) = False := by simp; omega
   have hF : isTableF pts lab = false := by simp [isTableF, hlen]
   clear hlen
   try simp -dsimp (maxSteps := 1000000) only [go_sem, List.forall_mem_nil, ↓reduceIte, Nat.reduceEqDiff, Nat.reduceLT, Nat.reduceLeDiff, Nat.reduceAdd, Nat.reduceMul, reduceCtorEq, Tryz.f62, zAa, zAb, e1, hF]
 have e1 : ((pts.length : Int) = (lab.length : Int)) = True := by simp; omega
 by_cases h64 : pts.length ≤ 64
 rotate_left
 · have e2 : ((64 : Int) < (pts.length : Int)) = True := by simp; omega
   have hF : isTableF pts lab = false := by simp [isTableF, h64]
   clear hlen h64
   try simp -dsimp (maxSteps := 1000000) only [go_sem, List.forall_mem_nil, ↓reduceIte, Nat.reduceEqDiff, Nat.reduceLT, Nat.reduceLeDiff, Nat.reduceAdd, Nat.reduceMul, reduceCtorEq, Tryz.f62, zAa, zAb, e1, e2, hF]
 have e2 : ((64 : Int) < (pts.length : Int)) = False := by simp; omega
 have hF : isTableF pts lab = tblGo pts pts 0 := by unfold isTableF; rw [decide_eq_true hlen, decide_eq_true h64]; simp
 rw [hF]
 clear hlen h64 hF
 try simp -dsimp (maxSteps := 1000000) only [go_sem, List.forall_mem_nil, ↓reduceIte, Nat.reduceEqDiff, Nat.reduceLT, Nat.reduceLeDiff, Nat.reduceAdd, Nat.reduceMul, reduceCtorEq, Tryz.f62, zAa, zAb, e1, e2]
 refine zBh (ι := { k : Nat // k ≤ pts.length ∧ tblGo pts pts 0 = tblGo pts (pts.drop k) k }) (fun k => ⟨[(1, some (.c (.ptr 0 0 0 0))), (20, some (.c (.im (.sl 1 (rowsZ pts))))), (21, some (.c (.im (.int .i64 (pts.length : Int))))), (22, some (.c (.im (.int .i64 (k.1 : Int)))))],
   [(0, some (.box [.t (.im (.sl 1 (rowsZ pts))), .t (.im (.sl 1 (rowsN lab)))]))], 1⟩) (fun k => pts.length - k.1) ⟨0, by simp⟩ ⟨[], [], by ((simp only [go_sem, eq_self, MvRb, MvRn, MvRt, List.nodup_cons, List.nodup_nil, ↓reduceIte, Nat.reduceEqDiff, Nat.reduceLT, Nat.reduceLeDiff, reduceCtorEq, List.forall_mem_nil, Nat.zero_le, false_implies, List.mem_singleton]) <;> (try (simp -dsimp only [go_sem, eq_self, MvRb, MvRn, MvRt, List.nodup_cons, List.nodup_nil, ↓reduceIte, Nat.reduceEqDiff, Nat.reduceLT, Nat.reduceLeDiff, reduceCtorEq, List.forall_mem_nil, Nat.zero_le, false_implies, List.mem_singleton]))) <;> simp⟩ (fun ⟨k, hk, hinv⟩ => ?_)
 by_cases hlt : k < pts.length
 rotate_left
 · have hI : ((k : Int) < (pts.length : Int)) = False := by simp; omega
   have hkl : k = pts.length := by omega
   subst hkl
   rw [List.drop_length] at hinv
   try simp -dsimp (maxSteps := 1000000) only [go_sem, List.forall_mem_nil, ↓reduceIte, Nat.reduceEqDiff, Nat.reduceLT, Nat.reduceLeDiff, Nat.reduceAdd, Nat.reduceMul, reduceCtorEq, Tryz.f62, hI, hinv, tblGo, zAa]
 obtain ⟨p, hp⟩ : ∃ p, pts[k]? = some p := ⟨_, List.getElem?_eq_getElem hlt⟩
 have hrow := zCf hp
 have hI : ((k : Int) < (pts.length : Int)) = True := by simp; omega
 have h0 : (0 ≤ (k : Int)) = True := by simp
 have hidx := tblGo_drop hp
 have hwr := lt_sm h1 hlt
 obtain ⟨a, b⟩ := p
 cases hf : (isFin a && isFin b) with
 | false =>
   simp only [hf, Bool.false_and] at hidx
   rw [hidx] at hinv
   clear hidx
   try simp -dsimp (maxSteps := 1000000) only [go_sem, List.forall_mem_nil, ↓reduceIte, Nat.reduceEqDiff, Nat.reduceLT, Nat.reduceLeDiff, Nat.reduceAdd, Nat.reduceMul, reduceCtorEq, Tryz.f62, hI, h0, Int.toNat_natCast, hrow, run_l2Finite, finS_eq, hf, hinv, zAa]
 | true =>
   simp only [hf, Bool.true_and] at hidx
   try simp -dsimp (maxSteps := 1000000) only [go_sem, List.forall_mem_nil, ↓reduceIte, Nat.reduceEqDiff, Nat.reduceLT, Nat.reduceLeDiff, Nat.reduceAdd, Nat.reduceMul, reduceCtorEq, Tryz.f62, hI, h0, Int.toNat_natCast, hrow, run_l2Finite, finS_eq, hf, zAa]
   refine zBh (ι := { j : Nat // j ≤ k ∧ idxF (eqPt · (a, b)) (pts.take k) 0 = idxF (eqPt · (a, b)) ((pts.take k).drop j) j }) (fun j => ⟨[(1, some (.c (.ptr 0 0 0 0))), (3, some (.c (.im (.int .i64 (k : Int))))), (4, some (.c (.im (.cpx .f32 a b)))), (5, some (.c (.im (.int .i64 (j.1 : Int))))), (20, some (.c (.im (.sl 1 (rowsZ pts))))), (21, some (.c (.im (.int .i64 (pts.length : Int))))), (22, some (.c (.im (.int .i64 (k : Int)))))],
     [(0, some (.box [.t (.im (.sl 1 (rowsZ pts))), .t (.im (.sl 1 (rowsN lab)))]))], 1⟩) (fun j => k - j.1) ⟨0, by simp⟩ ⟨[], [], by ((simp only [go_sem, eq_self, MvRb, MvRn, MvRt, List.nodup_cons, List.nodup_nil, ↓reduceIte, Nat.reduceEqDiff, Nat.reduceLT, Nat.reduceLeDiff, reduceCtorEq, List.forall_mem_nil, Nat.zero_le, false_implies, List.mem_singleton]) <;> (try (simp -dsimp only [go_sem, eq_self, MvRb, MvRn, MvRt, List.nodup_cons, List.nodup_nil, ↓reduceIte, Nat.reduceEqDiff, Nat.reduceLT, Nat.reduceLeDiff, reduceCtorEq, List.forall_mem_nil, Nat.zero_le, false_implies, List.mem_singleton]))) <;> simp⟩ (fun ⟨j, hj, hjinv⟩ => ?_)
   by_cases hjk : j < k
   rotate_left
   · have hJ : ((j : Int) < (k : Int)) = False := by simp; omega
     have hjk' : j = k := by omega
     subst hjk'
     rw [show List.drop j (List.take j pts) = [] from List.drop_of_length_le (by rw [List.length_take]; omega)] at hjinv
     have hneg : idxF (eqPt · (a, b)) (pts.take j) 0 < 0 := by rw [hjinv]; simp [idxF]
     simp only [hneg, decide_true, Bool.true_and] at hidx
     rw [hidx] at hinv
     clear hidx
     try simp -dsimp (maxSteps := 1000000) only [go_sem, List.forall_mem_nil, ↓reduceIte, Nat.reduceEqDiff, Nat.reduceLT, Nat.reduceLeDiff, Nat.reduceAdd, Nat.reduceMul, reduceCtorEq, Tryz.f62, hJ, hwr]
     exact ⟨⟨j + 1, by omega, hinv⟩, by simp only []; omega, [], [], by (simp only [go_sem, eq_self, MvRb, MvRn, MvRt, List.nodup_cons, List.nodup_nil, ↓reduceIte, Nat.reduceEqDiff, Nat.reduceLT, Nat.reduceLeDiff, reduceCtorEq, List.forall_mem_nil, Nat.zero_le, false_implies, List.mem_singleton]) <;> simp⟩
   obtain ⟨⟨c, d⟩, hq⟩ : ∃ q, pts[j]? = some q := ⟨_, List.getElem?_eq_getElem (by omega)⟩
   have hrowj := zCf hq
   have hJ : ((j : Int) < (k : Int)) = True := by simp; omega
   have hJp : ((j : Int) < (pts.length : Int)) = True := by simp; omega
   have hj0 : (0 ≤ (j : Int)) = True := by simp
   have hwj : IntKind.i64.wrap ((j : Int) + 1) = ((j + 1 : Nat) : Int) := lt_sm (n := pts.length) h1 (by omega)
   have hjdx := idxF_drop (f := (eqPt · (a, b))) (l := pts.take k) (k := j) (p := (c, d)) (by rw [List.getElem?_take_of_lt hjk]; exact hq)
   have hq0 : (fcmp .eql .f32 c a && fcmp .eql .f32 d b) = eqPt (c, d) (a, b) := rfl
   cases he : eqPt (c, d) (a, b) with
   | true =>
     simp only [he, if_true] at hjdx
     rw [hjdx] at hjinv
     have hneg : ¬ idxF (eqPt · (a, b)) (pts.take k) 0 < 0 := by rw [hjinv]; omega
     simp only [hneg, decide_false, Bool.false_and] at hidx
     rw [hidx] at hinv
     clear hidx hjdx hjinv
     try simp -dsimp (maxSteps := 1000000) only [go_sem, List.forall_mem_nil, ↓reduceIte, Nat.reduceEqDiff, Nat.reduceLT, Nat.reduceLeDiff, Nat.reduceAdd, Nat.reduceMul, reduceCtorEq, Tryz.f62, hJ, hJp, hj0, hrowj, hq0, he, hinv, zAa, Int.toNat_natCast]
   | false =>
     simp only [he, if_false, Bool.false_eq_true] at hjdx
     rw [hjdx] at hjinv
     clear hjdx
     try simp -dsimp (maxSteps := 1000000) only [go_sem, List.forall_mem_nil, ↓reduceIte, Nat.reduceEqDiff, Nat.reduceLT, Nat.reduceLeDiff, Nat.reduceAdd, Nat.reduceMul, reduceCtorEq, Tryz.f62, hJ, hJp, hj0, hrowj, hq0, he, hwj, zAa, Int.toNat_natCast]
     exact ⟨⟨j + 1, by omega, hjinv⟩, by simp only []; omega, [], [], by (simp only [go_sem, eq_self, MvRb, MvRn, MvRt, List.nodup_cons, List.nodup_nil, ↓reduceIte, Nat.reduceEqDiff, Nat.reduceLT, Nat.reduceLeDiff, reduceCtorEq, List.forall_mem_nil, Nat.zero_le, false_implies, List.mem_singleton]) <;> simp⟩
theorem sc_IsTable : (zGm.sc = true) = True := by simp [zGm, fam]
set_option maxRecDepth 100000 in
set_option maxHeartbeats 4000000 in
theorem law_l2Copy : Law Tryz.prog 192 zEo := by
 refine zAf zAe hmixA Tryz.func192 rfl rfl (fun ⟨⟨pts, lab⟩, h1, h2⟩ => ⟨okO okR_tb, by simp [Tryz.f192], ?_⟩)
 simp only at h1 h2
 simp only [rTb]
 try simp -dsimp (maxSteps := 1000000) only [go_sem, List.forall_mem_nil, ↓reduceIte, Nat.reduceEqDiff, Nat.reduceLT, Nat.reduceLeDiff, Nat.reduceAdd, Nat.reduceMul, reduceCtorEq, Tryz.f192, zAa, zAb, bytes_sm h1 (show 8 ≤ 128 by decide), bytes_sm h2 (show 8 ≤ 128 by decide), map_im_tI, zAg, appendH, srcRows]
 repeat' (first
   | ((with_reducible refine sl_i ?_ ?_); focus kernel_rfl)
   | ((with_reducible refine ro_i ?_ ?_); focus kernel_rfl))
 refine ⟨[_, _], ?_, ?_, ?_, rfl, rfl⟩ <;> simp [rtOk]
end Go.SX
namespace Go.SX
open Go Go.Proofs
theorem mapO_imT_row (r : List I) : mapO imT (r.map T.im) = some r := by
 induction r with
 | nil => rfl
 | cons x r ih => simp only [List.map_cons, mapO, imT, ih]
theorem zGi (rows : List (List I)) : mapO (mapO imT) (tI rows) = some rows := by
 induction rows with
 | nil => rfl
 | cons x r ih =>
   have h : tI (x :: r) = x.map T.im :: tI r := rfl
   simp only [h, mapO, mapO_imT_row, ih]
theorem idxF_lt {α : Type} (f : α → Bool) : ∀ (l : List α) (k : Nat), idxF f l k < (k : Int) + l.length
 | [], k => by simp [idxF]; omega
 | x :: l, k => by
   simp only [idxF, List.length_cons]
   split
   · omega
   · have := idxF_lt f l (k + 1); omega
theorem zFt : (zEo.sc = true) = True := by simp [zEo, fam]
theorem tblGo_lab {pts : List Pt} {lab lab' : List Int} (h : isTableF pts lab = true) (hl : lab'.length = lab.length) : isTableF pts lab' = true := by
 simp only [isTableF, hl] at h ⊢; exact h
abbrev QTab := { t : List Pt × List Int // isTableF t.1 t.2 = true }
def rTO (q : (List Pt × List Int) × Bool) : Res := { val := .tup [.agg [.im (.sl 1 (rowsZ q.1.1)), .im (.sl 1 (rowsN q.1.2))], .c (.im (.bool q.2))] }
theorem okR_TO {q : (List Pt × List Int) × Bool} : OkR false (rTO q) := by
 refine ⟨.tup _ (fun d hd => ?_), by simp [rTO], by simp [rTO]⟩
 simp only [List.mem_cons, List.not_mem_nil, or_false] at hd
 rcases hd with rfl | rfl
 · refine .inr ⟨_, rfl, fun x hx => ?_⟩
   simp only [List.mem_cons, List.not_mem_nil, or_false] at hx
   rcases hx with rfl | rfl <;> exact .im _ (.inl rfl)
 · exact .inl ⟨_, rfl, .im _ (.inl rfl)⟩
theorem tab_nil : isTableF [] [] = true := by decide
def gridPt (S i k : Nat) : Pt := (FloatKind.f32.nearest (2 * (i : Int) - (S : Int) + 1), FloatKind.f32.nearest (2 * (k : Int) - (S : Int) + 1))
def gridP (S n : Nat) : List Pt := (List.range n).map fun j => gridPt S (j / S) (j % S)
def gridN (n : Nat) : List Int := (List.range n).map fun (j : Nat) => (j : Int)
theorem gridP_len (S n : Nat) : (gridP S n).length = n := by simp [gridP]
theorem gridN_len (n : Nat) : (gridN n).length = n := by simp [gridN]
theorem gridP_succ {S i k : Nat} (h : k < S) : gridP S (i * S + k) ++ [gridPt S i k] = gridP S (i * S + (k + 1)) := by
 have h1 : (i * S + k) / S = i := by rw [Nat.mul_comm, Nat.mul_add_div (by omega), Nat.div_eq_of_lt h]; omega
 have h2 : (i * S + k) % S = k := by rw [Nat.mul_comm, Nat.mul_add_mod, Nat.mod_eq_of_lt h]
 simp only [gridP]
 rw [show i * S + (k + 1) = (i * S + k) + 1 by omega, List.range_succ, List.map_append, List.map_singleton, h1, h2]
theorem gridN_succ (n : Nat) : gridN n ++ [(n : Int)] = gridN (n + 1) := by simp [gridN, List.range_succ]
theorem grid_tab {S : Nat} (h1 : 1 ≤ S) (h2 : S ≤ 3) : isTableF (gridP S (S * S)) (gridN (S * S)) = true := by
 have : S = 1 ∨ S = 2 ∨ S = 3 := by omega
 rcases this with rfl | rfl | rfl <;> decide +kernel
abbrev N3 := { n : Nat // 1 ≤ n ∧ n ≤ 3 }
noncomputable def ct_GridTable : Ct := fam false (fun x : N3 => ([.c (.im (.int .i64 (x.1 : Int)))], [])) (fun x => .one (rTO ((gridP x.1 (x.1 * x.1), gridN (x.1 * x.1)), true)))
theorem run_GridTable {n : Nat} (h1 : 1 ≤ n) (h2 : n ≤ 3) : ct_GridTable.run [.c (.im (.int .i64 (n : Int)))] [] = some (.one (rTO ((gridP n (n * n), gridN (n * n)), true))) := zAd (args := fun x : N3 => ([D.c (.im (.int .i64 (x.1 : Int)))], [])) (by
   intro a b h
   simp only [Prod.mk.injEq, List.cons.injEq, D.c.injEq, D.agg.injEq, C.im.injEq, I.cpx.injEq, I.flt.injEq, I.int.injEq, I.sl.injEq, I.bool.injEq, I.str.injEq, Int.natCast_inj, true_and, and_true] at h
   (try simp only [Prod.ext_iff, Subtype.ext_iff])
   (try simp only [zAs, zAw] at h)
   simp_all) (⟨n, h1, h2⟩ : N3)
set_option maxRecDepth 100000 in
set_option maxHeartbeats 8000000 in
theorem law_GridTable : Law Tryz.prog 193 ct_GridTable := by
 refine zBl (zAc law_l1In zAe) hmixA Tryz.func193 rfl rfl (fun ⟨S, s1, s2⟩ => ⟨okO okR_TO, by simp [Tryz.f193], ?_⟩)
 simp only [rTO]
 have hb : (decide ((1 : Int) ≤ (S : Int)) && decide ((S : Int) ≤ 8)) = true := by simp; omega
 try simp -dsimp (maxSteps := 1000000) only [go_sem, List.forall_mem_nil, ↓reduceIte, Nat.reduceEqDiff, Nat.reduceLT, Nat.reduceLeDiff, Nat.reduceAdd, Nat.reduceMul, reduceCtorEq, Tryz.f193, zBm, hb]
 refine zBh (ι := { i : Nat // i ≤ S }) (fun i => ⟨[(0, some (.c (.im (.int .i64 (S : Int))))), (2, some (.c (.ptr 0 0 0 0))), (4, some (.c (.ptr 1 0 0 0))), (5, some (.c (.im (.int .i64 (i.1 : Int)))))],
   [(0, some (.box [.t .nil, .t .nil])), (1, some (.box [.t (.own 1 (tI (rowsZ (gridP S (i.1 * S))))), .t (.own 1 (tI (rowsN (gridN (i.1 * S)))))]))], 2⟩) (fun i => S - i.1) ⟨0, by omega⟩ ⟨[.nilT 1 0 0 1, .nilT 1 0 1 1], [0, 1], by ((simp only [go_sem, eq_self, MvRb, MvRn, MvRt, List.nodup_cons, List.nodup_nil, ↓reduceIte, Nat.reduceEqDiff, Nat.reduceLT, Nat.reduceLeDiff, reduceCtorEq, List.forall_mem_nil, Nat.zero_le, false_implies, List.mem_singleton, Option.map_some, Nat.zero_mul, MvB_Z, MvB_N]) <;> (try (simp -dsimp only [go_sem, eq_self, MvRb, MvRn, MvRt, List.nodup_cons, List.nodup_nil, ↓reduceIte, Nat.reduceEqDiff, Nat.reduceLT, Nat.reduceLeDiff, reduceCtorEq, List.forall_mem_nil, Nat.zero_le, false_implies, List.mem_singleton, Option.map_some, Nat.zero_mul, MvB_Z, MvB_N]))) <;> simp [lk, zBg, MvB_Z, gridP, gridN, rowsZ, rowsN, tI]⟩ (fun ⟨i, hi⟩ => ?_)
 simp only
 by_cases hlt : i < S
 rotate_left
 · have hI : ((i : Int) < (S : Int)) = False := eq_false (by omega)
   obtain rfl : i = S := by omega
   have hmp : mapO (mapO imT) (tI (rowsZ (gridP i (i * i)))) = some (rowsZ (gridP i (i * i))) := zGi _
   have hml : mapO (mapO imT) (tI (rowsN (gridN (i * i)))) = some (rowsN (gridN (i * i))) := zGi _
   try simp -dsimp (maxSteps := 1000000) only [go_sem, List.forall_mem_nil, ↓reduceIte, Nat.reduceEqDiff, Nat.reduceLT, Nat.reduceLeDiff, Nat.reduceAdd, Nat.reduceMul, reduceCtorEq, Tryz.f193, hI, zAg, zAa, zAb]
   refine zAj [.frz 2 [.b 0 0 0], .frz 3 [.b 0 0 1]] ?_
   simp -dsimp (maxSteps := 1000000) only [go_sem, List.forall_mem_nil, ↓reduceIte, Nat.reduceEqDiff, Nat.reduceLT, Nat.reduceLeDiff, Nat.reduceAdd, Nat.reduceMul, reduceCtorEq, hmp, hml, zAg, zAa, zAb]
 have hI : ((i : Int) < (S : Int)) = True := eq_true (by omega)
 have hwi : IntKind.i64.wrap ((i : Int) + 1) = ((i + 1 : Nat) : Int) := by rw [zAi (by omega) (by omega)]; omega
 try simp -dsimp (maxSteps := 1000000) only [go_sem, List.forall_mem_nil, ↓reduceIte, Nat.reduceEqDiff, Nat.reduceLT, Nat.reduceLeDiff, Nat.reduceAdd, Nat.reduceMul, reduceCtorEq, Tryz.f193, hI]
 refine zBh (ι := { k : Nat // k ≤ S }) (fun k => ⟨[(0, some (.c (.im (.int .i64 (S : Int))))), (2, some (.c (.ptr 0 0 0 0))), (4, some (.c (.ptr 1 0 0 0))), (5, some (.c (.im (.int .i64 (i : Int))))), (6, some (.c (.im (.int .i64 (k.1 : Int)))))],
   [(0, some (.box [.t .nil, .t .nil])), (1, some (.box [.t (.own 1 (tI (rowsZ (gridP S (i * S + k.1))))), .t (.own 1 (tI (rowsN (gridN (i * S + k.1)))))]))], 2⟩) (fun k => S - k.1) ⟨0, by omega⟩ ⟨[], [0, 1], by ((simp only [go_sem, eq_self, MvRb, MvRn, MvRt, List.nodup_cons, List.nodup_nil, ↓reduceIte, Nat.reduceEqDiff, Nat.reduceLT, Nat.reduceLeDiff, reduceCtorEq, List.forall_mem_nil, Nat.zero_le, false_implies, List.mem_singleton, MvB_Z, MvB_N, Nat.add_zero]) <;> (try (simp -dsimp only [go_sem, eq_self, MvRb, MvRn, MvRt, List.nodup_cons, List.nodup_nil, ↓reduceIte, Nat.reduceEqDiff, Nat.reduceLT, Nat.reduceLeDiff, reduceCtorEq, List.forall_mem_nil, Nat.zero_le, false_implies, List.mem_singleton, MvB_Z, MvB_N, Nat.add_zero]))) <;> simp [lk, zBg, MvB_Z, MvB_N]⟩ (fun ⟨k, hk⟩ => ?_)
 simp only
 by_cases hkt : k < S
 rotate_left
 · have hJ : ((k : Int) < (S : Int)) = False := eq_false (by omega)
   obtain rfl : k = S := by omega
   try simp -dsimp (maxSteps := 1000000) only [go_sem, List.forall_mem_nil, ↓reduceIte, Nat.reduceEqDiff, Nat.reduceLT, Nat.reduceLeDiff, Nat.reduceAdd, Nat.reduceMul, reduceCtorEq, Tryz.f193, hJ, hwi]
   exact ⟨⟨i + 1, by omega⟩, by simp only []; omega, [], [0, 1], by (simp only [go_sem, eq_self, MvRb, MvRn, MvRt, List.nodup_cons, List.nodup_nil, ↓reduceIte, Nat.reduceEqDiff, Nat.reduceLT, Nat.reduceLeDiff, reduceCtorEq, List.forall_mem_nil, Nat.zero_le, false_implies, List.mem_singleton, MvB_Z, MvB_N, Nat.succ_mul]) <;> simp [lk, zBg, MvB_Z, MvB_N]⟩
 have hJ : ((k : Int) < (S : Int)) = True := eq_true (by omega)
 have hwk : IntKind.i64.wrap ((k : Int) + 1) = ((k + 1 : Nat) : Int) := by rw [zAi (by omega) (by omega)]; omega
 have a1 : IntKind.i64.wrap (2 * (i : Int)) = 2 * (i : Int) := zAi (by omega) (by omega)
 have a2 : IntKind.i64.wrap (2 * (i : Int) - (S : Int)) = 2 * (i : Int) - (S : Int) := zAi (by omega) (by omega)
 have a3 : IntKind.i64.wrap (2 * (i : Int) - (S : Int) + 1) = 2 * (i : Int) - (S : Int) + 1 := zAi (by omega) (by omega)
 have b1 : IntKind.i64.wrap (2 * (k : Int)) = 2 * (k : Int) := zAi (by omega) (by omega)
 have b2 : IntKind.i64.wrap (2 * (k : Int) - (S : Int)) = 2 * (k : Int) - (S : Int) := zAi (by omega) (by omega)
 have b3 : IntKind.i64.wrap (2 * (k : Int) - (S : Int) + 1) = 2 * (k : Int) - (S : Int) + 1 := zAi (by omega) (by omega)
 have hiS : i * S ≤ 9 := by
   calc i * S ≤ 3 * 3 := Nat.mul_le_mul (by omega) s2
     _ = 9 := rfl
 have c1 : IntKind.i64.wrap ((i : Int) * (S : Int)) = ((i * S : Nat) : Int) := by rw [← Int.natCast_mul, zAi (by omega) (by omega)]
 have c2 : IntKind.i64.wrap (((i * S : Nat) : Int) + (k : Int)) = ((i * S + k : Nat) : Int) := by rw [zAi (by omega) (by omega)]; omega
 have hby : ((i * S + k + 1) * 8 ≤ 140737488355328) = True := eq_true (by omega)
 have hp : tI (rowsZ (gridP S (i * S + k))) ++ [[T.im (.cpx .f32 (FloatKind.f32.nearest (2 * (i : Int) - (S : Int) + 1)) (FloatKind.f32.nearest (2 * (k : Int) - (S : Int) + 1)))]] = tI (rowsZ (gridP S (i * S + (k + 1)))) := by
   rw [← gridP_succ hkt]; simp [tI, rowsZ, gridPt]
 have hn : tI (rowsN (gridN (i * S + k))) ++ [[T.im (.int .i64 ((i * S + k : Nat) : Int))]] = tI (rowsN (gridN (i * S + (k + 1)))) := by
   rw [show i * S + (k + 1) = (i * S + k) + 1 by omega, ← gridN_succ]; simp [tI, rowsN]
 have lz : (tI (rowsZ (gridP S (i * S + (k + 1))))).length = i * S + k + 1 := by simp [zAg, zAa, gridP_len]; omega
 have ln : (tI (rowsN (gridN (i * S + (k + 1))))).length = i * S + k + 1 := by simp [zAg, zAb, gridN_len]; omega
 try simp -dsimp (maxSteps := 1000000) only [go_sem, List.forall_mem_nil, ↓reduceIte, Nat.reduceEqDiff, Nat.reduceLT, Nat.reduceLeDiff, Nat.reduceAdd, Nat.reduceMul, reduceCtorEq, Tryz.f193, hJ, hwk, a1, a2, a3, b1, b2, b3, c1, c2, hp, hn, lz, ln, hby, appendH, srcRows, List.take_succ_cons, List.take_zero, List.all_cons, List.all_nil, okT, Bool.and_true, List.length_append, zAg, zAa, zAb, gridP_len, gridN_len]
 exact ⟨⟨k + 1, by omega⟩, by simp only []; omega, [.fold 1 0 0, .fold 1 0 1], [0, 1], by (simp only [go_sem, eq_self, MvRb, MvRn, MvRt, List.nodup_cons, List.nodup_nil, ↓reduceIte, Nat.reduceEqDiff, Nat.reduceLT, Nat.reduceLeDiff, reduceCtorEq, List.forall_mem_nil, Nat.zero_le, false_implies, List.mem_singleton, Option.map_some, lz, ln, MvB_Z, MvB_N]) <;> simp [lk, zBg, MvB_Z, MvB_N]⟩
theorem okAgg2 {i j : I} : OkD false 0 (.agg [.im i, .im j]) := .agg _ (fun x hx => by
 simp only [List.mem_cons, List.not_mem_nil, or_false] at hx
 rcases hx with rfl | rfl <;> exact .im _ (.inl rfl))
end Go.SX
