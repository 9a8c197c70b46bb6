/-
  Tables whose words are below 2^32: PutPoint, l2Table.
  Modules whose words are below 2^32: l5Slice, l5Step, l5Module, MakeModule.
  A step, a reset, a control keep a module valid, its words below 2^32: plain words.
  impl: ControlModule, TellModule, StepModule.
  impl: same, samePoints, SameModules, at values that are equal but for NaNs' words.
  No condition.
-/
import Derived.Test.YtfmpjhjnpeheeaaGreatDoorPkI
set_option linter.unusedVariables false
set_option linter.unusedSimpArgs false
namespace Go.SX
open Go Go.Proofs Ieee
def TbW (pts : List Pt) (lab : List Int) : Prop := (∀ p ∈ pts, p.1 < 4294967296 ∧ p.2 < 4294967296) ∧ ∀ x ∈ lab, i64B x
theorem TbW_nil : TbW [] [] := ⟨by simp, by simp⟩
theorem TbW_set {pts : List Pt} {lab : List Int} (h : TbW pts lab) {n : Int} (hn : i64B n) (K : Nat) : TbW pts (lab.set K n) := ⟨h.1, fun x hx => by
 rcases List.mem_or_eq_of_mem_set hx with h' | rfl
 · exact h.2 x h'
 · exact hn⟩
theorem TbW_app {pts : List Pt} {lab : List Int} (h : TbW pts lab) {u v : Nat} (hu : u < 4294967296) (hv : v < 4294967296) {n : Int} (hn : i64B n) : TbW (pts ++ [(u, v)]) (lab ++ [n]) := by
 refine ⟨fun p hp => ?_, fun x hx => ?_⟩
 · rcases List.mem_append.1 hp with h' | h'
   · exact h.1 p h'
   · rw [List.mem_singleton.1 h']; exact ⟨hu, hv⟩
 · rcases List.mem_append.1 hx with h' | h'
   · exact h.2 x h'
   · rw [List.mem_singleton.1 h']; exact hn
theorem grid_W {S : Nat} (h : S ≤ 3) : TbW (gridP S (S * S)) (gridN (S * S)) := by
 refine ⟨fun p hp => ?_, fun x hx => ?_⟩
 · simp only [gridP, List.mem_map] at hp
   obtain ⟨j, _, rfl⟩ := hp
   exact ⟨nr32 _, nr32 _⟩
 · simp only [gridN, List.mem_map, List.mem_range] at hx
   obtain ⟨j, hj, rfl⟩ := hx
   have : S * S ≤ 9 := by
     calc S * S ≤ 3 * 3 := Nat.mul_le_mul h h
       _ = 9 := rfl
   exact ⟨by omega, by omega⟩
abbrev I64u := { n : Int // i64B n }
abbrev QTabU := { t : List Pt × List Int // isTableF t.1 t.2 = true ∧ TbW t.1 t.2 }
def oPutU : Outs := .any (QTabU × Bool) (fun q => rTO (q.1.1, q.2))
theorem ne_putU : Nonempty (QTabU × Bool) = True := by simp only [eq_iff_iff, iff_true]; exact ⟨(⟨([], []), tab_nil, TbW_nil⟩, true)⟩
noncomputable def zFz : Ct := fam false (fun x : QTabU × P32 × I64u => ([.agg [.im (.sl 1 (rowsZ x.1.1.1)), .im (.sl 1 (rowsN x.1.1.2))], .c (.im (.cpx .f32 x.2.1.1.1 x.2.1.1.2)), .c (.im (.int .i64 x.2.2.1))], [])) (fun _ => oPutU)
theorem run_PutPointU {pts : List Pt} {lab : List Int} (h : isTableF pts lab = true) (hW : TbW pts lab) {u v : Nat} (hu : u < 4294967296) (hv : v < 4294967296) {n : Int} (hn : i64B n) : zFz.run [.agg [.im (.sl 1 (rowsZ pts)), .im (.sl 1 (rowsN lab))], .c (.im (.cpx .f32 u v)), .c (.im (.int .i64 n))] [] = some oPutU :=
 zDw (args := fun x : QTabU × P32 × I64u => ([D.agg [.im (.sl 1 (rowsZ x.1.1.1)), .im (.sl 1 (rowsN x.1.1.2))], .c (.im (.cpx .f32 x.2.1.1.1 x.2.1.1.2)), .c (.im (.int .i64 x.2.2.1))], [])) (fun _ _ _ => rfl) (⟨(pts, lab), h, hW⟩, ⟨(u, v), hu, hv⟩, ⟨n, hn⟩)
set_option maxRecDepth 100000 in
set_option maxHeartbeats 4000000 in
theorem law_PutPointU : Law Tryz.prog 194 zFz := by
 refine zBl (zAc zHp (zAc law_l2Copy (zAc law_l2At zAe))) hmixA Tryz.func194 rfl rfl (fun ⟨⟨⟨pts, lab⟩, hT, hW⟩, ⟨⟨u, v⟩, hu, hv⟩, ⟨n, hn⟩⟩ => ⟨okA (fun o => okR_TO), by simp [Tryz.f194], ?_⟩)
 simp only at hT hW hu hv
 obtain ⟨e1, e2⟩ := zHh hT
 have h1 : pts.length ≤ sm := by have : sm = 16777216 := rfl; omega
 have h2 : lab.length ≤ sm := by have : sm = 16777216 := rfl; omega
 simp only [oPutU, rTO]
 by_cases hi : 0 ≤ idxF (eqPt · (u, v)) pts 0
 · obtain ⟨K, hK⟩ := Int.eq_ofNat_of_zero_le hi
   have hKl : K < pts.length := by have := idxF_lt (eqPt · (u, v)) pts 0; rw [hK] at this; omega
   obtain ⟨q, hq⟩ : ∃ q, lab[K]? = some q := ⟨_, List.getElem?_eq_getElem (by omega)⟩
   have hrow : (tI (rowsN lab))[K]? = some [T.im (.int .i64 q)] := tI_at (zGs hq)
   have hset : (tI (rowsN lab)).set K [T.im (.int .i64 n)] = tI (rowsN (lab.set K n)) := by simp [tI, rowsN, List.map_set]
   have hi0 : (0 ≤ (K : Int)) = True := by simp
   have hi1 : ((K : Int) < (lab.length : Int)) = True := eq_true (by omega)
   have hmp : mapO (mapO imT) (tI (rowsZ pts)) = some (rowsZ pts) := zGi _
   have hml : mapO (mapO imT) (tI (rowsN (lab.set K n))) = some (rowsN (lab.set K n)) := zGi _
   try simp -dsimp (maxSteps := 1000000) only [go_sem, List.forall_mem_nil, ↓reduceIte, Nat.reduceEqDiff, Nat.reduceLT, Nat.reduceLeDiff, Nat.reduceAdd, Nat.reduceMul, reduceCtorEq, Tryz.f194, zBy h1 h2, hT, zCw h1 h2, rTb, run_l2At h1 h2, hK, hi0, hi1, hrow, hset, zAg, zAa, zAb, sc_IsTable, zFt, sc_l2At, Int.toNat_natCast]
   refine zAj [.frz 2 [.b 1 0 0], .frz 3 [.b 1 0 1]] ?_
   simp -dsimp (maxSteps := 1000000) only [go_sem, List.forall_mem_nil, ↓reduceIte, Nat.reduceEqDiff, Nat.reduceLT, Nat.reduceLeDiff, Nat.reduceAdd, Nat.reduceMul, reduceCtorEq, hmp, hml, zAg, zAa, zAb, List.length_set]
   exact ⟨(⟨(pts, lab.set K n), tblGo_lab hT (by simp), TbW_set hW hn K⟩, true), ⟨rfl, rfl⟩, rfl⟩
 have hi' := eq_false hi
 have hby1 : ((pts.length + 1) * 8 ≤ 140737488355328) = True := eq_true (by omega)
 have hby2 : ((lab.length + 1) * 8 ≤ 140737488355328) = True := eq_true (by omega)
 have hap1 : tI (rowsZ pts) ++ [[T.im (.cpx .f32 u v)]] = tI (rowsZ (pts ++ [(u, v)])) := by simp [tI, rowsZ]
 have hap2 : tI (rowsN lab) ++ [[T.im (.int .i64 n)]] = tI (rowsN (lab ++ [n])) := by simp [tI, rowsN]
 have hmp : mapO (mapO imT) (tI (rowsZ (pts ++ [(u, v)]))) = some (rowsZ (pts ++ [(u, v)])) := zGi _
 have hml : mapO (mapO imT) (tI (rowsN (lab ++ [n]))) = some (rowsN (lab ++ [n])) := zGi _
 have h1' : (pts ++ [(u, v)]).length ≤ sm := by have : sm = 16777216 := rfl; simp; omega
 have h2' : (lab ++ [n]).length ≤ sm := by have : sm = 16777216 := rfl; simp; omega
 have lz : (tI (rowsZ (pts ++ [(u, v)]))).length = pts.length + 1 := by simp [zAg, zAa]
 have ln : (tI (rowsN (lab ++ [n]))).length = lab.length + 1 := by simp [zAg, zAb]
 have tkz : List.take (pts.length + 1) (tI (rowsZ (pts ++ [(u, v)]))) = tI (rowsZ (pts ++ [(u, v)])) := List.take_of_length_le (by omega)
 have tkn : List.take (lab.length + 1) (tI (rowsN (lab ++ [n]))) = tI (rowsN (lab ++ [n])) := List.take_of_length_le (by omega)
 cases hT2 : isTableF (pts ++ [(u, v)]) (lab ++ [n]) with
 | true =>
   try simp -dsimp (maxSteps := 1000000) only [go_sem, List.forall_mem_nil, ↓reduceIte, Nat.reduceEqDiff, Nat.reduceLT, Nat.reduceLeDiff, Nat.reduceAdd, Nat.reduceMul, reduceCtorEq, Tryz.f194, zBy h1 h2, hT, zCw h1 h2, rTb, run_l2At h1 h2, hi', hby1, hby2, hap1, hap2, lz, ln, tkz, tkn, zBy h1' h2', hT2, appendH, srcRows, List.take_succ_cons, List.take_zero, List.all_cons, List.all_nil, okT, Bool.and_true, List.length_append, zBc, zAg, zAa, zAb, sc_IsTable, zFt, sc_l2At, Int.toNat_natCast]
   refine zAj [.frz 6 [.b 1 0 0], .frz 8 [.b 1 0 1]] ?_
   simp -dsimp (maxSteps := 1000000) only [go_sem, List.forall_mem_nil, ↓reduceIte, Nat.reduceEqDiff, Nat.reduceLT, Nat.reduceLeDiff, Nat.reduceAdd, Nat.reduceMul, reduceCtorEq, hmp, hml, lz, ln, zAg, zAa, zAb, List.length_set]
   exact ⟨(⟨(pts ++ [(u, v)], lab ++ [n]), hT2, TbW_app hW hu hv hn⟩, true), ⟨rfl, rfl⟩, rfl⟩
 | false =>
   try simp -dsimp (maxSteps := 1000000) only [go_sem, List.forall_mem_nil, ↓reduceIte, Nat.reduceEqDiff, Nat.reduceLT, Nat.reduceLeDiff, Nat.reduceAdd, Nat.reduceMul, reduceCtorEq, Tryz.f194, zBy h1 h2, hT, zCw h1 h2, rTb, run_l2At h1 h2, hi', hby1, hby2, hap1, hap2, lz, ln, tkz, tkn, zBy h1' h2', hT2, appendH, srcRows, List.take_succ_cons, List.take_zero, List.all_cons, List.all_nil, okT, Bool.and_true, List.length_append, zBc, zAg, zAa, zAb, sc_IsTable, zFt, sc_l2At, Int.toNat_natCast]
   refine zAj [.nilI 1 [.b 1 0 0, .b 1 0 1]] ?_
   simp -dsimp (maxSteps := 1000000) only [go_sem, List.forall_mem_nil, ↓reduceIte, Nat.reduceEqDiff, Nat.reduceLT, Nat.reduceLeDiff, Nat.reduceAdd, Nat.reduceMul, reduceCtorEq]
   exact ⟨(⟨([], []), tab_nil, TbW_nil⟩, false), ⟨rfl, rfl⟩, rfl⟩
def oTabU (l : List Int) : Outs := .any (QTabU × SK l) (fun q => { val := .agg [.im (.sl 1 (rowsZ q.1.1.1)), .im (.sl 1 (rowsN q.1.1.2))], places := hsK l q.2.1.1 q.2.1.2 })
theorem ne_tabU (l : List Int) : Nonempty (QTabU × SK l) = True := by simp only [eq_iff_iff, iff_true]; exact ⟨(⟨([], []), tab_nil, TbW_nil⟩, ⟨(0, 0), by simp⟩)⟩
noncomputable def ct_l2TableU : Ct := fam false (fun x : AKn => ([.c (.ptr 0 0 0 0)], hsK x.l x.a x.h)) (fun x => oTabU x.l)
theorem run_l2TableU {l : List Int} {a h : Int} (h1 : l.length ≤ 1048576) (h2 : ∀ b ∈ l, 0 ≤ b ∧ b < 256) (h3 : 0 ≤ a) (h4 : a ≤ l.length) : ct_l2TableU.run [.c (.ptr 0 0 0 0)] [[.t (.im (.sl 1 (rowsB l))), .t (.im (.int .i64 a)), .t (.im (.int .i64 h))]] = some (oTabU l) := by
 refine zAd (args := fun x : AKn => ([D.c (.ptr 0 0 0 0)], hsK x.l x.a x.h)) (fun x y h => ?_) ⟨l, h1, h2, a, h, h3, h4⟩
 simp only [Prod.mk.injEq, true_and] at h
 exact zGh (zGg h)
theorem sc_PutPointU : (zFz.sc = true) = False := by simp [zFz, fam]
set_option maxRecDepth 100000 in
set_option maxHeartbeats 8000000 in
theorem law_l2TableU : Law Tryz.prog 120 ct_l2TableU := by
 refine zBl (zAc law_l01Once (zAc zCi (zAc law_GridTable (zAc law_l2Small (zAc law_l2AnyU (zAc law_PutPointU zAe)))))) hmixA Tryz.func120 rfl rfl (fun ⟨l, h1, h2, a, h, h3, h4⟩ => ⟨okA (fun o => okK (n := 0) okAgg2), by simp [Tryz.f120], ?_⟩)
 simp only [oTabU, hsK]
 have h7 : ∀ (a h : Int), 0 ≤ a → a ≤ l.length → zFp.run [.c (.ptr 0 0 0 0), .c (.im (.int .i64 7))] [[.t (.im (.sl 1 (rowsB l))), .t (.im (.int .i64 a)), .t (.im (.int .i64 h))]] = some (oBelow l 7) := fun a h q1 q2 => zAy h1 h2 q1 q2 (n := 7) (by decide) (by decide)
 try simp -dsimp (maxSteps := 1000000) only [go_sem, List.forall_mem_nil, ↓reduceIte, Nat.reduceEqDiff, Nat.reduceLT, Nat.reduceLeDiff, Nat.reduceAdd, Nat.reduceMul, reduceCtorEq, Tryz.f120, zGp h1 h2 h3 h4 (n := 4) (by decide) (by decide), oOnce, hsK, ne_once]
 rintro ⟨c1, ⟨⟨a1, k1⟩, b1⟩⟩
 cases c1
 case' true =>
   try simp -dsimp (maxSteps := 1000000) only [go_sem, List.forall_mem_nil, ↓reduceIte, Nat.reduceEqDiff, Nat.reduceLT, Nat.reduceLeDiff, Nat.reduceAdd, Nat.reduceMul, reduceCtorEq, Tryz.f120, zAy h1 h2 b1.1 b1.2 (n := 3) (by decide) (by decide), oBelow, hsK, zBd l (n := 3) (by decide)]
   rintro ⟨⟨v, ⟨⟨a2, k2⟩, b2⟩⟩, v1, v2⟩
   simp only at v1 v2
   obtain ⟨V, rfl⟩ := Int.eq_ofNat_of_zero_le v1
   have hw : IntKind.i64.wrap (1 + (V : Int)) = ((V + 1 : Nat) : Int) := by rw [zAi (by omega) (by omega)]; omega
   obtain ⟨pts0, hp0⟩ : ∃ p, gridP (V + 1) ((V + 1) * (V + 1)) = p := ⟨_, rfl⟩
   obtain ⟨lab0, hl0⟩ : ∃ p, gridN ((V + 1) * (V + 1)) = p := ⟨_, rfl⟩
   have hT0 : isTableF pts0 lab0 = true := by rw [← hp0, ← hl0]; exact grid_tab (by omega) (by omega)
   have hW0 : TbW pts0 lab0 := by rw [← hp0, ← hl0]; exact grid_W (by omega)
   try simp -dsimp (maxSteps := 1000000) only [go_sem, List.forall_mem_nil, ↓reduceIte, Nat.reduceEqDiff, Nat.reduceLT, Nat.reduceLeDiff, Nat.reduceAdd, Nat.reduceMul, reduceCtorEq, Tryz.f120, hw, run_GridTable (n := V + 1) (by omega) (by omega), rTO, hp0, hl0, hsK, h7 a2 k2 b2.1 b2.2, oBelow, zBd l (n := 7) (by decide)]
   rintro ⟨⟨v7, ⟨⟨a, k⟩, b⟩⟩, r1, r2⟩
   simp only at r1 r2 b
   obtain ⟨N, rfl⟩ := Int.eq_ofNat_of_zero_le r1
   try simp -dsimp (maxSteps := 1000000) only [go_sem, List.forall_mem_nil, ↓reduceIte, Nat.reduceEqDiff, Nat.reduceLT, Nat.reduceLeDiff, Nat.reduceAdd, Nat.reduceMul, reduceCtorEq, Tryz.f120, hsK]
   have i0 : ∃ x : (QTabU × SK l) × { n : Nat // n ≤ 7 }, x = ((⟨(pts0, lab0), hT0, hW0⟩, ⟨(a, k), b⟩), ⟨N, by omega⟩) := ⟨_, rfl⟩
   obtain ⟨i0, hi0⟩ := i0
   refine zBh (ι := (QTabU × SK l) × { n : Nat // n ≤ 7 }) (fun x => ⟨[(0, some (.c (.ptr 0 0 0 0))), (2, some (.c (.ptr 1 0 0 0))), (3, some (.c (.ptr 2 0 0 0))), (4, some (.c (.im (.int .i64 (x.2.1 : Int)))))],
     [(0, some (.box [.t (.im (.sl 1 (rowsB l))), .t (.im (.int .i64 x.1.2.1.1)), .t (.im (.int .i64 x.1.2.1.2))])), (1, some (.box [.t .nil, .t .nil])), (2, some (.box [.t (.im (.sl 1 (rowsZ x.1.1.1.1))), .t (.im (.sl 1 (rowsN x.1.1.1.2)))]))], 3⟩) (fun x => x.2.1) i0 ⟨[], [0, 1, 2], by subst hi0; (simp only [go_sem, eq_self, MvRb, MvRn, MvRt, List.nodup_cons, List.nodup_nil, ↓reduceIte, Nat.reduceEqDiff, Nat.reduceLT, Nat.reduceLeDiff, reduceCtorEq, List.forall_mem_nil, Nat.zero_le, false_implies, List.mem_singleton]) <;> simp [lk, zBg]⟩ (fun ⟨⟨⟨⟨pts, lab⟩, hT, hW⟩, ⟨⟨a, k⟩, b⟩⟩, ⟨n, hn⟩⟩ => ?_)
 case' false =>
   try simp -dsimp (maxSteps := 1000000) only [go_sem, List.forall_mem_nil, ↓reduceIte, Nat.reduceEqDiff, Nat.reduceLT, Nat.reduceLeDiff, Nat.reduceAdd, Nat.reduceMul, reduceCtorEq, Tryz.f120, hsK, h7 a1 k1 b1.1 b1.2, oBelow, zBd l (n := 7) (by decide)]
   rintro ⟨⟨v7, ⟨⟨a, k⟩, b⟩⟩, r1, r2⟩
   simp only at r1 r2 b
   obtain ⟨N, rfl⟩ := Int.eq_ofNat_of_zero_le r1
   try simp -dsimp (maxSteps := 1000000) only [go_sem, List.forall_mem_nil, ↓reduceIte, Nat.reduceEqDiff, Nat.reduceLT, Nat.reduceLeDiff, Nat.reduceAdd, Nat.reduceMul, reduceCtorEq, Tryz.f120, hsK]
   have i0 : ∃ x : (QTabU × SK l) × { n : Nat // n ≤ 7 }, x = ((⟨([], []), tab_nil, TbW_nil⟩, ⟨(a, k), b⟩), ⟨N, by omega⟩) := ⟨_, rfl⟩
   obtain ⟨i0, hi0⟩ := i0
   refine zBh (ι := (QTabU × SK l) × { n : Nat // n ≤ 7 }) (fun x => ⟨[(0, some (.c (.ptr 0 0 0 0))), (2, some (.c (.ptr 1 0 0 0))), (3, some (.c (.ptr 2 0 0 0))), (4, some (.c (.im (.int .i64 (x.2.1 : Int)))))],
     [(0, some (.box [.t (.im (.sl 1 (rowsB l))), .t (.im (.int .i64 x.1.2.1.1)), .t (.im (.int .i64 x.1.2.1.2))])), (1, some (.box [.t .nil, .t .nil])), (2, some (.box [.t (.im (.sl 1 (rowsZ x.1.1.1.1))), .t (.im (.sl 1 (rowsN x.1.1.1.2)))]))], 3⟩) (fun x => x.2.1) i0 ⟨[.nilI 1 [.b 2 0 0, .b 2 0 1]], [0, 1, 2], by subst hi0; (simp only [go_sem, eq_self, MvRb, MvRn, MvRt, List.nodup_cons, List.nodup_nil, ↓reduceIte, Nat.reduceEqDiff, Nat.reduceLT, Nat.reduceLeDiff, reduceCtorEq, List.forall_mem_nil, Nat.zero_le, false_implies, List.mem_singleton, frzLs, frT, zAk, zAo]) <;> simp [lk, zBg]⟩ (fun ⟨⟨⟨⟨pts, lab⟩, hT, hW⟩, ⟨⟨a, k⟩, b⟩⟩, ⟨n, hn⟩⟩ => ?_)
 all_goals (
   simp only at hT hW b ⊢
   have h6 : ∀ (a h : Int), 0 ≤ a → a ≤ l.length → zFp.run [.c (.ptr 0 0 0 0), .c (.im (.int .i64 6))] [[.t (.im (.sl 1 (rowsB l))), .t (.im (.int .i64 a)), .t (.im (.int .i64 h))]] = some (oBelow l 6) := fun a h q1 q2 => zAy h1 h2 q1 q2 (n := 6) (by decide) (by decide)
   match n with
   | 0 =>
     have c0 : ((0 : Nat) : Int) = 0 := rfl
     have d0 : ((0 : Int) < 0) = False := by simp
     try simp -dsimp (maxSteps := 1000000) only [go_sem, List.forall_mem_nil, ↓reduceIte, Nat.reduceEqDiff, Nat.reduceLT, Nat.reduceLeDiff, Nat.reduceAdd, Nat.reduceMul, reduceCtorEq, Tryz.f120, c0, d0]
     refine zAj [] ?_
     simp -dsimp (maxSteps := 1000000) only [go_sem, List.forall_mem_nil, ↓reduceIte, Nat.reduceEqDiff, Nat.reduceLT, Nat.reduceLeDiff, Nat.reduceAdd, Nat.reduceMul, reduceCtorEq]
     exact ⟨(⟨(pts, lab), hT, hW⟩, ⟨(a, k), b⟩), rfl, rfl, rfl⟩
   | n + 1 =>
     have d0 : ((0 : Int) < ((n + 1 : Nat) : Int)) = True := eq_true (by omega)
     have hk : IntKind.i64.wrap (((n + 1 : Nat) : Int) - 1) = (n : Int) := by rw [zAi (by omega) (by omega)]; omega
     try simp -dsimp (maxSteps := 1000000) only [go_sem, List.forall_mem_nil, ↓reduceIte, Nat.reduceEqDiff, Nat.reduceLT, Nat.reduceLeDiff, Nat.reduceAdd, Nat.reduceMul, reduceCtorEq, Tryz.f120, d0, zGo h1 h2 b.1 b.2, oSmall, hsK, ne_small]
     rintro ⟨⟨⟨u, v⟩, ⟨⟨a2, k2⟩, b2⟩⟩, u1, u2, v1, v2⟩
     obtain ⟨U, hU⟩ : ∃ x, wI u = x := ⟨_, rfl⟩
     have hu := wI32 u
     obtain ⟨V, hV⟩ : ∃ x, wI v = x := ⟨_, rfl⟩
     have hv := wI32 v
     rw [hU] at hu
     rw [hV] at hv
     try simp -dsimp (maxSteps := 1000000) only [go_sem, List.forall_mem_nil, ↓reduceIte, Nat.reduceEqDiff, Nat.reduceLT, Nat.reduceLeDiff, Nat.reduceAdd, Nat.reduceMul, reduceCtorEq, Tryz.f120, hU, hV, hsK, zGp h1 h2 b2.1 b2.2 (n := 6) (by decide) (by decide), oOnce, ne_once]
     rintro ⟨c, ⟨⟨a3, k3⟩, b3⟩⟩
     cases c
     case' false =>
       try simp -dsimp (maxSteps := 1000000) only [go_sem, List.forall_mem_nil, ↓reduceIte, Nat.reduceEqDiff, Nat.reduceLT, Nat.reduceLeDiff, Nat.reduceAdd, Nat.reduceMul, reduceCtorEq, Tryz.f120, hsK, h6 a3 k3 b3.1 b3.2, oBelow, zBd l (n := 6) (by decide)]
       repeat' ((with_reducible refine sl_i ?_ ?_); focus kernel_rfl)
     case' true =>
       try simp -dsimp (maxSteps := 1000000) only [go_sem, List.forall_mem_nil, ↓reduceIte, Nat.reduceEqDiff, Nat.reduceLT, Nat.reduceLeDiff, Nat.reduceAdd, Nat.reduceMul, reduceCtorEq, Tryz.f120, hsK, run_l2AnyU h1 h2 b3.1 b3.2, oPtU, ne_optU]
       rintro ⟨⟨⟨U, V⟩, hu, hv⟩, ⟨⟨a3, k3⟩, b3⟩⟩
       try simp -dsimp (maxSteps := 1000000) only [go_sem, List.forall_mem_nil, ↓reduceIte, Nat.reduceEqDiff, Nat.reduceLT, Nat.reduceLeDiff, Nat.reduceAdd, Nat.reduceMul, reduceCtorEq, Tryz.f120, hsK, h6 a3 k3 b3.1 b3.2, oBelow, zBd l (n := 6) (by decide)]
       repeat' ((with_reducible refine sl_i ?_ ?_); focus kernel_rfl)
     all_goals (
       rintro ⟨⟨v6, ⟨⟨a4, k4⟩, b4⟩⟩, r1, r2⟩
       simp only at r1 r2 b4
       have hw6 : IntKind.i64.wrap (v6 - 2) = v6 - 2 := zAi (by omega) (by omega)
       have hn6 : i64B (v6 - 2) := ⟨by omega, by omega⟩
       try simp only at hu hv
       try simp -dsimp (maxSteps := 1000000) only [go_sem, List.forall_mem_nil, ↓reduceIte, Nat.reduceEqDiff, Nat.reduceLT, Nat.reduceLeDiff, Nat.reduceAdd, Nat.reduceMul, reduceCtorEq, Tryz.f120, hw6, hsK, run_PutPointU hT hW hu hv hn6, sc_PutPointU, oPutU, rTO, ne_putU]
       rintro ⟨⟨⟨pts', lab'⟩, hT', hW'⟩, ok⟩
       cases ok
       · skip
         try simp -dsimp (maxSteps := 1000000) only [go_sem, List.forall_mem_nil, ↓reduceIte, Nat.reduceEqDiff, Nat.reduceLT, Nat.reduceLeDiff, Nat.reduceAdd, Nat.reduceMul, reduceCtorEq, Tryz.f120, hsK, hk, rTO]
         repeat' ((with_reducible refine ro_i ?_ ?_); focus kernel_rfl)
         exact ⟨((⟨(pts, lab), hT, hW⟩, ⟨(a4, k4), b4⟩), ⟨n, by omega⟩), by simp only []; omega, [], [0, 1, 2], by (simp only [go_sem, eq_self, MvRb, MvRn, MvRt, List.nodup_cons, List.nodup_nil, ↓reduceIte, Nat.reduceEqDiff, Nat.reduceLT, Nat.reduceLeDiff, reduceCtorEq, List.forall_mem_nil, Nat.zero_le, false_implies, List.mem_singleton]) <;> simp [lk, zBg]⟩
       · skip
         try simp -dsimp (maxSteps := 1000000) only [go_sem, List.forall_mem_nil, ↓reduceIte, Nat.reduceEqDiff, Nat.reduceLT, Nat.reduceLeDiff, Nat.reduceAdd, Nat.reduceMul, reduceCtorEq, Tryz.f120, hsK, hk, rTO]
         repeat' ((with_reducible refine ro_i ?_ ?_); focus kernel_rfl)
         exact ⟨((⟨(pts', lab'), hT', hW'⟩, ⟨(a4, k4), b4⟩), ⟨n, by omega⟩), by simp only []; omega, [], [0, 1, 2], by (simp only [go_sem, eq_self, MvRb, MvRn, MvRt, List.nodup_cons, List.nodup_nil, ↓reduceIte, Nat.reduceEqDiff, Nat.reduceLT, Nat.reduceLeDiff, reduceCtorEq, List.forall_mem_nil, Nat.zero_le, false_implies, List.mem_singleton]) <;> simp [lk, zBg]⟩))
end Go.SX
namespace Go.SX
open Go Go.Proofs Ieee
structure Wd (m : Mod) : Prop where
 w : W32 m
 rat : i64B m.rat
 cnt : i64B m.count
 lft : i64B m.left
 lab : ∀ x ∈ m.lab, i64B x
theorem zFn : i64B 0 := ⟨by decide, by decide⟩
theorem p32_0 : (0 : Nat) < 4294967296 ∧ (0 : Nat) < 4294967296 := ⟨by decide, by decide⟩
theorem wd_sum : Wd mSum' := ⟨⟨p32_0, p32_0, by decide, by simp [mSum'], by simp [mSum']⟩, zFn, zFn, zFn, by simp [mSum']⟩
theorem wd_2 {k : Int} {t s : Pt} (ht : t.1 < 4294967296 ∧ t.2 < 4294967296) (hs : s.1 < 4294967296 ∧ s.2 < 4294967296) : Wd ⟨k, t, s, 0, [], 0, 0, [], [], 0, 0⟩ := ⟨⟨ht, hs, by simp, by simp, by simp⟩, zFn, zFn, zFn, by simp⟩
theorem wd_1 {k : Int} {l : Nat} (h : l < 4294967296) : Wd ⟨k, (0, 0), (0, 0), l, [], 0, 0, [], [], 0, 0⟩ := ⟨⟨p32_0, p32_0, h, by simp, by simp⟩, zFn, zFn, zFn, by simp⟩
theorem wd_delay {st : List Pt} {a : Int} (h : ∀ p ∈ st, p.1 < 4294967296 ∧ p.2 < 4294967296) (ha : i64B a) : Wd (mDelay' st a) := ⟨⟨p32_0, p32_0, by simp [mDelay'], h, by simp [mDelay']⟩, ha, zFn, zFn, by simp [mDelay']⟩
theorem wd_slicer {pts : List Pt} {lab : List Int} {c : Int} (h : TbW pts lab) (hc : i64B c) : Wd (mSlicer' pts lab c) := ⟨⟨p32_0, p32_0, by simp [mSlicer'], by simp [mSlicer'], h.1⟩, zFn, hc, zFn, h.2⟩
theorem wd_hold {s : Pt} {c l : Int} (hs : s.1 < 4294967296 ∧ s.2 < 4294967296) (h2 : 1 ≤ c) (h3 : c ≤ 100) (h4 : 0 ≤ l) (h5 : l < c) : Wd (mHold' s c l) := ⟨⟨p32_0, hs, by simp [mHold'], by simp [mHold'], by simp [mHold']⟩, zFn, ⟨by simp [mHold']; omega, by simp [mHold']; omega⟩, ⟨by simp [mHold']; omega, by simp [mHold']; omega⟩, by simp [mHold']⟩
theorem set32 {st : List Pt} (h : ∀ p ∈ st, p.1 < 4294967296 ∧ p.2 < 4294967296) {z : Pt} (hz : z.1 < 4294967296 ∧ z.2 < 4294967296) (A : Nat) : ∀ p ∈ st.set A z, p.1 < 4294967296 ∧ p.2 < 4294967296 := fun p hp => by
 rcases List.mem_or_eq_of_mem_set hp with h' | rfl
 · exact h p h'
 · exact hz
theorem mul32 (o : Nat × Nat) (p q : Pt) : (mulPt o p q).1 < 4294967296 ∧ (mulPt o p q).2 < 4294967296 := ⟨narrow32 _ _, narrow32 _ _⟩
theorem lvl32 {x : Nat} (h : lvlB x = true) : x < 4294967296 := by rcases lvl_cases h with rfl | rfl | rfl | rfl <;> decide
structure DrU (m : Mod) : Prop where
 d : Drawn m
 w : Wd m
structure ASlU where
 pts : List Pt
 lab : List Int
 c : Int
 z : Pt
 t : isTableF pts lab = true
 tw : TbW pts lab
def oSlU (pts : List Pt) (lab : List Int) : Outs := .any (I64u × Pt) (fun q => { val := .tup [.agg (modC (mSlicer' pts lab q.1.1)), .c (.im (.cpx .f32 q.2.1 q.2.2))] })
theorem ne_iptU : Nonempty (I64u × Pt) = True := by simp only [eq_iff_iff, iff_true]; exact ⟨(⟨0, zFn⟩, (0, 0))⟩
noncomputable def ct_l5SliceU : Ct := fam false (fun x : ASlU => ([.agg (modC (mSlicer' x.pts x.lab x.c)), .c (.im (.cpx .f32 x.z.1 x.z.2))], [])) (fun x => oSlU x.pts x.lab)
theorem run_l5SliceU {pts : List Pt} {lab : List Int} (h : isTableF pts lab = true) (hW : TbW pts lab) (c : Int) (u v : Nat) : ct_l5SliceU.run [.agg [.im (.int .i64 6), .im (.cpx .f32 0 0), .im (.cpx .f32 0 0), .im (.flt .f32 0), .im (.sl 1 []), .im (.int .i64 0), .im (.int .i64 0), .im (.sl 1 (rowsZ pts)), .im (.sl 1 (rowsN lab)), .im (.int .i64 c), .im (.int .i64 0)], .c (.im (.cpx .f32 u v))] [] = some (oSlU pts lab) := by
 refine zDw (args := fun x : ASlU => ([D.agg (modC (mSlicer' x.pts x.lab x.c)), .c (.im (.cpx .f32 x.z.1 x.z.2))], [])) ?_ ⟨pts, lab, c, (u, v), h, hW⟩
 rintro ⟨p, l, _, _, _, _⟩ ⟨p', l', _, _, _, _⟩ h
 simp [modC, mSlicer', zAs, zAw] at h ⊢
 obtain ⟨⟨rfl, rfl, _⟩, _⟩ := h
 rfl
set_option maxRecDepth 100000 in
set_option maxHeartbeats 4000000 in
theorem law_l5SliceU : Law Tryz.prog 198 ct_l5SliceU := by
 refine zBl (zAc law_l2Nearest zAe) hmixA Tryz.func198 rfl rfl (fun ⟨pts, lab, c, ⟨u, v⟩, hT, hW⟩ => ⟨okA (fun o => okR_Mz), by simp [Tryz.f198], ?_⟩)
 obtain ⟨e1, e2⟩ := zHh hT
 have h1 : pts.length ≤ sm := by have : sm = 16777216 := rfl; omega
 have h2 : lab.length ≤ sm := by have : sm = 16777216 := rfl; omega
 simp only [oSlU, modC, mSlicer', zAk]
 have hlo := nearGo_ge (u, v) pts 0 (-1) 0 (by omega)
 have hhi := nearGo_lt (u, v) pts.length pts 0 (-1) 0 (by omega) (by omega)
 obtain ⟨N, hN⟩ : ∃ n, nearGo (u, v) pts 0 (-1) 0 = n := ⟨_, rfl⟩
 rw [hN] at hlo hhi
 by_cases hneg : N < 0
 · have hn' := eq_true hneg
   try simp -dsimp (maxSteps := 1000000) only [go_sem, List.forall_mem_nil, ↓reduceIte, Nat.reduceEqDiff, Nat.reduceLT, Nat.reduceLeDiff, Nat.reduceAdd, Nat.reduceMul, reduceCtorEq, Tryz.f198, run_l2Nearest h1 h2, hN, hn']
   refine zAj [] ?_
   simp -dsimp (maxSteps := 1000000) only [go_sem, List.forall_mem_nil, ↓reduceIte, Nat.reduceEqDiff, Nat.reduceLT, Nat.reduceLeDiff, Nat.reduceAdd, Nat.reduceMul, reduceCtorEq]
   exact ⟨(⟨-1, by decide, by decide⟩, (_, _)), rfl, rfl, rfl⟩
 · have hn' := eq_false hneg
   obtain ⟨K, rfl⟩ := Int.eq_ofNat_of_zero_le (show 0 ≤ N by omega)
   obtain ⟨q, hq⟩ : ∃ q, lab[K]? = some q := ⟨_, List.getElem?_eq_getElem (by omega)⟩
   obtain ⟨⟨x, y⟩, hp⟩ : ∃ q, pts[K]? = some q := ⟨_, List.getElem?_eq_getElem (by omega)⟩
   have hrq := zGs hq
   have hrp := zCf hp
   have h0 : (0 ≤ (K : Int)) = True := by simp
   have hI1 : ((K : Int) < (lab.length : Int)) = True := eq_true (by omega)
   have hI2 : ((K : Int) < (pts.length : Int)) = True := eq_true (by omega)
   try simp -dsimp (maxSteps := 1000000) only [go_sem, List.forall_mem_nil, ↓reduceIte, Nat.reduceEqDiff, Nat.reduceLT, Nat.reduceLeDiff, Nat.reduceAdd, Nat.reduceMul, reduceCtorEq, Tryz.f198, run_l2Nearest h1 h2, hN, hn', hrq, hrp, h0, hI1, hI2, zAa, zAb, Int.toNat_natCast]
   repeat' (first
     | ((with_reducible refine sl_i ?_ ?_); focus kernel_rfl)
     | ((with_reducible refine ro_i ?_ ?_); focus kernel_rfl))
   refine zAj [] ?_
   simp -dsimp (maxSteps := 1000000) only [go_sem, List.forall_mem_nil, ↓reduceIte, Nat.reduceEqDiff, Nat.reduceLT, Nat.reduceLeDiff, Nat.reduceAdd, Nat.reduceMul, reduceCtorEq]
   exact ⟨(⟨q, hW.2 q (List.mem_of_getElem? hq)⟩, (x, y)), rfl, rfl, rfl⟩
structure AStpU where
 m : Mod
 z : Pt
 d : Drawn m
 w : Wd m
 zw : z.1 < 4294967296 ∧ z.2 < 4294967296
 s1 : lvlB (absS z.1) = true
 s2 : lvlB (absS z.2) = true
abbrev QStpU := { q : Mod × Pt // DrU q.1 }
def oStpU : Outs := .any QStpU (fun q => { val := .tup [.agg (modC q.1.1), .c (.im (.cpx .f32 q.1.2.1 q.1.2.2))] })
theorem ne_stpU : Nonempty QStpU = True := by simp only [eq_iff_iff, iff_true]; exact ⟨⟨(mSum', (0, 0)), zHq, wd_sum⟩⟩
noncomputable def ct_l5StepU : Ct := fam false (fun x : AStpU => ([.agg (modC x.m), .c (.im (.cpx .f32 x.z.1 x.z.2))], [])) (fun _ => oStpU)
theorem run_l5StepU {m : Mod} (h : Drawn m) (hw : Wd m) {u v : Nat} (hz : u < 4294967296 ∧ v < 4294967296) (h1 : lvlB (absS u) = true) (h2 : lvlB (absS v) = true) : ct_l5StepU.run [.agg (modC m), .c (.im (.cpx .f32 u v))] [] = some oStpU :=
 zDw (args := fun x : AStpU => ([D.agg (modC x.m), .c (.im (.cpx .f32 x.z.1 x.z.2))], [])) (fun _ _ _ => rfl) ⟨m, (u, v), h, hw, hz, h1, h2⟩
set_option maxRecDepth 100000 in
set_option maxHeartbeats 16000000 in
theorem law_l5StepU : Law Tryz.prog 123 ct_l5StepU := by
 refine zBl (zAc law_sMul (zAc law_sFlush (zAc law_l4Push (zAc law_l5SliceU (zAc law_l1Abs zAe))))) hmixA Tryz.func123 rfl rfl (fun ⟨m, ⟨u, v⟩, hD, hW, hz, hu, hv⟩ => ⟨okA (fun o => okR_Mz), by simp [Tryz.f123], ?_⟩)
 simp only at hu hv
 simp only [oStpU]
 rcases hD.forms with ⟨⟨t1, t2⟩, ⟨s1, s2⟩, rfl⟩ | ⟨⟨t1, t2⟩, ⟨s1, s2⟩, rfl⟩ | ⟨lv, rfl⟩ | ⟨st, a, rfl, q1, q2, q3, q4⟩ | rfl | ⟨pts, lab, c, rfl, hT⟩ | ⟨lv, rfl, hl⟩ | ⟨⟨s1, s2⟩, c, l, rfl, q1, q2, q3, q4⟩
 · simp only [modC, mSrc', zAk, zAo]
   try simp -dsimp (maxSteps := 1000000) only [go_sem, List.forall_mem_nil, ↓reduceIte, Nat.reduceEqDiff, Nat.reduceLT, Nat.reduceLeDiff, Nat.reduceAdd, Nat.reduceMul, reduceCtorEq, Tryz.f123, zBr, oMul, ne_nn]
   intro o
   try simp -dsimp (maxSteps := 1000000) only [go_sem, List.forall_mem_nil, ↓reduceIte, Nat.reduceEqDiff, Nat.reduceLT, Nat.reduceLeDiff, Nat.reduceAdd, Nat.reduceMul, reduceCtorEq, Tryz.f123]
   refine zAj [] ?_
   simp -dsimp (maxSteps := 1000000) only [go_sem, List.forall_mem_nil, ↓reduceIte, Nat.reduceEqDiff, Nat.reduceLT, Nat.reduceLeDiff, Nat.reduceAdd, Nat.reduceMul, reduceCtorEq]
   exact ⟨⟨(mSrc' (t1, t2) (mulPt o (s1, s2) (t1, t2)), (s1, s2)), drawn_src _ _, wd_2 hW.w.turn (mul32 _ _ _)⟩, by simp [mSrc', rowsZ, rowsN]⟩
 · simp only [modC, zAk, zAo]
   try simp -dsimp (maxSteps := 1000000) only [go_sem, List.forall_mem_nil, ↓reduceIte, Nat.reduceEqDiff, Nat.reduceLT, Nat.reduceLeDiff, Nat.reduceAdd, Nat.reduceMul, reduceCtorEq, Tryz.f123, Int.reduceEq, zBr, oMul, ne_nn]
   intro o
   try simp -dsimp (maxSteps := 1000000) only [go_sem, List.forall_mem_nil, ↓reduceIte, Nat.reduceEqDiff, Nat.reduceLT, Nat.reduceLeDiff, Nat.reduceAdd, Nat.reduceMul, reduceCtorEq, Tryz.f123, zBr, oMul, ne_nn]
   intro o2
   try simp -dsimp (maxSteps := 1000000) only [go_sem, List.forall_mem_nil, ↓reduceIte, Nat.reduceEqDiff, Nat.reduceLT, Nat.reduceLeDiff, Nat.reduceAdd, Nat.reduceMul, reduceCtorEq, Tryz.f123]
   refine zAj [] ?_
   simp -dsimp (maxSteps := 1000000) only [go_sem, List.forall_mem_nil, ↓reduceIte, Nat.reduceEqDiff, Nat.reduceLT, Nat.reduceLeDiff, Nat.reduceAdd, Nat.reduceMul, reduceCtorEq]
   exact ⟨⟨(⟨2, (t1, t2), mulPt o2 (s1, s2) (t1, t2), 0, [], 0, 0, [], [], 0, 0⟩, mulPt o (u, v) (s1, s2)), drawn_mixS _ _, wd_2 hW.w.turn (mul32 _ _ _)⟩, by simp [rowsZ, rowsN]⟩
 · simp only [modC, mGain', zAk, zAo]
   try simp -dsimp (maxSteps := 1000000) only [go_sem, List.forall_mem_nil, ↓reduceIte, Nat.reduceEqDiff, Nat.reduceLT, Nat.reduceLeDiff, Nat.reduceAdd, Nat.reduceMul, reduceCtorEq, Tryz.f123, Int.reduceEq, run_sFlush]
   repeat' (first
     | ((with_reducible refine sl_i ?_ ?_); focus kernel_rfl)
     | ((with_reducible refine ro_i ?_ ?_); focus kernel_rfl))
   refine zAj [] ?_
   simp -dsimp (maxSteps := 1000000) only [go_sem, List.forall_mem_nil, ↓reduceIte, Nat.reduceEqDiff, Nat.reduceLT, Nat.reduceLeDiff, Nat.reduceAdd, Nat.reduceMul, reduceCtorEq]
   exact ⟨⟨(mGain' lv, (flushS (fop .mul .f32 u lv), flushS (fop .mul .f32 v lv))), drawn_gain _, wd_1 hW.w.level⟩, by simp [mGain', rowsZ, rowsN]⟩
 · obtain ⟨A, rfl⟩ := Int.eq_ofNat_of_zero_le q3
   have q4' : A < st.length := by omega
   simp only [modC, mDelay', zAk, zAo]
   try simp -dsimp (maxSteps := 1000000) only [go_sem, List.forall_mem_nil, ↓reduceIte, Nat.reduceEqDiff, Nat.reduceLT, Nat.reduceLeDiff, Nat.reduceAdd, Nat.reduceMul, reduceCtorEq, Tryz.f123, Int.reduceEq, run_l4Push q1 q2 q4']
   refine zAj [] ?_
   simp -dsimp (maxSteps := 1000000) only [go_sem, List.forall_mem_nil, ↓reduceIte, Nat.reduceEqDiff, Nat.reduceLT, Nat.reduceLeDiff, Nat.reduceAdd, Nat.reduceMul, reduceCtorEq]
   exact ⟨⟨(mDelay' (st.set A (u, v)) (((A + 1) % st.length : Nat) : Int), st.getD A (0, 0)), zGx (by simp; omega) (by simp; omega) (by omega) (by have := Nat.mod_lt (A + 1) (show 0 < st.length by omega); simp only [List.length_set]; omega), wd_delay (set32 hW.w.store hz A) ⟨by omega, by have := Nat.mod_lt (A + 1) (show 0 < st.length by omega); omega⟩⟩, by simp [mDelay', rowsZ, rowsN]⟩
 · simp only [modC, mSum', zAk, zAo]
   try simp -dsimp (maxSteps := 1000000) only [go_sem, List.forall_mem_nil, ↓reduceIte, Nat.reduceEqDiff, Nat.reduceLT, Nat.reduceLeDiff, Nat.reduceAdd, Nat.reduceMul, reduceCtorEq, Tryz.f123, Int.reduceEq]
   refine zAj [] ?_
   simp -dsimp (maxSteps := 1000000) only [go_sem, List.forall_mem_nil, ↓reduceIte, Nat.reduceEqDiff, Nat.reduceLT, Nat.reduceLeDiff, Nat.reduceAdd, Nat.reduceMul, reduceCtorEq]
   exact ⟨⟨(mSum', (u, v)), zHq, wd_sum⟩, by simp [mSum', rowsZ, rowsN]⟩
 · simp only [modC, mSlicer', zAk]
   try simp -dsimp (maxSteps := 1000000) only [go_sem, List.forall_mem_nil, ↓reduceIte, Nat.reduceEqDiff, Nat.reduceLT, Nat.reduceLeDiff, Nat.reduceAdd, Nat.reduceMul, reduceCtorEq, Tryz.f123, Int.reduceEq, run_l5SliceU hT ⟨hW.w.pts, hW.lab⟩, oSlU, ne_iptU, modC, mSlicer', zAk]
   rintro ⟨⟨c', hc'⟩, ⟨x, y⟩⟩
   try simp -dsimp (maxSteps := 1000000) only [go_sem, List.forall_mem_nil, ↓reduceIte, Nat.reduceEqDiff, Nat.reduceLT, Nat.reduceLeDiff, Nat.reduceAdd, Nat.reduceMul, reduceCtorEq, Tryz.f123, modC, mSlicer', zAk]
   refine zAj [] ?_
   simp -dsimp (maxSteps := 1000000) only [go_sem, List.forall_mem_nil, ↓reduceIte, Nat.reduceEqDiff, Nat.reduceLT, Nat.reduceLeDiff, Nat.reduceAdd, Nat.reduceMul, reduceCtorEq]
   exact ⟨⟨(mSlicer' pts lab c', (x, y)), zHr hT, wd_slicer ⟨hW.w.pts, hW.lab⟩ hc'⟩, by simp [mSlicer', rowsZ]⟩
 · simp only [modC, mMeterL, zAk, zAo]
   try simp -dsimp (maxSteps := 1000000) only [go_sem, List.forall_mem_nil, ↓reduceIte, Nat.reduceEqDiff, Nat.reduceLT, Nat.reduceLeDiff, Nat.reduceAdd, Nat.reduceMul, reduceCtorEq, Tryz.f123, Int.reduceEq]
   refine zBh (ι := { k : Nat // k ≤ 2 } × { l : Nat // lvlB l = true }) (fun x => ⟨[(1, some (.c (.im (.cpx .f32 u v)))), (2, some (.c (.ptr 0 0 0 0))), (4, some (.c (.ptr 1 0 0 0))), (82, some (.c (.view 2 1 0 2))), (83, some (.c (.im (.int .i64 2)))), (84, some (.c (.im (.int .i64 (x.1.1 : Int)))))],
     [(0, some (.box [.t (.im (.int .i64 7)), .t (.im (.cpx .f32 0 0)), .t (.im (.cpx .f32 0 0)), .t (.im (.flt .f32 x.2.1)), .t (.im (.sl 1 [])), .t (.im (.int .i64 0)), .t (.im (.int .i64 0)), .t (.im (.sl 1 [])), .t (.im (.sl 1 [])), .t (.im (.int .i64 0)), .t (.im (.int .i64 0))])),
      (1, some (.box mz11)), (2, some (.arr 1 [[.im (.flt .f32 u)], [.im (.flt .f32 v)]]))], 3⟩) (fun x => 2 - x.1.1) (⟨0, by omega⟩, ⟨lv, hl⟩) ⟨[], [0, 1, 2], by ((simp only [go_sem, eq_self, MvRb, MvRn, MvRt, List.nodup_cons, List.nodup_nil, ↓reduceIte, Nat.reduceEqDiff, Nat.reduceLT, Nat.reduceLeDiff, reduceCtorEq, List.forall_mem_nil, Nat.zero_le, false_implies, List.mem_singleton, mz11]) <;> (try (simp -dsimp only [go_sem, eq_self, MvRb, MvRn, MvRt, List.nodup_cons, List.nodup_nil, ↓reduceIte, Nat.reduceEqDiff, Nat.reduceLT, Nat.reduceLeDiff, reduceCtorEq, List.forall_mem_nil, Nat.zero_le, false_implies, List.mem_singleton, mz11]))) <;> simp [lk, zBg, MvRt]⟩ (fun ⟨⟨k, hk⟩, ⟨lv, hl⟩⟩ => ?_)
   have hk3 : k = 0 ∨ k = 1 ∨ k = 2 := by omega
   simp only [mz11]
   have c2 : ((2 : Nat) : Int) = 2 := rfl
   have c1 : ((1 : Nat) : Int) = 1 := rfl
   have c0 : ((0 : Nat) : Int) = 0 := rfl
   have w1 : IntKind.i64.wrap 1 = 1 := rfl
   have w2 : IntKind.i64.wrap 2 = 2 := rfl
   rcases hk3 with rfl | rfl | rfl
   · cases hc : fcmp .gtr .f32 (absS u) lv with
     | true =>
       try simp -dsimp (maxSteps := 1000000) only [go_sem, List.forall_mem_nil, ↓reduceIte, Nat.reduceEqDiff, Nat.reduceLT, Nat.reduceLeDiff, Nat.reduceAdd, Nat.reduceMul, reduceCtorEq, Tryz.f123, c0, c2, w1, hc, zFh, Int.reduceLT, Int.reduceLE, Int.reduceToNat, Int.reduceAdd, Int.toNat_zero]
       repeat' (first
         | ((with_reducible refine sl_i ?_ ?_); focus kernel_rfl)
         | ((with_reducible refine ro_i ?_ ?_); focus kernel_rfl))
       exact ⟨(⟨1, by omega⟩, ⟨absS u, hu⟩), by simp, [], [0, 1, 2], by ((simp only [go_sem, eq_self, MvRb, MvRn, MvRt, List.nodup_cons, List.nodup_nil, ↓reduceIte, Nat.reduceEqDiff, Nat.reduceLT, Nat.reduceLeDiff, reduceCtorEq, List.forall_mem_nil, Nat.zero_le, false_implies, List.mem_singleton, mz11]) <;> (try (simp -dsimp only [go_sem, eq_self, MvRb, MvRn, MvRt, List.nodup_cons, List.nodup_nil, ↓reduceIte, Nat.reduceEqDiff, Nat.reduceLT, Nat.reduceLeDiff, reduceCtorEq, List.forall_mem_nil, Nat.zero_le, false_implies, List.mem_singleton, mz11]))) <;> simp [lk, zBg, MvRt]⟩
     | false =>
       try simp -dsimp (maxSteps := 1000000) only [go_sem, List.forall_mem_nil, ↓reduceIte, Nat.reduceEqDiff, Nat.reduceLT, Nat.reduceLeDiff, Nat.reduceAdd, Nat.reduceMul, reduceCtorEq, Tryz.f123, c0, c2, w1, hc, zFh, Int.reduceLT, Int.reduceLE, Int.reduceToNat, Int.reduceAdd, Int.toNat_zero]
       repeat' (first
         | ((with_reducible refine sl_i ?_ ?_); focus kernel_rfl)
         | ((with_reducible refine ro_i ?_ ?_); focus kernel_rfl))
       exact ⟨(⟨1, by omega⟩, ⟨lv, hl⟩), by simp, [], [0, 1, 2], by ((simp only [go_sem, eq_self, MvRb, MvRn, MvRt, List.nodup_cons, List.nodup_nil, ↓reduceIte, Nat.reduceEqDiff, Nat.reduceLT, Nat.reduceLeDiff, reduceCtorEq, List.forall_mem_nil, Nat.zero_le, false_implies, List.mem_singleton, mz11]) <;> (try (simp -dsimp only [go_sem, eq_self, MvRb, MvRn, MvRt, List.nodup_cons, List.nodup_nil, ↓reduceIte, Nat.reduceEqDiff, Nat.reduceLT, Nat.reduceLeDiff, reduceCtorEq, List.forall_mem_nil, Nat.zero_le, false_implies, List.mem_singleton, mz11]))) <;> simp [lk, zBg, MvRt]⟩
   · cases hc : fcmp .gtr .f32 (absS v) lv with
     | true =>
       try simp -dsimp (maxSteps := 1000000) only [go_sem, List.forall_mem_nil, ↓reduceIte, Nat.reduceEqDiff, Nat.reduceLT, Nat.reduceLeDiff, Nat.reduceAdd, Nat.reduceMul, reduceCtorEq, Tryz.f123, c1, c2, w2, hc, zFh, Int.reduceLT, Int.reduceLE, Int.reduceToNat, Int.reduceAdd, Int.toNat_zero]
       repeat' (first
         | ((with_reducible refine sl_i ?_ ?_); focus kernel_rfl)
         | ((with_reducible refine ro_i ?_ ?_); focus kernel_rfl))
       exact ⟨(⟨2, by omega⟩, ⟨absS v, hv⟩), by simp, [], [0, 1, 2], by ((simp only [go_sem, eq_self, MvRb, MvRn, MvRt, List.nodup_cons, List.nodup_nil, ↓reduceIte, Nat.reduceEqDiff, Nat.reduceLT, Nat.reduceLeDiff, reduceCtorEq, List.forall_mem_nil, Nat.zero_le, false_implies, List.mem_singleton, mz11]) <;> (try (simp -dsimp only [go_sem, eq_self, MvRb, MvRn, MvRt, List.nodup_cons, List.nodup_nil, ↓reduceIte, Nat.reduceEqDiff, Nat.reduceLT, Nat.reduceLeDiff, reduceCtorEq, List.forall_mem_nil, Nat.zero_le, false_implies, List.mem_singleton, mz11]))) <;> simp [lk, zBg, MvRt]⟩
     | false =>
       try simp -dsimp (maxSteps := 1000000) only [go_sem, List.forall_mem_nil, ↓reduceIte, Nat.reduceEqDiff, Nat.reduceLT, Nat.reduceLeDiff, Nat.reduceAdd, Nat.reduceMul, reduceCtorEq, Tryz.f123, c1, c2, w2, hc, zFh, Int.reduceLT, Int.reduceLE, Int.reduceToNat, Int.reduceAdd, Int.toNat_zero]
       repeat' (first
         | ((with_reducible refine sl_i ?_ ?_); focus kernel_rfl)
         | ((with_reducible refine ro_i ?_ ?_); focus kernel_rfl))
       exact ⟨(⟨2, by omega⟩, ⟨lv, hl⟩), by simp, [], [0, 1, 2], by ((simp only [go_sem, eq_self, MvRb, MvRn, MvRt, List.nodup_cons, List.nodup_nil, ↓reduceIte, Nat.reduceEqDiff, Nat.reduceLT, Nat.reduceLeDiff, reduceCtorEq, List.forall_mem_nil, Nat.zero_le, false_implies, List.mem_singleton, mz11]) <;> (try (simp -dsimp only [go_sem, eq_self, MvRb, MvRn, MvRt, List.nodup_cons, List.nodup_nil, ↓reduceIte, Nat.reduceEqDiff, Nat.reduceLT, Nat.reduceLeDiff, reduceCtorEq, List.forall_mem_nil, Nat.zero_le, false_implies, List.mem_singleton, mz11]))) <;> simp [lk, zBg, MvRt]⟩
   · skip
     try simp -dsimp (maxSteps := 1000000) only [go_sem, List.forall_mem_nil, ↓reduceIte, Nat.reduceEqDiff, Nat.reduceLT, Nat.reduceLeDiff, Nat.reduceAdd, Nat.reduceMul, reduceCtorEq, Tryz.f123, c2, Int.reduceLT]
     refine zAj [] ?_
     simp -dsimp (maxSteps := 1000000) only [go_sem, List.forall_mem_nil, ↓reduceIte, Nat.reduceEqDiff, Nat.reduceLT, Nat.reduceLeDiff, Nat.reduceAdd, Nat.reduceMul, reduceCtorEq]
     exact ⟨⟨(mMeterL lv, (u, v)), drawn_meterL hl, wd_1 (lvl32 hl)⟩, by simp [mMeterL, rowsZ, rowsN]⟩
 · simp only [modC, mHold', zAk, zAo]
   by_cases hl0 : l = 0
   · have hl' := eq_true hl0
     have hw : IntKind.i64.wrap (c - 1) = c - 1 := zAi (by omega) (by omega)
     try simp -dsimp (maxSteps := 1000000) only [go_sem, List.forall_mem_nil, ↓reduceIte, Nat.reduceEqDiff, Nat.reduceLT, Nat.reduceLeDiff, Nat.reduceAdd, Nat.reduceMul, reduceCtorEq, Tryz.f123, Int.reduceEq, hl', hw]
     repeat' (first
       | ((with_reducible refine sl_i ?_ ?_); focus kernel_rfl)
       | ((with_reducible refine ro_i ?_ ?_); focus kernel_rfl))
     refine zAj [] ?_
     simp -dsimp (maxSteps := 1000000) only [go_sem, List.forall_mem_nil, ↓reduceIte, Nat.reduceEqDiff, Nat.reduceLT, Nat.reduceLeDiff, Nat.reduceAdd, Nat.reduceMul, reduceCtorEq]
     exact ⟨⟨(mHold' (u, v) c (c - 1), (u, v)), zFe q1 q2 (by omega) (by omega), wd_hold hz q1 q2 (by omega) (by omega)⟩, by simp [mHold', rowsZ, rowsN]⟩
   · have hl' := eq_false hl0
     have hw : IntKind.i64.wrap (l - 1) = l - 1 := zAi (by omega) (by omega)
     try simp -dsimp (maxSteps := 1000000) only [go_sem, List.forall_mem_nil, ↓reduceIte, Nat.reduceEqDiff, Nat.reduceLT, Nat.reduceLeDiff, Nat.reduceAdd, Nat.reduceMul, reduceCtorEq, Tryz.f123, Int.reduceEq, hl', hw]
     repeat' (first
       | ((with_reducible refine sl_i ?_ ?_); focus kernel_rfl)
       | ((with_reducible refine ro_i ?_ ?_); focus kernel_rfl))
     refine zAj [] ?_
     simp -dsimp (maxSteps := 1000000) only [go_sem, List.forall_mem_nil, ↓reduceIte, Nat.reduceEqDiff, Nat.reduceLT, Nat.reduceLeDiff, Nat.reduceAdd, Nat.reduceMul, reduceCtorEq]
     exact ⟨⟨(mHold' (s1, s2) c (l - 1), (s1, s2)), zFe q1 q2 (by omega) (by omega), wd_hold hW.w.state q1 q2 (by omega) (by omega)⟩, by simp [mHold', rowsZ, rowsN]⟩
abbrev QModU := { m : Mod // DrU m }
def oModU (l : List Int) : Outs := .any (QModU × SK l) (fun q => { val := .agg (modC q.1.1), places := hsK l q.2.1.1 q.2.1.2 })
theorem ne_modU (l : List Int) : Nonempty (QModU × SK l) = True := by simp only [eq_iff_iff, iff_true]; exact ⟨(⟨mSum', zHq, wd_sum⟩, ⟨(0, 0), by simp⟩)⟩
noncomputable def ct_l5ModuleU : Ct := fam false (fun x : AKn => ([.c (.ptr 0 0 0 0)], hsK x.l x.a x.h)) (fun x => oModU x.l)
theorem run_l5ModuleU {l : List Int} {a h : Int} (h1 : l.length ≤ 1048576) (h2 : ∀ b ∈ l, 0 ≤ b ∧ b < 256) (h3 : 0 ≤ a) (h4 : a ≤ l.length) : ct_l5ModuleU.run [.c (.ptr 0 0 0 0)] [[.t (.im (.sl 1 (rowsB l))), .t (.im (.int .i64 a)), .t (.im (.int .i64 h))]] = some (oModU l) := by
 refine zAd (args := fun x : AKn => ([D.c (.ptr 0 0 0 0)], hsK x.l x.a x.h)) (fun x y h => ?_) ⟨l, h1, h2, a, h, h3, h4⟩
 simp only [Prod.mk.injEq, true_and] at h
 exact zGh (zGg h)
set_option maxRecDepth 100000 in
set_option maxHeartbeats 32000000 in
theorem law_l5ModuleU : Law Tryz.prog 54 ct_l5ModuleU := by
 refine zBl (zAc law_sSum (zAc zCi (zAc law_l5TurnU (zAc law_l2Small (zAc law_sSource (zAc law_sMixer (zAc law_l1AnyU (zAc law_sGain (zAc law_sDelay (zAc law_l2TableU (zAc law_NewSlicer (zAc law_sMeter (zAc law_sHold (zAc law_l5Copy (zAc law_l5StepU zAe)))))))))))))))
   hmixA Tryz.func54 rfl rfl (fun ⟨l, h1, h2, a, h, h3, h4⟩ => ⟨okA (fun o => okK (n := 0) okD_mod), by simp [Tryz.f54], ?_⟩)
 simp only [oModU, hsK]
 have h8 : ∀ (a h : Int), 0 ≤ a → a ≤ l.length → zFp.run [.c (.ptr 0 0 0 0), .c (.im (.int .i64 8))] [[.t (.im (.sl 1 (rowsB l))), .t (.im (.int .i64 a)), .t (.im (.int .i64 h))]] = some (oBelow l 8) := fun a h q1 q2 => zAy h1 h2 q1 q2 (n := 8) (by decide) (by decide)
 try simp -dsimp (maxSteps := 1000000) only [go_sem, List.forall_mem_nil, ↓reduceIte, Nat.reduceEqDiff, Nat.reduceLT, Nat.reduceLeDiff, Nat.reduceAdd, Nat.reduceMul, reduceCtorEq, Tryz.f54, run_sSum, rM, modC, mSum', zAk, zAo, h8 a h h3 h4, oBelow, zBd l (n := 8) (by decide), hsK]
 rintro ⟨⟨v, ⟨⟨a1, k1⟩, b1⟩⟩, v1, v2⟩
 simp only at v1 v2
 refine cases8 v1 v2 ?h0 ?h1 ?h2 ?h3 ?h4 ?h5 ?h6 ?h7 <;> rintro rfl
 case' h0 =>
   try simp -dsimp (maxSteps := 1000000) only [go_sem, List.forall_mem_nil, ↓reduceIte, Nat.reduceEqDiff, Nat.reduceLT, Nat.reduceLeDiff, Nat.reduceAdd, Nat.reduceMul, reduceCtorEq, Tryz.f54, Int.reduceEq, run_l5TurnU h1 h2 b1.1 b1.2, oPtU, ne_optU, hsK]
   rintro ⟨⟨⟨t1, t2⟩, ht⟩, ⟨⟨a2, k2⟩, b2⟩⟩
   try simp -dsimp (maxSteps := 1000000) only [go_sem, List.forall_mem_nil, ↓reduceIte, Nat.reduceEqDiff, Nat.reduceLT, Nat.reduceLeDiff, Nat.reduceAdd, Nat.reduceMul, reduceCtorEq, Tryz.f54, hsK, zGo h1 h2 b2.1 b2.2, oSmall, ne_small]
   rintro ⟨⟨⟨x, y⟩, ⟨⟨a3, k3⟩, b3⟩⟩, _, _, _, _⟩
   have hx3 := wI32 x
   have hy3 := wI32 y
   obtain ⟨X, hX⟩ : ∃ q, wI x = q := ⟨_, rfl⟩
   rw [hX] at hx3
   obtain ⟨Y, hY⟩ : ∃ q, wI y = q := ⟨_, rfl⟩
   rw [hY] at hy3
   try simp -dsimp (maxSteps := 1000000) only [go_sem, List.forall_mem_nil, ↓reduceIte, Nat.reduceEqDiff, Nat.reduceLT, Nat.reduceLeDiff, Nat.reduceAdd, Nat.reduceMul, reduceCtorEq, Tryz.f54, hX, hY, run_sSource, rM, modC, mSrc', hsK, h8 a3 k3 b3.1 b3.2, oBelow, zBd l (n := 8) (by decide)]
   rintro ⟨⟨v9, ⟨⟨a, k⟩, b⟩⟩, r1, r2⟩
   simp only at r1 r2 b
   obtain ⟨N, rfl⟩ := Int.eq_ofNat_of_zero_le r1
   try simp -dsimp (maxSteps := 1000000) only [go_sem, List.forall_mem_nil, ↓reduceIte, Nat.reduceEqDiff, Nat.reduceLT, Nat.reduceLeDiff, Nat.reduceAdd, Nat.reduceMul, reduceCtorEq, Tryz.f54, hsK]
   obtain ⟨i0, hi0⟩ : ∃ w : ({ m : Mod // DrU m } × SK l) × { n : Nat // n ≤ 8 }, w = ((⟨(mSrc' (t1, t2) (X, Y)), drawn_src _ _, wd_2 ht ⟨hx3, hy3⟩⟩, ⟨(a, k), b⟩), ⟨N, by omega⟩) := ⟨_, rfl⟩
   refine zBh (ι := ({ m : Mod // DrU m } × SK l) × { n : Nat // n ≤ 8 }) (fun x => ⟨[(0, some (.c (.ptr 0 0 0 0))), (2, some (.c (.ptr 1 0 0 0))), (3, some (.c (.ptr 2 0 0 0))), (4, some (.c (.im (.int .i64 (x.2.1 : Int)))))],
     [(0, some (.box [.t (.im (.sl 1 (rowsB l))), .t (.im (.int .i64 x.1.2.1.1)), .t (.im (.int .i64 x.1.2.1.2))])), (1, some (.box mz11)), (2, some (.box (modIB x.1.1.1)))], 3⟩) (fun x => x.2.1) i0 ⟨[], [0, 1, 2], by subst hi0; (simp only [go_sem, eq_self, MvRb, MvRn, MvRt, List.nodup_cons, List.nodup_nil, ↓reduceIte, Nat.reduceEqDiff, Nat.reduceLT, Nat.reduceLeDiff, reduceCtorEq, List.forall_mem_nil, Nat.zero_le, false_implies, List.mem_singleton, modIB, mz11, mSrc', mMix', mGain', mDelay', mSlicer', mMeter', mHold', mSum', zAk, zAo]) <;> simp [lk, zBg, modIB, mSrc', mMix', mGain', mDelay', mSlicer', mMeter', mHold', mSum', zAk, zAo] <;> (try rfl)⟩ (fun ⟨⟨⟨m, hD⟩, ⟨⟨a, k⟩, b⟩⟩, ⟨n, hn⟩⟩ => ?_)
 case' h1 =>
   try simp -dsimp (maxSteps := 1000000) only [go_sem, List.forall_mem_nil, ↓reduceIte, Nat.reduceEqDiff, Nat.reduceLT, Nat.reduceLeDiff, Nat.reduceAdd, Nat.reduceMul, reduceCtorEq, Tryz.f54, Int.reduceEq, run_l5TurnU h1 h2 b1.1 b1.2, oPtU, ne_optU, hsK]
   rintro ⟨⟨⟨t1, t2⟩, ht⟩, ⟨⟨a2, k2⟩, b2⟩⟩
   try simp -dsimp (maxSteps := 1000000) only [go_sem, List.forall_mem_nil, ↓reduceIte, Nat.reduceEqDiff, Nat.reduceLT, Nat.reduceLeDiff, Nat.reduceAdd, Nat.reduceMul, reduceCtorEq, Tryz.f54, run_sMixer, rM, modC, mMix', hsK, h8 a2 k2 b2.1 b2.2, oBelow, zBd l (n := 8) (by decide)]
   rintro ⟨⟨v9, ⟨⟨a, k⟩, b⟩⟩, r1, r2⟩
   simp only at r1 r2 b
   obtain ⟨N, rfl⟩ := Int.eq_ofNat_of_zero_le r1
   try simp -dsimp (maxSteps := 1000000) only [go_sem, List.forall_mem_nil, ↓reduceIte, Nat.reduceEqDiff, Nat.reduceLT, Nat.reduceLeDiff, Nat.reduceAdd, Nat.reduceMul, reduceCtorEq, Tryz.f54, hsK]
   obtain ⟨i0, hi0⟩ : ∃ w : ({ m : Mod // DrU m } × SK l) × { n : Nat // n ≤ 8 }, w = ((⟨(mMix' (t1, t2)), drawn_mix _, wd_2 ht (by decide)⟩, ⟨(a, k), b⟩), ⟨N, by omega⟩) := ⟨_, rfl⟩
   refine zBh (ι := ({ m : Mod // DrU m } × SK l) × { n : Nat // n ≤ 8 }) (fun x => ⟨[(0, some (.c (.ptr 0 0 0 0))), (2, some (.c (.ptr 1 0 0 0))), (3, some (.c (.ptr 2 0 0 0))), (4, some (.c (.im (.int .i64 (x.2.1 : Int)))))],
     [(0, some (.box [.t (.im (.sl 1 (rowsB l))), .t (.im (.int .i64 x.1.2.1.1)), .t (.im (.int .i64 x.1.2.1.2))])), (1, some (.box mz11)), (2, some (.box (modIB x.1.1.1)))], 3⟩) (fun x => x.2.1) i0 ⟨[], [0, 1, 2], by subst hi0; (simp only [go_sem, eq_self, MvRb, MvRn, MvRt, List.nodup_cons, List.nodup_nil, ↓reduceIte, Nat.reduceEqDiff, Nat.reduceLT, Nat.reduceLeDiff, reduceCtorEq, List.forall_mem_nil, Nat.zero_le, false_implies, List.mem_singleton, modIB, mz11, mSrc', mMix', mGain', mDelay', mSlicer', mMeter', mHold', mSum', zAk, zAo]) <;> simp [lk, zBg, modIB, mSrc', mMix', mGain', mDelay', mSlicer', mMeter', mHold', mSum', zAk, zAo] <;> (try rfl)⟩ (fun ⟨⟨⟨m, hD⟩, ⟨⟨a, k⟩, b⟩⟩, ⟨n, hn⟩⟩ => ?_)
 case' h2 =>
   try simp -dsimp (maxSteps := 1000000) only [go_sem, List.forall_mem_nil, ↓reduceIte, Nat.reduceEqDiff, Nat.reduceLT, Nat.reduceLeDiff, Nat.reduceAdd, Nat.reduceMul, reduceCtorEq, Tryz.f54, Int.reduceEq, runNatU h1 h2 b1.1 b1.2, oNatU, ne_onatU, hsK]
   rintro ⟨⟨x, hx⟩, ⟨⟨a2, k2⟩, b2⟩⟩
   try simp -dsimp (maxSteps := 1000000) only [go_sem, List.forall_mem_nil, ↓reduceIte, Nat.reduceEqDiff, Nat.reduceLT, Nat.reduceLeDiff, Nat.reduceAdd, Nat.reduceMul, reduceCtorEq, Tryz.f54, run_sGain, rM, modC, mGain', hsK, h8 a2 k2 b2.1 b2.2, oBelow, zBd l (n := 8) (by decide)]
   rintro ⟨⟨v9, ⟨⟨a, k⟩, b⟩⟩, r1, r2⟩
   simp only at r1 r2 b
   obtain ⟨N, rfl⟩ := Int.eq_ofNat_of_zero_le r1
   try simp -dsimp (maxSteps := 1000000) only [go_sem, List.forall_mem_nil, ↓reduceIte, Nat.reduceEqDiff, Nat.reduceLT, Nat.reduceLeDiff, Nat.reduceAdd, Nat.reduceMul, reduceCtorEq, Tryz.f54, hsK]
   obtain ⟨i0, hi0⟩ : ∃ w : ({ m : Mod // DrU m } × SK l) × { n : Nat // n ≤ 8 }, w = ((⟨(mGain' x), drawn_gain _, wd_1 hx⟩, ⟨(a, k), b⟩), ⟨N, by omega⟩) := ⟨_, rfl⟩
   refine zBh (ι := ({ m : Mod // DrU m } × SK l) × { n : Nat // n ≤ 8 }) (fun x => ⟨[(0, some (.c (.ptr 0 0 0 0))), (2, some (.c (.ptr 1 0 0 0))), (3, some (.c (.ptr 2 0 0 0))), (4, some (.c (.im (.int .i64 (x.2.1 : Int)))))],
     [(0, some (.box [.t (.im (.sl 1 (rowsB l))), .t (.im (.int .i64 x.1.2.1.1)), .t (.im (.int .i64 x.1.2.1.2))])), (1, some (.box mz11)), (2, some (.box (modIB x.1.1.1)))], 3⟩) (fun x => x.2.1) i0 ⟨[], [0, 1, 2], by subst hi0; (simp only [go_sem, eq_self, MvRb, MvRn, MvRt, List.nodup_cons, List.nodup_nil, ↓reduceIte, Nat.reduceEqDiff, Nat.reduceLT, Nat.reduceLeDiff, reduceCtorEq, List.forall_mem_nil, Nat.zero_le, false_implies, List.mem_singleton, modIB, mz11, mSrc', mMix', mGain', mDelay', mSlicer', mMeter', mHold', mSum', zAk, zAo]) <;> simp [lk, zBg, modIB, mSrc', mMix', mGain', mDelay', mSlicer', mMeter', mHold', mSum', zAk, zAo] <;> (try rfl)⟩ (fun ⟨⟨⟨m, hD⟩, ⟨⟨a, k⟩, b⟩⟩, ⟨n, hn⟩⟩ => ?_)
 case' h3 =>
   try simp -dsimp (maxSteps := 1000000) only [go_sem, List.forall_mem_nil, ↓reduceIte, Nat.reduceEqDiff, Nat.reduceLT, Nat.reduceLeDiff, Nat.reduceAdd, Nat.reduceMul, reduceCtorEq, Tryz.f54, Int.reduceEq, zAy h1 h2 b1.1 b1.2 (n := 5) (by decide) (by decide), oBelow, zBd l (n := 5) (by decide), hsK]
   rintro ⟨⟨x, ⟨⟨a2, k2⟩, b2⟩⟩, x1, x2⟩
   simp only at x1 x2
   obtain ⟨X, rfl⟩ := Int.eq_ofNat_of_zero_le x1
   have hw : IntKind.i64.wrap (1 + (X : Int)) = ((X + 1 : Nat) : Int) := by rw [zAi (by omega) (by omega)]; omega
   try simp -dsimp (maxSteps := 1000000) only [go_sem, List.forall_mem_nil, ↓reduceIte, Nat.reduceEqDiff, Nat.reduceLT, Nat.reduceLeDiff, Nat.reduceAdd, Nat.reduceMul, reduceCtorEq, Tryz.f54, hw, run_sDelay (n := X + 1) (by omega) (by omega), rMB, rM, modC, mDelay', hsK, h8 a2 k2 b2.1 b2.2, oBelow, zBd l (n := 8) (by decide)]
   rintro ⟨⟨v9, ⟨⟨a, k⟩, b⟩⟩, r1, r2⟩
   simp only at r1 r2 b
   obtain ⟨N, rfl⟩ := Int.eq_ofNat_of_zero_le r1
   try simp -dsimp (maxSteps := 1000000) only [go_sem, List.forall_mem_nil, ↓reduceIte, Nat.reduceEqDiff, Nat.reduceLT, Nat.reduceLeDiff, Nat.reduceAdd, Nat.reduceMul, reduceCtorEq, Tryz.f54, hsK]
   obtain ⟨i0, hi0⟩ : ∃ w : ({ m : Mod // DrU m } × SK l) × { n : Nat // n ≤ 8 }, w = ((⟨(mDelay' (zrs (X + 1)) 0), drawn_zrs (by omega), wd_delay (fun p hp => by rw [(List.mem_replicate.1 hp).2]; exact p32_0) zFn⟩, ⟨(a, k), b⟩), ⟨N, by omega⟩) := ⟨_, rfl⟩
   refine zBh (ι := ({ m : Mod // DrU m } × SK l) × { n : Nat // n ≤ 8 }) (fun x => ⟨[(0, some (.c (.ptr 0 0 0 0))), (2, some (.c (.ptr 1 0 0 0))), (3, some (.c (.ptr 2 0 0 0))), (4, some (.c (.im (.int .i64 (x.2.1 : Int)))))],
     [(0, some (.box [.t (.im (.sl 1 (rowsB l))), .t (.im (.int .i64 x.1.2.1.1)), .t (.im (.int .i64 x.1.2.1.2))])), (1, some (.box mz11)), (2, some (.box (modIB x.1.1.1)))], 3⟩) (fun x => x.2.1) i0 ⟨[], [0, 1, 2], by subst hi0; (simp only [go_sem, eq_self, MvRb, MvRn, MvRt, List.nodup_cons, List.nodup_nil, ↓reduceIte, Nat.reduceEqDiff, Nat.reduceLT, Nat.reduceLeDiff, reduceCtorEq, List.forall_mem_nil, Nat.zero_le, false_implies, List.mem_singleton, modIB, mz11, mSrc', mMix', mGain', mDelay', mSlicer', mMeter', mHold', mSum', zAk, zAo]) <;> simp [lk, zBg, modIB, mSrc', mMix', mGain', mDelay', mSlicer', mMeter', mHold', mSum', zAk, zAo] <;> (try rfl)⟩ (fun ⟨⟨⟨m, hD⟩, ⟨⟨a, k⟩, b⟩⟩, ⟨n, hn⟩⟩ => ?_)
 case' h4 =>
   try simp -dsimp (maxSteps := 1000000) only [go_sem, List.forall_mem_nil, ↓reduceIte, Nat.reduceEqDiff, Nat.reduceLT, Nat.reduceLeDiff, Nat.reduceAdd, Nat.reduceMul, reduceCtorEq, Tryz.f54, Int.reduceEq, run_l2TableU h1 h2 b1.1 b1.2, oTabU, ne_tabU, hsK]
   rintro ⟨⟨⟨pts, lab⟩, hT, hW⟩, ⟨⟨a2, k2⟩, b2⟩⟩
   try simp -dsimp (maxSteps := 1000000) only [go_sem, List.forall_mem_nil, ↓reduceIte, Nat.reduceEqDiff, Nat.reduceLT, Nat.reduceLeDiff, Nat.reduceAdd, Nat.reduceMul, reduceCtorEq, Tryz.f54, run_NewSlicer hT, rMB, rM, modC, mSlicer', hsK, h8 a2 k2 b2.1 b2.2, oBelow, zBd l (n := 8) (by decide)]
   rintro ⟨⟨v9, ⟨⟨a, k⟩, b⟩⟩, r1, r2⟩
   simp only at r1 r2 b
   obtain ⟨N, rfl⟩ := Int.eq_ofNat_of_zero_le r1
   try simp -dsimp (maxSteps := 1000000) only [go_sem, List.forall_mem_nil, ↓reduceIte, Nat.reduceEqDiff, Nat.reduceLT, Nat.reduceLeDiff, Nat.reduceAdd, Nat.reduceMul, reduceCtorEq, Tryz.f54, hsK]
   obtain ⟨i0, hi0⟩ : ∃ w : ({ m : Mod // DrU m } × SK l) × { n : Nat // n ≤ 8 }, w = ((⟨(mSlicer' pts lab 0), zHr hT, wd_slicer hW zFn⟩, ⟨(a, k), b⟩), ⟨N, by omega⟩) := ⟨_, rfl⟩
   refine zBh (ι := ({ m : Mod // DrU m } × SK l) × { n : Nat // n ≤ 8 }) (fun x => ⟨[(0, some (.c (.ptr 0 0 0 0))), (2, some (.c (.ptr 1 0 0 0))), (3, some (.c (.ptr 2 0 0 0))), (4, some (.c (.im (.int .i64 (x.2.1 : Int)))))],
     [(0, some (.box [.t (.im (.sl 1 (rowsB l))), .t (.im (.int .i64 x.1.2.1.1)), .t (.im (.int .i64 x.1.2.1.2))])), (1, some (.box mz11)), (2, some (.box (modIB x.1.1.1)))], 3⟩) (fun x => x.2.1) i0 ⟨[], [0, 1, 2], by subst hi0; (simp only [go_sem, eq_self, MvRb, MvRn, MvRt, List.nodup_cons, List.nodup_nil, ↓reduceIte, Nat.reduceEqDiff, Nat.reduceLT, Nat.reduceLeDiff, reduceCtorEq, List.forall_mem_nil, Nat.zero_le, false_implies, List.mem_singleton, modIB, mz11, mSrc', mMix', mGain', mDelay', mSlicer', mMeter', mHold', mSum', zAk, zAo]) <;> simp [lk, zBg, modIB, mSrc', mMix', mGain', mDelay', mSlicer', mMeter', mHold', mSum', zAk, zAo] <;> (try rfl)⟩ (fun ⟨⟨⟨m, hD⟩, ⟨⟨a, k⟩, b⟩⟩, ⟨n, hn⟩⟩ => ?_)
 case' h5 =>
   try simp -dsimp (maxSteps := 1000000) only [go_sem, List.forall_mem_nil, ↓reduceIte, Nat.reduceEqDiff, Nat.reduceLT, Nat.reduceLeDiff, Nat.reduceAdd, Nat.reduceMul, reduceCtorEq, Tryz.f54, Int.reduceEq, run_sMeter, rM, modC, mMeter', hsK, h8 a1 k1 b1.1 b1.2, oBelow, zBd l (n := 8) (by decide)]
   rintro ⟨⟨v9, ⟨⟨a, k⟩, b⟩⟩, r1, r2⟩
   simp only at r1 r2 b
   obtain ⟨N, rfl⟩ := Int.eq_ofNat_of_zero_le r1
   try simp -dsimp (maxSteps := 1000000) only [go_sem, List.forall_mem_nil, ↓reduceIte, Nat.reduceEqDiff, Nat.reduceLT, Nat.reduceLeDiff, Nat.reduceAdd, Nat.reduceMul, reduceCtorEq, Tryz.f54, hsK]
   obtain ⟨i0, hi0⟩ : ∃ w : ({ m : Mod // DrU m } × SK l) × { n : Nat // n ≤ 8 }, w = ((⟨mMeter', drawn_meter, wd_1 (by decide)⟩, ⟨(a, k), b⟩), ⟨N, by omega⟩) := ⟨_, rfl⟩
   refine zBh (ι := ({ m : Mod // DrU m } × SK l) × { n : Nat // n ≤ 8 }) (fun x => ⟨[(0, some (.c (.ptr 0 0 0 0))), (2, some (.c (.ptr 1 0 0 0))), (3, some (.c (.ptr 2 0 0 0))), (4, some (.c (.im (.int .i64 (x.2.1 : Int)))))],
     [(0, some (.box [.t (.im (.sl 1 (rowsB l))), .t (.im (.int .i64 x.1.2.1.1)), .t (.im (.int .i64 x.1.2.1.2))])), (1, some (.box mz11)), (2, some (.box (modIB x.1.1.1)))], 3⟩) (fun x => x.2.1) i0 ⟨[], [0, 1, 2], by subst hi0; (simp only [go_sem, eq_self, MvRb, MvRn, MvRt, List.nodup_cons, List.nodup_nil, ↓reduceIte, Nat.reduceEqDiff, Nat.reduceLT, Nat.reduceLeDiff, reduceCtorEq, List.forall_mem_nil, Nat.zero_le, false_implies, List.mem_singleton, modIB, mz11, mSrc', mMix', mGain', mDelay', mSlicer', mMeter', mHold', mSum', zAk, zAo]) <;> simp [lk, zBg, modIB, mSrc', mMix', mGain', mDelay', mSlicer', mMeter', mHold', mSum', zAk, zAo] <;> (try rfl)⟩ (fun ⟨⟨⟨m, hD⟩, ⟨⟨a, k⟩, b⟩⟩, ⟨n, hn⟩⟩ => ?_)
 case' h6 =>
   try simp -dsimp (maxSteps := 1000000) only [go_sem, List.forall_mem_nil, ↓reduceIte, Nat.reduceEqDiff, Nat.reduceLT, Nat.reduceLeDiff, Nat.reduceAdd, Nat.reduceMul, reduceCtorEq, Tryz.f54, Int.reduceEq, zAy h1 h2 b1.1 b1.2 (n := 6) (by decide) (by decide), oBelow, zBd l (n := 6) (by decide), hsK]
   rintro ⟨⟨x, ⟨⟨a2, k2⟩, b2⟩⟩, x1, x2⟩
   simp only at x1 x2
   obtain ⟨X, rfl⟩ := Int.eq_ofNat_of_zero_le x1
   have hw : IntKind.i64.wrap (1 + (X : Int)) = ((X + 1 : Nat) : Int) := by rw [zAi (by omega) (by omega)]; omega
   try simp -dsimp (maxSteps := 1000000) only [go_sem, List.forall_mem_nil, ↓reduceIte, Nat.reduceEqDiff, Nat.reduceLT, Nat.reduceLeDiff, Nat.reduceAdd, Nat.reduceMul, reduceCtorEq, Tryz.f54, hw, run_sHold (n := X + 1) (by omega) (by omega), rMB, rM, modC, mHold', hsK, h8 a2 k2 b2.1 b2.2, oBelow, zBd l (n := 8) (by decide)]
   rintro ⟨⟨v9, ⟨⟨a, k⟩, b⟩⟩, r1, r2⟩
   simp only at r1 r2 b
   obtain ⟨N, rfl⟩ := Int.eq_ofNat_of_zero_le r1
   try simp -dsimp (maxSteps := 1000000) only [go_sem, List.forall_mem_nil, ↓reduceIte, Nat.reduceEqDiff, Nat.reduceLT, Nat.reduceLeDiff, Nat.reduceAdd, Nat.reduceMul, reduceCtorEq, Tryz.f54, hsK]
   obtain ⟨i0, hi0⟩ : ∃ w : ({ m : Mod // DrU m } × SK l) × { n : Nat // n ≤ 8 }, w = ((⟨(mHold' (0, 0) ((X + 1 : Nat) : Int) 0), zFe (by omega) (by omega) (by omega) (by omega), wd_hold p32_0 (by omega) (by omega) (by omega) (by omega)⟩, ⟨(a, k), b⟩), ⟨N, by omega⟩) := ⟨_, rfl⟩
   refine zBh (ι := ({ m : Mod // DrU m } × SK l) × { n : Nat // n ≤ 8 }) (fun x => ⟨[(0, some (.c (.ptr 0 0 0 0))), (2, some (.c (.ptr 1 0 0 0))), (3, some (.c (.ptr 2 0 0 0))), (4, some (.c (.im (.int .i64 (x.2.1 : Int)))))],
     [(0, some (.box [.t (.im (.sl 1 (rowsB l))), .t (.im (.int .i64 x.1.2.1.1)), .t (.im (.int .i64 x.1.2.1.2))])), (1, some (.box mz11)), (2, some (.box (modIB x.1.1.1)))], 3⟩) (fun x => x.2.1) i0 ⟨[], [0, 1, 2], by subst hi0; (simp only [go_sem, eq_self, MvRb, MvRn, MvRt, List.nodup_cons, List.nodup_nil, ↓reduceIte, Nat.reduceEqDiff, Nat.reduceLT, Nat.reduceLeDiff, reduceCtorEq, List.forall_mem_nil, Nat.zero_le, false_implies, List.mem_singleton, modIB, mz11, mSrc', mMix', mGain', mDelay', mSlicer', mMeter', mHold', mSum', zAk, zAo]) <;> simp [lk, zBg, modIB, mSrc', mMix', mGain', mDelay', mSlicer', mMeter', mHold', mSum', zAk, zAo] <;> (try rfl)⟩ (fun ⟨⟨⟨m, hD⟩, ⟨⟨a, k⟩, b⟩⟩, ⟨n, hn⟩⟩ => ?_)
 case' h7 =>
   try simp -dsimp (maxSteps := 1000000) only [go_sem, List.forall_mem_nil, ↓reduceIte, Nat.reduceEqDiff, Nat.reduceLT, Nat.reduceLeDiff, Nat.reduceAdd, Nat.reduceMul, reduceCtorEq, Tryz.f54, Int.reduceEq, rM, modC, mSum', hsK, h8 a1 k1 b1.1 b1.2, oBelow, zBd l (n := 8) (by decide)]
   rintro ⟨⟨v9, ⟨⟨a, k⟩, b⟩⟩, r1, r2⟩
   simp only at r1 r2 b
   obtain ⟨N, rfl⟩ := Int.eq_ofNat_of_zero_le r1
   try simp -dsimp (maxSteps := 1000000) only [go_sem, List.forall_mem_nil, ↓reduceIte, Nat.reduceEqDiff, Nat.reduceLT, Nat.reduceLeDiff, Nat.reduceAdd, Nat.reduceMul, reduceCtorEq, Tryz.f54, hsK]
   obtain ⟨i0, hi0⟩ : ∃ w : ({ m : Mod // DrU m } × SK l) × { n : Nat // n ≤ 8 }, w = ((⟨mSum', zHq, wd_sum⟩, ⟨(a, k), b⟩), ⟨N, by omega⟩) := ⟨_, rfl⟩
   refine zBh (ι := ({ m : Mod // DrU m } × SK l) × { n : Nat // n ≤ 8 }) (fun x => ⟨[(0, some (.c (.ptr 0 0 0 0))), (2, some (.c (.ptr 1 0 0 0))), (3, some (.c (.ptr 2 0 0 0))), (4, some (.c (.im (.int .i64 (x.2.1 : Int)))))],
     [(0, some (.box [.t (.im (.sl 1 (rowsB l))), .t (.im (.int .i64 x.1.2.1.1)), .t (.im (.int .i64 x.1.2.1.2))])), (1, some (.box mz11)), (2, some (.box (modIB x.1.1.1)))], 3⟩) (fun x => x.2.1) i0 ⟨[], [0, 1, 2], by subst hi0; (simp only [go_sem, eq_self, MvRb, MvRn, MvRt, List.nodup_cons, List.nodup_nil, ↓reduceIte, Nat.reduceEqDiff, Nat.reduceLT, Nat.reduceLeDiff, reduceCtorEq, List.forall_mem_nil, Nat.zero_le, false_implies, List.mem_singleton, modIB, mz11, mSrc', mMix', mGain', mDelay', mSlicer', mMeter', mHold', mSum', zAk, zAo]) <;> simp [lk, zBg, modIB, mSrc', mMix', mGain', mDelay', mSlicer', mMeter', mHold', mSum', zAk, zAo] <;> (try rfl)⟩ (fun ⟨⟨⟨m, hD⟩, ⟨⟨a, k⟩, b⟩⟩, ⟨n, hn⟩⟩ => ?_)
 all_goals (
   simp only [modIB, mz11] at hD b ⊢
   obtain ⟨kd, ⟨t1, t2⟩, ⟨s1, s2⟩, lv, st, ra, rc, pts, lab, c, le⟩ := m
   match n with
   | 0 =>
     have c0 : ((0 : Nat) : Int) = 0 := rfl
     have d0 : ((0 : Int) < 0) = False := by simp
     try simp -dsimp (maxSteps := 1000000) only [go_sem, List.forall_mem_nil, ↓reduceIte, Nat.reduceEqDiff, Nat.reduceLT, Nat.reduceLeDiff, Nat.reduceAdd, Nat.reduceMul, reduceCtorEq, Tryz.f54, c0, d0]
     refine zAj [] ?_
     simp -dsimp (maxSteps := 1000000) only [go_sem, List.forall_mem_nil, ↓reduceIte, Nat.reduceEqDiff, Nat.reduceLT, Nat.reduceLeDiff, Nat.reduceAdd, Nat.reduceMul, reduceCtorEq, modC]
     exact ⟨(⟨⟨kd, (t1, t2), (s1, s2), lv, st, ra, rc, pts, lab, c, le⟩, hD⟩, ⟨(a, k), b⟩), rfl, by simp⟩
   | n + 1 =>
     have d0 : ((0 : Int) < ((n + 1 : Nat) : Int)) = True := eq_true (by omega)
     have hk : IntKind.i64.wrap (((n + 1 : Nat) : Int) - 1) = (n : Int) := by rw [zAi (by omega) (by omega)]; omega
     obtain ⟨q1, q2, q3⟩ := hD.d.ok
     simp only at q1 q2 q3
     try simp -dsimp (maxSteps := 1000000) only [go_sem, List.forall_mem_nil, ↓reduceIte, Nat.reduceEqDiff, Nat.reduceLT, Nat.reduceLeDiff, Nat.reduceAdd, Nat.reduceMul, reduceCtorEq, Tryz.f54, d0, run_l5Copy q1 q2 q3, rM, modC, zGo h1 h2 b.1 b.2, oSmall, hsK, ne_small]
     rintro ⟨⟨⟨x, y⟩, ⟨⟨a2, k2⟩, b2⟩⟩, x1, x2, y1, y2⟩
     simp only at x1 x2 y1 y2
     have hx := abs_small x1 x2
     have hy := abs_small y1 y2
     have hx3 := wI32 x
     have hy3 := wI32 y
     generalize hX : wI x = X at hx hx3
     generalize hY : wI y = Y at hy hy3
     have rs := run_l5StepU hD.d hD.w ⟨hx3, hy3⟩ hx hy
     simp only [modC] at rs
     try simp -dsimp (maxSteps := 1000000) only [go_sem, List.forall_mem_nil, ↓reduceIte, Nat.reduceEqDiff, Nat.reduceLT, Nat.reduceLeDiff, Nat.reduceAdd, Nat.reduceMul, reduceCtorEq, Tryz.f54, hX, hY, rs, oStpU, ne_stpU, modC, hsK]
     rintro ⟨⟨m', z'⟩, hD'⟩
     try simp -dsimp (maxSteps := 1000000) only [go_sem, List.forall_mem_nil, ↓reduceIte, Nat.reduceEqDiff, Nat.reduceLT, Nat.reduceLeDiff, Nat.reduceAdd, Nat.reduceMul, reduceCtorEq, Tryz.f54, hk, modC]
     exact ⟨((⟨m', hD'⟩, ⟨(a2, k2), b2⟩), ⟨n, by omega⟩), by simp only []; omega, [], [0, 1, 2], by (simp only [go_sem, eq_self, MvRb, MvRn, MvRt, List.nodup_cons, List.nodup_nil, ↓reduceIte, Nat.reduceEqDiff, Nat.reduceLT, Nat.reduceLeDiff, reduceCtorEq, List.forall_mem_nil, Nat.zero_le, false_implies, List.mem_singleton, modIB, mz11]) <;> simp [lk, zBg]⟩)
def oMmU : Outs := .any QModU (fun q => rM q.1)
theorem ne_qmodU : Nonempty QModU = True := by simp only [eq_iff_iff, iff_true]; exact ⟨⟨mSum', zHq, wd_sum⟩⟩
noncomputable def ct_MakeModuleU : Ct := fam false (fun x : ABw => ([.c (.im (.sl 1 (rowsB x.l)))], [])) (fun _ => oMmU)
theorem run_MakeModuleU {l : List Int} (h1 : l.length ≤ 1048576) (h2 : ∀ b ∈ l, 0 ≤ b ∧ b < 256) : ct_MakeModuleU.run [.c (.im (.sl 1 (rowsB l)))] [] = some oMmU :=
 zDw (args := fun x : ABw => ([D.c (.im (.sl 1 (rowsB x.l)))], [])) (fun _ _ _ => rfl) ⟨l, h1, h2⟩
set_option maxRecDepth 100000 in
set_option maxHeartbeats 8000000 in
theorem law_MakeModuleU : Law Tryz.prog 12 ct_MakeModuleU := by
 refine zBl (zAc law_l01New (zAc law_l5ModuleU zAe)) hmixA Tryz.func12 rfl rfl (fun ⟨l, h1, h2⟩ => ⟨okA (fun o => okR_M), by simp [Tryz.f12], ?_⟩)
 simp only [oMmU]
 try simp -dsimp (maxSteps := 1000000) only [go_sem, List.forall_mem_nil, ↓reduceIte, Nat.reduceEqDiff, Nat.reduceLT, Nat.reduceLeDiff, Nat.reduceAdd, Nat.reduceMul, reduceCtorEq, Tryz.f12, run_l01New h1 h2, oKNew, ne_int]
 intro h
 try simp -dsimp (maxSteps := 1000000) only [go_sem, List.forall_mem_nil, ↓reduceIte, Nat.reduceEqDiff, Nat.reduceLT, Nat.reduceLeDiff, Nat.reduceAdd, Nat.reduceMul, reduceCtorEq, Tryz.f12, run_l5ModuleU h1 h2 (a := 0) (h := h) (by omega) (by omega), oModU, ne_modU, hsK]
 rintro ⟨⟨m, hm⟩, ⟨⟨a1, g1⟩, b1⟩⟩
 try simp -dsimp (maxSteps := 1000000) only [go_sem, List.forall_mem_nil, ↓reduceIte, Nat.reduceEqDiff, Nat.reduceLT, Nat.reduceLeDiff, Nat.reduceAdd, Nat.reduceMul, reduceCtorEq, Tryz.f12, hsK, rM, modC]
 refine zAj [] ?_
 simp -dsimp (maxSteps := 1000000) only [go_sem, List.forall_mem_nil, ↓reduceIte, Nat.reduceEqDiff, Nat.reduceLT, Nat.reduceLeDiff, Nat.reduceAdd, Nat.reduceMul, reduceCtorEq, rM, modC]
 exact ⟨⟨m, hm⟩, by simp⟩
end Go.SX
namespace Go.SX
open Go Go.Proofs Ieee
theorem signed_f (m k : Nat) : signed false m k = ((m * 2 ^ k : Nat) : Int) := by
 unfold signed
 rw [Nat.shiftLeft_eq]
 simp
theorem signed_t (m k : Nat) : signed true m k = -((m * 2 ^ k : Nat) : Int) := by
 unfold signed
 rw [Nat.shiftLeft_eq]
 simp
theorem signed_gt {s : Bool} {m k : Nat} {b : Int} (hb : 0 ≤ b) (h : b < signed s m k) : s = false ∧ 0 < m := by
 cases s with
 | false =>
   rw [signed_f] at h
   refine ⟨rfl, Nat.pos_of_ne_zero fun h0 => ?_⟩
   subst h0
   rw [Nat.zero_mul] at h
   omega
 | true =>
   exfalso
   rw [signed_t] at h
   omega
theorem signed_pos {m k : Nat} (h : 0 < m) : 0 < signed false m k := by
 have := Nat.mul_pos h (Nat.two_pow_pos k)
 rw [signed_f]
 omega
theorem signed_zero (s : Bool) (k : Nat) : signed s 0 k = 0 := by cases s <;> simp [signed]
theorem cmp_gt {a b : Int} : compare a b = .gt ↔ b < a := by
 simp only [compare, compareOfLessAndEq]
 split
 · simp; omega
 · split
   · simp; omega
   · simp; omega
def PosD (d : Datum) : Prop := d = .infinity false ∨ ∃ m e, d = .number false m e ∧ 0 < m
theorem pos_of {d : Datum} {e : Int} (h : d.order (.number false 0 e) = some .gt) : PosD d := by
 cases d with
 | nan s t => cases h
 | infinity s => cases s <;> first | exact .inl rfl | cases h
 | number s m i =>
   simp only [Datum.order, Option.some.injEq, cmp_gt, signed_zero] at h
   obtain ⟨rfl, h0⟩ := signed_gt (Int.le_refl 0) h
   exact .inr ⟨m, i, rfl, h0⟩
theorem pos_to {d : Datum} {e : Int} (h : PosD d) : d.order (.number false 0 e) = some .gt := by
 rcases h with rfl | ⟨m, i, rfl, h0⟩
 · rfl
 · simp only [Datum.order, Option.some.injEq, cmp_gt, signed_zero]
   exact signed_pos h0
theorem pos_up {a l : Datum} (h : a.order l = some .gt) (hl : PosD l) : PosD a := by
 rcases hl with rfl | ⟨n, j, rfl, h0⟩
 · cases a with
   | nan s t => cases h
   | infinity s => cases s <;> cases h
   | number s m i => cases h
 · cases a with
   | nan s t => cases h
   | infinity s => cases s <;> first | exact .inl rfl | cases h
   | number s m i =>
     simp only [Datum.order, Option.some.injEq, cmp_gt] at h
     obtain ⟨rfl, hm⟩ := signed_gt (Int.le_of_lt (signed_pos h0)) h
     exact .inr ⟨m, i, rfl, hm⟩
theorem gtr0_iff (w : Nat) : fcmp .gtr .f32 w 0 = true ↔ PosD (single.read w) := by
 have hz : single.read 0 = .number false 0 (-149) := by decide
 have : fcmp .gtr .f32 w 0 = (((single.read w).order (single.read 0)) == some .gt) := rfl
 rw [this, hz]
 simp only [beq_iff_eq]
 exact ⟨pos_of, pos_to⟩
theorem maxLv_ok {l x : Nat} (h : (nz l || fcmp .gtr .f32 l 0) = true) : (nz (maxLv l x) || fcmp .gtr .f32 (maxLv l x) 0) = true := by
 unfold maxLv
 split
 · rename_i hg
   rw [Bool.or_eq_true] at h ⊢
   right
   rcases h with h | h
   · have : l = 0 := by simp only [nz, decide_eq_true_eq] at h; omega
     subst this
     exact hg
   · rw [gtr0_iff] at h ⊢
     have : (single.read (absF x)).order (single.read l) = some .gt := by
       have e : fcmp .gtr .f32 (absF x) l = (((single.read (absF x)).order (single.read l)) == some .gt) := rfl
       rw [e] at hg
       simpa using hg
     exact pos_up this h
 · exact h
theorem abs32 {x : Nat} (h : x < 4294967296) : absF x < 4294967296 := by
 unfold absF
 split
 · exact zEw h
 · exact h
theorem maxLv32 {l x : Nat} (hl : l < 4294967296) (h : x < 4294967296) : maxLv l x < 4294967296 := by
 unfold maxLv
 split
 · exact abs32 h
 · exact hl
theorem ring_of {st : List Pt} {a c : Int} (h : isRingF st a c = true) : 1 ≤ st.length ∧ st.length ≤ 16 ∧ 0 ≤ a ∧ a < st.length := by
 simp only [isRingF, Bool.and_eq_true, decide_eq_true_eq] at h
 obtain ⟨⟨h1, h2, h3, h4, _⟩, _⟩ := h
 exact ⟨h1, h2, h3, h4⟩
theorem mod_1 (t s : Pt) : isModuleF ⟨1, t, s, 0, [], 0, 0, [], [], 0, 0⟩ = true := by simp [isModuleF, zAq]
theorem mod_2 (t s : Pt) : isModuleF ⟨2, t, s, 0, [], 0, 0, [], [], 0, 0⟩ = true := by simp [isModuleF, zAq]
theorem mod_3 (l : Nat) : isModuleF ⟨3, (0, 0), (0, 0), l, [], 0, 0, [], [], 0, 0⟩ = true := by simp [isModuleF, zAq]
theorem mod_6 {pts : List Pt} {lab : List Int} (c : Int) (h : isTableF pts lab = true) : isModuleF ⟨6, (0, 0), (0, 0), 0, [], 0, 0, pts, lab, c, 0⟩ = true := by simp [isModuleF, zAq, h]
theorem mod_7 {l : Nat} (h : (nz l || fcmp .gtr .f32 l 0) = true) : isModuleF ⟨7, (0, 0), (0, 0), l, [], 0, 0, [], [], 0, 0⟩ = true := by
 have : bareF ⟨7, (0, 0), (0, 0), 0, [], 0, 0, [], [], 0, 0⟩ = true := by simp [zAq]
 simp only [isModuleF, Int.reduceEq, if_true, if_false, this, Bool.and_true]
 exact h
theorem step_valid {o : Or} {m : Mod} {z : Pt} (hv : isModuleF m = true) (hw : Wd m) (hz : z.1 < 4294967296 ∧ z.2 < 4294967296) : isModuleF (stepF o m z).1 = true ∧ Wd (stepF o m z).1 := by
 rcases zDi hv with ⟨t, s, rfl⟩ | ⟨t, s, rfl⟩ | ⟨l, rfl⟩ | ⟨st, a, rfl, hr⟩ | rfl | ⟨pts, lab, c, rfl, ht⟩ | ⟨l, rfl, hl⟩ | ⟨s, c, l, rfl, h1, h2, h3, h4⟩
 · exact ⟨mod_1 _ _, wd_2 hw.w.turn (mul32 _ _ _)⟩
 · exact ⟨mod_2 _ _, wd_2 hw.w.turn (mul32 _ _ _)⟩
 · exact ⟨mod_3 _, hw⟩
 · obtain ⟨r1, r2, r3, r4⟩ := ring_of hr
   have e : (stepF o ⟨4, (0, 0), (0, 0), 0, st, a, (st.length : Int), [], [], 0, 0⟩ z).1 = mDelay' (st.set a.toNat z) ((a + 1) % (st.length : Int)) := by simp [stepF, mDelay']
   have b1 : 0 ≤ (a + 1) % (st.length : Int) := Int.emod_nonneg _ (by omega)
   have b2 : (a + 1) % (st.length : Int) < (st.length : Int) := Int.emod_lt_of_pos _ (by omega)
   rw [e]
   exact ⟨(zGx (by simp; omega) (by simp; omega) b1 (by rw [List.length_set]; exact b2)).mod, wd_delay (set32 hw.w.store hz _) ⟨by omega, by omega⟩⟩
 · exact ⟨hv, hw⟩
 · have e : ∀ r, nearF pts lab z = r → (stepF o ⟨6, (0, 0), (0, 0), 0, [], 0, 0, pts, lab, c, 0⟩ z).1 = mSlicer' pts lab (match r with | none => -1 | some i => lab.getD i 0) := by
     intro r hr
     simp only [stepF, Int.reduceEq, if_true, if_false, hr]
     cases r <;> rfl
   have hq : ∀ r : Option Nat, i64B (match r with | none => -1 | some i => lab.getD i 0) := by
     intro r
     cases r with
     | none => exact (show i64B (-1) from ⟨by decide, by decide⟩)
     | some i =>
       show i64B (lab.getD i 0)
       rw [List.getD_eq_getElem?_getD]
       cases hi : lab[i]? with
       | none => exact zFn
       | some q => exact hw.lab q (List.mem_of_getElem? hi)
   rw [e _ rfl]
   exact ⟨mod_6 _ ht, wd_slicer ⟨hw.w.pts, hw.lab⟩ (hq _)⟩
 · exact ⟨mod_7 (maxLv_ok (maxLv_ok hl)), wd_1 (maxLv32 (maxLv32 hw.w.level hz.1) hz.2)⟩
 · by_cases h0 : l = 0
   · have e : (stepF o ⟨8, (0, 0), s, 0, [], 0, 0, [], [], c, l⟩ z).1 = mHold' z c (c - 1) := by simp [stepF, mHold', h0]
     rw [e]
     exact ⟨(zFe h1 h2 (by omega) (by omega)).mod, wd_hold hz h1 h2 (by omega) (by omega)⟩
   · have e : (stepF o ⟨8, (0, 0), s, 0, [], 0, 0, [], [], c, l⟩ z).1 = mHold' s c (l - 1) := by simp [stepF, mHold', h0]
     rw [e]
     exact ⟨(zFe h1 h2 (by omega) (by omega)).mod, wd_hold hw.w.state h1 h2 (by omega) (by omega)⟩
def ctlM (m : Mod) (z : Pt) : Mod := if m.kind = 3 then { m with level := z.1 } else { m with turn := z }
theorem ctlM_kind (m : Mod) (z : Pt) : (ctlM m z).kind = m.kind := by unfold ctlM; split <;> rfl
theorem ctl_valid {m : Mod} {z : Pt} (hv : isModuleF m = true) (hk : m.kind = 1 ∨ m.kind = 2 ∨ m.kind = 3) (hw : Wd m) (hz : z.1 < 4294967296 ∧ z.2 < 4294967296) : isModuleF (ctlM m z) = true ∧ Wd (ctlM m z) := by
 rcases zDi hv with ⟨t, s, rfl⟩ | ⟨t, s, rfl⟩ | ⟨l, rfl⟩ | ⟨st, a, rfl, hr⟩ | rfl | ⟨pts, lab, c, rfl, ht⟩ | ⟨l, rfl, hl⟩ | ⟨s, c, l, rfl, h1, h2, h3, h4⟩
 · exact ⟨mod_1 _ _, wd_2 hz hw.w.state⟩
 · exact ⟨mod_2 _ _, wd_2 hz hw.w.state⟩
 · exact ⟨mod_3 _, wd_1 hz.1⟩
 all_goals (exfalso; revert hk; simp)
theorem rst_valid {m : Mod} (hd : Drawn m) (hw : Wd m) : isModuleF (resetM m) = true ∧ Wd (resetM m) := by
 refine ⟨(drawn_reset hd).mod, ?_⟩
 rcases zDi hd.mod with ⟨t, s, rfl⟩ | ⟨t, s, rfl⟩ | ⟨l, rfl⟩ | ⟨st, a, rfl, hr⟩ | rfl | ⟨pts, lab, c, rfl, ht⟩ | ⟨l, rfl, hl⟩ | ⟨s, c, l, rfl, h1, h2, h3, h4⟩
 · exact hw
 · exact wd_2 hw.w.turn (by decide)
 · exact hw
 · have e : resetM ⟨4, (0, 0), (0, 0), 0, st, a, (st.length : Int), [], [], 0, 0⟩ = { mDelay' (List.replicate st.length (0, 0)) a with rcnt := (st.length : Int) } := by simp [resetM, mDelay']
   rw [e]
   exact ⟨⟨p32_0, p32_0, by simp [mDelay'], fun p hp => by rw [(List.mem_replicate.1 hp).2]; exact p32_0, by simp [mDelay']⟩, hw.rat, zFn, zFn, by simp [mDelay']⟩
 · exact hw
 · exact wd_slicer ⟨hw.w.pts, hw.lab⟩ zFn
 · exact wd_1 (by decide)
 · exact ⟨⟨p32_0, p32_0, hw.w.level, by simp [resetM], by simp [resetM]⟩, zFn, hw.cnt, zFn, by simp [resetM]⟩
theorem fmtM_len {m : Mod} (hw : Wd m) : (fmtM m).length ≤ 1048576 := by
 cases hv : isModuleF m with
 | false => simp [fmtM, hv]
 | true =>
   have e : fmtM m = nameT m.kind ++ behind (restW m) := by simp [fmtM, hv]
   have hn : ∀ k, (nameT k).length ≤ 6 := fun k => by
     unfold nameT
     repeat' split
     all_goals decide
   have hn := hn m.kind
   rw [e, List.length_append]
   clear e
   generalize nameT m.kind = NM at hn ⊢
   rcases zDi hv with ⟨t, s, rfl⟩ | ⟨t, s, rfl⟩ | ⟨l, rfl⟩ | ⟨st, a, rfl, hr⟩ | rfl | ⟨pts, lab, c, rfl, ht⟩ | ⟨l, rfl, hl⟩ | ⟨s, c, l, rfl, h1, h2, h3, h4⟩
   · have lb := zBj [t, s] (by simp; exact ⟨hw.w.turn, hw.w.state⟩)
     have : restW ⟨1, t, s, 0, [], 0, 0, [], [], 0, 0⟩ = ptsW [t, s] := by simp [restW, ptsW]
     rw [this]
     simp only [List.length_cons, List.length_nil] at lb
     omega
   · have lb := zBj [t, s] (by simp; exact ⟨hw.w.turn, hw.w.state⟩)
     have : restW ⟨2, t, s, 0, [], 0, 0, [], [], 0, 0⟩ = ptsW [t, s] := by simp [restW, ptsW]
     rw [this]
     simp only [List.length_cons, List.length_nil] at lb
     omega
   · have lb := zEh hw.w.level
     have : behind (restW ⟨3, (0, 0), (0, 0), l, [], 0, 0, [], [], 0, 0⟩) = 32 :: sglT l := by simp [restW, behind]
     rw [this, List.length_cons]
     simp only at lb
     omega
   · have la := zBv hw.rat
     have lb := zBj st hw.w.store
     obtain ⟨r1, r2, r3, r4⟩ := ring_of hr
     have : behind (restW ⟨4, (0, 0), (0, 0), 0, st, a, (st.length : Int), [], [], 0, 0⟩) = 32 :: Lib.itoa a ++ behind (ptsW st) := by simp [restW, behind]
     rw [this]
     simp only [List.length_append, List.length_cons]
     simp only at la
     omega
   · have : behind (restW ⟨5, (0, 0), (0, 0), 0, [], 0, 0, [], [], 0, 0⟩) = [] := by simp [restW, behind]
     rw [this, List.length_nil]
     omega
   · have la := zBv hw.cnt
     have lb := tabW_len pts lab hw.w.pts hw.lab
     obtain ⟨r1, r2⟩ := zHh ht
     have : behind (restW ⟨6, (0, 0), (0, 0), 0, [], 0, 0, pts, lab, c, 0⟩) = 32 :: Lib.itoa c ++ behind (tabW pts lab) := by simp [restW, behind]
     rw [this]
     simp only [List.length_append, List.length_cons]
     simp only at la
     omega
   · have lb := zEh hw.w.level
     have : behind (restW ⟨7, (0, 0), (0, 0), l, [], 0, 0, [], [], 0, 0⟩) = 32 :: sglT l := by simp [restW, behind]
     rw [this, List.length_cons]
     simp only at lb
     omega
   · have la := zBv hw.cnt
     have lc := zBv hw.lft
     have lb := zBj [s] (by simp; exact hw.w.state)
     have : behind (restW ⟨8, (0, 0), s, 0, [], 0, 0, [], [], c, l⟩) = 32 :: Lib.itoa c ++ (32 :: Lib.itoa l ++ behind (ptsW [s])) := by simp [restW, behind, ptsW]
     rw [this]
     simp only [List.length_append, List.length_cons, List.length_nil] at lb ⊢
     simp only at la lc
     omega
end Go.SX
namespace Go.SX
open Go Go.Proofs Ieee
def canC (m : Mod) : Bool := hasF [1, 2, 3] m.kind
def canT (m : Mod) : Bool := hasF [1, 2, 6, 7, 8] m.kind
def rCs (m : Mod) (z : Pt) : Res := if canC m = true then { val := .tup [(rMod (ctlM m z)).val, .c (.im (.bool true))], roots := (rMod (ctlM m z)).roots }
 else { val := .tup [.agg [.im (.int .i64 0), .im (.cpx .f32 0 0), .im (.cpx .f32 0 0), .im (.flt .f32 0), .nil, .im (.int .i64 0), .im (.int .i64 0), .nil, .nil, .im (.int .i64 0), .im (.int .i64 0)], .c (.im (.bool false))] }
theorem okR_cs {sc : Bool} {m : Mod} {z : Pt} : OkR sc (rCs m z) := by
 unfold rCs
 split
 · obtain ⟨h1, h2, h3⟩ := okR_mod (sc := sc) (m := ctlM m z)
   refine ⟨.tup _ (fun d hd => ?_), h2, by simp⟩
   simp only [List.mem_cons, List.not_mem_nil, or_false] at hd
   rcases hd with rfl | rfl
   · cases h1 with
     | agg xs hx => exact .inr ⟨_, rfl, hx⟩
   · exact .inl ⟨_, rfl, zCg rfl⟩
 · refine ⟨.tup _ (fun d hd => ?_), by simp, by simp⟩
   simp only [List.mem_cons, List.not_mem_nil, or_false] at hd
   rcases hd with rfl | rfl
   · refine .inr ⟨_, rfl, fun x hx => ?_⟩
     simp only [List.mem_cons, List.not_mem_nil, or_false] at hx
     rcases hx with rfl | rfl | rfl | rfl | rfl | rfl | rfl | rfl | rfl | rfl | rfl <;> first | exact zCg rfl | exact .nil
   · exact .inl ⟨_, rfl, zCg rfl⟩
noncomputable def zDh : Ct := fam true (fun x : AMv × Pt => ([.agg (modC x.1.m), .c (.im (.cpx .f32 x.2.1 x.2.2))], [])) (fun x => .one (rCs x.1.m x.2))
theorem AMv_inj {x y : AMv × Pt} (h : (([D.agg (modC x.1.m), .c (.im (.cpx .f32 x.2.1 x.2.2))], []) : List D × List (List B)) = ([.agg (modC y.1.m), .c (.im (.cpx .f32 y.2.1 y.2.2))], [])) : x = y := by
 obtain ⟨⟨a, _, _⟩, ⟨p, q⟩⟩ := x
 obtain ⟨⟨b, _, _⟩, ⟨p', q'⟩⟩ := y
 simp only [Prod.mk.injEq, List.cons.injEq, D.agg.injEq, D.c.injEq, C.im.injEq, I.cpx.injEq, true_and, and_true] at h
 obtain ⟨h, rfl, rfl⟩ := h
 have := zDg h
 subst this; rfl
theorem zCx {m : Mod} (h1 : OkM m) (h2 : isModuleF m = true) (u v : Nat) : zDh.run [.agg (modC m), .c (.im (.cpx .f32 u v))] [] = some (.one (rCs m (u, v))) :=
 zAd (args := fun x : AMv × Pt => ([D.agg (modC x.1.m), .c (.im (.cpx .f32 x.2.1 x.2.2))], [])) (fun _ _ h => AMv_inj h) (⟨m, h1, h2⟩, (u, v))
theorem zDe : (zDh.sc = true) = True := by simp [zDh, fam]
set_option maxRecDepth 100000 in
set_option maxHeartbeats 16000000 in
theorem law_ControlModule : Law Tryz.prog 15 zDh := by
 refine zBl (zAc zFy (zAc zDp (zAc zGf zAe))) hmixA Tryz.func15 rfl rfl (fun ⟨⟨⟨k, ⟨t1, t2⟩, ⟨s1, s2⟩, lv, st, ra, rc, pts, lab, c, l⟩, ⟨q1, q2, q3⟩, hm⟩, ⟨u, v⟩⟩ => ⟨okO okR_cs, by simp [Tryz.f15, modC], ?_⟩)
 simp only at q1 q2 q3
 simp only [modC]
 have hsm : sm = 16777216 := rfl
 have hk := mod_kind hm
 simp only at hk
 have ri := fun k => zBf (k := k) (t1 := t1) (t2 := t2) (s1 := s1) (s2 := s2) (lv := lv) (ra := ra) (rc := rc) (c := c) (l := l) q1 q2 q3
 have rc' := fun k => zGd (k := k) (t1 := t1) (t2 := t2) (s1 := s1) (s2 := s2) (lv := lv) (ra := ra) (rc := rc) (c := c) (l := l) q1 q2 q3
 rcases hk with rfl | rfl | rfl | rfl | rfl | rfl | rfl | rfl
 · have hp : hasF [1, 2, 3] 1 = true := by decide
   have hr : rCs ⟨1, (t1, t2), (s1, s2), lv, st, ra, rc, pts, lab, c, l⟩ (u, v) = { val := .tup [.agg [.im (.int .i64 1), .im (.cpx .f32 u v), .im (.cpx .f32 s1 s2), .im (.flt .f32 lv), .view 0 1 0 st.length, .im (.int .i64 ra), .im (.int .i64 rc), .view 1 1 0 pts.length, .view 2 1 0 lab.length, .im (.int .i64 c), .im (.int .i64 l)], .c (.im (.bool true))], roots := [.arr 1 (tI (rowsZ st)), .arr 1 (tI (rowsZ pts)), .arr 1 (tI (rowsN lab))] } := by simp [rCs, canC, hp, ctlM, rMod]
   try simp -dsimp (maxSteps := 1000000) only [go_sem, List.forall_mem_nil, ↓reduceIte, Nat.reduceEqDiff, Nat.reduceLT, Nat.reduceLeDiff, Nat.reduceAdd, Nat.reduceMul, reduceCtorEq, Tryz.f15, zAp, hp, ri, hm, rc', rMod, zAg, zAa, Int.reduceEq, Bool.not_true, Bool.or_self]
   refine zAj [] ?_
   simp -dsimp (maxSteps := 1000000) only [go_sem, List.forall_mem_nil, ↓reduceIte, Nat.reduceEqDiff, Nat.reduceLT, Nat.reduceLeDiff, Nat.reduceAdd, Nat.reduceMul, reduceCtorEq, hr]
   refine ⟨[2, 3, 4], ?_, ?_, ?_, rfl, ?_⟩ <;> simp [rtOk]
 · have hp : hasF [1, 2, 3] 2 = true := by decide
   have hr : rCs ⟨2, (t1, t2), (s1, s2), lv, st, ra, rc, pts, lab, c, l⟩ (u, v) = { val := .tup [.agg [.im (.int .i64 2), .im (.cpx .f32 u v), .im (.cpx .f32 s1 s2), .im (.flt .f32 lv), .view 0 1 0 st.length, .im (.int .i64 ra), .im (.int .i64 rc), .view 1 1 0 pts.length, .view 2 1 0 lab.length, .im (.int .i64 c), .im (.int .i64 l)], .c (.im (.bool true))], roots := [.arr 1 (tI (rowsZ st)), .arr 1 (tI (rowsZ pts)), .arr 1 (tI (rowsN lab))] } := by simp [rCs, canC, hp, ctlM, rMod]
   try simp -dsimp (maxSteps := 1000000) only [go_sem, List.forall_mem_nil, ↓reduceIte, Nat.reduceEqDiff, Nat.reduceLT, Nat.reduceLeDiff, Nat.reduceAdd, Nat.reduceMul, reduceCtorEq, Tryz.f15, zAp, hp, ri, hm, rc', rMod, zAg, zAa, Int.reduceEq, Bool.not_true, Bool.or_self]
   refine zAj [] ?_
   simp -dsimp (maxSteps := 1000000) only [go_sem, List.forall_mem_nil, ↓reduceIte, Nat.reduceEqDiff, Nat.reduceLT, Nat.reduceLeDiff, Nat.reduceAdd, Nat.reduceMul, reduceCtorEq, hr]
   refine ⟨[2, 3, 4], ?_, ?_, ?_, rfl, ?_⟩ <;> simp [rtOk]
 · have hp : hasF [1, 2, 3] 3 = true := by decide
   have hr : rCs ⟨3, (t1, t2), (s1, s2), lv, st, ra, rc, pts, lab, c, l⟩ (u, v) = { val := .tup [.agg [.im (.int .i64 3), .im (.cpx .f32 t1 t2), .im (.cpx .f32 s1 s2), .im (.flt .f32 u), .view 0 1 0 st.length, .im (.int .i64 ra), .im (.int .i64 rc), .view 1 1 0 pts.length, .view 2 1 0 lab.length, .im (.int .i64 c), .im (.int .i64 l)], .c (.im (.bool true))], roots := [.arr 1 (tI (rowsZ st)), .arr 1 (tI (rowsZ pts)), .arr 1 (tI (rowsN lab))] } := by simp [rCs, canC, hp, ctlM, rMod]
   try simp -dsimp (maxSteps := 1000000) only [go_sem, List.forall_mem_nil, ↓reduceIte, Nat.reduceEqDiff, Nat.reduceLT, Nat.reduceLeDiff, Nat.reduceAdd, Nat.reduceMul, reduceCtorEq, Tryz.f15, zAp, hp, ri, hm, rc', rMod, zAg, zAa, Int.reduceEq, Bool.not_true, Bool.or_self]
   refine zAj [] ?_
   simp -dsimp (maxSteps := 1000000) only [go_sem, List.forall_mem_nil, ↓reduceIte, Nat.reduceEqDiff, Nat.reduceLT, Nat.reduceLeDiff, Nat.reduceAdd, Nat.reduceMul, reduceCtorEq, hr]
   refine ⟨[2, 3, 4], ?_, ?_, ?_, rfl, ?_⟩ <;> simp [rtOk]
 · have hp : hasF [1, 2, 3] 4 = false := by decide
   have hr : rCs ⟨4, (t1, t2), (s1, s2), lv, st, ra, rc, pts, lab, c, l⟩ (u, v) = { val := .tup [.agg [.im (.int .i64 0), .im (.cpx .f32 0 0), .im (.cpx .f32 0 0), .im (.flt .f32 0), .nil, .im (.int .i64 0), .im (.int .i64 0), .nil, .nil, .im (.int .i64 0), .im (.int .i64 0)], .c (.im (.bool false))] } := by simp [rCs, canC, hp]
   try simp -dsimp (maxSteps := 1000000) only [go_sem, List.forall_mem_nil, ↓reduceIte, Nat.reduceEqDiff, Nat.reduceLT, Nat.reduceLeDiff, Nat.reduceAdd, Nat.reduceMul, reduceCtorEq, Tryz.f15, zAp, hp, ri, hm, Bool.not_false, Bool.true_or]
   refine zAj [] ?_
   simp -dsimp (maxSteps := 1000000) only [go_sem, List.forall_mem_nil, ↓reduceIte, Nat.reduceEqDiff, Nat.reduceLT, Nat.reduceLeDiff, Nat.reduceAdd, Nat.reduceMul, reduceCtorEq, hr]
 · have hp : hasF [1, 2, 3] 5 = false := by decide
   have hr : rCs ⟨5, (t1, t2), (s1, s2), lv, st, ra, rc, pts, lab, c, l⟩ (u, v) = { val := .tup [.agg [.im (.int .i64 0), .im (.cpx .f32 0 0), .im (.cpx .f32 0 0), .im (.flt .f32 0), .nil, .im (.int .i64 0), .im (.int .i64 0), .nil, .nil, .im (.int .i64 0), .im (.int .i64 0)], .c (.im (.bool false))] } := by simp [rCs, canC, hp]
   try simp -dsimp (maxSteps := 1000000) only [go_sem, List.forall_mem_nil, ↓reduceIte, Nat.reduceEqDiff, Nat.reduceLT, Nat.reduceLeDiff, Nat.reduceAdd, Nat.reduceMul, reduceCtorEq, Tryz.f15, zAp, hp, ri, hm, Bool.not_false, Bool.true_or]
   refine zAj [] ?_
   simp -dsimp (maxSteps := 1000000) only [go_sem, List.forall_mem_nil, ↓reduceIte, Nat.reduceEqDiff, Nat.reduceLT, Nat.reduceLeDiff, Nat.reduceAdd, Nat.reduceMul, reduceCtorEq, hr]
 · have hp : hasF [1, 2, 3] 6 = false := by decide
   have hr : rCs ⟨6, (t1, t2), (s1, s2), lv, st, ra, rc, pts, lab, c, l⟩ (u, v) = { val := .tup [.agg [.im (.int .i64 0), .im (.cpx .f32 0 0), .im (.cpx .f32 0 0), .im (.flt .f32 0), .nil, .im (.int .i64 0), .im (.int .i64 0), .nil, .nil, .im (.int .i64 0), .im (.int .i64 0)], .c (.im (.bool false))] } := by simp [rCs, canC, hp]
   try simp -dsimp (maxSteps := 1000000) only [go_sem, List.forall_mem_nil, ↓reduceIte, Nat.reduceEqDiff, Nat.reduceLT, Nat.reduceLeDiff, Nat.reduceAdd, Nat.reduceMul, reduceCtorEq, Tryz.f15, zAp, hp, ri, hm, Bool.not_false, Bool.true_or]
   refine zAj [] ?_
   simp -dsimp (maxSteps := 1000000) only [go_sem, List.forall_mem_nil, ↓reduceIte, Nat.reduceEqDiff, Nat.reduceLT, Nat.reduceLeDiff, Nat.reduceAdd, Nat.reduceMul, reduceCtorEq, hr]
 · have hp : hasF [1, 2, 3] 7 = false := by decide
   have hr : rCs ⟨7, (t1, t2), (s1, s2), lv, st, ra, rc, pts, lab, c, l⟩ (u, v) = { val := .tup [.agg [.im (.int .i64 0), .im (.cpx .f32 0 0), .im (.cpx .f32 0 0), .im (.flt .f32 0), .nil, .im (.int .i64 0), .im (.int .i64 0), .nil, .nil, .im (.int .i64 0), .im (.int .i64 0)], .c (.im (.bool false))] } := by simp [rCs, canC, hp]
   try simp -dsimp (maxSteps := 1000000) only [go_sem, List.forall_mem_nil, ↓reduceIte, Nat.reduceEqDiff, Nat.reduceLT, Nat.reduceLeDiff, Nat.reduceAdd, Nat.reduceMul, reduceCtorEq, Tryz.f15, zAp, hp, ri, hm, Bool.not_false, Bool.true_or]
   refine zAj [] ?_
   simp -dsimp (maxSteps := 1000000) only [go_sem, List.forall_mem_nil, ↓reduceIte, Nat.reduceEqDiff, Nat.reduceLT, Nat.reduceLeDiff, Nat.reduceAdd, Nat.reduceMul, reduceCtorEq, hr]
 · have hp : hasF [1, 2, 3] 8 = false := by decide
   have hr : rCs ⟨8, (t1, t2), (s1, s2), lv, st, ra, rc, pts, lab, c, l⟩ (u, v) = { val := .tup [.agg [.im (.int .i64 0), .im (.cpx .f32 0 0), .im (.cpx .f32 0 0), .im (.flt .f32 0), .nil, .im (.int .i64 0), .im (.int .i64 0), .nil, .nil, .im (.int .i64 0), .im (.int .i64 0)], .c (.im (.bool false))] } := by simp [rCs, canC, hp]
   try simp -dsimp (maxSteps := 1000000) only [go_sem, List.forall_mem_nil, ↓reduceIte, Nat.reduceEqDiff, Nat.reduceLT, Nat.reduceLeDiff, Nat.reduceAdd, Nat.reduceMul, reduceCtorEq, Tryz.f15, zAp, hp, ri, hm, Bool.not_false, Bool.true_or]
   refine zAj [] ?_
   simp -dsimp (maxSteps := 1000000) only [go_sem, List.forall_mem_nil, ↓reduceIte, Nat.reduceEqDiff, Nat.reduceLT, Nat.reduceLeDiff, Nat.reduceAdd, Nat.reduceMul, reduceCtorEq, hr]
def oTl (b : Bool) : Outs := .any Pt (fun p => { val := .tup [.c (.im (.cpx .f32 p.1 p.2)), .c (.im (.bool b))] })
theorem ne_pt : Nonempty Pt = True := by simp only [eq_iff_iff, iff_true]; exact ⟨(0, 0)⟩
theorem okR_tl {sc : Bool} {p : Pt} {b : Bool} : OkR sc { val := .tup [.c (.im (.cpx .f32 p.1 p.2)), .c (.im (.bool b))] } := by
 refine ⟨.tup _ (fun d hd => ?_), by simp, by simp⟩
 simp only [List.mem_cons, List.not_mem_nil, or_false] at hd
 rcases hd with rfl | rfl <;> exact .inl ⟨_, rfl, zCg rfl⟩
noncomputable def zEz : Ct := fam true (fun x : AMv => ([.agg (modC x.m)], [])) (fun x => oTl (canT x.m))
theorem run_TellModule {m : Mod} (h1 : OkM m) (h2 : isModuleF m = true) : zEz.run [.agg (modC m)] [] = some (oTl (canT m)) := by
 refine zAd (args := fun x : AMv => ([D.agg (modC x.m)], [])) ?_ ⟨m, h1, h2⟩
 rintro ⟨a, _, _⟩ ⟨b, _, _⟩ h
 simp only [Prod.mk.injEq, List.cons.injEq, D.agg.injEq, and_true] at h
 have := zDg h
 subst this; rfl
theorem zEs : (zEz.sc = true) = True := by simp [zEz, fam]
set_option maxRecDepth 100000 in
set_option maxHeartbeats 16000000 in
theorem law_TellModule : Law Tryz.prog 18 zEz := by
 refine zAf (zAc zFy (zAc zDp zAe)) hmixA Tryz.func18 rfl rfl (fun ⟨⟨k, ⟨t1, t2⟩, ⟨s1, s2⟩, lv, st, ra, rc, pts, lab, c, l⟩, ⟨q1, q2, q3⟩, hm⟩ => ⟨okA (fun o => okR_tl), by simp [Tryz.f18, modC], ?_⟩)
 simp only at q1 q2 q3
 simp only [modC, oTl, canT]
 have hsm : sm = 16777216 := rfl
 have hk := mod_kind hm
 simp only at hk
 have ri := fun k => zBf (k := k) (t1 := t1) (t2 := t2) (s1 := s1) (s2 := s2) (lv := lv) (ra := ra) (rc := rc) (c := c) (l := l) q1 q2 q3
 rcases hk with rfl | rfl | rfl | rfl | rfl | rfl | rfl | rfl
 · have hp : hasF [1, 2, 6, 7, 8] 1 = true := by decide
   try simp -dsimp (maxSteps := 1000000) only [go_sem, List.forall_mem_nil, ↓reduceIte, Nat.reduceEqDiff, Nat.reduceLT, Nat.reduceLeDiff, Nat.reduceAdd, Nat.reduceMul, reduceCtorEq, Tryz.f18, zAp, hp, ri, hm, Int.reduceEq, Bool.not_true, Bool.not_false, Bool.true_or, Bool.or_self]
   exact ⟨(_, _), rfl, rfl⟩
 · have hp : hasF [1, 2, 6, 7, 8] 2 = true := by decide
   try simp -dsimp (maxSteps := 1000000) only [go_sem, List.forall_mem_nil, ↓reduceIte, Nat.reduceEqDiff, Nat.reduceLT, Nat.reduceLeDiff, Nat.reduceAdd, Nat.reduceMul, reduceCtorEq, Tryz.f18, zAp, hp, ri, hm, Int.reduceEq, Bool.not_true, Bool.not_false, Bool.true_or, Bool.or_self]
   exact ⟨(_, _), rfl, rfl⟩
 · have hp : hasF [1, 2, 6, 7, 8] 3 = false := by decide
   try simp -dsimp (maxSteps := 1000000) only [go_sem, List.forall_mem_nil, ↓reduceIte, Nat.reduceEqDiff, Nat.reduceLT, Nat.reduceLeDiff, Nat.reduceAdd, Nat.reduceMul, reduceCtorEq, Tryz.f18, zAp, hp, ri, hm, Int.reduceEq, Bool.not_true, Bool.not_false, Bool.true_or, Bool.or_self]
   exact ⟨(_, _), rfl, rfl⟩
 · have hp : hasF [1, 2, 6, 7, 8] 4 = false := by decide
   try simp -dsimp (maxSteps := 1000000) only [go_sem, List.forall_mem_nil, ↓reduceIte, Nat.reduceEqDiff, Nat.reduceLT, Nat.reduceLeDiff, Nat.reduceAdd, Nat.reduceMul, reduceCtorEq, Tryz.f18, zAp, hp, ri, hm, Int.reduceEq, Bool.not_true, Bool.not_false, Bool.true_or, Bool.or_self]
   exact ⟨(_, _), rfl, rfl⟩
 · have hp : hasF [1, 2, 6, 7, 8] 5 = false := by decide
   try simp -dsimp (maxSteps := 1000000) only [go_sem, List.forall_mem_nil, ↓reduceIte, Nat.reduceEqDiff, Nat.reduceLT, Nat.reduceLeDiff, Nat.reduceAdd, Nat.reduceMul, reduceCtorEq, Tryz.f18, zAp, hp, ri, hm, Int.reduceEq, Bool.not_true, Bool.not_false, Bool.true_or, Bool.or_self]
   exact ⟨(_, _), rfl, rfl⟩
 · have hp : hasF [1, 2, 6, 7, 8] 6 = true := by decide
   try simp -dsimp (maxSteps := 1000000) only [go_sem, List.forall_mem_nil, ↓reduceIte, Nat.reduceEqDiff, Nat.reduceLT, Nat.reduceLeDiff, Nat.reduceAdd, Nat.reduceMul, reduceCtorEq, Tryz.f18, zAp, hp, ri, hm, Int.reduceEq, Bool.not_true, Bool.not_false, Bool.true_or, Bool.or_self]
   exact ⟨(_, _), rfl, rfl⟩
 · have hp : hasF [1, 2, 6, 7, 8] 7 = true := by decide
   try simp -dsimp (maxSteps := 1000000) only [go_sem, List.forall_mem_nil, ↓reduceIte, Nat.reduceEqDiff, Nat.reduceLT, Nat.reduceLeDiff, Nat.reduceAdd, Nat.reduceMul, reduceCtorEq, Tryz.f18, zAp, hp, ri, hm, Int.reduceEq, Bool.not_true, Bool.not_false, Bool.true_or, Bool.or_self]
   exact ⟨(_, _), rfl, rfl⟩
 · have hp : hasF [1, 2, 6, 7, 8] 8 = true := by decide
   try simp -dsimp (maxSteps := 1000000) only [go_sem, List.forall_mem_nil, ↓reduceIte, Nat.reduceEqDiff, Nat.reduceLT, Nat.reduceLeDiff, Nat.reduceAdd, Nat.reduceMul, reduceCtorEq, Tryz.f18, zAp, hp, ri, hm, Int.reduceEq, Bool.not_true, Bool.not_false, Bool.true_or, Bool.or_self]
   exact ⟨(_, _), rfl, rfl⟩
def rSm (m : Mod) (z : Pt) (o : Or) : Res := { val := .tup [(rMod (stepF o m z).1).val, .c (.im (.cpx .f32 (stepF o m z).2.1 (stepF o m z).2.2)), .c (.im (.bool true))], roots := (rMod (stepF o m z).1).roots }
def oSm (m : Mod) (z : Pt) : Outs := .any Or (fun o => rSm m z o)
theorem okR_sm {sc : Bool} {m : Mod} {z : Pt} {o : Or} : OkR sc (rSm m z o) := by
 obtain ⟨h1, h2, h3⟩ := okR_mod (sc := sc) (m := (stepF o m z).1)
 refine ⟨.tup _ (fun d hd => ?_), h2, by simp [rSm]⟩
 simp only [rSm, List.mem_cons, List.not_mem_nil, or_false] at hd
 rcases hd with rfl | rfl | rfl
 · cases h1 with
   | agg xs hx => exact .inr ⟨_, rfl, hx⟩
 · exact .inl ⟨_, rfl, zCg rfl⟩
 · exact .inl ⟨_, rfl, zCg rfl⟩
noncomputable def zFa : Ct := fam true (fun x : AMv × Pt => ([.agg (modC x.1.m), .c (.im (.cpx .f32 x.2.1 x.2.2))], [])) (fun x => oSm x.1.m x.2)
theorem run_StepModule {m : Mod} (h1 : OkM m) (h2 : isModuleF m = true) (u v : Nat) : zFa.run [.agg (modC m), .c (.im (.cpx .f32 u v))] [] = some (oSm m (u, v)) :=
 zAd (args := fun x : AMv × Pt => ([D.agg (modC x.1.m), .c (.im (.cpx .f32 x.2.1 x.2.2))], [])) (fun _ _ h => AMv_inj h) (⟨m, h1, h2⟩, (u, v))
theorem zEt : (zFa.sc = true) = True := by simp [zFa, fam]
set_option maxRecDepth 100000 in
set_option maxHeartbeats 16000000 in
theorem law_StepModule : Law Tryz.prog 22 zFa := by
 refine zBl (zAc zDp (zAc zGf (zAc law_step zAe))) hmixA Tryz.func22 rfl rfl (fun ⟨⟨⟨k, ⟨t1, t2⟩, ⟨s1, s2⟩, lv, st, ra, rc, pts, lab, c, l⟩, ⟨q1, q2, q3⟩, hm⟩, ⟨u, v⟩⟩ => ⟨okA (fun o => okR_sm), by simp [Tryz.f22, modC], ?_⟩)
 have hS := OkS_of ⟨q1, q2, q3⟩ hm
 have rs := run_step hS u v
 simp only at q1 q2 q3
 simp only [modC, oSm]
 have hsm : sm = 16777216 := rfl
 have ri := zBf (k := k) (t1 := t1) (t2 := t2) (s1 := s1) (s2 := s2) (lv := lv) (ra := ra) (rc := rc) (c := c) (l := l) q1 q2 q3
 have rc' := zGd (k := k) (t1 := t1) (t2 := t2) (s1 := s1) (s2 := s2) (lv := lv) (ra := ra) (rc := rc) (c := c) (l := l) q1 q2 q3
 rw [hm] at ri
 simp only [modB] at rs
 try simp -dsimp (maxSteps := 1000000) only [go_sem, List.forall_mem_nil, ↓reduceIte, Nat.reduceEqDiff, Nat.reduceLT, Nat.reduceLeDiff, Nat.reduceAdd, Nat.reduceMul, reduceCtorEq, Tryz.f22, ri, rc', rMod, rs, oStep, ne_or, modB, MvB_Z, MvB_N, zAg, zAa, zAb, Bool.not_true]
 intro o
 obtain ⟨R, hE⟩ : ∃ R, stepF o ⟨k, (t1, t2), (s1, s2), lv, st, ra, rc, pts, lab, c, l⟩ (u, v) = R := ⟨_, rfl⟩
 obtain ⟨⟨k', ⟨t1', t2'⟩, ⟨s1', s2'⟩, lv', st', ra', rc1', pts', lab', c', l'⟩, ⟨x, y⟩⟩ := R
 try simp -dsimp (maxSteps := 1000000) only [go_sem, List.forall_mem_nil, ↓reduceIte, Nat.reduceEqDiff, Nat.reduceLT, Nat.reduceLeDiff, Nat.reduceAdd, Nat.reduceMul, reduceCtorEq, Tryz.f22, hE, modB, MvB_Z, MvB_N, zAg, zAa, zAb]
 refine zAj [] ?_
 simp -dsimp (maxSteps := 1000000) only [go_sem, List.forall_mem_nil, ↓reduceIte, Nat.reduceEqDiff, Nat.reduceLT, Nat.reduceLeDiff, Nat.reduceAdd, Nat.reduceMul, reduceCtorEq]
 refine ⟨o, ?_⟩
 simp only [rSm, hE, rMod]
 simp -dsimp (maxSteps := 1000000) only [go_sem, List.forall_mem_nil, ↓reduceIte, Nat.reduceEqDiff, Nat.reduceLT, Nat.reduceLeDiff, Nat.reduceAdd, Nat.reduceMul, reduceCtorEq]
 refine ⟨[6, 7, 8], ?_, ?_, ?_, rfl, ?_⟩ <;> simp [rtOk]
end Go.SX
namespace Go.SX
open Go Go.Proofs Ieee
theorem cW_two {x y : Nat} (h : cW x = cW y) : (2139095040 < x % 2147483648 ∧ 2139095040 < y % 2147483648) ∨ (¬ 2139095040 < x % 2147483648 ∧ x = y) := by
 unfold cW at h
 by_cases h1 : 2139095040 < x % 2147483648
 · rw [if_pos h1] at h
   by_cases h2 : 2139095040 < y % 2147483648
   · exact .inl ⟨h1, h2⟩
   · rw [if_neg h2] at h
     subst h
     exact absurd (by decide) h2
 · rw [if_neg h1] at h
   by_cases h2 : 2139095040 < y % 2147483648
   · rw [if_pos h2] at h
     subst h
     exact absurd (by decide) h1
   · rw [if_neg h2] at h
     exact .inr ⟨h1, h⟩
abbrev EqW := { p : Nat × Nat // cW p.1 = cW p.2 }
noncomputable def ct_same : Ct := fam true (fun p : EqW => ([.c (.im (.flt .f32 p.1.1)), .c (.im (.flt .f32 p.1.2))], [])) (fun _ => .one { val := .c (.im (.bool true)) })
theorem run_same {x y : Nat} (h : cW x = cW y) : ct_same.run [.c (.im (.flt .f32 x)), .c (.im (.flt .f32 y))] [] = some (.one { val := .c (.im (.bool true)) }) := by
 refine zAd (args := fun p : EqW => ([D.c (.im (.flt .f32 p.1.1)), .c (.im (.flt .f32 p.1.2))], [])) ?_ ⟨(x, y), h⟩
 rintro ⟨⟨a, b⟩, _⟩ ⟨⟨a', b'⟩, _⟩ h
 simp only [Prod.mk.injEq, List.cons.injEq, D.c.injEq, C.im.injEq, I.flt.injEq, true_and, and_true] at h
 exact Subtype.ext (Prod.ext h.1 h.2)
theorem eql_num {w : Nat} (h : ¬ 2139095040 < w % 2147483648) : fcmp .eql .f32 w w = true := by
 have := neq_num h
 have e : fcmp .neq .f32 w w = !(fcmp .eql .f32 w w) := rfl
 rw [e] at this
 simpa using this
set_option maxRecDepth 100000 in
theorem law_same : Law Tryz.prog 65 ct_same := by
 refine zAf (zAc zFx zAe) hmixA Tryz.func65 rfl rfl (fun ⟨⟨x, y⟩, h⟩ => ⟨zAv rfl, by simp [Tryz.f65], ?_⟩)
 simp only at h ⊢
 rcases cW_two h with ⟨h1, h2⟩ | ⟨h1, rfl⟩
 · have n1 := neq_nan h1
   have n2 := neq_nan h2
   try simp -dsimp (maxSteps := 1000000) only [go_sem, List.forall_mem_nil, ↓reduceIte, Nat.reduceEqDiff, Nat.reduceLT, Nat.reduceLeDiff, Nat.reduceAdd, Nat.reduceMul, reduceCtorEq, Tryz.f65, n1, n2, Bool.true_or, Bool.and_self]
 · have n1 := neq_num h1
   have n2 := eql_num h1
   cases n3 : fcmp .neq .f32 x 0 with
   | true =>
     try simp -dsimp (maxSteps := 1000000) only [go_sem, List.forall_mem_nil, ↓reduceIte, Nat.reduceEqDiff, Nat.reduceLT, Nat.reduceLeDiff, Nat.reduceAdd, Nat.reduceMul, reduceCtorEq, Tryz.f65, n1, n2, n3, Bool.true_or, Bool.false_or, Bool.and_self, Bool.true_and]
   | false =>
     try simp -dsimp (maxSteps := 1000000) only [go_sem, List.forall_mem_nil, ↓reduceIte, Nat.reduceEqDiff, Nat.reduceLT, Nat.reduceLeDiff, Nat.reduceAdd, Nat.reduceMul, reduceCtorEq, Tryz.f65, n1, n2, n3, zAm, Bool.true_or, Bool.false_or, Bool.and_self, Bool.true_and, decide_true, eq_self, BEq.rfl]
abbrev EqP := { p : Pt × Pt // cP p.1 = cP p.2 }
noncomputable def ct_samePoints : Ct := fam true (fun p : EqP => ([.c (.im (.cpx .f32 p.1.1.1 p.1.1.2)), .c (.im (.cpx .f32 p.1.2.1 p.1.2.2))], [])) (fun _ => .one { val := .c (.im (.bool true)) })
theorem zGc {x y u v : Nat} (h : cP (x, y) = cP (u, v)) : ct_samePoints.run [.c (.im (.cpx .f32 x y)), .c (.im (.cpx .f32 u v))] [] = some (.one { val := .c (.im (.bool true)) }) := by
 refine zAd (args := fun p : EqP => ([D.c (.im (.cpx .f32 p.1.1.1 p.1.1.2)), .c (.im (.cpx .f32 p.1.2.1 p.1.2.2))], [])) ?_ ⟨((x, y), (u, v)), h⟩
 rintro ⟨⟨⟨a, b⟩, ⟨c, d⟩⟩, _⟩ ⟨⟨⟨a', b'⟩, ⟨c', d'⟩⟩, _⟩ h
 simp only [Prod.mk.injEq, List.cons.injEq, D.c.injEq, C.im.injEq, I.cpx.injEq, true_and, and_true] at h
 obtain ⟨⟨rfl, rfl⟩, rfl, rfl⟩ := h
 rfl
set_option maxRecDepth 100000 in
theorem law_samePoints : Law Tryz.prog 64 ct_samePoints := by
 refine zAf (zAc law_same zAe) hmixA Tryz.func64 rfl rfl (fun ⟨⟨⟨x, y⟩, ⟨u, v⟩⟩, h⟩ => ⟨zAv rfl, by simp [Tryz.f64], ?_⟩)
 simp only at h ⊢
 simp only [cP, Prod.mk.injEq] at h
 try simp -dsimp (maxSteps := 1000000) only [go_sem, List.forall_mem_nil, ↓reduceIte, Nat.reduceEqDiff, Nat.reduceLT, Nat.reduceLeDiff, Nat.reduceAdd, Nat.reduceMul, reduceCtorEq, Tryz.f64, run_same h.1, run_same h.2, Bool.and_self]
structure EqL where
 a : List Pt
 b : List Pt
 ha : a.length ≤ sm
 h : a.map cP = b.map cP
noncomputable def zGa : Ct := fam true (fun x : EqL => ([.c (.im (.sl 1 (rowsZ x.a))), .c (.im (.sl 1 (rowsZ x.b))), .c (.fn (.func 64) [])], [])) (fun _ => .one { val := .c (.im (.bool true)) })
theorem run_EqualFunc {a b : List Pt} (ha : a.length ≤ sm) (h : a.map cP = b.map cP) : zGa.run [.c (.im (.sl 1 (rowsZ a))), .c (.im (.sl 1 (rowsZ b))), .c (.fn (.func 64) [])] [] = some (.one { val := .c (.im (.bool true)) }) := by
 refine zAd (args := fun x : EqL => ([D.c (.im (.sl 1 (rowsZ x.a))), .c (.im (.sl 1 (rowsZ x.b))), .c (.fn (.func 64) [])], [])) ?_ ⟨a, b, ha, h⟩
 rintro ⟨a, b, _, _⟩ ⟨a', b', _, _⟩ h
 simp [zAs] at h ⊢
 exact h
theorem sc_EqualFunc : (zGa.sc = true) = True := by simp [zGa, fam]
set_option maxRecDepth 100000 in
set_option maxHeartbeats 4000000 in
theorem law_EqualFunc : Law Tryz.prog 66 zGa := by
 refine zAf (zAc law_samePoints zAe) hmixA Tryz.func66 rfl rfl (fun ⟨a, b, ha, h⟩ => ⟨zAv rfl, by simp [Tryz.f66], ?_⟩)
 simp only at ha h ⊢
 have hlen : a.length = b.length := by have := congrArg List.length h; simpa using this
 have e1 : ((a.length : Int) = (b.length : Int)) = True := eq_true (by omega)
 try simp -dsimp (maxSteps := 1000000) only [go_sem, List.forall_mem_nil, ↓reduceIte, Nat.reduceEqDiff, Nat.reduceLT, Nat.reduceLeDiff, Nat.reduceAdd, Nat.reduceMul, reduceCtorEq, Tryz.f66, zAa, e1]
 refine zBh (ι := { k : Nat // k ≤ a.length }) (fun k => ⟨[(1, some (.c (.im (.sl 1 (rowsZ b))))), (2, some (.c (.fn (.func 64) []))), (15, some (.c (.im (.sl 1 (rowsZ a))))), (16, some (.c (.im (.int .i64 (a.length : Int))))), (17, some (.c (.im (.int .i64 (k.1 : Int)))))],
   [], 0⟩) (fun k => a.length - k.1) ⟨0, by simp⟩ ⟨[], [], by ((simp only [go_sem, eq_self, MvRb, MvRn, MvRt, List.nodup_cons, List.nodup_nil, ↓reduceIte, Nat.reduceEqDiff, Nat.reduceLT, Nat.reduceLeDiff, reduceCtorEq, List.forall_mem_nil, Nat.zero_le, false_implies, List.mem_singleton]) <;> (try (simp -dsimp only [go_sem, eq_self, MvRb, MvRn, MvRt, List.nodup_cons, List.nodup_nil, ↓reduceIte, Nat.reduceEqDiff, Nat.reduceLT, Nat.reduceLeDiff, reduceCtorEq, List.forall_mem_nil, Nat.zero_le, false_implies, List.mem_singleton]))) <;> simp⟩ (fun ⟨k, hk⟩ => ?_)
 simp only
 by_cases hlt : k < a.length
 · obtain ⟨⟨x, y⟩, hp⟩ : ∃ p, a[k]? = some p := ⟨_, List.getElem?_eq_getElem hlt⟩
   obtain ⟨⟨u, v⟩, hq⟩ : ∃ p, b[k]? = some p := ⟨b[k]'(by omega), List.getElem?_eq_getElem (by omega)⟩
   have hxy : cP (x, y) = cP (u, v) := by
     have := congrArg (fun l => l[k]?) h
     simpa [List.getElem?_map, hp, hq] using this
   have hrow := zCf hp
   have hrow2 := zCf hq
   have hI : ((k : Int) < (a.length : Int)) = True := eq_true (by omega)
   have hI2 : ((k : Int) < (b.length : Int)) = True := eq_true (by omega)
   have h0 : (0 ≤ (k : Int)) = True := eq_true (by omega)
   have hwr := lt_sm ha hlt
   try simp -dsimp (maxSteps := 1000000) only [go_sem, List.forall_mem_nil, ↓reduceIte, Nat.reduceEqDiff, Nat.reduceLT, Nat.reduceLeDiff, Nat.reduceAdd, Nat.reduceMul, reduceCtorEq, Tryz.f66, hI, hI2, h0, Int.toNat_natCast, hrow, hrow2, zGc hxy, hwr, zAa]
   exact ⟨⟨k + 1, by omega⟩, by simp only []; omega, [], [], by (simp only [go_sem, eq_self, MvRb, MvRn, MvRt, List.nodup_cons, List.nodup_nil, ↓reduceIte, Nat.reduceEqDiff, Nat.reduceLT, Nat.reduceLeDiff, reduceCtorEq, List.forall_mem_nil, Nat.zero_le, false_implies, List.mem_singleton]) <;> simp⟩
 · have hI : ((k : Int) < (a.length : Int)) = False := eq_false (by omega)
   try simp -dsimp (maxSteps := 1000000) only [go_sem, List.forall_mem_nil, ↓reduceIte, Nat.reduceEqDiff, Nat.reduceLT, Nat.reduceLeDiff, Nat.reduceAdd, Nat.reduceMul, reduceCtorEq, Tryz.f66, hI, zAa]
noncomputable def ct_EqualN : Ct := fam true (fun x : { l : List Int // l.length ≤ sm } => ([.c (.im (.sl 1 (rowsN x.1))), .c (.im (.sl 1 (rowsN x.1)))], [])) (fun _ => .one { val := .c (.im (.bool true)) })
theorem run_EqualN {l : List Int} (h : l.length ≤ sm) : ct_EqualN.run [.c (.im (.sl 1 (rowsN l))), .c (.im (.sl 1 (rowsN l)))] [] = some (.one { val := .c (.im (.bool true)) }) := by
 refine zAd (args := fun x : { l : List Int // l.length ≤ sm } => ([D.c (.im (.sl 1 (rowsN x.1))), .c (.im (.sl 1 (rowsN x.1)))], [])) ?_ ⟨l, h⟩
 rintro ⟨a, _⟩ ⟨a', _⟩ h
 simp [zAw] at h ⊢
 exact h
theorem sc_EqualN : (ct_EqualN.sc = true) = True := by simp [ct_EqualN, fam]
set_option maxRecDepth 100000 in
set_option maxHeartbeats 4000000 in
theorem law_EqualN : Law Tryz.prog 67 ct_EqualN := by
 refine zAf zAe hmixA Tryz.func67 rfl rfl (fun ⟨l, hl⟩ => ⟨zAv rfl, by simp [Tryz.f67], ?_⟩)
 simp only at hl ⊢
 try simp -dsimp (maxSteps := 1000000) only [go_sem, List.forall_mem_nil, ↓reduceIte, Nat.reduceEqDiff, Nat.reduceLT, Nat.reduceLeDiff, Nat.reduceAdd, Nat.reduceMul, reduceCtorEq, Tryz.f67, zAb, ne_eq, not_true_eq_false, decide_false]
 refine zBh (ι := { k : Nat // k ≤ l.length }) (fun k => ⟨[(0, some (.c (.im (.sl 1 (rowsN l))))), (1, some (.c (.im (.sl 1 (rowsN l))))), (12, some (.c (.im (.int .i64 (l.length : Int))))), (13, some (.c (.im (.int .i64 (k.1 : Int)))))],
   [], 0⟩) (fun k => l.length - k.1) ⟨0, by simp⟩ ⟨[], [], by ((simp only [go_sem, eq_self, MvRb, MvRn, MvRt, List.nodup_cons, List.nodup_nil, ↓reduceIte, Nat.reduceEqDiff, Nat.reduceLT, Nat.reduceLeDiff, reduceCtorEq, List.forall_mem_nil, Nat.zero_le, false_implies, List.mem_singleton]) <;> (try (simp -dsimp only [go_sem, eq_self, MvRb, MvRn, MvRt, List.nodup_cons, List.nodup_nil, ↓reduceIte, Nat.reduceEqDiff, Nat.reduceLT, Nat.reduceLeDiff, reduceCtorEq, List.forall_mem_nil, Nat.zero_le, false_implies, List.mem_singleton]))) <;> simp⟩ (fun ⟨k, hk⟩ => ?_)
 simp only
 by_cases hlt : k < l.length
 · obtain ⟨n, hp⟩ : ∃ p, l[k]? = some p := ⟨_, List.getElem?_eq_getElem hlt⟩
   have hrow := zGs hp
   have hI : ((k : Int) < (l.length : Int)) = True := eq_true (by omega)
   have h0 : (0 ≤ (k : Int)) = True := eq_true (by omega)
   have hwr := lt_sm hl hlt
   try simp -dsimp (maxSteps := 1000000) only [go_sem, List.forall_mem_nil, ↓reduceIte, Nat.reduceEqDiff, Nat.reduceLT, Nat.reduceLeDiff, Nat.reduceAdd, Nat.reduceMul, reduceCtorEq, Tryz.f67, hI, h0, Int.toNat_natCast, hrow, hwr, zAb, ne_eq, not_true_eq_false, decide_false]
   repeat' (first
     | ((with_reducible refine sl_i ?_ ?_); focus kernel_rfl)
     | ((with_reducible refine ro_i ?_ ?_); focus kernel_rfl))
   exact ⟨⟨k + 1, by omega⟩, by simp only []; omega, [], [], by (simp only [go_sem, eq_self, MvRb, MvRn, MvRt, List.nodup_cons, List.nodup_nil, ↓reduceIte, Nat.reduceEqDiff, Nat.reduceLT, Nat.reduceLeDiff, reduceCtorEq, List.forall_mem_nil, Nat.zero_le, false_implies, List.mem_singleton]) <;> simp⟩
 · have hI : ((k : Int) < (l.length : Int)) = False := eq_false (by omega)
   try simp -dsimp (maxSteps := 1000000) only [go_sem, List.forall_mem_nil, ↓reduceIte, Nat.reduceEqDiff, Nat.reduceLT, Nat.reduceLeDiff, Nat.reduceAdd, Nat.reduceMul, reduceCtorEq, Tryz.f67, hI, zAb]
structure EqM where
 a : Mod
 b : Mod
 ok : OkM a
 h : cM a = cM b
noncomputable def zGy : Ct := fam true (fun x : EqM => ([.agg (modC x.a), .agg (modC x.b)], [])) (fun _ => .one { val := .c (.im (.bool true)) })
theorem zDm {a b : Mod} (ok : OkM a) (h : cM a = cM b) : zGy.run [.agg (modC a), .agg (modC b)] [] = some (.one { val := .c (.im (.bool true)) }) := by
 refine zAd (args := fun x : EqM => ([D.agg (modC x.a), .agg (modC x.b)], [])) ?_ ⟨a, b, ok, h⟩
 rintro ⟨a, b, _, _⟩ ⟨a', b', _, _⟩ h
 simp only [Prod.mk.injEq, List.cons.injEq, D.agg.injEq, and_true] at h
 have h1 := zDg h.1
 have h2 := zDg h.2
 subst h1 h2; rfl
theorem zCs : (zGy.sc = true) = True := by simp [zGy, fam]
set_option maxRecDepth 100000 in
set_option maxHeartbeats 8000000 in
theorem law_SameMods : Law Tryz.prog 20 zGy := by
 refine zAf (zAc law_same (zAc law_samePoints (zAc law_EqualFunc (zAc law_EqualN zAe)))) hmixA Tryz.func20 rfl rfl (fun ⟨⟨k, ⟨t1, t2⟩, ⟨s1, s2⟩, lv, st, ra, rc, pts, lab, c, l⟩, ⟨k', ⟨t1', t2'⟩, ⟨s1', s2'⟩, lv', st', ra', rc', pts', lab', c', l'⟩, ⟨q1, q2, q3⟩, h⟩ => ⟨zAv rfl, by simp [Tryz.f20], ?_⟩)
 simp only at q1 q2 q3
 simp only [cM, Mod.mk.injEq] at h
 obtain ⟨rfl, ht, hs, hl, hst, rfl, rfl, hp, rfl, rfl, rfl⟩ := h
 simp only [modC]
 try simp -dsimp (maxSteps := 1000000) only [go_sem, List.forall_mem_nil, ↓reduceIte, Nat.reduceEqDiff, Nat.reduceLT, Nat.reduceLeDiff, Nat.reduceAdd, Nat.reduceMul, reduceCtorEq, Tryz.f20, run_same hl, zGc ht, zGc hs, run_EqualFunc q1 hst, run_EqualFunc q2 hp, run_EqualN q3, sc_EqualFunc, sc_EqualN, List.append_eq, List.cons_append, List.nil_append, ne_eq, not_true_eq_false, eq_self, decide_true, decide_false, Bool.and_self, Bool.true_and]
end Go.SX
