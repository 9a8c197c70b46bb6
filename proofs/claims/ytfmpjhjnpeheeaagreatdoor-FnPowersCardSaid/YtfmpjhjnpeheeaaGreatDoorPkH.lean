/-
  spec: l2Nearest, NewSlicer, NewRing, NewDelay, NewHold, l4Copy, l4Take, l4Push, l5Slice, l5Copy.
  spec: l5Step, l5Module.
  spec: l1Number (whole numbers), FormatSingle (at the levels that are drawn), l4Zero, l5Uses, l5Unused, IsRing, IsModule.
  Sums and products of whole numbers; the order of a rack whose cables lead onwards.
  spec: l6Has, l6Ready, l6Order: the order is the program's.
  spec: IsRack, l6Copy, AddCable: of racks whose modules are drawn.
  RunFaults$1: what an output becomes while faults last.
  A rack's step where outputs become others (by 'bec'): the plain words.
  AreFaults.
  RunFaults.
  FnBuilt: when an order of the modules exists: plain words.
  MakeModule; PowersOf; ResetModule; ResetRack.
  Racks and samples are the same as themselves: l5Same, l5SamePoint, l5SameList, MakeSame, SameModules, SameRacks.
  The library's contracts at this program: what they ask of it. Printed by wip/tools/laytext.py off the kit's own laying.
  The library's functions on texts: strconv.Itoa, impl.number (over strconv.Atoi), math/bits.TrailingZeros32, strings.Cut: as laws.
  strings.Split at one byte, as a law.
  impl.FormatSingle.
  No condition.
-/
import Derived.Laws.Strings
import Derived.Test.YtfmpjhjnpeheeaaGreatDoorProg
import Derived.Shelf.Strings.Split
import Derived.Shelf.Strings.Cut
import Derived.Shelf.Strconv.Itoa3
import Derived.Shelf.Strconv.AtoiAll
import Derived.Shelf.Spec.TrailingZeros
import Derived.Shelf.Strconv.ErrVarAll
import Derived.WalkKit
import Derived.Lib.ItoaLen
import Derived.Test.YtfmpjhjnpeheeaaGreatDoorPkG
set_option linter.unusedVariables false
set_option linter.unusedSimpArgs false
namespace Go.SX
open Go Go.Proofs
theorem nearGo_ge (z : Pt) : ∀ (l : List Pt) (k : Nat) (b : Int) (m : Nat), -1 ≤ b → -1 ≤ nearGo z l k b m
 | [], k, b, m, hb => hb
 | p :: l, k, b, m, hb => by
   simp only [nearGo]
   split
   · exact nearGo_ge z l (k + 1) k _ (by omega)
   · exact nearGo_ge z l (k + 1) b m hb
noncomputable def ct_l2Nearest : Ct := fam true (fun x : Tb × Pt => ([.agg [.im (.sl 1 (rowsZ x.1.1.1)), .im (.sl 1 (rowsN x.1.1.2))], .c (.im (.cpx .f32 x.2.1 x.2.2))], [])) (fun x => .one { val := .c (.im (.int .i64 (nearGo x.2 x.1.1.1 0 (-1) 0))) })
theorem run_l2Nearest {pts : List Pt} {lab : List Int} (h1 : pts.length ≤ sm) (h2 : lab.length ≤ sm) (u v : Nat) : ct_l2Nearest.run [.agg [.im (.sl 1 (rowsZ pts)), .im (.sl 1 (rowsN lab))], .c (.im (.cpx .f32 u v))] [] = some (.one { val := .c (.im (.int .i64 (nearGo (u, v) pts 0 (-1) 0))) }) := by
 refine zAd (args := fun x : Tb × Pt => ([D.agg [.im (.sl 1 (rowsZ x.1.1.1)), .im (.sl 1 (rowsN x.1.1.2))], .c (.im (.cpx .f32 x.2.1 x.2.2))], [])) ?_ (⟨(pts, lab), h1, h2⟩, (u, v))
 rintro ⟨⟨⟨a, b⟩, _⟩, ⟨c, d⟩⟩ ⟨⟨⟨a', b'⟩, _⟩, ⟨c', d'⟩⟩ h
 simp [zAs, zAw] at h ⊢
 simp [h]
set_option maxRecDepth 100000 in
set_option maxHeartbeats 4000000 in
theorem law_l2Nearest : Law Tryz.prog 250 ct_l2Nearest := by
 refine zAf (zAc law_sDist zAe) hmixA Tryz.func250 rfl rfl (fun ⟨⟨⟨pts, lab⟩, h1, h2⟩, ⟨u, v⟩⟩ => ⟨zAv rfl, by simp [Tryz.f250], ?_⟩)
 simp only at h1 h2 ⊢
 try simp -dsimp (maxSteps := 1000000) only [go_sem, List.forall_mem_nil, ↓reduceIte, Nat.reduceEqDiff, Nat.reduceLT, Nat.reduceLeDiff, Nat.reduceAdd, Nat.reduceMul, reduceCtorEq, Tryz.f250, zAa]
 refine zBh (ι := { x : Nat × Int × Nat // x.1 ≤ pts.length ∧ nearGo (u, v) pts 0 (-1) 0 = nearGo (u, v) (pts.drop x.1) x.1 x.2.1 x.2.2 }) (fun x => ⟨[(1, some (.c (.im (.cpx .f32 u v)))), (5, some (.c (.im (.int .i64 x.1.2.1)))), (6, some (.c (.im (.flt .f32 x.1.2.2)))), (11, some (.c (.im (.sl 1 (rowsZ pts))))), (12, some (.c (.im (.int .i64 (pts.length : Int))))), (13, some (.c (.im (.int .i64 (x.1.1 : Int)))))],
   [], 0⟩) (fun x => pts.length - x.1.1) ⟨(0, -1, 0), by simp⟩ ⟨[], [], by ((simp only [go_sem, eq_self, MvRb, MvRn, MvRt, List.nodup_cons, List.nodup_nil, ↓reduceIte, Nat.reduceEqDiff, Nat.reduceLT, Nat.reduceLeDiff, reduceCtorEq, List.forall_mem_nil, Nat.zero_le, false_implies, List.mem_singleton]) <;> (try (simp -dsimp only [go_sem, eq_self, MvRb, MvRn, MvRt, List.nodup_cons, List.nodup_nil, ↓reduceIte, Nat.reduceEqDiff, Nat.reduceLT, Nat.reduceLeDiff, reduceCtorEq, List.forall_mem_nil, Nat.zero_le, false_implies, List.mem_singleton]))) <;> simp⟩ (fun ⟨⟨k, b, m⟩, hk, hinv⟩ => ?_)
 by_cases hlt : k < pts.length
 · obtain ⟨p, hp⟩ : ∃ p, pts[k]? = some p := ⟨_, List.getElem?_eq_getElem hlt⟩
   have hrow := zCf hp
   have hI : ((k : Int) < (pts.length : Int)) = True := by simp; omega
   have h0 : (0 ≤ (k : Int)) = True := by simp
   have hidx := nearGo_drop (z := (u, v)) (b := b) (m := m) hp
   have hwr := lt_sm h1 hlt
   obtain ⟨a, c⟩ := p
   simp only [] at hinv hk
   rw [hidx] at hinv
   clear hidx
   generalize hd : distF (a, c) (u, v) = d at *
   cases hq1 : fcmp .eql .f32 d d with
   | false =>
     simp only [hq1, Bool.false_and, Bool.false_eq_true, if_false] at hinv
     try simp -dsimp (maxSteps := 1000000) only [go_sem, List.forall_mem_nil, ↓reduceIte, Nat.reduceEqDiff, Nat.reduceLT, Nat.reduceLeDiff, Nat.reduceAdd, Nat.reduceMul, reduceCtorEq, Tryz.f250, hI, h0, Int.toNat_natCast, hrow, zBw, hd, hq1, hwr]
     exact ⟨⟨(k + 1, b, m), by simp only []; omega, hinv⟩, by simp only []; omega, [], [], by (simp only [go_sem, eq_self, MvRb, MvRn, MvRt, List.nodup_cons, List.nodup_nil, ↓reduceIte, Nat.reduceEqDiff, Nat.reduceLT, Nat.reduceLeDiff, reduceCtorEq, List.forall_mem_nil, Nat.zero_le, false_implies, List.mem_singleton]) <;> simp⟩
   | true =>
     by_cases hb : b < 0
     · have hb' : (b < 0) = True := by simp [hb]
       simp only [hq1, hb', decide_true, Bool.true_or, Bool.true_and, if_true] at hinv
       clear hb
       try simp -dsimp (maxSteps := 1000000) only [go_sem, List.forall_mem_nil, ↓reduceIte, Nat.reduceEqDiff, Nat.reduceLT, Nat.reduceLeDiff, Nat.reduceAdd, Nat.reduceMul, reduceCtorEq, Tryz.f250, hI, h0, Int.toNat_natCast, hrow, zBw, hd, hq1, hb', hwr]
       exact ⟨⟨(k + 1, (k : Int), d), by simp only []; omega, hinv⟩, by simp only []; omega, [], [], by (simp only [go_sem, eq_self, MvRb, MvRn, MvRt, List.nodup_cons, List.nodup_nil, ↓reduceIte, Nat.reduceEqDiff, Nat.reduceLT, Nat.reduceLeDiff, reduceCtorEq, List.forall_mem_nil, Nat.zero_le, false_implies, List.mem_singleton]) <;> simp⟩
     · have hb' : (b < 0) = False := by simp [hb]
       clear hb
       cases hq2 : fcmp .lss .f32 d m with
       | false =>
         simp only [hq1, hb', hq2, decide_false, Bool.false_or, Bool.true_and, Bool.false_eq_true, if_false] at hinv
         try simp -dsimp (maxSteps := 1000000) only [go_sem, List.forall_mem_nil, ↓reduceIte, Nat.reduceEqDiff, Nat.reduceLT, Nat.reduceLeDiff, Nat.reduceAdd, Nat.reduceMul, reduceCtorEq, Tryz.f250, hI, h0, Int.toNat_natCast, hrow, zBw, hd, hq1, hq2, hb', hwr]
         exact ⟨⟨(k + 1, b, m), by simp only []; omega, hinv⟩, by simp only []; omega, [], [], by (simp only [go_sem, eq_self, MvRb, MvRn, MvRt, List.nodup_cons, List.nodup_nil, ↓reduceIte, Nat.reduceEqDiff, Nat.reduceLT, Nat.reduceLeDiff, reduceCtorEq, List.forall_mem_nil, Nat.zero_le, false_implies, List.mem_singleton]) <;> simp⟩
       | true =>
         simp only [hq1, hb', hq2, decide_false, Bool.false_or, Bool.true_and, if_true] at hinv
         try simp -dsimp (maxSteps := 1000000) only [go_sem, List.forall_mem_nil, ↓reduceIte, Nat.reduceEqDiff, Nat.reduceLT, Nat.reduceLeDiff, Nat.reduceAdd, Nat.reduceMul, reduceCtorEq, Tryz.f250, hI, h0, Int.toNat_natCast, hrow, zBw, hd, hq1, hq2, hb', hwr]
         exact ⟨⟨(k + 1, (k : Int), d), by simp only []; omega, hinv⟩, by simp only []; omega, [], [], by (simp only [go_sem, eq_self, MvRb, MvRn, MvRt, List.nodup_cons, List.nodup_nil, ↓reduceIte, Nat.reduceEqDiff, Nat.reduceLT, Nat.reduceLeDiff, reduceCtorEq, List.forall_mem_nil, Nat.zero_le, false_implies, List.mem_singleton]) <;> simp⟩
 · have hI : ((k : Int) < (pts.length : Int)) = False := by simp only [] at hk; simp; omega
   simp only [] at hk hinv
   have hkl : k = pts.length := by omega
   subst hkl
   rw [List.drop_length] at hinv
   simp only [nearGo] at hinv
   try simp -dsimp (maxSteps := 1000000) only [go_sem, List.forall_mem_nil, ↓reduceIte, Nat.reduceEqDiff, Nat.reduceLT, Nat.reduceLeDiff, Nat.reduceAdd, Nat.reduceMul, reduceCtorEq, Tryz.f250, hI, hinv]
def rMB (m : Mod) (b : Bool) : Res := { val := .tup [.agg (modC m), .c (.im (.bool b))] }
theorem okR_MB {m : Mod} {b : Bool} : OkR false (rMB m b) := by
 refine ⟨.tup _ (fun d hd => ?_), by simp [rMB], by simp [rMB]⟩
 simp only [List.mem_cons, List.not_mem_nil, or_false] at hd
 rcases hd with rfl | rfl
 · refine .inr ⟨_, rfl, fun x hx => ?_⟩
   simp only [modC, List.mem_cons, List.not_mem_nil, or_false] at hx
   rcases hx with rfl | rfl | rfl | rfl | rfl | rfl | rfl | rfl | rfl | rfl | rfl <;> exact .im _ (.inl rfl)
 · exact .inl ⟨_, rfl, .im _ (.inl rfl)⟩
noncomputable def ct_NewSlicer : Ct := fam false (fun x : QTab => ([.agg [.im (.sl 1 (rowsZ x.1.1)), .im (.sl 1 (rowsN x.1.2))]], [])) (fun x => .one (rMB (mSlicer' x.1.1 x.1.2 0) true))
theorem run_NewSlicer {pts : List Pt} {lab : List Int} (h : isTableF pts lab = true) : ct_NewSlicer.run [.agg [.im (.sl 1 (rowsZ pts)), .im (.sl 1 (rowsN lab))]] [] = some (.one (rMB (mSlicer' pts lab 0) true)) := by
 refine zAd (args := fun x : QTab => ([D.agg [.im (.sl 1 (rowsZ x.1.1)), .im (.sl 1 (rowsN x.1.2))]], [])) ?_ ⟨(pts, lab), h⟩
 rintro ⟨⟨a, b⟩, _⟩ ⟨⟨a', b'⟩, _⟩ h
 simp [zAs, zAw] at h ⊢
 exact h
set_option maxRecDepth 100000 in
set_option maxHeartbeats 4000000 in
theorem law_NewSlicer : Law Tryz.prog 119 ct_NewSlicer := by
 refine zBl (zAc zHp (zAc law_l2Copy zAe)) hmixA Tryz.func119 rfl rfl (fun ⟨⟨pts, lab⟩, hT⟩ => ⟨okO okR_MB, by simp [Tryz.f119], ?_⟩)
 simp only at hT
 obtain ⟨e1, e2⟩ := zHh hT
 have h1 : pts.length ≤ sm := by have : sm = 16777216 := rfl; omega
 have h2 : lab.length ≤ sm := by have : sm = 16777216 := rfl; omega
 have hmp : mapO (mapO imT) (tI (rowsZ pts)) = some (rowsZ pts) := zGi _
 have hml : mapO (mapO imT) (tI (rowsN lab)) = some (rowsN lab) := zGi _
 simp only [rMB, modC, mSlicer', zAk]
 try simp -dsimp (maxSteps := 1000000) only [go_sem, List.forall_mem_nil, ↓reduceIte, Nat.reduceEqDiff, Nat.reduceLT, Nat.reduceLeDiff, Nat.reduceAdd, Nat.reduceMul, reduceCtorEq, Tryz.f119, zBy h1 h2, hT, zCw h1 h2, rTb]
 refine zAj [.frz 2 [.b 1 0 7], .frz 3 [.b 1 0 8], .nilI 1 [.b 1 0 4]] ?_
 simp -dsimp (maxSteps := 1000000) only [go_sem, List.forall_mem_nil, ↓reduceIte, Nat.reduceEqDiff, Nat.reduceLT, Nat.reduceLeDiff, Nat.reduceAdd, Nat.reduceMul, reduceCtorEq, hmp, hml, zAg, zAa, zAb]
def rRB (st : List Pt) (a c : Int) (b : Bool) : Res := { val := .tup [.agg [.im (.sl 1 (rowsZ st)), .im (.int .i64 a), .im (.int .i64 c)], .c (.im (.bool b))] }
theorem okR_RB {st : List Pt} {a c : Int} {b : Bool} : OkR false (rRB st a c b) := by
 refine ⟨.tup _ (fun d hd => ?_), by simp [rRB], by simp [rRB]⟩
 simp only [List.mem_cons, List.not_mem_nil, or_false] at hd
 rcases hd with rfl | rfl
 · refine .inr ⟨_, rfl, fun x hx => ?_⟩
   simp only [List.mem_cons, List.not_mem_nil, or_false] at hx
   rcases hx with rfl | rfl | rfl <;> exact .im _ (.inl rfl)
 · exact .inl ⟨_, rfl, .im _ (.inl rfl)⟩
abbrev zrs (n : Nat) : List Pt := List.replicate n (0, 0)
abbrev N16' := { n : Nat // 1 ≤ n ∧ n ≤ 16 }
noncomputable def ct_sRing : Ct := fam false (fun x : N16' => ([.c (.im (.int .i64 (x.1 : Int)))], [])) (fun x => .one (rRB (zrs x.1) 0 0 true))
theorem run_sRing {n : Nat} (h1 : 1 ≤ n) (h2 : n ≤ 16) : ct_sRing.run [.c (.im (.int .i64 (n : Int)))] [] = some (.one (rRB (zrs n) 0 0 true)) := zAd (args := fun x : N16' => ([D.c (.im (.int .i64 (x.1 : Int)))], [])) (by
   intro a b h
   simp only [Prod.mk.injEq, List.cons.injEq, D.c.injEq, D.agg.injEq, C.im.injEq, I.cpx.injEq, I.flt.injEq, I.int.injEq, I.sl.injEq, I.bool.injEq, I.str.injEq, Int.natCast_inj, true_and, and_true] at h
   (try simp only [Prod.ext_iff, Subtype.ext_iff])
   (try simp only [zAs, zAw] at h)
   simp_all) (⟨n, h1, h2⟩ : N16')
theorem rep_Z' (n : Nat) : List.replicate n [T.im (.cpx .f32 0 0)] = tI (rowsZ (zrs n)) := by simp [tI, rowsZ, zrs]
set_option maxRecDepth 100000 in
theorem law_sRing : Law Tryz.prog 191 ct_sRing := by
 refine zBl (zAc law_l1In zAe) hmixA Tryz.func191 rfl rfl (fun ⟨n, h1, h2⟩ => ⟨okO okR_RB, by simp [Tryz.f191], ?_⟩)
 simp only [rRB]
 have hb : (decide ((1 : Int) ≤ (n : Int)) && decide ((n : Int) ≤ 16)) = true := by simp; omega
 have hk1 : (0 ≤ (n : Int)) = True := eq_true (by omega)
 have hk2 : ((n : Int) ≤ 9223372036854775807) = True := eq_true (by omega)
 have hk3 : (((8 : Nat) : Int) * (n : Int) ≤ 281474976710656) = True := eq_true (by omega)
 have hmp : mapO (mapO imT) (tI (rowsZ (zrs n))) = some (rowsZ (zrs n)) := zGi _
 try simp -dsimp (maxSteps := 1000000) only [go_sem, List.forall_mem_nil, ↓reduceIte, Nat.reduceEqDiff, Nat.reduceLT, Nat.reduceLeDiff, Nat.reduceAdd, Nat.reduceMul, reduceCtorEq, Tryz.f191, zBm, hb, rep_Z', hk1, hk2, hk3, Int.toNat_natCast, List.length_replicate, zAa]
 refine zAj [.frz 1 [.b 0 0 0]] ?_
 simp -dsimp (maxSteps := 1000000) only [go_sem, List.forall_mem_nil, ↓reduceIte, Nat.reduceEqDiff, Nat.reduceLT, Nat.reduceLeDiff, Nat.reduceAdd, Nat.reduceMul, reduceCtorEq, hmp, zAg, zAa, List.length_replicate]
noncomputable def ct_sDelay : Ct := fam false (fun x : N16' => ([.c (.im (.int .i64 (x.1 : Int)))], [])) (fun x => .one (rMB (mDelay' (zrs x.1) 0) true))
theorem run_sDelay {n : Nat} (h1 : 1 ≤ n) (h2 : n ≤ 16) : ct_sDelay.run [.c (.im (.int .i64 (n : Int)))] [] = some (.one (rMB (mDelay' (zrs n) 0) true)) := zAd (args := fun x : N16' => ([D.c (.im (.int .i64 (x.1 : Int)))], [])) (by
   intro a b h
   simp only [Prod.mk.injEq, List.cons.injEq, D.c.injEq, D.agg.injEq, C.im.injEq, I.cpx.injEq, I.flt.injEq, I.int.injEq, I.sl.injEq, I.bool.injEq, I.str.injEq, Int.natCast_inj, true_and, and_true] at h
   (try simp only [Prod.ext_iff, Subtype.ext_iff])
   (try simp only [zAs, zAw] at h)
   simp_all) (⟨n, h1, h2⟩ : N16')
set_option maxRecDepth 100000 in
theorem law_sDelay : Law Tryz.prog 118 ct_sDelay := by
 refine zBl (zAc law_sRing zAe) hmixA Tryz.func118 rfl rfl (fun ⟨n, h1, h2⟩ => ⟨okO okR_MB, by simp [Tryz.f118], ?_⟩)
 simp only [rMB, modC, mDelay', zAk, zAo]
 have lz : (rowsZ (zrs n)).length = n := by simp [zAa]
 have lz2 : (zrs n).length = n := by simp
 try simp -dsimp (maxSteps := 1000000) only [go_sem, List.forall_mem_nil, ↓reduceIte, Nat.reduceEqDiff, Nat.reduceLT, Nat.reduceLeDiff, Nat.reduceAdd, Nat.reduceMul, reduceCtorEq, Tryz.f118, run_sRing h1 h2, rRB, lz, lz2]
 refine zAj [.nilI 1 [.b 0 0 7, .b 0 0 8]] ?_
 simp -dsimp (maxSteps := 1000000) only [go_sem, List.forall_mem_nil, ↓reduceIte, Nat.reduceEqDiff, Nat.reduceLT, Nat.reduceLeDiff, Nat.reduceAdd, Nat.reduceMul, reduceCtorEq, lz, lz2]
abbrev N100h := { n : Nat // 1 ≤ n ∧ n ≤ 100 }
noncomputable def ct_sHold : Ct := fam false (fun x : N100h => ([.c (.im (.int .i64 (x.1 : Int)))], [])) (fun x => .one (rMB (mHold' (0, 0) (x.1 : Int) 0) true))
theorem run_sHold {n : Nat} (h1 : 1 ≤ n) (h2 : n ≤ 100) : ct_sHold.run [.c (.im (.int .i64 (n : Int)))] [] = some (.one (rMB (mHold' (0, 0) (n : Int) 0) true)) := zAd (args := fun x : N100h => ([D.c (.im (.int .i64 (x.1 : Int)))], [])) (by
   intro a b h
   simp only [Prod.mk.injEq, List.cons.injEq, D.c.injEq, D.agg.injEq, C.im.injEq, I.cpx.injEq, I.flt.injEq, I.int.injEq, I.sl.injEq, I.bool.injEq, I.str.injEq, Int.natCast_inj, true_and, and_true] at h
   (try simp only [Prod.ext_iff, Subtype.ext_iff])
   (try simp only [zAs, zAw] at h)
   simp_all) (⟨n, h1, h2⟩ : N100h)
set_option maxRecDepth 100000 in
theorem law_sHold : Law Tryz.prog 122 ct_sHold := by
 refine zBl (zAc law_l1In zAe) hmixA Tryz.func122 rfl rfl (fun ⟨n, h1, h2⟩ => ⟨okO okR_MB, by simp [Tryz.f122], ?_⟩)
 simp only [rMB, modC, mHold', zAk, zAo]
 have hb : (decide ((1 : Int) ≤ (n : Int)) && decide ((n : Int) ≤ 100)) = true := by simp; omega
 try simp -dsimp (maxSteps := 1000000) only [go_sem, List.forall_mem_nil, ↓reduceIte, Nat.reduceEqDiff, Nat.reduceLT, Nat.reduceLeDiff, Nat.reduceAdd, Nat.reduceMul, reduceCtorEq, Tryz.f122, zBm, hb]
 refine zAj [.nilI 1 [.b 0 0 4, .b 0 0 7, .b 0 0 8]] ?_
 simp -dsimp (maxSteps := 1000000) only [go_sem, List.forall_mem_nil, ↓reduceIte, Nat.reduceEqDiff, Nat.reduceLT, Nat.reduceLeDiff, Nat.reduceAdd, Nat.reduceMul, reduceCtorEq]
set_option maxRecDepth 100000 in
set_option maxHeartbeats 4000000 in
theorem law_l4Copy : Law Tryz.prog 199 zFq := by
 refine zAf zAe hmixA Tryz.func199 rfl rfl (fun ⟨⟨l, hl⟩, a, c⟩ => ⟨okO ⟨.agg _ (fun x hx => ?_), fun r hr => ?_, by simp⟩, by simp [Tryz.f199], ?_⟩)
 · simp at hx
   rcases hx with rfl | rfl | rfl
   · exact .view _ _ _ _ (by simp)
   · exact zCg rfl
   · exact zCg rfl
 · simp at hr; subst hr; exact zGk (zEi _)
 try simp -dsimp (maxSteps := 1000000) only [go_sem, List.forall_mem_nil, ↓reduceIte, Nat.reduceEqDiff, Nat.reduceLT, Nat.reduceLeDiff, Nat.reduceAdd, Nat.reduceMul, reduceCtorEq, Tryz.f199, zAa, bytes_sm hl (show 8 ≤ 128 by decide), map_im_tI, zAg, appendH, srcRows]
 repeat' (first
   | ((with_reducible refine sl_i ?_ ?_); focus kernel_rfl)
   | ((with_reducible refine ro_i ?_ ?_); focus kernel_rfl))
 refine ⟨[_], ?_, ?_, ?_, rfl⟩ <;> simp [rtOk]
theorem sc_copyRing : (zFq.sc = true) = True := by simp [zFq, fam]
structure ARg where
 st : List Pt
 a : Nat
 h1 : 1 ≤ st.length
 h2 : st.length ≤ 16
 h3 : a < st.length
theorem ARg_ext {x y : ARg} (h : x.st = y.st ∧ x.a = y.a) : x = y := by
 obtain ⟨s, a, _, _, _⟩ := x
 obtain ⟨t, b, _, _, _⟩ := y
 obtain ⟨rfl, rfl⟩ := h
 rfl
def rTake (st : List Pt) (a : Nat) : Res := { val := .tup [.agg [.view 0 1 0 st.length, .im (.int .i64 (((a + 1) % st.length : Nat) : Int)), .im (.int .i64 ((st.length - 1 : Nat) : Int))], .c (.im (.cpx .f32 (st.getD a (0, 0)).1 (st.getD a (0, 0)).2))], roots := [.arr 1 (tI (rowsZ (st.set a (0, 0))))] }
theorem okR_take {sc : Bool} {st : List Pt} {a : Nat} : OkR sc (rTake st a) := by
 refine ⟨.tup _ (fun d hd => ?_), fun r hr => ?_, by simp [rTake]⟩
 · simp only [rTake, List.mem_cons, List.not_mem_nil, or_false] at hd
   rcases hd with rfl | rfl
   · exact .inr ⟨_, rfl, fun x hx => by
       simp only [List.mem_cons, List.not_mem_nil, or_false] at hx
       rcases hx with rfl | rfl | rfl <;> first | exact zCg rfl | exact .view _ _ _ _ (by simp [rTake])⟩
   · exact .inl ⟨_, rfl, zCg rfl⟩
 · simp only [rTake, List.mem_cons, List.not_mem_nil, or_false] at hr
   subst hr
   exact zGk (zEi _)
noncomputable def ct_l4Take : Ct := fam true (fun x : ARg => ([.agg [.im (.sl 1 (rowsZ x.st)), .im (.int .i64 (x.a : Int)), .im (.int .i64 (x.st.length : Int))]], [])) (fun x => .one (rTake x.st x.a))
theorem run_l4Take {st : List Pt} {a : Nat} (h1 : 1 ≤ st.length) (h2 : st.length ≤ 16) (h3 : a < st.length) : ct_l4Take.run [.agg [.im (.sl 1 (rowsZ st)), .im (.int .i64 (a : Int)), .im (.int .i64 (st.length : Int))]] [] = some (.one (rTake st a)) := by
 refine zAd (args := fun x : ARg => ([D.agg [.im (.sl 1 (rowsZ x.st)), .im (.int .i64 (x.a : Int)), .im (.int .i64 (x.st.length : Int))]], [])) (fun x y h => ?_) ⟨st, a, h1, h2, h3⟩
 simp [zAs] at h
 exact ARg_ext ⟨h.1, by omega⟩
theorem sc_l4Take : (ct_l4Take.sc = true) = True := by simp [ct_l4Take, fam]
theorem setZ (st : List Pt) (a : Nat) (u v : Nat) : (tI (rowsZ st)).set a [T.im (.cpx .f32 u v)] = tI (rowsZ (st.set a (u, v))) := by simp [tI, rowsZ, List.map_set]
set_option maxRecDepth 100000 in
set_option maxHeartbeats 4000000 in
theorem law_l4Take : Law Tryz.prog 249 ct_l4Take := by
 refine zAf (zAc law_l4Copy zAe) hmixA Tryz.func249 rfl rfl (fun ⟨st, a, h1, h2, h3⟩ => ⟨okO okR_take, by simp [Tryz.f249], ?_⟩)
 simp only [rTake]
 have hs : st.length ≤ sm := by have : sm = 16777216 := rfl; omega
 obtain ⟨⟨p, q⟩, hp⟩ : ∃ p, st[a]? = some p := ⟨_, List.getElem?_eq_getElem h3⟩
 have hrow : (tI (rowsZ st))[a]? = some [T.im (.cpx .f32 p q)] := tI_at (zCf hp)
 have hgd : st.getD a (0, 0) = (p, q) := by rw [List.getD_eq_getElem?_getD, hp]; rfl
 have h0 : (0 ≤ (a : Int)) = True := by simp
 have hI : ((a : Int) < (st.length : Int)) = True := eq_true (by omega)
 have hw : IntKind.i64.wrap ((a : Int) + 1) = ((a + 1 : Nat) : Int) := by rw [zAi (by omega) (by omega)]; omega
 have hn0 : ((st.length : Int) = 0) = False := eq_false (by omega)
 have hm : ((a + 1 : Nat) : Int).tmod (st.length : Int) = (((a + 1) % st.length : Nat) : Int) := by rw [Int.tmod_eq_emod_of_nonneg (by omega)]; exact (Int.natCast_emod _ _).symm
 have hc : IntKind.i64.wrap ((st.length : Int) - 1) = ((st.length - 1 : Nat) : Int) := by rw [zAi (by omega) (by omega)]; omega
 try simp -dsimp (maxSteps := 1000000) only [go_sem, List.forall_mem_nil, ↓reduceIte, Nat.reduceEqDiff, Nat.reduceLT, Nat.reduceLeDiff, Nat.reduceAdd, Nat.reduceMul, reduceCtorEq, Tryz.f249, zFv hs, sc_copyRing, hrow, h0, hI, hw, hn0, hm, hc, setZ, Int.toNat_natCast, zAg, zAa, List.length_set]
 refine ⟨[2], ?_, ?_, ?_, ?_⟩ <;> simp [rtOk, hp]
noncomputable def ct_l4Push : Ct := fam false (fun x : ARg × Pt => ([.agg [.im (.sl 1 (rowsZ x.1.st)), .im (.int .i64 (x.1.a : Int)), .im (.int .i64 (x.1.st.length : Int))], .c (.im (.cpx .f32 x.2.1 x.2.2))], []))
 (fun x => .one { val := .tup [.agg [.im (.sl 1 (rowsZ (x.1.st.set x.1.a x.2))), .im (.int .i64 (((x.1.a + 1) % x.1.st.length : Nat) : Int)), .im (.int .i64 (x.1.st.length : Int))], .c (.im (.cpx .f32 (x.1.st.getD x.1.a (0, 0)).1 (x.1.st.getD x.1.a (0, 0)).2))] })
theorem run_l4Push {st : List Pt} {a : Nat} (h1 : 1 ≤ st.length) (h2 : st.length ≤ 16) (h3 : a < st.length) (u v : Nat) : ct_l4Push.run [.agg [.im (.sl 1 (rowsZ st)), .im (.int .i64 (a : Int)), .im (.int .i64 (st.length : Int))], .c (.im (.cpx .f32 u v))] [] =
   some (.one { val := .tup [.agg [.im (.sl 1 (rowsZ (st.set a (u, v)))), .im (.int .i64 (((a + 1) % st.length : Nat) : Int)), .im (.int .i64 (st.length : Int))], .c (.im (.cpx .f32 (st.getD a (0, 0)).1 (st.getD a (0, 0)).2))] }) := by
 refine zAd (args := fun x : ARg × Pt => ([D.agg [.im (.sl 1 (rowsZ x.1.st)), .im (.int .i64 (x.1.a : Int)), .im (.int .i64 (x.1.st.length : Int))], .c (.im (.cpx .f32 x.2.1 x.2.2))], [])) (fun x y h => ?_) (⟨st, a, h1, h2, h3⟩, (u, v))
 simp [zAs] at h
 exact Prod.ext (ARg_ext ⟨h.1.1, by omega⟩) (Prod.ext h.2.1 h.2.2)
theorem okR_push {st : List Pt} {a : Int} {c : Int} {p q : Nat} : OkR false { val := .tup [.agg [.im (.sl 1 (rowsZ st)), .im (.int .i64 a), .im (.int .i64 c)], .c (.im (.cpx .f32 p q))] } := by
 refine ⟨.tup _ (fun d hd => ?_), by simp, by simp⟩
 simp only [List.mem_cons, List.not_mem_nil, or_false] at hd
 rcases hd with rfl | rfl
 · refine .inr ⟨_, rfl, fun x hx => ?_⟩
   simp only [List.mem_cons, List.not_mem_nil, or_false] at hx
   rcases hx with rfl | rfl | rfl <;> exact .im _ (.inl rfl)
 · exact .inl ⟨_, rfl, .im _ (.inl rfl)⟩
theorem push_pos {a n : Nat} (h : a < n) : ((a + 1) % n + (n - 1)) % n = a := by
 by_cases e : a + 1 = n
 · rw [e, Nat.mod_self, Nat.zero_add, Nat.mod_eq_of_lt (by omega)]; omega
 · rw [Nat.mod_eq_of_lt (show a + 1 < n by omega), show a + 1 + (n - 1) = a + n by omega, Nat.add_mod_right, Nat.mod_eq_of_lt h]
set_option maxRecDepth 100000 in
set_option maxHeartbeats 4000000 in
theorem law_l4Push : Law Tryz.prog 197 ct_l4Push := by
 refine zBl (zAc law_l4Copy (zAc law_l4Take zAe)) hmixA Tryz.func197 rfl rfl (fun ⟨⟨st, a, h1, h2, h3⟩, ⟨u, v⟩⟩ => ⟨okO okR_push, by simp [Tryz.f197], ?_⟩)
 simp only
 have hs : st.length ≤ sm := by have : sm = 16777216 := rfl; omega
 obtain ⟨⟨p, q⟩, hp⟩ : ∃ p, st[a]? = some p := ⟨_, List.getElem?_eq_getElem h3⟩
 have hgd : st.getD a (0, 0) = (p, q) := by rw [List.getD_eq_getElem?_getD, hp]; rfl
 have hlt : (a + 1) % st.length < st.length := Nat.mod_lt _ (by omega)
 have hw : IntKind.i64.wrap ((((a + 1) % st.length : Nat) : Int) + ((st.length - 1 : Nat) : Int)) = (((a + 1) % st.length + (st.length - 1) : Nat) : Int) := by rw [zAi (by omega) (by omega)]; omega
 have hn0 : ((st.length : Int) = 0) = False := eq_false (by omega)
 have hm : (((a + 1) % st.length + (st.length - 1) : Nat) : Int).tmod (st.length : Int) = (a : Int) := by rw [Int.tmod_eq_emod_of_nonneg (by omega), ← Int.natCast_emod, push_pos h3]
 have hc : IntKind.i64.wrap (((st.length - 1 : Nat) : Int) + 1) = (st.length : Int) := by rw [zAi (by omega) (by omega)]; omega
 have h0 : (0 ≤ (a : Int)) = True := by simp
 have hI : ((a : Int) < (st.length : Int)) = True := eq_true (by omega)
 have hrow0 : (tI (rowsZ (st.set a (0, 0))))[a]? = some [T.im (.cpx .f32 0 0)] := tI_at (zCf (by rw [List.getElem?_set_self h3]))
 have hset : (tI (rowsZ (st.set a (0, 0)))).set a [T.im (.cpx .f32 u v)] = tI (rowsZ (st.set a (u, v))) := by rw [setZ, List.set_set]
 have hmp : mapO (mapO imT) (tI (rowsZ (st.set a (u, v)))) = some (rowsZ (st.set a (u, v))) := zGi _
 have tkz : List.take st.length (tI (rowsZ st)) = tI (rowsZ st) := List.take_of_length_le (by simp [zAg, zAa])
 try simp -dsimp (maxSteps := 1000000) only [go_sem, List.forall_mem_nil, ↓reduceIte, Nat.reduceEqDiff, Nat.reduceLT, Nat.reduceLeDiff, Nat.reduceAdd, Nat.reduceMul, reduceCtorEq, Tryz.f197, zFv hs, sc_copyRing, run_l4Take h1 h2 h3, sc_l4Take, rTake, hgd, hw, hn0, hm, hc, h0, hI, hrow0, hset, tkz, zBc, Int.toNat_natCast, zAg, zAa, List.length_set]
 repeat' (first
   | ((with_reducible refine sl_i ?_ ?_); focus kernel_rfl)
   | ((with_reducible refine ro_i ?_ ?_); focus kernel_rfl))
 refine zAj [.frz 4 [.b 1 0 0]] ?_
 simp -dsimp (maxSteps := 1000000) only [go_sem, List.forall_mem_nil, ↓reduceIte, Nat.reduceEqDiff, Nat.reduceLT, Nat.reduceLeDiff, Nat.reduceAdd, Nat.reduceMul, reduceCtorEq, hmp, hgd, zAg, zAa, List.length_set]
structure ASl where
 pts : List Pt
 lab : List Int
 c : Int
 z : Pt
 t : isTableF pts lab = true
theorem okR_Mz {m : Mod} {p q : Nat} : OkR false { val := .tup [.agg (modC m), .c (.im (.cpx .f32 p q))] } := by
 refine ⟨.tup _ (fun d hd => ?_), by simp, by simp⟩
 simp only [List.mem_cons, List.not_mem_nil, or_false] at hd
 rcases hd with rfl | rfl
 · refine .inr ⟨_, rfl, fun x hx => ?_⟩
   simp only [modC, List.mem_cons, List.not_mem_nil, or_false] at hx
   rcases hx with rfl | rfl | rfl | rfl | rfl | rfl | rfl | rfl | rfl | rfl | rfl <;> exact .im _ (.inl rfl)
 · exact .inl ⟨_, rfl, .im _ (.inl rfl)⟩
noncomputable def ct_l5Copy : Ct := fam false (fun x : MdA => ([.agg (modC x.1)], [])) (fun x => .one (rM x.1))
theorem run_l5Copy {k : Int} {t1 t2 s1 s2 lv : Nat} {st : List Pt} {ra rc : Int} {pts : List Pt} {lab : List Int} {c l : Int} (hst : st.length ≤ sm) (hp : pts.length ≤ sm) (hl : lab.length ≤ sm) :
   ct_l5Copy.run [.agg [.im (.int .i64 k), .im (.cpx .f32 t1 t2), .im (.cpx .f32 s1 s2), .im (.flt .f32 lv), .im (.sl 1 (rowsZ st)), .im (.int .i64 ra), .im (.int .i64 rc), .im (.sl 1 (rowsZ pts)), .im (.sl 1 (rowsN lab)), .im (.int .i64 c), .im (.int .i64 l)]] [] =
     some (.one (rM ⟨k, (t1, t2), (s1, s2), lv, st, ra, rc, pts, lab, c, l⟩)) := by
 refine zAd (args := fun x : MdA => ([D.agg (modC x.1)], [])) ?_ ⟨⟨k, (t1, t2), (s1, s2), lv, st, ra, rc, pts, lab, c, l⟩, ⟨hst, hp, hl⟩⟩
 rintro ⟨a, _⟩ ⟨b, _⟩ h
 simp at h ⊢
 exact zDg h
set_option maxRecDepth 100000 in
set_option maxHeartbeats 8000000 in
theorem law_l5Copy : Law Tryz.prog 124 ct_l5Copy := by
 refine zBl (zAc law_l4Copy (zAc law_l2Copy zAe)) hmixA Tryz.func124 rfl rfl (fun ⟨⟨k, ⟨t1, t2⟩, ⟨s1, s2⟩, lv, st, ra, rc, pts, lab, c, l⟩, ⟨q1, q2, q3⟩⟩ => ⟨okO okR_M, by simp [Tryz.f124], ?_⟩)
 simp only at q1 q2 q3
 have hmp : mapO (mapO imT) (tI (rowsZ pts)) = some (rowsZ pts) := zGi _
 have hml : mapO (mapO imT) (tI (rowsN lab)) = some (rowsN lab) := zGi _
 have hms : mapO (mapO imT) (tI (rowsZ st)) = some (rowsZ st) := zGi _
 simp only [modC, rM]
 try simp -dsimp (maxSteps := 1000000) only [go_sem, List.forall_mem_nil, ↓reduceIte, Nat.reduceEqDiff, Nat.reduceLT, Nat.reduceLeDiff, Nat.reduceAdd, Nat.reduceMul, reduceCtorEq, Tryz.f124, zFv q1, zCw q2 q3, rTb, sc_copyRing, zFt]
 repeat' (first
   | ((with_reducible refine sl_i ?_ ?_); focus kernel_rfl)
   | ((with_reducible refine ro_i ?_ ?_); focus kernel_rfl))
 refine zAj [.frz 82 [.b 1 0 4], .frz 106 [.b 1 0 7], .frz 107 [.b 1 0 8]] ?_
 simp -dsimp (maxSteps := 1000000) only [go_sem, List.forall_mem_nil, ↓reduceIte, Nat.reduceEqDiff, Nat.reduceLT, Nat.reduceLeDiff, Nat.reduceAdd, Nat.reduceMul, reduceCtorEq, hmp, hml, hms, zAg, zAa, zAb]
end Go.SX
namespace Go.SX
open Go Go.Proofs
structure AStp where
 m : Mod
 z : Pt
 d : Drawn m
 s1 : lvlB (absS z.1) = true
 s2 : lvlB (absS z.2) = true
theorem drawn_mixS (t s : Pt) : Drawn ⟨2, t, s, 0, [], 0, 0, [], [], 0, 0⟩ := ⟨⟨by simp [sm], by simp [sm], by simp [sm]⟩, by simp [isModuleF, zAq], by simp⟩
def mz11 : List B := [.t (.im (.int .i64 0)), .t (.im (.cpx .f32 0 0)), .t (.im (.cpx .f32 0 0)), .t (.im (.flt .f32 0)), .t .nil, .t (.im (.int .i64 0)), .t (.im (.int .i64 0)), .t .nil, .t .nil, .t (.im (.int .i64 0)), .t (.im (.int .i64 0))]
theorem drawn_zrs {X : Nat} (h : X < 5) : Drawn (mDelay' (zrs (X + 1)) 0) := by
 have hl : (zrs (X + 1)).length = X + 1 := by simp
 exact zGx (by omega) (by omega) (by omega) (by omega)
def modIB (m : Mod) : List B := [.t (.im (.int .i64 m.kind)), .t (.im (.cpx .f32 m.turn.1 m.turn.2)), .t (.im (.cpx .f32 m.state.1 m.state.2)), .t (.im (.flt .f32 m.level)), .t (.im (.sl 1 (rowsZ m.store))), .t (.im (.int .i64 m.rat)), .t (.im (.int .i64 m.rcnt)), .t (.im (.sl 1 (rowsZ m.pts))), .t (.im (.sl 1 (rowsN m.lab))), .t (.im (.int .i64 m.count)), .t (.im (.int .i64 m.left))]
theorem okD_mod {m : Mod} : OkD false 0 (.agg (modC m)) := .agg _ (fun x hx => by
 simp only [modC, List.mem_cons, List.not_mem_nil, or_false] at hx
 rcases hx with rfl | rfl | rfl | rfl | rfl | rfl | rfl | rfl | rfl | rfl | rfl <;> exact .im _ (.inl rfl))
theorem cases8 {p : Prop} {v : Int} (h1 : 0 ≤ v) (h2 : v < 8) (h0 : v = 0 → p) (h1' : v = 1 → p) (h2' : v = 2 → p) (h3 : v = 3 → p) (h4 : v = 4 → p) (h5 : v = 5 → p) (h6 : v = 6 → p) (h7 : v = 7 → p) : p := by
 have : v = 0 ∨ v = 1 ∨ v = 2 ∨ v = 3 ∨ v = 4 ∨ v = 5 ∨ v = 6 ∨ v = 7 := by omega
 rcases this with h | h | h | h | h | h | h | h
 · exact h0 h
 · exact h1' h
 · exact h2' h
 · exact h3 h
 · exact h4 h
 · exact h5 h
 · exact h6 h
 · exact h7 h
end Go.SX
namespace Go.SX
open Go Go.Proofs
def strL (l : List UInt8) : ByteArray := ⟨l.toArray⟩
theorem strL_app (a b : List UInt8) : strL a ++ strL b = strL (a ++ b) := by
 apply ByteArray.ext
 simp [strL]
theorem strL_size (l : List UInt8) : (strL l).size = l.length := by simp [strL, ByteArray.size]
theorem bytesS_cons (ns : List Int) : bytesS ns = strL (ns.map fun n => UInt8.ofNat n.toNat) := by
 have key : ∀ (ns : List Int) (r : ByteArray), ns.foldl (fun r n => r.push (UInt8.ofNat n.toNat)) r = r ++ strL (ns.map fun n => UInt8.ofNat n.toNat) := by
   intro ns
   induction ns with
   | nil => intro r; simp [strL]; apply ByteArray.ext; simp
   | cons n ns ih =>
     intro r
     simp only [List.foldl_cons, ih, List.map_cons]
     apply ByteArray.ext
     simp [strL]
 have h := key ns ByteArray.empty
 have e : ByteArray.empty ++ strL (ns.map fun n => UInt8.ofNat n.toNat) = strL (ns.map fun n => UInt8.ofNat n.toNat) := by apply ByteArray.ext; simp [strL]
 unfold bytesS
 rw [h, e]
def dig (d : Nat) : UInt8 := UInt8.ofNat (48 + d)
def digF : Nat → Nat → List UInt8
 | 0, _ => []
 | f + 1, n => if n < 10 then [dig n] else digF f (n / 10) ++ [dig (n % 10)]
theorem digF_mono : ∀ (f g n : Nat), n < 10 ^ f → n < 10 ^ g → 0 < f → 0 < g → digF f n = digF g n
 | 0, _, _, _, _, h, _ => by omega
 | _, 0, _, _, _, _, h => by omega
 | f + 1, g + 1, n, h1, h2, _, _ => by
   simp only [digF]
   split
   · rfl
   · rename_i hn
     rw [Nat.pow_succ] at h1 h2
     have a1 : n / 10 < 10 ^ f := Nat.div_lt_of_lt_mul (by omega)
     have a2 : n / 10 < 10 ^ g := Nat.div_lt_of_lt_mul (by omega)
     have b1 : 0 < f := by
       rcases Nat.eq_zero_or_pos f with rfl | h
       · simp at a1; omega
       · exact h
     have b2 : 0 < g := by
       rcases Nat.eq_zero_or_pos g with rfl | h
       · simp at a2; omega
       · exact h
     rw [digF_mono f g (n / 10) a1 a2 b1 b2]
def digs (n : Nat) : List UInt8 := digF 20 n
theorem digs_small {n : Nat} (h : n < 10) : digs n = [dig n] := by simp [digs, digF, h]
theorem digs_step {n : Nat} (h : 10 ≤ n) (h2 : n < 10 ^ 19) : digs n = digs (n / 10) ++ [dig (n % 10)] := by
 have : ¬ n < 10 := by omega
 have e : digs n = digF 19 (n / 10) ++ [dig (n % 10)] := by
   unfold digs
   rw [show (20 : Nat) = 19 + 1 from rfl]
   simp only [digF, this, if_false]
 rw [e, digs, digF_mono 19 20 (n / 10) (by omega) (by omega) (by omega) (by omega)]
theorem digs_len : ∀ (f n : Nat), (digF f n).length ≤ f
 | 0, n => by simp [digF]
 | f + 1, n => by
   simp only [digF]
   split
   · simp
   · have := digs_len f (n / 10); simp; omega
def digR (k : Nat) (cur : List UInt8) : List UInt8 := if k = 0 then cur else digs k ++ cur
theorem digR_step {k : Nat} (h : 0 < k) (h2 : k < 10 ^ 19) (cur : List UInt8) : digR k cur = digR (k / 10) (dig (k % 10) :: cur) := by
 unfold digR
 rw [if_neg (by omega)]
 by_cases h10 : k < 10
 · rw [if_pos (by omega), digs_small h10, Nat.mod_eq_of_lt h10]; rfl
 · rw [if_neg (by omega), digs_step (by omega) h2, List.append_assoc]; rfl
abbrev NNum := { n : Nat // n < 9223372036854775808 }
noncomputable def ct_l1Number : Ct := fam true (fun x : NNum => ([.c (.im (.int .i64 (x.1 : Int)))], [])) (fun x => .one { val := .c (.im (.str (strL (digs x.1)))) })
theorem run_l1Number {n : Nat} (h : n < 9223372036854775808) : ct_l1Number.run [.c (.im (.int .i64 (n : Int)))] [] = some (.one { val := .c (.im (.str (strL (digs n)))) }) := zAd (args := fun x : NNum => ([D.c (.im (.int .i64 (x.1 : Int)))], [])) (by
   intro a b h
   simp only [Prod.mk.injEq, List.cons.injEq, D.c.injEq, D.agg.injEq, C.im.injEq, I.cpx.injEq, I.flt.injEq, I.int.injEq, I.sl.injEq, I.bool.injEq, I.str.injEq, Int.natCast_inj, true_and, and_true] at h
   (try simp only [Prod.ext_iff, Subtype.ext_iff])
   (try simp only [zAs, zAw] at h)
   simp_all) (⟨n, h⟩ : NNum)
set_option maxRecDepth 100000 in
set_option maxHeartbeats 8000000 in
theorem law_l1Number : Law Tryz.prog 133 ct_l1Number := by
 refine zAf zAe hmixA Tryz.func133 rfl rfl (fun ⟨n, hn⟩ => ⟨zAv rfl, by simp [Tryz.f133], ?_⟩)
 simp only
 have hneg : ((n : Int) < 0) = False := eq_false (by omega)
 have h10 : ((10 : Int) = 0) = False := by simp
 have hm : ∀ k : Nat, (k : Int).tmod 10 = ((k % 10 : Nat) : Int) := fun k => by rw [Int.tmod_eq_emod_of_nonneg (by omega)]; omega
 have hd : ∀ k : Nat, k < 9223372036854775808 → IntKind.i64.wrap ((k : Int).tdiv 10) = ((k / 10 : Nat) : Int) := fun k hk => by
   rw [Int.tdiv_eq_ediv_of_nonneg (by omega), zAi (by omega) (by omega)]; omega
 have hw : ∀ k : Nat, IntKind.i64.wrap (48 + ((k % 10 : Nat) : Int)) = ((48 + k % 10 : Nat) : Int) := fun k => by rw [zAi (by omega) (by omega)]; omega
 have hw8 : ∀ k : Nat, IntKind.u8.wrap ((48 + k % 10 : Nat) : Int) = ((48 + k % 10 : Nat) : Int) := fun k => by
   show (((48 + k % 10 : Nat) : Int) % 256) = _
   omega
 have hbs : ∀ k : Nat, bytesS [((48 + k % 10 : Nat) : Int)] = strL [dig (k % 10)] := fun k => by rw [bytesS_cons]; rfl
 try simp -dsimp (maxSteps := 1000000) only [go_sem, List.forall_mem_nil, ↓reduceIte, Nat.reduceEqDiff, Nat.reduceLT, Nat.reduceLeDiff, Nat.reduceAdd, Nat.reduceMul, reduceCtorEq, Tryz.f133, hneg, h10, hm, hd n hn, hw, hw8, hbs]
 refine zBh (ι := { x : Nat × List UInt8 // x.1 < 9223372036854775808 ∧ digR x.1 x.2 = digs n }) (fun x => ⟨[(0, some (.c (.im (.int .i64 (x.1.1 : Int))))), (3, some (.c (.im (.str (strL x.1.2)))))], [], 0⟩) (fun x => x.1.1)
   ⟨(n / 10, [dig (n % 10)]), by omega, by
     by_cases h0 : n = 0
     · subst h0; rfl
     · rw [← digR_step (by omega) (by omega) []]; simp [digR, h0]⟩ ⟨[], [], by (simp only [go_sem, eq_self, MvRb, MvRn, MvRt, List.nodup_cons, List.nodup_nil, ↓reduceIte, Nat.reduceEqDiff, Nat.reduceLT, Nat.reduceLeDiff, reduceCtorEq, List.forall_mem_nil, Nat.zero_le, false_implies, List.mem_singleton]) <;> simp⟩ (fun ⟨⟨k, cur⟩, hk, hinv⟩ => ?_)
 simp only at hk hinv ⊢
 by_cases h0 : k = 0
 · subst h0
   have hI : ((0 : Int) < ((0 : Nat) : Int)) = False := by simp
   simp only [digR, if_true] at hinv
   try simp -dsimp (maxSteps := 1000000) only [go_sem, List.forall_mem_nil, ↓reduceIte, Nat.reduceEqDiff, Nat.reduceLT, Nat.reduceLeDiff, Nat.reduceAdd, Nat.reduceMul, reduceCtorEq, Tryz.f133, hI, hinv]
 · have hI : ((0 : Int) < (k : Int)) = True := eq_true (by omega)
   have hlen : cur.length ≤ 20 := by
     have := congrArg List.length hinv
     have h20 := digs_len 20 n
     simp only [digR, h0, if_false, List.length_append] at this
     unfold digs at this
     omega
   have hsz : ((strL [dig (k % 10)]).size + (strL cur).size ≤ 4611686018427387904) = True := eq_true (by rw [strL_size, strL_size]; simp; omega)
   rw [digR_step (by omega) (by omega)] at hinv
   try simp -dsimp (maxSteps := 1000000) only [go_sem, List.forall_mem_nil, ↓reduceIte, Nat.reduceEqDiff, Nat.reduceLT, Nat.reduceLeDiff, Nat.reduceAdd, Nat.reduceMul, reduceCtorEq, Tryz.f133, hI, h10, hm, hd k hk, hw, hw8, hbs, hsz, strL_app]
   exact ⟨⟨(k / 10, dig (k % 10) :: cur), by omega, hinv⟩, by simp only []; omega, [], [], by (simp only [go_sem, eq_self, MvRb, MvRn, MvRt, List.nodup_cons, List.nodup_nil, ↓reduceIte, Nat.reduceEqDiff, Nat.reduceLT, Nat.reduceLeDiff, reduceCtorEq, List.forall_mem_nil, Nat.zero_le, false_implies, List.mem_singleton]) <;> simp⟩
structure Lvl (x Y : Nat) (M : Nat) : Prop where
 fin : finS x = true
 e0 : fcmp .eql .f32 x 0 = false
 l0 : fcmp .lss .f32 x 0 = false
 y : w64 (absS x) = Y
 g : fcmp .geq .f64 Y 4715268809856909312 = false
 nn : isNaNb .f64 Y = false
 i : (FloatKind.f64.decode Y).toInt .zero = some (M : Int)
 b : fcmp .neq .f64 Y (FloatKind.f64.nearest (M : Int)) = false
 m : 1 ≤ M ∧ M ≤ 3
def usesF (k : Int) : List (List I) :=
 if k = 1 ∨ k = 2 then [[.bool true], [.bool true], [.bool false], [.bool false], [.bool false], [.bool false], [.bool false]]
 else if k = 3 ∨ k = 7 then [[.bool false], [.bool false], [.bool true], [.bool false], [.bool false], [.bool false], [.bool false]]
 else if k = 4 then [[.bool false], [.bool false], [.bool false], [.bool true], [.bool false], [.bool false], [.bool false]]
 else if k = 6 then [[.bool false], [.bool false], [.bool false], [.bool false], [.bool true], [.bool true], [.bool false]]
 else if k = 8 then [[.bool false], [.bool true], [.bool false], [.bool false], [.bool false], [.bool true], [.bool true]]
 else [[.bool false], [.bool false], [.bool false], [.bool false], [.bool false], [.bool false], [.bool false]]
abbrev NKnd := { k : Int // k = 1 ∨ k = 2 ∨ k = 3 ∨ k = 4 ∨ k = 5 ∨ k = 6 ∨ k = 7 ∨ k = 8 }
noncomputable def ct_l5Uses : Ct := fam false (fun x : NKnd => ([.c (.im (.int .i64 x.1))], [])) (fun x => .one { val := .c (.im (.sl 1 (usesF x.1))) })
theorem zDl {k : Int} (h : k = 1 ∨ k = 2 ∨ k = 3 ∨ k = 4 ∨ k = 5 ∨ k = 6 ∨ k = 7 ∨ k = 8) : ct_l5Uses.run [.c (.im (.int .i64 k))] [] = some (.one { val := .c (.im (.sl 1 (usesF k))) }) := zAd (args := fun x : NKnd => ([D.c (.im (.int .i64 x.1))], [])) (by
   intro a b h
   simp only [Prod.mk.injEq, List.cons.injEq, D.c.injEq, D.agg.injEq, C.im.injEq, I.cpx.injEq, I.flt.injEq, I.int.injEq, I.sl.injEq, I.bool.injEq, I.str.injEq, Int.natCast_inj, true_and, and_true] at h
   (try simp only [Prod.ext_iff, Subtype.ext_iff])
   (try simp only [zAs, zAw] at h)
   simp_all) (⟨k, h⟩ : NKnd)
set_option maxRecDepth 100000 in
set_option maxHeartbeats 8000000 in
theorem zDo : Law Tryz.prog 128 ct_l5Uses := by
 refine zBl zAe hmixA Tryz.func128 rfl rfl (fun ⟨k, hk⟩ => ⟨okO ⟨.c _ (.im _ (.inl rfl)), by simp, by simp⟩, by simp [Tryz.f128], ?_⟩)
 simp only at hk ⊢
 have h17 : (((1 : Nat) : Int) * 7 ≤ 281474976710656) = True := by decide
 rcases hk with rfl | rfl | rfl | rfl | rfl | rfl | rfl | rfl
 all_goals (
   try simp -dsimp (maxSteps := 1000000) only [go_sem, List.forall_mem_nil, ↓reduceIte, Nat.reduceEqDiff, Nat.reduceLT, Nat.reduceLeDiff, Nat.reduceAdd, Nat.reduceMul, reduceCtorEq, Tryz.f128, h17, Int.reduceEq, Int.reduceLE, Int.reduceMul, Int.reduceToNat, Int.reduceLT]
   refine zAj [.frz 0 [.s 2]] ?_
   simp -dsimp (maxSteps := 1000000) only [go_sem, List.forall_mem_nil, ↓reduceIte, Nat.reduceEqDiff, Nat.reduceLT, Nat.reduceLeDiff, Nat.reduceAdd, Nat.reduceMul, reduceCtorEq, usesF, Int.reduceEq])
end Go.SX
namespace Go.SX
open Go Ieee
theorem two_pow_pos (k : Nat) : (0 : Int) < 2 ^ k := by
 have := Nat.two_pow_pos k
 exact_mod_cast this
theorem idxF_ge {α : Type} {f : α → Bool} : ∀ (l : List α) (k : Nat), (0 ≤ idxF f l k) ↔ ∃ x ∈ l, f x = true
 | [], k => by simp [idxF]
 | x :: l, k => by
   simp only [idxF]
   split
   · rename_i h; simp [h]
   · rename_i h; rw [idxF_ge l (k + 1)]; simp [h]
theorem hasF_iff {l : List Int} {v : Int} : hasF l v = true ↔ v ∈ l := by
 simp only [hasF, decide_eq_true_eq, idxF_ge]
 constructor
 · rintro ⟨x, hx, rfl⟩; exact hx
 · intro h; exact ⟨v, h, rfl⟩
end Go.SX
namespace Go.SX
open Go Go.Proofs
structure ARy where
 ms : List Mod
 cs : List Cbl
 L : List Bool
 i : Nat
 cl : cs.length ≤ sm
 ll : L.length = ms.length
 il : i < ms.length
 ok : ∀ c ∈ cs, 0 ≤ c.1 ∧ c.1 < ms.length
end Go.SX
namespace Go.SX
open Go Go.Proofs
structure ADr where
 ms : List Mod
 cs : List Cbl
 ml : ms.length ≤ sm
 cl : cs.length ≤ sm
 dr : ∀ m ∈ ms, Drawn m
structure GoodRk (ms : List Mod) (cs : List Cbl) : Prop where
 dr : ∀ m ∈ ms, Drawn m
 rk : isRackF ms cs = true
theorem GoodRk.len {ms : List Mod} {cs : List Cbl} (h : GoodRk ms cs) : ms.length ≤ 16 ∧ cs.length ≤ 40 := by
 have := h.rk
 simp only [isRackF, Bool.and_eq_true, decide_eq_true_eq] at this
 exact ⟨this.1, this.2.1⟩
structure AAc where
 ms : List Mod
 cs : List Cbl
 f : Int
 t : Int
 g : GoodRk ms cs
end Go.SX
namespace Go.SX
open Go Go.Proofs
structure Fa where
 kind : Int
 md : Int
 fr : Int
 to_ : Int
structure ABec where
 fs : List Fa
 i : Int
 last : List Pt
 n : Int
 p : Pt
 fl : fs.length ≤ sm
 n0 : 0 ≤ n
 n1 : n < last.length
end Go.SX
namespace Go.SX
open Go Go.Proofs
structure AStG where
 ms : List Mod
 cs : List Cbl
 inn : Int
 z : Pt
 fs : List Fa
 i : Int
 last : List Pt
 ml : ms.length ≤ 16
 cl : cs.length ≤ sm
 ok : ∀ m ∈ ms, OkS m
 cr : ∀ c ∈ cs, 0 ≤ c.1 ∧ c.1 < ms.length
 fl : fs.length ≤ sm
 ll : last.length = ms.length
end Go.SX
namespace Go.SX
open Go Go.Proofs
structure ABad where
 ms : List Mod
 cs : List Cbl
 f : Fa
structure AIf where
 ms : List Mod
 cs : List Cbl
 l : List Fa
 ll : l.length ≤ sm
structure AAf where
 ms : List Mod
 cs : List Cbl
 l : List Fa
 ml : ms.length ≤ sm
 cl : cs.length ≤ sm
 ok : ∀ m ∈ ms, OkM m
 ll : l.length ≤ sm
end Go.SX
namespace Go.SX
open Go Go.Proofs
structure ARf where
 ms : List Mod
 cs : List Cbl
 a : Int
 b : Int
 xs : List Pt
 fs : List Fa
 n : Int
 ml : ms.length ≤ sm
 cl : cs.length ≤ sm
 xl : xs.length ≤ sm
 fl : fs.length ≤ sm
 ok : ∀ m ∈ ms, OkM m
end Go.SX
namespace Go.SX
open Go Go.Proofs
def resetM (m : Mod) : Mod :=
 if m.kind = 2 then { m with state := (1065353216, 0) }
 else if m.kind = 4 then { m with store := List.replicate m.store.length (0, 0) }
 else if m.kind = 6 then { m with count := 0 }
 else if m.kind = 7 then { m with level := 0 }
 else if m.kind = 8 then { m with state := (0, 0), left := 0 }
 else m
theorem resetM_kind (m : Mod) : (resetM m).kind = m.kind := by
 unfold resetM
 repeat' split
 all_goals rfl
theorem resetM_two (m : Mod) : resetM (resetM m) = resetM m := by
 obtain ⟨k, t, s, lv, st, ra, rc, pts, lab, c, l⟩ := m
 by_cases h2 : k = 2
 · subst h2; rfl
 by_cases h4 : k = 4
 · subst h4; simp [resetM]
 by_cases h6 : k = 6
 · subst h6; rfl
 by_cases h7 : k = 7
 · subst h7; rfl
 by_cases h8 : k = 8
 · subst h8; rfl
 simp [resetM, h2, h4, h6, h7, h8]
theorem drawn_reset {m : Mod} (h : Drawn m) : Drawn (resetM m) := by
 rcases h.forms with ⟨t, s, rfl⟩ | ⟨t, s, rfl⟩ | ⟨l, rfl⟩ | ⟨st, a, rfl, h1, h2, h3, h4⟩ | rfl | ⟨pts, lab, c, rfl, ht⟩ | ⟨l, rfl, hl⟩ | ⟨s, c, l, rfl, h1, h2, h3, h4⟩
 · exact h
 · exact drawn_mix t
 · exact h
 · have := zGx (st := List.replicate st.length (0, 0)) (a := a) (by simpa using h1) (by simpa using h2) h3 (by simpa using h4)
   simpa [mDelay', resetM] using this
 · exact h
 · exact zHr (c := 0) ht
 · exact drawn_meter
 · exact zFe (s := (0, 0)) (c := c) (l := 0) h1 h2 (by omega) (by omega)
end Go.SX
namespace Go.SX
open Go Go.Proofs
noncomputable def ct_PowersOf : Ct := fam true (fun k : Int => ([.c (.im (.int .i64 k))], [])) (fun k => .one { val := .tup [.c (.im (.bool (hasF [2, 4, 6, 7, 8] k))), .c (.im (.bool (hasF [1, 2, 3] k))), .c (.im (.bool (hasF [1, 2, 6, 7, 8] k)))] })
theorem zAp (k : Int) : ct_PowersOf.run [.c (.im (.int .i64 k))] [] = some (.one { val := .tup [.c (.im (.bool (hasF [2, 4, 6, 7, 8] k))), .c (.im (.bool (hasF [1, 2, 3] k))), .c (.im (.bool (hasF [1, 2, 6, 7, 8] k)))] }) := zAd (args := fun k : Int => ([D.c (.im (.int .i64 k))], [])) (fun a b h => by simpa using h) k
set_option maxRecDepth 100000 in
set_option maxHeartbeats 8000000 in
theorem zFy : Law Tryz.prog 13 ct_PowersOf := by
 refine zAf (zAc law_Contains_int zAe) hmixA Tryz.func13 rfl rfl (fun k => ⟨okO ⟨.tup _ (fun d hd => ?_), by simp, by simp⟩, by simp [Tryz.f13], ?_⟩)
 · simp only [List.mem_cons, List.not_mem_nil, or_false] at hd
   rcases hd with rfl | rfl | rfl <;> exact .inl ⟨_, rfl, zCg rfl⟩
 simp only
 have hsm : sm = 16777216 := rfl
 have r1 : zBz.run [.c (.im (.sl 1 [[.int .i64 2], [.int .i64 4], [.int .i64 6], [.int .i64 7], [.int .i64 8]])), .c (.im (.int .i64 k))] [] = some (.one { val := .c (.im (.bool (hasF [2, 4, 6, 7, 8] k))) }) := zEq (l := [2, 4, 6, 7, 8]) (by simp only [List.length_cons, List.length_nil]; omega) k
 have r2 : zBz.run [.c (.im (.sl 1 [[.int .i64 1], [.int .i64 2], [.int .i64 3]])), .c (.im (.int .i64 k))] [] = some (.one { val := .c (.im (.bool (hasF [1, 2, 3] k))) }) := zEq (l := [1, 2, 3]) (by simp only [List.length_cons, List.length_nil]; omega) k
 have r3 : zBz.run [.c (.im (.sl 1 [[.int .i64 1], [.int .i64 2], [.int .i64 6], [.int .i64 7], [.int .i64 8]])), .c (.im (.int .i64 k))] [] = some (.one { val := .c (.im (.bool (hasF [1, 2, 6, 7, 8] k))) }) := zEq (l := [1, 2, 6, 7, 8]) (by simp only [List.length_cons, List.length_nil]; omega) k
 obtain ⟨x, hx⟩ : ∃ x, hasF [2, 4, 6, 7, 8] k = x := ⟨_, rfl⟩
 obtain ⟨y, hy⟩ : ∃ y, hasF [1, 2, 3] k = y := ⟨_, rfl⟩
 obtain ⟨z, hz⟩ : ∃ z, hasF [1, 2, 6, 7, 8] k = z := ⟨_, rfl⟩
 rw [hx] at r1 ⊢
 rw [hy] at r2 ⊢
 rw [hz] at r3 ⊢
 try simp -dsimp (maxSteps := 1000000) only [go_sem, List.forall_mem_nil, ↓reduceIte, Nat.reduceEqDiff, Nat.reduceLT, Nat.reduceLeDiff, Nat.reduceAdd, Nat.reduceMul, reduceCtorEq, Tryz.f13, r1, r2, r3, sc_Contains_int, List.take_succ_cons, List.take_zero]
def canR (m : Mod) : Bool := hasF [2, 4, 6, 7, 8] m.kind
def rRs (m : Mod) : Res := if canR m = true then { val := .tup [(rMod (resetM m)).val, .c (.im (.bool true))], roots := (rMod (resetM m)).roots }
 else { val := .tup [.agg [.im (.int .i64 0), .im (.cpx .f32 0 0), .im (.cpx .f32 0 0), .im (.flt .f32 0), .nil, .im (.int .i64 0), .im (.int .i64 0), .nil, .nil, .im (.int .i64 0), .im (.int .i64 0)], .c (.im (.bool false))] }
theorem okR_rs {sc : Bool} {m : Mod} : OkR sc (rRs m) := by
 unfold rRs
 split
 · obtain ⟨h1, h2, h3⟩ := okR_mod (sc := sc) (m := resetM m)
   refine ⟨.tup _ (fun d hd => ?_), h2, by simp⟩
   simp only [List.mem_cons, List.not_mem_nil, or_false] at hd
   rcases hd with rfl | rfl
   · cases h1 with
     | agg xs hx => exact .inr ⟨_, rfl, hx⟩
   · exact .inl ⟨_, rfl, zCg rfl⟩
 · refine ⟨.tup _ (fun d hd => ?_), by simp, by simp⟩
   simp only [List.mem_cons, List.not_mem_nil, or_false] at hd
   rcases hd with rfl | rfl
   · refine .inr ⟨_, rfl, fun x hx => ?_⟩
     simp only [List.mem_cons, List.not_mem_nil, or_false] at hx
     rcases hx with rfl | rfl | rfl | rfl | rfl | rfl | rfl | rfl | rfl | rfl | rfl <;> first | exact zCg rfl | exact .nil
   · exact .inl ⟨_, rfl, zCg rfl⟩
structure AMv where
 m : Mod
 ok : OkM m
 md : isModuleF m = true
noncomputable def zEm : Ct := fam true (fun x : AMv => ([.agg (modC x.m)], [])) (fun x => .one (rRs x.m))
theorem zHm {m : Mod} (h1 : OkM m) (h2 : isModuleF m = true) : zEm.run [.agg (modC m)] [] = some (.one (rRs m)) := by
 refine zAd (args := fun x : AMv => ([D.agg (modC x.m)], [])) ?_ ⟨m, h1, h2⟩
 rintro ⟨a, _, _⟩ ⟨b, _, _⟩ h
 simp only [Prod.mk.injEq, List.cons.injEq, D.agg.injEq, and_true] at h
 have := zDg h
 subst this; rfl
theorem zCq : (zEm.sc = true) = True := by simp [zEm, fam]
theorem rep_tI (n : Nat) : List.replicate n [T.im (.cpx .f32 0 0)] = tI (rowsZ (List.replicate n (0, 0))) := by simp [tI, rowsZ]
theorem mod_kind {m : Mod} (h : isModuleF m = true) : m.kind = 1 ∨ m.kind = 2 ∨ m.kind = 3 ∨ m.kind = 4 ∨ m.kind = 5 ∨ m.kind = 6 ∨ m.kind = 7 ∨ m.kind = 8 := by
 unfold isModuleF at h
 by_cases h1 : m.kind = 1
 · simp [h1]
 by_cases h2 : m.kind = 2
 · simp [h2]
 by_cases h3 : m.kind = 3
 · simp [h3]
 by_cases h4 : m.kind = 4
 · simp [h4]
 by_cases h5 : m.kind = 5
 · simp [h5]
 by_cases h6 : m.kind = 6
 · simp [h6]
 by_cases h7 : m.kind = 7
 · simp [h7]
 by_cases h8 : m.kind = 8
 · simp [h8]
 simp [h1, h2, h3, h4, h5, h6, h7, h8] at h
set_option maxRecDepth 100000 in
set_option maxHeartbeats 16000000 in
theorem law_ResetModule : Law Tryz.prog 14 zEm := by
 refine zBl (zAc zFy (zAc zDp (zAc zGf zAe))) hmixA Tryz.func14 rfl rfl (fun ⟨⟨k, ⟨t1, t2⟩, ⟨s1, s2⟩, lv, st, ra, rc, pts, lab, c, l⟩, ⟨q1, q2, q3⟩, hm⟩ => ⟨okO okR_rs, by simp [Tryz.f14, modC], ?_⟩)
 simp only at q1 q2 q3
 simp only [modC]
 have hsm : sm = 16777216 := rfl
 have hk := mod_kind hm
 simp only at hk
 have ri := fun k => zBf (k := k) (t1 := t1) (t2 := t2) (s1 := s1) (s2 := s2) (lv := lv) (ra := ra) (rc := rc) (c := c) (l := l) q1 q2 q3
 have rc' := fun k => zGd (k := k) (t1 := t1) (t2 := t2) (s1 := s1) (s2 := s2) (lv := lv) (ra := ra) (rc := rc) (c := c) (l := l) q1 q2 q3
 rcases hk with rfl | rfl | rfl | rfl | rfl | rfl | rfl | rfl
 · have hp : hasF [2, 4, 6, 7, 8] 1 = false := by decide
   have hr : rRs ⟨1, (t1, t2), (s1, s2), lv, st, ra, rc, pts, lab, c, l⟩ = { val := .tup [.agg [.im (.int .i64 0), .im (.cpx .f32 0 0), .im (.cpx .f32 0 0), .im (.flt .f32 0), .nil, .im (.int .i64 0), .im (.int .i64 0), .nil, .nil, .im (.int .i64 0), .im (.int .i64 0)], .c (.im (.bool false))] } := by simp [rRs, canR, hp]
   try simp -dsimp (maxSteps := 1000000) only [go_sem, List.forall_mem_nil, ↓reduceIte, Nat.reduceEqDiff, Nat.reduceLT, Nat.reduceLeDiff, Nat.reduceAdd, Nat.reduceMul, reduceCtorEq, Tryz.f14, zAp, hp, ri, hm, Bool.not_false, Bool.true_or]
   refine zAj [] ?_
   simp -dsimp (maxSteps := 1000000) only [go_sem, List.forall_mem_nil, ↓reduceIte, Nat.reduceEqDiff, Nat.reduceLT, Nat.reduceLeDiff, Nat.reduceAdd, Nat.reduceMul, reduceCtorEq, hr]
 · have hp : hasF [2, 4, 6, 7, 8] 2 = true := by decide
   have hr : rRs ⟨2, (t1, t2), (s1, s2), lv, st, ra, rc, pts, lab, c, l⟩ = { val := .tup [.agg [.im (.int .i64 2), .im (.cpx .f32 t1 t2), .im (.cpx .f32 1065353216 0), .im (.flt .f32 lv), .view 0 1 0 st.length, .im (.int .i64 ra), .im (.int .i64 rc), .view 1 1 0 pts.length, .view 2 1 0 lab.length, .im (.int .i64 c), .im (.int .i64 l)], .c (.im (.bool true))], roots := [.arr 1 (tI (rowsZ st)), .arr 1 (tI (rowsZ pts)), .arr 1 (tI (rowsN lab))] } := by simp [rRs, canR, hp, resetM, rMod]
   try simp -dsimp (maxSteps := 1000000) only [go_sem, List.forall_mem_nil, ↓reduceIte, Nat.reduceEqDiff, Nat.reduceLT, Nat.reduceLeDiff, Nat.reduceAdd, Nat.reduceMul, reduceCtorEq, Tryz.f14, zAp, hp, ri, hm, rc', rMod, rep_tI, zAg, zAa, Int.reduceEq, Bool.not_true, Bool.or_self]
   refine zAj [] ?_
   simp -dsimp (maxSteps := 1000000) only [go_sem, List.forall_mem_nil, ↓reduceIte, Nat.reduceEqDiff, Nat.reduceLT, Nat.reduceLeDiff, Nat.reduceAdd, Nat.reduceMul, reduceCtorEq, hr]
   refine ⟨[2, 3, 4], ?_, ?_, ?_, rfl, ?_⟩ <;> simp [rtOk]
 · have hp : hasF [2, 4, 6, 7, 8] 3 = false := by decide
   have hr : rRs ⟨3, (t1, t2), (s1, s2), lv, st, ra, rc, pts, lab, c, l⟩ = { val := .tup [.agg [.im (.int .i64 0), .im (.cpx .f32 0 0), .im (.cpx .f32 0 0), .im (.flt .f32 0), .nil, .im (.int .i64 0), .im (.int .i64 0), .nil, .nil, .im (.int .i64 0), .im (.int .i64 0)], .c (.im (.bool false))] } := by simp [rRs, canR, hp]
   try simp -dsimp (maxSteps := 1000000) only [go_sem, List.forall_mem_nil, ↓reduceIte, Nat.reduceEqDiff, Nat.reduceLT, Nat.reduceLeDiff, Nat.reduceAdd, Nat.reduceMul, reduceCtorEq, Tryz.f14, zAp, hp, ri, hm, Bool.not_false, Bool.true_or]
   refine zAj [] ?_
   simp -dsimp (maxSteps := 1000000) only [go_sem, List.forall_mem_nil, ↓reduceIte, Nat.reduceEqDiff, Nat.reduceLT, Nat.reduceLeDiff, Nat.reduceAdd, Nat.reduceMul, reduceCtorEq, hr]
 · have hp : hasF [2, 4, 6, 7, 8] 4 = true := by decide
   have hr : rRs ⟨4, (t1, t2), (s1, s2), lv, st, ra, rc, pts, lab, c, l⟩ = { val := .tup [.agg [.im (.int .i64 4), .im (.cpx .f32 t1 t2), .im (.cpx .f32 s1 s2), .im (.flt .f32 lv), .view 0 1 0 st.length, .im (.int .i64 ra), .im (.int .i64 rc), .view 1 1 0 pts.length, .view 2 1 0 lab.length, .im (.int .i64 c), .im (.int .i64 l)], .c (.im (.bool true))], roots := [.arr 1 (tI (rowsZ (List.replicate st.length (0, 0)))), .arr 1 (tI (rowsZ pts)), .arr 1 (tI (rowsN lab))] } := by simp [rRs, canR, hp, resetM, rMod]
   try simp -dsimp (maxSteps := 1000000) only [go_sem, List.forall_mem_nil, ↓reduceIte, Nat.reduceEqDiff, Nat.reduceLT, Nat.reduceLeDiff, Nat.reduceAdd, Nat.reduceMul, reduceCtorEq, Tryz.f14, zAp, hp, ri, hm, rc', rMod, rep_tI, zAg, zAa, Int.reduceEq, Bool.not_true, Bool.or_self]
   refine zAj [] ?_
   simp -dsimp (maxSteps := 1000000) only [go_sem, List.forall_mem_nil, ↓reduceIte, Nat.reduceEqDiff, Nat.reduceLT, Nat.reduceLeDiff, Nat.reduceAdd, Nat.reduceMul, reduceCtorEq, hr]
   refine ⟨[2, 3, 4], ?_, ?_, ?_, rfl, ?_⟩ <;> simp [rtOk]
 · have hp : hasF [2, 4, 6, 7, 8] 5 = false := by decide
   have hr : rRs ⟨5, (t1, t2), (s1, s2), lv, st, ra, rc, pts, lab, c, l⟩ = { val := .tup [.agg [.im (.int .i64 0), .im (.cpx .f32 0 0), .im (.cpx .f32 0 0), .im (.flt .f32 0), .nil, .im (.int .i64 0), .im (.int .i64 0), .nil, .nil, .im (.int .i64 0), .im (.int .i64 0)], .c (.im (.bool false))] } := by simp [rRs, canR, hp]
   try simp -dsimp (maxSteps := 1000000) only [go_sem, List.forall_mem_nil, ↓reduceIte, Nat.reduceEqDiff, Nat.reduceLT, Nat.reduceLeDiff, Nat.reduceAdd, Nat.reduceMul, reduceCtorEq, Tryz.f14, zAp, hp, ri, hm, Bool.not_false, Bool.true_or]
   refine zAj [] ?_
   simp -dsimp (maxSteps := 1000000) only [go_sem, List.forall_mem_nil, ↓reduceIte, Nat.reduceEqDiff, Nat.reduceLT, Nat.reduceLeDiff, Nat.reduceAdd, Nat.reduceMul, reduceCtorEq, hr]
 · have hp : hasF [2, 4, 6, 7, 8] 6 = true := by decide
   have hr : rRs ⟨6, (t1, t2), (s1, s2), lv, st, ra, rc, pts, lab, c, l⟩ = { val := .tup [.agg [.im (.int .i64 6), .im (.cpx .f32 t1 t2), .im (.cpx .f32 s1 s2), .im (.flt .f32 lv), .view 0 1 0 st.length, .im (.int .i64 ra), .im (.int .i64 rc), .view 1 1 0 pts.length, .view 2 1 0 lab.length, .im (.int .i64 0), .im (.int .i64 l)], .c (.im (.bool true))], roots := [.arr 1 (tI (rowsZ st)), .arr 1 (tI (rowsZ pts)), .arr 1 (tI (rowsN lab))] } := by simp [rRs, canR, hp, resetM, rMod]
   try simp -dsimp (maxSteps := 1000000) only [go_sem, List.forall_mem_nil, ↓reduceIte, Nat.reduceEqDiff, Nat.reduceLT, Nat.reduceLeDiff, Nat.reduceAdd, Nat.reduceMul, reduceCtorEq, Tryz.f14, zAp, hp, ri, hm, rc', rMod, rep_tI, zAg, zAa, Int.reduceEq, Bool.not_true, Bool.or_self]
   refine zAj [] ?_
   simp -dsimp (maxSteps := 1000000) only [go_sem, List.forall_mem_nil, ↓reduceIte, Nat.reduceEqDiff, Nat.reduceLT, Nat.reduceLeDiff, Nat.reduceAdd, Nat.reduceMul, reduceCtorEq, hr]
   refine ⟨[2, 3, 4], ?_, ?_, ?_, rfl, ?_⟩ <;> simp [rtOk]
 · have hp : hasF [2, 4, 6, 7, 8] 7 = true := by decide
   have hr : rRs ⟨7, (t1, t2), (s1, s2), lv, st, ra, rc, pts, lab, c, l⟩ = { val := .tup [.agg [.im (.int .i64 7), .im (.cpx .f32 t1 t2), .im (.cpx .f32 s1 s2), .im (.flt .f32 0), .view 0 1 0 st.length, .im (.int .i64 ra), .im (.int .i64 rc), .view 1 1 0 pts.length, .view 2 1 0 lab.length, .im (.int .i64 c), .im (.int .i64 l)], .c (.im (.bool true))], roots := [.arr 1 (tI (rowsZ st)), .arr 1 (tI (rowsZ pts)), .arr 1 (tI (rowsN lab))] } := by simp [rRs, canR, hp, resetM, rMod]
   try simp -dsimp (maxSteps := 1000000) only [go_sem, List.forall_mem_nil, ↓reduceIte, Nat.reduceEqDiff, Nat.reduceLT, Nat.reduceLeDiff, Nat.reduceAdd, Nat.reduceMul, reduceCtorEq, Tryz.f14, zAp, hp, ri, hm, rc', rMod, rep_tI, zAg, zAa, Int.reduceEq, Bool.not_true, Bool.or_self]
   refine zAj [] ?_
   simp -dsimp (maxSteps := 1000000) only [go_sem, List.forall_mem_nil, ↓reduceIte, Nat.reduceEqDiff, Nat.reduceLT, Nat.reduceLeDiff, Nat.reduceAdd, Nat.reduceMul, reduceCtorEq, hr]
   refine ⟨[2, 3, 4], ?_, ?_, ?_, rfl, ?_⟩ <;> simp [rtOk]
 · have hp : hasF [2, 4, 6, 7, 8] 8 = true := by decide
   have hr : rRs ⟨8, (t1, t2), (s1, s2), lv, st, ra, rc, pts, lab, c, l⟩ = { val := .tup [.agg [.im (.int .i64 8), .im (.cpx .f32 t1 t2), .im (.cpx .f32 0 0), .im (.flt .f32 lv), .view 0 1 0 st.length, .im (.int .i64 ra), .im (.int .i64 rc), .view 1 1 0 pts.length, .view 2 1 0 lab.length, .im (.int .i64 c), .im (.int .i64 0)], .c (.im (.bool true))], roots := [.arr 1 (tI (rowsZ st)), .arr 1 (tI (rowsZ pts)), .arr 1 (tI (rowsN lab))] } := by simp [rRs, canR, hp, resetM, rMod]
   try simp -dsimp (maxSteps := 1000000) only [go_sem, List.forall_mem_nil, ↓reduceIte, Nat.reduceEqDiff, Nat.reduceLT, Nat.reduceLeDiff, Nat.reduceAdd, Nat.reduceMul, reduceCtorEq, Tryz.f14, zAp, hp, ri, hm, rc', rMod, rep_tI, zAg, zAa, Int.reduceEq, Bool.not_true, Bool.or_self]
   refine zAj [] ?_
   simp -dsimp (maxSteps := 1000000) only [go_sem, List.forall_mem_nil, ↓reduceIte, Nat.reduceEqDiff, Nat.reduceLT, Nat.reduceLeDiff, Nat.reduceAdd, Nat.reduceMul, reduceCtorEq, hr]
   refine ⟨[2, 3, 4], ?_, ?_, ?_, rfl, ?_⟩ <;> simp [rtOk]
structure ARr where
 ms : List Mod
 cs : List Cbl
 ok : ∀ m ∈ ms, OkM m
 r : isRackF ms cs = true
end Go.SX
namespace Go.SX
open Go Go.Proofs
theorem fcmp_self {a : Nat} (h : fcmp .neq .f32 a a = false) : fcmp .eql .f32 a a = true := by
 simp only [fcmp, bne] at h ⊢
 cases hc : (FloatKind.f32.format.order a a == some Ordering.eq) with
 | true => rfl
 | false => rw [hc] at h; simp at h
noncomputable def ct_l5Same : Ct := fam false (fun x : Nat => ([.c (.im (.flt .f32 x)), .c (.im (.flt .f32 x))], [])) (fun _ => .one { val := .c (.im (.bool true)) })
theorem run_l5Same (x : Nat) : ct_l5Same.run [.c (.im (.flt .f32 x)), .c (.im (.flt .f32 x))] [] = some (.one { val := .c (.im (.bool true)) }) := by
 refine zAd (args := fun x : Nat => ([D.c (.im (.flt .f32 x)), .c (.im (.flt .f32 x))], [])) ?_ x
 intro a b h
 simpa using h
set_option maxRecDepth 100000 in
theorem law_l5Same : Law Tryz.prog 178 ct_l5Same := by
 refine zAf zAe hmixA Tryz.func178 rfl rfl (fun a => ⟨zAv rfl, by simp [Tryz.f178], ?_⟩)
 simp only
 cases hn : fcmp .neq .f32 a a with
 | true =>
   try simp -dsimp (maxSteps := 1000000) only [go_sem, List.forall_mem_nil, ↓reduceIte, Nat.reduceEqDiff, Nat.reduceLT, Nat.reduceLeDiff, Nat.reduceAdd, Nat.reduceMul, reduceCtorEq, Tryz.f178, hn]
 | false =>
   have he := fcmp_self hn
   cases h0 : fcmp .eql .f32 a 0 with
   | true =>
     try simp -dsimp (maxSteps := 1000000) only [go_sem, List.forall_mem_nil, ↓reduceIte, Nat.reduceEqDiff, Nat.reduceLT, Nat.reduceLeDiff, Nat.reduceAdd, Nat.reduceMul, reduceCtorEq, Tryz.f178, hn, h0, beq_self_eq_true]
   | false =>
     try simp -dsimp (maxSteps := 1000000) only [go_sem, List.forall_mem_nil, ↓reduceIte, Nat.reduceEqDiff, Nat.reduceLT, Nat.reduceLeDiff, Nat.reduceAdd, Nat.reduceMul, reduceCtorEq, Tryz.f178, hn, h0, he]
noncomputable def ct_l5SamePoint : Ct := fam false (fun x : Pt => ([.c (.im (.cpx .f32 x.1 x.2)), .c (.im (.cpx .f32 x.1 x.2))], [])) (fun _ => .one { val := .c (.im (.bool true)) })
theorem run_l5SamePoint (x y : Nat) : ct_l5SamePoint.run [.c (.im (.cpx .f32 x y)), .c (.im (.cpx .f32 x y))] [] = some (.one { val := .c (.im (.bool true)) }) := by
 refine zAd (args := fun x : Pt => ([D.c (.im (.cpx .f32 x.1 x.2)), .c (.im (.cpx .f32 x.1 x.2))], [])) ?_ (x, y)
 rintro ⟨a, b⟩ ⟨c, d⟩ h
 simp at h
 simp [h]
set_option maxRecDepth 100000 in
theorem law_l5SamePoint : Law Tryz.prog 147 ct_l5SamePoint := by
 refine zAf (zAc law_l5Same zAe) hmixA Tryz.func147 rfl rfl (fun ⟨a, b⟩ => ⟨zAv rfl, by simp [Tryz.f147], ?_⟩)
 simp only
 try simp -dsimp (maxSteps := 1000000) only [go_sem, List.forall_mem_nil, ↓reduceIte, Nat.reduceEqDiff, Nat.reduceLT, Nat.reduceLeDiff, Nat.reduceAdd, Nat.reduceMul, reduceCtorEq, Tryz.f147, run_l5Same a, run_l5Same b]
structure AZl where
 l : List Pt
 len : l.length ≤ sm
noncomputable def ct_l5SameList : Ct := fam true (fun x : AZl => ([.c (.im (.sl 1 (rowsZ x.l))), .c (.im (.sl 1 (rowsZ x.l)))], [])) (fun _ => .one { val := .c (.im (.bool true)) })
theorem run_l5SameList {l : List Pt} (h : l.length ≤ sm) : ct_l5SameList.run [.c (.im (.sl 1 (rowsZ l))), .c (.im (.sl 1 (rowsZ l)))] [] = some (.one { val := .c (.im (.bool true)) }) := by
 refine zAd (args := fun x : AZl => ([D.c (.im (.sl 1 (rowsZ x.l))), .c (.im (.sl 1 (rowsZ x.l)))], [])) ?_ ⟨l, h⟩
 rintro ⟨a, _⟩ ⟨b, _⟩ h
 simp [zAs] at h
 subst h; rfl
set_option maxRecDepth 100000 in
theorem law_l5SameList : Law Tryz.prog 73 ct_l5SameList := by
 refine zAf (zAc law_l5SamePoint zAe) hmixA Tryz.func73 rfl rfl (fun ⟨l, hl⟩ => ⟨zAv rfl, by simp [Tryz.f73], ?_⟩)
 simp only
 try simp -dsimp (maxSteps := 1000000) only [go_sem, List.forall_mem_nil, ↓reduceIte, Nat.reduceEqDiff, Nat.reduceLT, Nat.reduceLeDiff, Nat.reduceAdd, Nat.reduceMul, reduceCtorEq, Tryz.f73, zAa]
 refine zBh (ι := { k : Nat // k ≤ l.length }) (fun k => ⟨[(0, some (.c (.im (.sl 1 (rowsZ l))))), (1, some (.c (.im (.sl 1 (rowsZ l))))), (12, some (.c (.im (.int .i64 (l.length : Int))))), (13, some (.c (.im (.int .i64 (k.1 : Int)))))], [], 0⟩) (fun k => l.length - k.1) ⟨0, by simp⟩ ⟨[], [], by ((simp only [go_sem, eq_self, MvRb, MvRn, MvRt, List.nodup_cons, List.nodup_nil, ↓reduceIte, Nat.reduceEqDiff, Nat.reduceLT, Nat.reduceLeDiff, reduceCtorEq, List.forall_mem_nil, Nat.zero_le, false_implies, List.mem_singleton]) <;> (try (simp -dsimp only [go_sem, eq_self, MvRb, MvRn, MvRt, List.nodup_cons, List.nodup_nil, ↓reduceIte, Nat.reduceEqDiff, Nat.reduceLT, Nat.reduceLeDiff, reduceCtorEq, List.forall_mem_nil, Nat.zero_le, false_implies, List.mem_singleton]))) <;> simp⟩ (fun ⟨k, hk⟩ => ?_)
 simp only
 by_cases hlt : k < l.length
 · obtain ⟨p, hp⟩ : ∃ p, l[k]? = some p := ⟨_, List.getElem?_eq_getElem hlt⟩
   have hrow := zCf hp
   have hI : ((k : Int) < (l.length : Int)) = True := by simp; omega
   have h0 : (0 ≤ (k : Int)) = True := by simp
   have hwr := lt_sm hl hlt
   try simp -dsimp (maxSteps := 1000000) only [go_sem, List.forall_mem_nil, ↓reduceIte, Nat.reduceEqDiff, Nat.reduceLT, Nat.reduceLeDiff, Nat.reduceAdd, Nat.reduceMul, reduceCtorEq, Tryz.f73, hI, h0, Int.toNat_natCast, hrow, hwr, run_l5SamePoint, zAa]
   repeat' (first
     | ((with_reducible refine sl_i ?_ ?_); focus kernel_rfl)
     | ((with_reducible refine ro_i ?_ ?_); focus kernel_rfl))
   exact ⟨⟨k + 1, by omega⟩, by simp only []; omega, [], [], by (simp only [go_sem, eq_self, MvRb, MvRn, MvRt, List.nodup_cons, List.nodup_nil, ↓reduceIte, Nat.reduceEqDiff, Nat.reduceLT, Nat.reduceLeDiff, reduceCtorEq, List.forall_mem_nil, Nat.zero_le, false_implies, List.mem_singleton]) <;> simp⟩
 · have hI : ((k : Int) < (l.length : Int)) = False := by simp; omega
   try simp -dsimp (maxSteps := 1000000) only [go_sem, List.forall_mem_nil, ↓reduceIte, Nat.reduceEqDiff, Nat.reduceLT, Nat.reduceLeDiff, Nat.reduceAdd, Nat.reduceMul, reduceCtorEq, Tryz.f73, hI, zAa]
noncomputable def zFr : Ct := fam true (fun x : AZl => ([.c (.im (.sl 1 (rowsZ x.l))), .c (.im (.sl 1 (rowsZ x.l)))], [])) (fun _ => .one { val := .c (.im (.bool true)) })
theorem run_MakeSame {l : List Pt} (h : l.length ≤ sm) : zFr.run [.c (.im (.sl 1 (rowsZ l))), .c (.im (.sl 1 (rowsZ l)))] [] = some (.one { val := .c (.im (.bool true)) }) := run_l5SameList h
theorem sc_MakeSame : (zFr.sc = true) = True := by simp [zFr, fam]
set_option maxRecDepth 100000 in
theorem law_MakeSame : Law Tryz.prog 24 zFr := by
 refine zAf (zAc law_l5SameList zAe) hmixA Tryz.func24 rfl rfl (fun ⟨l, hl⟩ => ⟨zAv rfl, by simp [Tryz.f24], ?_⟩)
 simp only
 try simp -dsimp (maxSteps := 1000000) only [go_sem, List.forall_mem_nil, ↓reduceIte, Nat.reduceEqDiff, Nat.reduceLT, Nat.reduceLeDiff, Nat.reduceAdd, Nat.reduceMul, reduceCtorEq, Tryz.f24, run_l5SameList hl]
structure ARk2 where
 ms : List Mod
 cs : List Cbl
 ml : ms.length ≤ sm
 cl : cs.length ≤ sm
 ok : ∀ m ∈ ms, OkM m
end Go.SX
set_option maxRecDepth 100000
namespace Go.Proofs
open Go.Shelf
def Tryz.lays146_ren : Go.Shelf.Ren := ⟨fun | 146 => 39 | 221 => 102 | 268 => 180 | 138 => 181 | 143 => 182 | 195 => 237 | 197 => 238 | 218 => 239 | 219 => 209 | 260 => 274 | 217 => 254 | 225 => 255 | 224 => 256 | 267 => 257 | 266 => 283 | 314 => 284 | n => n, fun | 9 => 9 | 31 => 71 | 3 => 3 | 4 => 4 | 0 => 0 | 105 => 243 | 21 => 21 | 5 => 5 | 46 => 215 | 119 => 299 | 139 => 302 | 138 => 301 | 146 => 281 | 51 => 201 | n => n, fun | 1 => 2 | 3 => 5 | 4 => 6 | n => n⟩
theorem Tryz.lays146 : Lays.n146 Tryz.prog Tryz.lays146_ren := {
 mixed := by kernel_rfl,
 f138 := Tryz.func181.trans (congrArg some (by kernel_rfl)),
 f143 := Tryz.func182.trans (congrArg some (by kernel_rfl)),
 f146 := Tryz.func39.trans (congrArg some (by kernel_rfl)),
 f195 := Tryz.func237.trans (congrArg some (by kernel_rfl)),
 f197 := Tryz.func238.trans (congrArg some (by kernel_rfl)),
 f217 := Tryz.func254.trans (congrArg some (by kernel_rfl)),
 f218 := Tryz.func239.trans (congrArg some (by kernel_rfl)),
 f219 := Tryz.func209.trans (congrArg some (by kernel_rfl)),
 f221 := Tryz.func102.trans (congrArg some (by kernel_rfl)),
 f224 := Tryz.func256.trans (congrArg some (by kernel_rfl)),
 f225 := Tryz.func255.trans (congrArg some (by kernel_rfl)),
 f260 := Tryz.func274.trans (congrArg some (by kernel_rfl)),
 f266 := Tryz.func283.trans (congrArg some (by kernel_rfl)),
 f267 := Tryz.func257.trans (congrArg some (by kernel_rfl)),
 f268 := Tryz.func180.trans (congrArg some (by kernel_rfl)),
 f314 := Tryz.func284.trans (congrArg some (by kernel_rfl)),
 t0 := Tryz.underlying0,
 a0 := Tryz.isAgg0,
 z0 := Tryz.sizeOf0,
 v0 := Tryz.zeroValue0,
 t3 := Tryz.underlying3,
 a3 := Tryz.isAgg3,
 z3 := Tryz.sizeOf3,
 v3 := Tryz.zeroValue3,
 t4 := Tryz.underlying4,
 a4 := Tryz.isAgg4,
 z4 := Tryz.sizeOf4,
 v4 := Tryz.zeroValue4,
 t5 := Tryz.underlying5,
 a5 := Tryz.isAgg5,
 z5 := Tryz.sizeOf5,
 v5 := Tryz.zeroValue5,
 t9 := Tryz.underlying9,
 a9 := Tryz.isAgg9,
 z9 := Tryz.sizeOf9,
 v9 := Tryz.zeroValue9,
 t21 := Tryz.underlying21,
 a21 := Tryz.isAgg21,
 z21 := Tryz.sizeOf21,
 v21 := Tryz.zeroValue21,
 t31 := Tryz.underlying71,
 a31 := Tryz.isAgg71,
 z31 := Tryz.sizeOf71,
 v31 := Tryz.zeroValue71,
 t46 := Tryz.underlying215,
 a46 := Tryz.isAgg215,
 z46 := Tryz.sizeOf215,
 v46 := Tryz.zeroValue215,
 t51 := Tryz.underlying201,
 a51 := Tryz.isAgg201,
 z51 := Tryz.sizeOf201,
 v51 := Tryz.zeroValue201,
 t105 := Tryz.underlying243,
 a105 := Tryz.isAgg243,
 z105 := Tryz.sizeOf243,
 v105 := Tryz.zeroValue243,
 t119 := Tryz.underlying299,
 a119 := Tryz.isAgg299,
 z119 := Tryz.sizeOf299,
 t138 := Tryz.underlying301,
 a138 := Tryz.isAgg301,
 z138 := Tryz.sizeOf301,
 v138 := Tryz.zeroValue301,
 t139 := Tryz.underlying302,
 a139 := Tryz.isAgg302,
 z139 := Tryz.sizeOf302,
 v139 := Tryz.zeroValue302,
 t146 := Tryz.underlying281,
 a146 := Tryz.isAgg281,
 z146 := Tryz.sizeOf281,
 v146 := Tryz.zeroValue281,
 g1 := by kernel_rfl,
 g3 := by kernel_rfl,
 g4 := by kernel_rfl }
def Tryz.lays145_ren : Go.Shelf.Ren := ⟨fun | 145 => 77 | 220 => 150 | 219 => 209 | 217 => 254 | 225 => 255 | 224 => 256 | 267 => 257 | 266 => 283 | 314 => 284 | n => n, fun | 9 => 9 | 4 => 4 | 59 => 116 | 3 => 3 | 5 => 5 | 46 => 215 | 146 => 281 | 51 => 201 | n => n, fun | 1 => 2 | n => n⟩
theorem Tryz.lays145 : Lays.n145 Tryz.prog Tryz.lays145_ren := {
 mixed := by kernel_rfl,
 f145 := Tryz.func77.trans (congrArg some (by kernel_rfl)),
 f217 := Tryz.func254.trans (congrArg some (by kernel_rfl)),
 f219 := Tryz.func209.trans (congrArg some (by kernel_rfl)),
 f220 := Tryz.func150.trans (congrArg some (by kernel_rfl)),
 f224 := Tryz.func256.trans (congrArg some (by kernel_rfl)),
 f225 := Tryz.func255.trans (congrArg some (by kernel_rfl)),
 f266 := Tryz.func283.trans (congrArg some (by kernel_rfl)),
 f267 := Tryz.func257.trans (congrArg some (by kernel_rfl)),
 f314 := Tryz.func284.trans (congrArg some (by kernel_rfl)),
 t3 := Tryz.underlying3,
 a3 := Tryz.isAgg3,
 z3 := Tryz.sizeOf3,
 v3 := Tryz.zeroValue3,
 t4 := Tryz.underlying4,
 a4 := Tryz.isAgg4,
 z4 := Tryz.sizeOf4,
 v4 := Tryz.zeroValue4,
 t5 := Tryz.underlying5,
 a5 := Tryz.isAgg5,
 z5 := Tryz.sizeOf5,
 v5 := Tryz.zeroValue5,
 t9 := Tryz.underlying9,
 a9 := Tryz.isAgg9,
 z9 := Tryz.sizeOf9,
 v9 := Tryz.zeroValue9,
 t46 := Tryz.underlying215,
 a46 := Tryz.isAgg215,
 z46 := Tryz.sizeOf215,
 v46 := Tryz.zeroValue215,
 t51 := Tryz.underlying201,
 a51 := Tryz.isAgg201,
 z51 := Tryz.sizeOf201,
 v51 := Tryz.zeroValue201,
 t59 := Tryz.underlying116,
 a59 := Tryz.isAgg116,
 z59 := Tryz.sizeOf116,
 v59 := Tryz.zeroValue116,
 t146 := Tryz.underlying281,
 a146 := Tryz.isAgg281,
 z146 := Tryz.sizeOf281,
 v146 := Tryz.zeroValue281,
 g1 := by kernel_rfl }
def Tryz.lays171_ren : Go.Shelf.Ren := ⟨fun | 171 => 146 | 243 => 207 | 246 => 253 | 283 => 279 | 284 => 280 | 285 => 281 | 286 => 282 | 129 => 300 | 317 => 304 | 318 => 305 | 319 => 306 | 320 => 307 | 337 => 206 | 338 => 316 | n => n, fun | 3 => 3 | 9 => 9 | 2 => 2 | 4 => 4 | 171 => 276 | 0 => 0 | 53 => 247 | 37 => 37 | 5 => 5 | 173 => 279 | 212 => 308 | 51 => 201 | 20 => 20 | 213 => 309 | 46 => 215 | 232 => 256 | 233 => 323 | n => n, fun | 17 => 7 | 18 => 1 | 19 => 8 | n => n⟩
theorem Tryz.lays171 : LaysM.n171 Tryz.prog Tryz.lays171_ren := {
 mixed := by kernel_rfl,
 f129 := Tryz.func300.trans (congrArg some (by kernel_rfl)),
 f171 := Tryz.func146.trans (congrArg some (by kernel_rfl)),
 f243 := Tryz.func207.trans (congrArg some (by kernel_rfl)),
 f246 := Tryz.func253.trans (congrArg some (by kernel_rfl)),
 f283 := Tryz.func279.trans (congrArg some (by kernel_rfl)),
 f284 := Tryz.func280.trans (congrArg some (by kernel_rfl)),
 f285 := Tryz.func281.trans (congrArg some (by kernel_rfl)),
 f286 := Tryz.func282.trans (congrArg some (by kernel_rfl)),
 f317 := Tryz.func304.trans (congrArg some (by kernel_rfl)),
 f318 := Tryz.func305.trans (congrArg some (by kernel_rfl)),
 f319 := Tryz.func306.trans (congrArg some (by kernel_rfl)),
 f320 := Tryz.func307.trans (congrArg some (by kernel_rfl)),
 f337 := Tryz.func206.trans (congrArg some (by kernel_rfl)),
 f338 := Tryz.func316.trans (congrArg some (by kernel_rfl)),
 t0 := Tryz.underlying0,
 a0 := Tryz.isAgg0,
 z0 := Tryz.sizeOf0,
 v0 := Tryz.zeroValue0,
 t2 := Tryz.underlying2,
 a2 := Tryz.isAgg2,
 z2 := Tryz.sizeOf2,
 v2 := Tryz.zeroValue2,
 t3 := Tryz.underlying3,
 a3 := Tryz.isAgg3,
 z3 := Tryz.sizeOf3,
 v3 := Tryz.zeroValue3,
 t4 := Tryz.underlying4,
 a4 := Tryz.isAgg4,
 z4 := Tryz.sizeOf4,
 v4 := Tryz.zeroValue4,
 t5 := Tryz.underlying5,
 a5 := Tryz.isAgg5,
 z5 := Tryz.sizeOf5,
 v5 := Tryz.zeroValue5,
 t9 := Tryz.underlying9,
 a9 := Tryz.isAgg9,
 z9 := Tryz.sizeOf9,
 v9 := Tryz.zeroValue9,
 t20 := Tryz.underlying20,
 a20 := Tryz.isAgg20,
 z20 := Tryz.sizeOf20,
 v20 := Tryz.zeroValue20,
 t37 := Tryz.underlying37,
 a37 := Tryz.isAgg37,
 z37 := Tryz.sizeOf37,
 v37 := Tryz.zeroValue37,
 t46 := Tryz.underlying215,
 a46 := Tryz.isAgg215,
 z46 := Tryz.sizeOf215,
 v46 := Tryz.zeroValue215,
 t51 := Tryz.underlying201,
 a51 := Tryz.isAgg201,
 z51 := Tryz.sizeOf201,
 v51 := Tryz.zeroValue201,
 t53 := Tryz.underlying247,
 a53 := Tryz.isAgg247,
 z53 := Tryz.sizeOf247,
 v53 := Tryz.zeroValue247,
 t171 := Tryz.underlying276,
 a171 := Tryz.isAgg276,
 z171 := Tryz.sizeOf276,
 v171 := Tryz.zeroValue276,
 t173 := Tryz.underlying279,
 a173 := Tryz.isAgg279,
 z173 := Tryz.sizeOf279,
 v173 := Tryz.zeroValue279,
 t212 := Tryz.underlying308,
 a212 := Tryz.isAgg308,
 z212 := Tryz.sizeOf308,
 v212 := Tryz.zeroValue308,
 t213 := Tryz.underlying309,
 a213 := Tryz.isAgg309,
 z213 := Tryz.sizeOf309,
 t232 := Tryz.underlying256,
 a232 := Tryz.isAgg256,
 z232 := Tryz.sizeOf256,
 v232 := Tryz.zeroValue256,
 t233 := Tryz.underlying323,
 a233 := Tryz.isAgg323,
 z233 := Tryz.sizeOf323,
 v233 := Tryz.zeroValue323,
 g17 := by kernel_rfl,
 g18 := by kernel_rfl,
 g19 := by kernel_rfl,
 i0 := by kernel_rfl,
 i2 := by kernel_rfl,
 i3 := by kernel_rfl,
 i4 := by kernel_rfl,
 i5 := by kernel_rfl,
 i9 := by kernel_rfl,
 i20 := by kernel_rfl,
 i37 := by kernel_rfl,
 i46 := by kernel_rfl,
 i51 := by kernel_rfl,
 i53 := by kernel_rfl,
 i171 := by kernel_rfl,
 i173 := by kernel_rfl,
 i212 := by kernel_rfl,
 i232 := by kernel_rfl,
 i233 := by kernel_rfl,
 m17 := by kernel_rfl,
 m18 := by kernel_rfl,
 m19 := by kernel_rfl }
def Tryz.lays28_ren : Go.Shelf.Ren := ⟨fun | 28 => 206 | n => n, fun | 27 => 201 | 3 => 3 | 4 => 4 | 25 => 215 | 53 => 256 | 0 => 0 | 5 => 5 | n => n, fun | 0 => 1 | n => n⟩
theorem Tryz.lays28 : Lays7.n28 Tryz.prog Tryz.lays28_ren := {
 mixed := by kernel_rfl,
 f28 := Tryz.func206.trans (congrArg some (by kernel_rfl)),
 t0 := Tryz.underlying0,
 a0 := Tryz.isAgg0,
 z0 := Tryz.sizeOf0,
 v0 := Tryz.zeroValue0,
 i0 := by kernel_rfl,
 t3 := Tryz.underlying3,
 a3 := Tryz.isAgg3,
 z3 := Tryz.sizeOf3,
 v3 := Tryz.zeroValue3,
 i3 := by kernel_rfl,
 t4 := Tryz.underlying4,
 a4 := Tryz.isAgg4,
 z4 := Tryz.sizeOf4,
 v4 := Tryz.zeroValue4,
 i4 := by kernel_rfl,
 t5 := Tryz.underlying5,
 a5 := Tryz.isAgg5,
 z5 := Tryz.sizeOf5,
 v5 := Tryz.zeroValue5,
 i5 := by kernel_rfl,
 t25 := Tryz.underlying215,
 a25 := Tryz.isAgg215,
 z25 := Tryz.sizeOf215,
 v25 := Tryz.zeroValue215,
 i25 := by kernel_rfl,
 t27 := Tryz.underlying201,
 a27 := Tryz.isAgg201,
 z27 := Tryz.sizeOf201,
 v27 := Tryz.zeroValue201,
 i27 := by kernel_rfl,
 t53 := Tryz.underlying256,
 a53 := Tryz.isAgg256,
 z53 := Tryz.sizeOf256,
 v53 := Tryz.zeroValue256,
 i53 := by kernel_rfl,
 g0 := by kernel_rfl }
def Tryz.lays172_ren : Go.Shelf.Ren := ⟨fun | 172 => 151 | 244 => 210 | 245 => 211 | 247 => 258 | 279 => 259 | 280 => 260 | 281 => 261 | 282 => 262 | 287 => 285 | 316 => 286 | 171 => 146 | 205 => 287 | 321 => 308 | 322 => 309 | 243 => 207 | 246 => 253 | 283 => 279 | 284 => 280 | 285 => 281 | 286 => 282 | 129 => 300 | 317 => 304 | 318 => 305 | 319 => 306 | 320 => 307 | 337 => 206 | 338 => 316 | n => n, fun | 9 => 9 | 3 => 3 | 75 => 169 | 76 => 170 | 4 => 4 | 5 => 5 | 167 => 259 | 37 => 37 | 0 => 0 | 85 => 260 | 2 => 2 | 168 => 262 | 53 => 247 | 175 => 283 | 46 => 215 | 210 => 286 | 127 => 268 | 145 => 313 | 143 => 311 | 21 => 21 | 171 => 276 | 173 => 279 | 212 => 308 | 51 => 201 | 20 => 20 | 213 => 309 | 232 => 256 | 233 => 323 | 80 => 78 | n => n, fun | 15 => 3 | 16 => 4 | 17 => 7 | 18 => 1 | 19 => 8 | n => n⟩
theorem Tryz.lays172 : LaysC.n172 Tryz.prog Tryz.lays172_ren := {
 mixed := by kernel_rfl,
 f129 := Tryz.func300.trans (congrArg some (by kernel_rfl)),
 f171 := Tryz.func146.trans (congrArg some (by kernel_rfl)),
 f172 := Tryz.func151.trans (congrArg some (by kernel_rfl)),
 f205 := Tryz.func287.trans (congrArg some (by kernel_rfl)),
 f243 := Tryz.func207.trans (congrArg some (by kernel_rfl)),
 f244 := Tryz.func210.trans (congrArg some (by kernel_rfl)),
 f245 := Tryz.func211.trans (congrArg some (by kernel_rfl)),
 f246 := Tryz.func253.trans (congrArg some (by kernel_rfl)),
 f247 := Tryz.func258.trans (congrArg some (by kernel_rfl)),
 f279 := Tryz.func259.trans (congrArg some (by kernel_rfl)),
 f280 := Tryz.func260.trans (congrArg some (by kernel_rfl)),
 f281 := Tryz.func261.trans (congrArg some (by kernel_rfl)),
 f282 := Tryz.func262.trans (congrArg some (by kernel_rfl)),
 f283 := Tryz.func279.trans (congrArg some (by kernel_rfl)),
 f284 := Tryz.func280.trans (congrArg some (by kernel_rfl)),
 f285 := Tryz.func281.trans (congrArg some (by kernel_rfl)),
 f286 := Tryz.func282.trans (congrArg some (by kernel_rfl)),
 f287 := Tryz.func285.trans (congrArg some (by kernel_rfl)),
 f316 := Tryz.func286.trans (congrArg some (by kernel_rfl)),
 f317 := Tryz.func304.trans (congrArg some (by kernel_rfl)),
 f318 := Tryz.func305.trans (congrArg some (by kernel_rfl)),
 f319 := Tryz.func306.trans (congrArg some (by kernel_rfl)),
 f320 := Tryz.func307.trans (congrArg some (by kernel_rfl)),
 f321 := Tryz.func308.trans (congrArg some (by kernel_rfl)),
 f322 := Tryz.func309.trans (congrArg some (by kernel_rfl)),
 f337 := Tryz.func206.trans (congrArg some (by kernel_rfl)),
 f338 := Tryz.func316.trans (congrArg some (by kernel_rfl)),
 t0 := Tryz.underlying0,
 a0 := Tryz.isAgg0,
 z0 := Tryz.sizeOf0,
 v0 := Tryz.zeroValue0,
 t2 := Tryz.underlying2,
 a2 := Tryz.isAgg2,
 z2 := Tryz.sizeOf2,
 v2 := Tryz.zeroValue2,
 t3 := Tryz.underlying3,
 a3 := Tryz.isAgg3,
 z3 := Tryz.sizeOf3,
 v3 := Tryz.zeroValue3,
 t4 := Tryz.underlying4,
 a4 := Tryz.isAgg4,
 z4 := Tryz.sizeOf4,
 v4 := Tryz.zeroValue4,
 t5 := Tryz.underlying5,
 a5 := Tryz.isAgg5,
 z5 := Tryz.sizeOf5,
 v5 := Tryz.zeroValue5,
 t9 := Tryz.underlying9,
 a9 := Tryz.isAgg9,
 z9 := Tryz.sizeOf9,
 v9 := Tryz.zeroValue9,
 t20 := Tryz.underlying20,
 a20 := Tryz.isAgg20,
 z20 := Tryz.sizeOf20,
 v20 := Tryz.zeroValue20,
 t21 := Tryz.underlying21,
 a21 := Tryz.isAgg21,
 z21 := Tryz.sizeOf21,
 v21 := Tryz.zeroValue21,
 t37 := Tryz.underlying37,
 a37 := Tryz.isAgg37,
 z37 := Tryz.sizeOf37,
 v37 := Tryz.zeroValue37,
 t46 := Tryz.underlying215,
 a46 := Tryz.isAgg215,
 z46 := Tryz.sizeOf215,
 v46 := Tryz.zeroValue215,
 t51 := Tryz.underlying201,
 a51 := Tryz.isAgg201,
 z51 := Tryz.sizeOf201,
 v51 := Tryz.zeroValue201,
 t53 := Tryz.underlying247,
 a53 := Tryz.isAgg247,
 z53 := Tryz.sizeOf247,
 v53 := Tryz.zeroValue247,
 t75 := Tryz.underlying169,
 a75 := Tryz.isAgg169,
 z75 := Tryz.sizeOf169,
 v75 := Tryz.zeroValue169,
 t76 := Tryz.underlying170,
 a76 := Tryz.isAgg170,
 z76 := Tryz.sizeOf170,
 v76 := Tryz.zeroValue170,
 t85 := Tryz.underlying260,
 a85 := Tryz.isAgg260,
 z85 := Tryz.sizeOf260,
 v85 := Tryz.zeroValue260,
 t127 := Tryz.underlying268,
 a127 := Tryz.isAgg268,
 z127 := Tryz.sizeOf268,
 v127 := Tryz.zeroValue268,
 t143 := Tryz.underlying311,
 a143 := Tryz.isAgg311,
 z143 := Tryz.sizeOf311,
 v143 := Tryz.zeroValue311,
 t145 := Tryz.underlying313,
 a145 := Tryz.isAgg313,
 z145 := Tryz.sizeOf313,
 v145 := Tryz.zeroValue313,
 t167 := Tryz.underlying259,
 a167 := Tryz.isAgg259,
 z167 := Tryz.sizeOf259,
 v167 := Tryz.zeroValue259,
 t168 := Tryz.underlying262,
 a168 := Tryz.isAgg262,
 z168 := Tryz.sizeOf262,
 v168 := Tryz.zeroValue262,
 t171 := Tryz.underlying276,
 a171 := Tryz.isAgg276,
 z171 := Tryz.sizeOf276,
 v171 := Tryz.zeroValue276,
 t173 := Tryz.underlying279,
 a173 := Tryz.isAgg279,
 z173 := Tryz.sizeOf279,
 v173 := Tryz.zeroValue279,
 t175 := Tryz.underlying283,
 a175 := Tryz.isAgg283,
 z175 := Tryz.sizeOf283,
 v175 := Tryz.zeroValue283,
 t210 := Tryz.underlying286,
 a210 := Tryz.isAgg286,
 z210 := Tryz.sizeOf286,
 v210 := Tryz.zeroValue286,
 t212 := Tryz.underlying308,
 a212 := Tryz.isAgg308,
 z212 := Tryz.sizeOf308,
 v212 := Tryz.zeroValue308,
 t213 := Tryz.underlying309,
 a213 := Tryz.isAgg309,
 z213 := Tryz.sizeOf309,
 t232 := Tryz.underlying256,
 a232 := Tryz.isAgg256,
 z232 := Tryz.sizeOf256,
 v232 := Tryz.zeroValue256,
 t233 := Tryz.underlying323,
 a233 := Tryz.isAgg323,
 z233 := Tryz.sizeOf323,
 v233 := Tryz.zeroValue323,
 g15 := by kernel_rfl,
 g16 := by kernel_rfl,
 g17 := by kernel_rfl,
 g18 := by kernel_rfl,
 g19 := by kernel_rfl,
 t80 := Tryz.underlying78,
 a80 := Tryz.isAgg78,
 z80 := Tryz.sizeOf78,
 v80 := Tryz.zeroValue78,
 i0 := by kernel_rfl,
 i2 := by kernel_rfl,
 i3 := by kernel_rfl,
 i4 := by kernel_rfl,
 i5 := by kernel_rfl,
 i9 := by kernel_rfl,
 i20 := by kernel_rfl,
 i21 := by kernel_rfl,
 i37 := by kernel_rfl,
 i46 := by kernel_rfl,
 i51 := by kernel_rfl,
 i53 := by kernel_rfl,
 i75 := by kernel_rfl,
 i76 := by kernel_rfl,
 i80 := by kernel_rfl,
 i85 := by kernel_rfl,
 i127 := by kernel_rfl,
 i143 := by kernel_rfl,
 i145 := by kernel_rfl,
 i167 := by kernel_rfl,
 i168 := by kernel_rfl,
 i171 := by kernel_rfl,
 i173 := by kernel_rfl,
 i175 := by kernel_rfl,
 i210 := by kernel_rfl,
 i212 := by kernel_rfl,
 i232 := by kernel_rfl,
 i233 := by kernel_rfl,
 m15 := by kernel_rfl,
 m16 := by kernel_rfl,
 m17 := by kernel_rfl,
 m18 := by kernel_rfl,
 m19 := by kernel_rfl,
 c0 := by kernel_rfl,
 c2 := by kernel_rfl,
 c3 := by kernel_rfl,
 c4 := by kernel_rfl,
 c5 := by kernel_rfl,
 c9 := by kernel_rfl,
 c20 := by kernel_rfl,
 c21 := by kernel_rfl,
 c37 := by kernel_rfl,
 c46 := by kernel_rfl,
 c51 := by kernel_rfl,
 c53 := by kernel_rfl,
 c75 := by kernel_rfl,
 c76 := by kernel_rfl,
 c80 := by kernel_rfl,
 c85 := by kernel_rfl,
 c127 := by kernel_rfl,
 c143 := by kernel_rfl,
 c145 := by kernel_rfl,
 c167 := by kernel_rfl,
 c168 := by kernel_rfl,
 c171 := by kernel_rfl,
 c173 := by kernel_rfl,
 c175 := by kernel_rfl,
 c210 := by kernel_rfl,
 c212 := by kernel_rfl,
 c213 := by kernel_rfl,
 c232 := by kernel_rfl,
 c233 := by kernel_rfl }
end Go.Proofs
namespace Go.SX
open Go Go.Proofs Go.RowKit
theorem zEr (l : Txt) : (⟨l.toArray⟩ : ByteArray).size = l.length := by simp [ByteArray.size]
theorem zDd (a b : Txt) : (⟨a.toArray⟩ : ByteArray) ++ ⟨b.toArray⟩ = ⟨(a ++ b).toArray⟩ := by
 apply ByteArray.ext
 simp
theorem ba_eta (s : ByteArray) : s = ⟨s.data.toList.toArray⟩ := by cases s; rfl
theorem zAz (a b : Txt) : ((⟨a.toArray⟩ : ByteArray).toList == (⟨b.toArray⟩ : ByteArray).toList) = decide (a = b) := by
 rw [ByteArray.toList_mk, ByteArray.toList_mk]
 by_cases h : a = b <;> simp [h]
theorem ba_inj {a b : Txt} : (⟨a.toArray⟩ : ByteArray) = ⟨b.toArray⟩ ↔ a = b := by
 constructor
 · intro h
   have := congrArg (fun s : ByteArray => s.data.toList) h
   simpa using this
 · rintro rfl; rfl
theorem laid_itoa {w : World} (h : Laid (fun _ => none) w) : Lib.TabIs Tryz.prog w "internal/strconv.uint64pow10" .u64 Lib.pow10Tab := by
 obtain ⟨⟨e, fr, h1⟩, _⟩ := h.v 7 (Lib.pow10Tab.map fun z => Value.int .u64 z) (by simp [globV])
 unfold Lib.TabIs World.var?
 rw [show Tryz.prog.globalNamed "internal/strconv.uint64pow10" = some 7 by kernel_rfl]
 simp only [Option.bind_some, h1]
theorem laid_tz {w : World} (h : Laid (fun _ => none) w) : TabAt 1 Lib.deBruijn32tab w := by
 obtain ⟨⟨e, fr, h1⟩, _⟩ := h.v 1 (Lib.deBruijn32tab.map fun (k : Nat) => Value.int .u8 (k : Int)) (by simp [globV])
 intro j hj
 have h2 : (Lib.deBruijn32tab.map fun (k : Nat) => Value.int .u8 (k : Int)).toArray[j]? = some (.int .u8 (Lib.deBruijn32tab.getD j 0 : Nat)) := by
   simp [List.getElem?_eq_getElem hj, List.getD_eq_getElem?_getD]
 simp [World.cell?, h1, h2]
theorem laid_err {w : World} (h : Laid (fun _ => none) w) {b : Nat} (hb : b = 3 ∨ b = 4) : ∃ t p, w.cell? ⟨b, 0, none⟩ = some (.iface t p) := by
 obtain ⟨⟨t, p, e, fr, h1⟩, _⟩ := h.i b (by simpa [globI] using hb)
 exact ⟨t, p, by simp [World.cell?, h1]⟩
theorem laid_max {w : World} (h : Laid (fun _ => none) w) : ∃ m, w.cell? ⟨2, 0, none⟩ = some (.int .i64 m) := by
 obtain ⟨⟨m, e, fr, h1⟩, _⟩ := h.n 2 (by simp [globN])
 exact ⟨m, by simp [World.cell?, h1]⟩
theorem below_drewN (w : World) (n : Nat) : Below w.heap.size w (w.drewN n) := ⟨rfl, rfl, rfl, Nat.le_refl _, fun _ _ => rfl⟩
theorem below_grow (w : World) (k : Nat) (os : Array Obj) : Below w.heap.size w (Sort.grow (w.drewN k) os) :=
 ⟨rfl, rfl, rfl, by simp [Sort.grow, World.drewN], fun j hj => by simp [Sort.grow, World.drewN]; rw [Array.getElem?_append_left (by simpa using hj)]⟩
theorem str_dv {g : Gh} {s : ByteArray} {v : Value} (h : DV g (.c (.im (.str s))) v) : v = .string s := by
 cases h with | c _ _ hc => cases hc with | im _ _ hi => exact hi.str_inv
theorem int_dv {g : Gh} {k : IntKind} {n : Int} {v : Value} (h : DV g (.c (.im (.int k n))) v) : v = .int k n := by
 cases h with | c _ _ hc => cases hc with | im _ _ hi => exact hi.int_inv
theorem dv_im {i : I} {v : Value} (h : ∀ fz, IR fz i v) (g : Gh) : DV g (.c (.im i)) v := .c _ _ (.im _ _ (h _))
theorem one_arg {ds : List D} {args : List Value} (hl : args.length = ds.length) {d : D} (hd : ds = [d]) : ∃ v, args = [v] := by
 subst hd
 match args, hl with
 | [v], _ => exact ⟨v, rfl⟩
abbrev Z64 := { n : Int // i64B n }
noncomputable def ct_Itoa : Ct := fam true (fun n : Z64 => ([.c (.im (.int .i64 n.1))], [])) (fun n => .one { val := .c (.im (.str ⟨(Lib.itoa n.1).toArray⟩)) })
theorem run_Itoa {n : Int} (h : i64B n) : ct_Itoa.run [.c (.im (.int .i64 n))] [] = some (.one { val := .c (.im (.str ⟨(Lib.itoa n).toArray⟩)) }) := by
 refine zAd (args := fun n : Z64 => ([D.c (.im (.int .i64 n.1))], [])) ?_ ⟨n, h⟩
 rintro ⟨a, _⟩ ⟨b, _⟩ h
 simp only [Prod.mk.injEq, List.cons.injEq, D.c.injEq, C.im.injEq, I.int.injEq, true_and, and_true] at h
 exact Subtype.ext h
theorem calls_Itoa {n : Int} (h : i64B n) {w : World} (hL : Laid (fun _ => none) w) : Calls Tryz.prog 146 #[.int .i64 n] w fun e w' => e = .returned (.string ⟨(Lib.itoa n).toArray⟩) ∧ Below w.heap.size w w' :=
 (Any.strconv_Itoa Tryz.lays171 n h.1 h.2 w (laid_itoa hL)).mono fun e w' ⟨he, k, os, hw⟩ => ⟨he, by rw [hw]; exact below_grow w k os⟩
theorem law_Itoa : Law Tryz.prog 146 ct_Itoa := by
 refine law_ext (ds := fun n : Z64 => [.c (.im (.int .i64 n.1))]) Tryz.func146 rfl rfl (fun a => zAv rfl) (fun ⟨n, h⟩ args w hl hv hL => ?_)
 obtain ⟨v, rfl⟩ := one_arg hl rfl
 obtain ⟨g, hg⟩ := hv 0 _ v rfl rfl
 rw [int_dv hg]
 exact (calls_Itoa h hL).mono fun e w' ⟨he, hB⟩ => ⟨_, he, ⟨_, rfl, rfl, rfl, fun _ => rfl, dv_im fun _ => .str _⟩, hB⟩
abbrev S21 := { s : Txt // s.length ≤ 2097152 }
noncomputable def ct_number : Ct := fam true (fun s : S21 => ([.c (.im (.str ⟨s.1.toArray⟩))], [])) (fun s => .one { val := .tup [.c (.im (.int .i64 (numF s.1).1)), .c (.im (.bool (numF s.1).2))] })
theorem S21_inj : ∀ a b : S21, ([D.c (.im (.str ⟨a.1.toArray⟩))], ([] : List (List B))) = ([D.c (.im (.str ⟨b.1.toArray⟩))], []) → a = b := by
 rintro ⟨a, _⟩ ⟨b, _⟩ h
 simp only [Prod.mk.injEq, List.cons.injEq, D.c.injEq, C.im.injEq, I.str.injEq, ba_inj, true_and, and_true] at h
 exact Subtype.ext h
theorem zFd {s : Txt} (h : s.length ≤ 2097152) : ct_number.run [.c (.im (.str ⟨s.toArray⟩))] [] = some (.one { val := .tup [.c (.im (.int .i64 (numF s).1)), .c (.im (.bool (numF s).2))] }) :=
 zAd (args := fun s : S21 => ([D.c (.im (.str ⟨s.1.toArray⟩))], [])) S21_inj ⟨s, h⟩
theorem okR_nb {sc : Bool} {n : Int} {b : Bool} : OkR sc { val := .tup [.c (.im (.int .i64 n)), .c (.im (.bool b))] } :=
 ⟨.tup _ (by intro d hd; simp at hd; rcases hd with rfl | rfl; exact .inl ⟨_, rfl, zCg rfl⟩; exact .inl ⟨_, rfl, zCg rfl⟩), by simp, by simp⟩
theorem dv_nb {n : Int} {b : Bool} (g : Gh) : DV g (.tup [.c (.im (.int .i64 n)), .c (.im (.bool b))]) (.tuple #[.int .i64 n, .bool b]) := by
 refine .tup _ _ rfl fun j d v hd hv => ?_
 match j, hd, hv with
 | 0, hd, hv => simp at hd hv; subst hd hv; exact dv_im (fun _ => .int _ _) g
 | 1, hd, hv => simp at hd hv; subst hd hv; exact dv_im (fun _ => .bool _) g
 | j + 2, hd, hv => simp at hd
theorem laidB {w w' : World} (h : Laid (fun _ => none) w) (hB : Below w.heap.size w w') : Laid (fun _ => none) w' := h.move fun b hb _ => ⟨rfl, hB.block b hb⟩
theorem calls_Atoi_ok {s : Txt} (hs : s.length ≤ 2097152) {v : Int} (h : Lib.atoiAll s = .ok v) (w : World) : Calls Tryz.prog 151 #[.string ⟨s.toArray⟩] w fun e w' => e = .returned (.tuple #[.int .i64 v, .nilIface]) ∧ Below w.heap.size w w' :=
 (Any.strconv_Atoi_ok Tryz.lays172 ⟨s.toArray⟩ (by rw [zEr]; omega) v (by simpa using h) w).mono fun e w' ⟨he, hw⟩ => ⟨he, by
   rcases hw with rfl | ⟨t, rfl⟩
   · exact Below.refl _ _
   · exact Lib.bytesWorld_below _ _ _⟩
theorem calls_Atoi_no {s : Txt} (hs : s.length ≤ 2097152) (h : Lib.atoiAll s = Lib.NumEnd.syntax ∨ Lib.atoiAll s = .range) {w : World} (hL : Laid (fun _ => none) w) :
   Calls Tryz.prog 151 #[.string ⟨s.toArray⟩] w fun e w' => ∃ N t, e = .returned (.tuple #[.int .i64 (numF s).1, .iface t (.pointer (some ⟨N, 0, none⟩))]) ∧ Below w.heap.size w w' := by
 rcases h with h | h
 · obtain ⟨t, p, hc⟩ := laid_err hL (b := 3) (.inl rfl)
   refine (Any.strconv_Atoi_syntax Tryz.lays172 ⟨s.toArray⟩ (by rw [zEr]; omega) (by simpa using h) _ w hc (.inr ⟨t, p, rfl⟩)).mono fun e w' ⟨N, he, _, _, hB⟩ => ⟨N, Tryz.lays172_ren.t 168, ?_, hB⟩
   rw [he]; simp [numF, h]
 · obtain ⟨t, p, hc⟩ := laid_err hL (b := 4) (.inr rfl)
   refine (Any.strconv_Atoi_range Tryz.lays172 ⟨s.toArray⟩ (by rw [zEr]; omega) (by simpa using h) _ w hc (.inr ⟨t, p, rfl⟩)).mono fun e w' ⟨N, he, _, _, hB⟩ => ⟨N, Tryz.lays172_ren.t 168, ?_, hB⟩
   rw [he]; simp [numF, h]
set_option maxHeartbeats 4000000 in
theorem calls_number {s : Txt} (hs : s.length ≤ 2097152) {w : World} (hL : Laid (fun _ => none) w) : Calls Tryz.prog 78 #[.string ⟨s.toArray⟩] w fun e w' => e = .returned (.tuple #[.int .i64 (numF s).1, .bool (numF s).2]) ∧ Below w.heap.size w w' := by
 rcases (show (∃ v, Lib.atoiAll s = .ok v) ∨ Lib.atoiAll s = Lib.NumEnd.syntax ∨ Lib.atoiAll s = .range from by cases Lib.atoiAll s <;> simp) with ⟨v, h⟩ | h | h
 · have hb := Lib.atoiAll_bounds h
   go_enter Tryz.func78, Tryz.ntmps78
   go_wp2_with (first
     | (go_at_call 151; refine (calls_Atoi_ok hs h _).mono ?_; rintro e w1 ⟨rfl, hB⟩)
     | (go_at_call 146; refine (calls_Itoa hb (laidB hL hB)).mono ?_; rintro e w2 ⟨rfl, hB2⟩))
   go_ret2
   refine ⟨?_, hB.trans (hB2.mono hB.size)⟩
   have e : (Lib.itoa v == s) = decide (Lib.itoa v = s) := by by_cases h : Lib.itoa v = s <;> simp [h]
   simp [numF, h, e]
 · have hn : (numF s).2 = false := by simp [numF, h]
   go_enter Tryz.func78, Tryz.ntmps78
   go_wp2_with (go_at_call 151; refine (calls_Atoi_no hs (.inl h) hL).mono ?_; rintro e w1 ⟨N, t, rfl, hB⟩)
   go_ret2
   rw [hn]
   exact ⟨rfl, hB⟩
 · have hn : (numF s).2 = false := by simp [numF, h]
   go_enter Tryz.func78, Tryz.ntmps78
   go_wp2_with (go_at_call 151; refine (calls_Atoi_no hs (.inr h) hL).mono ?_; rintro e w1 ⟨N, t, rfl, hB⟩)
   go_ret2
   rw [hn]
   exact ⟨rfl, hB⟩
theorem law_number : Law Tryz.prog 78 ct_number := by
 refine law_ext (ds := fun s : S21 => [.c (.im (.str ⟨s.1.toArray⟩))]) Tryz.func78 rfl rfl (fun a => okO okR_nb) (fun ⟨s, h⟩ args w hl hv hL => ?_)
 obtain ⟨v, rfl⟩ := one_arg hl rfl
 obtain ⟨g, hg⟩ := hv 0 _ v rfl rfl
 rw [str_dv hg]
 exact (calls_number h hL).mono fun e w' ⟨he, hB⟩ => ⟨_, he, ⟨_, rfl, rfl, rfl, fun _ => rfl, dv_nb⟩, hB⟩
abbrev U32 := { m : Nat // 0 < m ∧ m < 4294967296 }
noncomputable def ct_tz : Ct := fam true (fun m : U32 => ([.c (.im (.int .u32 (m.1 : Int)))], [])) (fun m => .one { val := .c (.im (.int .i64 (tz m.1 : Int))) })
theorem run_tz {m : Nat} (h0 : 0 < m) (h : m < 4294967296) : ct_tz.run [.c (.im (.int .u32 (m : Int)))] [] = some (.one { val := .c (.im (.int .i64 (tz m : Int))) }) := by
 refine zAd (args := fun m : U32 => ([D.c (.im (.int .u32 (m.1 : Int)))], [])) ?_ ⟨m, h0, h⟩
 rintro ⟨a, _⟩ ⟨b, _⟩ h
 simp only [Prod.mk.injEq, List.cons.injEq, D.c.injEq, C.im.injEq, I.int.injEq, true_and, and_true, Int.natCast_inj] at h
 exact Subtype.ext h
theorem ctzFrom_tz : ∀ (f m : Nat), 0 < m → m < 2 ^ f → Lib.ctzFrom f m = tz m
 | 0, m, h0, h => by simp at h; omega
 | f + 1, m, h0, h => by
   unfold Lib.ctzFrom tz
   by_cases h1 : m % 2 = 1
   · rw [if_pos h1, dif_pos (.inr h1)]
   · rw [if_neg h1, dif_neg (by omega), ctzFrom_tz f (m / 2) (by omega) (by rw [Nat.pow_succ] at h; omega)]
     omega
theorem law_tz : Law Tryz.prog 206 ct_tz := by
 refine law_ext (ds := fun m : U32 => [.c (.im (.int .u32 (m.1 : Int)))]) Tryz.func206 rfl rfl (fun a => zAv rfl) (fun ⟨m, h0, h⟩ args w hl hv hL => ?_)
 obtain ⟨v, rfl⟩ := one_arg hl rfl
 obtain ⟨g, hg⟩ := hv 0 _ v rfl rfl
 rw [int_dv hg]
 refine (Any7.bits_TrailingZeros32 Tryz.lays28 m h w (fun _ => laid_tz hL)).mono fun e w' ⟨he, hw⟩ => ⟨_, he, ⟨_, rfl, rfl, rfl, fun _ => rfl, ?_⟩, by rw [hw]; exact Below.refl _ _⟩
 have e1 : Lib.ctz 32 m = tz m := by
   unfold Lib.ctz
   rw [if_neg (by omega), ctzFrom_tz 32 m h0 h]
 rw [e1]
 exact dv_im fun _ => .int _ _
abbrev SB := { x : Txt × UInt8 // x.1.length ≤ 2097152 }
def oCut (s : Txt) (c : UInt8) : Outs := .one { val := .tup [.c (.im (.str ⟨(Lib.cut s [c]).1.toArray⟩)), .c (.im (.str ⟨(Lib.cut s [c]).2.1.toArray⟩)), .c (.im (.bool (Lib.cut s [c]).2.2))] }
noncomputable def ct_Cut : Ct := fam true (fun x : SB => ([.c (.im (.str ⟨x.1.1.toArray⟩)), .c (.im (.str ⟨#[x.1.2]⟩))], [])) (fun x => oCut x.1.1 x.1.2)
theorem run_Cut {s : Txt} (h : s.length ≤ 2097152) (c : UInt8) : ct_Cut.run [.c (.im (.str ⟨s.toArray⟩)), .c (.im (.str ⟨#[c]⟩))] [] = some (oCut s c) := by
 refine zAd (args := fun x : SB => ([D.c (.im (.str ⟨x.1.1.toArray⟩)), .c (.im (.str ⟨#[x.1.2]⟩))], [])) ?_ ⟨(s, c), h⟩
 rintro ⟨⟨a, b⟩, _⟩ ⟨⟨a', b'⟩, _⟩ h
 simp only [Prod.mk.injEq, List.cons.injEq, D.c.injEq, C.im.injEq, I.str.injEq, ba_inj, true_and, and_true] at h
 exact Subtype.ext (Prod.ext h.1 h.2)
theorem law_Cut : Law Tryz.prog 77 ct_Cut := by
 refine law_ext (ds := fun x : SB => [.c (.im (.str ⟨x.1.1.toArray⟩)), .c (.im (.str ⟨#[x.1.2]⟩))]) Tryz.func77 rfl rfl (fun a => okO ⟨.tup _ (by intro d hd; simp at hd; rcases hd with rfl | rfl | rfl <;> exact .inl ⟨_, rfl, zCg rfl⟩), by simp, by simp⟩) (fun ⟨⟨s, c⟩, h⟩ args w hl hv hL => ?_)
 match args, hl with
 | [v0, v1], _ =>
   obtain ⟨g, hg⟩ := hv 0 _ v0 rfl rfl
   obtain ⟨g', hg'⟩ := hv 1 _ v1 rfl rfl
   rw [str_dv hg, str_dv hg']
   obtain ⟨m, hm⟩ := laid_max hL
   refine (Any.strings_Cut Tryz.lays145 ⟨s.toArray⟩ ⟨#[c]⟩ m w (by rw [zEr]; simp only at h; omega) hm).mono fun e w' ⟨he, n, hw⟩ => ⟨_, he, ⟨_, rfl, rfl, rfl, fun _ => rfl, fun g => ?_⟩, by rw [hw]; exact below_drewN w n⟩
   refine .tup _ _ rfl fun j d v hd hv => ?_
   match j, hd, hv with
   | 0, hd, hv => simp at hd hv; subst hd hv; exact dv_im (fun _ => .str _) g
   | 1, hd, hv => simp at hd hv; subst hd hv; exact dv_im (fun _ => .str _) g
   | 2, hd, hv => simp at hd hv; subst hd hv; exact dv_im (fun _ => .bool _) g
   | j + 3, hd, hv => simp at hd
end Go.SX
namespace Go.SX
open Go Go.Proofs Go.RowKit
def rowsS (ps : List Txt) : List (List I) := ps.map fun p => [.str ⟨p.toArray⟩]
theorem zBo (ps : List Txt) : (rowsS ps).length = ps.length := by simp [rowsS]
theorem zAt : rowsS [] = [] := rfl
theorem zCy (p : Txt) (ps : List Txt) : rowsS (p :: ps) = [.str ⟨p.toArray⟩] :: rowsS ps := rfl
theorem rowsS_eq {a b : List Txt} : (rowsS a = rowsS b) = (a = b) := by
 apply propext
 constructor
 · intro h
   induction a generalizing b with
   | nil => cases b with
     | nil => rfl
     | cons y b => simp [rowsS] at h
   | cons x a ih => cases b with
     | nil => simp [rowsS] at h
     | cons y b =>
       simp only [zCy, List.cons.injEq, I.str.injEq, ba_inj, and_true] at h
       rw [h.1, ih h.2]
 · rintro rfl; rfl
theorem splitB_T (s : Txt) (c : UInt8) : Lib.splitB ⟨#[c]⟩ 0 (Lib.countB ⟨s.toArray⟩ ⟨#[c]⟩) ⟨s.toArray⟩ = (splT c s).map fun p => (⟨p.toArray⟩ : ByteArray) := by
 have h := Lib.splitB_data ⟨#[c]⟩ 0 (Lib.countB ⟨s.toArray⟩ ⟨#[c]⟩) ⟨s.toArray⟩
 have e : (⟨#[c]⟩ : ByteArray).data.toList = [c] := rfl
 have e2 : (⟨s.toArray⟩ : ByteArray).data.toList = s := by simp
 rw [e, e2, splitK_one c _ s (by rw [Lib.countB, e, e2, Lib.count_one]; exact Nat.le_refl _)] at h
 have h2 := congrArg (List.map fun p : Txt => (⟨p.toArray⟩ : ByteArray)) h
 rw [List.map_map] at h2
 rw [← h2]
 conv => lhs; rw [← List.map_id (Lib.splitB _ _ _ _)]
 refine List.map_congr_left fun x _ => ?_
 exact ba_eta x
noncomputable def ct_Split : Ct := fam false (fun x : SB => ([.c (.im (.str ⟨x.1.1.toArray⟩)), .c (.im (.str ⟨#[x.1.2]⟩))], [])) (fun x => .one { val := .c (.im (.sl 1 (rowsS (splT x.1.2 x.1.1)))) })
theorem run_Split {s : Txt} (h : s.length ≤ 2097152) (c : UInt8) : ct_Split.run [.c (.im (.str ⟨s.toArray⟩)), .c (.im (.str ⟨#[c]⟩))] [] = some (.one { val := .c (.im (.sl 1 (rowsS (splT c s)))) }) := by
 refine zAd (args := fun x : SB => ([D.c (.im (.str ⟨x.1.1.toArray⟩)), .c (.im (.str ⟨#[x.1.2]⟩))], [])) ?_ ⟨(s, c), h⟩
 rintro ⟨⟨a, b⟩, _⟩ ⟨⟨a', b'⟩, _⟩ h
 simp only [Prod.mk.injEq, List.cons.injEq, D.c.injEq, C.im.injEq, I.str.injEq, ba_inj, true_and, and_true] at h
 exact Subtype.ext (Prod.ext h.1 h.2)
theorem sc_Split : (ct_Split.sc = true) = False := by simp [ct_Split, fam]
theorem law_Split : Law Tryz.prog 39 ct_Split := by
 have := law_extS (P := Tryz.prog) (ds := fun x : SB => [.c (.im (.str ⟨x.1.1.toArray⟩)), .c (.im (.str ⟨#[x.1.2]⟩))]) (out := fun x : SB => (splT x.1.2 x.1.1).map fun p => (⟨p.toArray⟩ : ByteArray)) Tryz.func39 rfl rfl (fun ⟨⟨s, c⟩, h⟩ args w hl hv hL => ?_)
 · simp only [List.map_map] at this
   exact this
 match args, hl with
 | [v0, v1], _ =>
   obtain ⟨g, hg⟩ := hv 0 _ v0 rfl rfl
   obtain ⟨g', hg'⟩ := hv 1 _ v1 rfl rfl
   rw [str_dv hg, str_dv hg']
   obtain ⟨m, hm⟩ := laid_max hL
   have hs : (⟨s.toArray⟩ : ByteArray).size < 4294967281 := by rw [zEr]; simp only at h; omega
   refine (Any.strings_Split Tryz.lays146 (by kernel_rfl) ⟨s.toArray⟩ ⟨#[c]⟩ m w hs hm (Nat.le_refl 1)).mono fun e w' ⟨he, hw⟩ => ?_
   have hlen := Lib.splitB_all ⟨#[c]⟩ (Nat.le_refl 1) 0 _ ⟨s.toArray⟩ rfl
   rw [splitB_T] at hw hlen
   refine ⟨_, Lib.countB ⟨s.toArray⟩ ⟨#[c]⟩ + 1, ?_, by rw [hlen]; omega, hw⟩
   rw [he, hlen]
end Go.SX
namespace Go.SX
open Go Go.Proofs Ieee
theorem bits_m23 (x : Nat) : bitsI .and .u32 (x : Int) 8388607 = ((x % 8388608 : Nat) : Int) := by
 have h : (BitVec.ofInt 32 (x : Int) &&& BitVec.ofInt 32 8388607).toNat = x % 8388608 := by
   rw [BitVec.toNat_and]
   have e1 : (BitVec.ofInt 32 (x : Int)).toNat = x % 2 ^ 32 := by simp
   have e2 : (BitVec.ofInt 32 8388607).toNat = 2 ^ 23 - 1 := by decide
   rw [e1, e2, Nat.and_two_pow_sub_one_eq_mod]
   omega
 show IntKind.u32.wrap _ = _
 rw [show (IntKind.u32.bits) = 32 from rfl, h]
 show (((x % 8388608 : Nat) : Int) % 4294967296) = _
 omega
theorem bits_m8 (x : Nat) : bitsI .and .u32 (x : Int) 255 = ((x % 256 : Nat) : Int) := by
 have h : (BitVec.ofInt 32 (x : Int) &&& BitVec.ofInt 32 255).toNat = x % 256 := by
   rw [BitVec.toNat_and]
   have e1 : (BitVec.ofInt 32 (x : Int)).toNat = x % 2 ^ 32 := by simp
   have e2 : (BitVec.ofInt 32 255).toNat = 2 ^ 8 - 1 := by decide
   rw [e1, e2, Nat.and_two_pow_sub_one_eq_mod]
   omega
 show IntKind.u32.wrap _ = _
 rw [show (IntKind.u32.bits) = 32 from rfl, h]
 show (((x % 256 : Nat) : Int) % 4294967296) = _
 omega
theorem bits_or23 {x : Nat} (hx : x < 8388608) : bitsI .or .u32 (x : Int) 8388608 = ((8388608 + x : Nat) : Int) := by
 have h : (BitVec.ofInt 32 (x : Int) ||| BitVec.ofInt 32 8388608).toNat = 8388608 + x := by
   rw [BitVec.toNat_or]
   have e1 : (BitVec.ofInt 32 (x : Int)).toNat = x := by simp; omega
   have e2 : (BitVec.ofInt 32 8388608).toNat = 2 ^ 23 := by decide
   rw [e1, e2, Nat.or_comm]
   have := Nat.two_pow_add_eq_or_of_lt (i := 23) (b := x) (by omega) 1
   rw [Nat.mul_one] at this
   exact this.symm
 show IntKind.u32.wrap _ = _
 rw [show (IntKind.u32.bits) = 32 from rfl, h]
 show (((8388608 + x : Nat) : Int) % 4294967296) = _
 omega
theorem shr_nat (x k : Nat) (hk : k ≤ 32) : (x : Int).fdiv (2 ^ min (k : Int).toNat 32) = ((x / 2 ^ k : Nat) : Int) := by
 rw [Int.toNat_natCast, Nat.min_eq_left hk]
 have h : (0 : Int) ≤ 2 ^ k := by exact_mod_cast Nat.zero_le (2 ^ k)
 rw [Int.fdiv_eq_ediv_of_nonneg _ h]
 exact_mod_cast rfl
theorem zBv {n : Int} (h : i64B n) : (Lib.itoa n).length ≤ 21 := Lib.itoa_length_le n h.1 h.2
theorem fin_nan {w : Nat} (h : isFin w = true) : isNaNb .f32 w = false := by
 cases hn : isNaNb .f32 w with
 | false => rfl
 | true => rw [isFin_nan hn] at h; cases h
def fsT (w : Nat) : Txt := if isFin w then fmtT w else []
theorem mag_bits {r : Nat} (h1 : r < 2139095040) : (r / 8388608 = 0 → rgM single r = r ∧ rgE single r = -149) ∧ (r / 8388608 ≠ 0 → rgM single r = 8388608 + r % 8388608 ∧ rgE single r = ((r / 8388608 : Nat) : Int) - 150) := by
 unfold rgM rgE
 rw [bn1, ep1]
 refine ⟨fun h => ?_, fun h => ?_⟩
 · rw [if_pos (by omega), if_pos (by omega)]; exact ⟨rfl, rfl⟩
 · rw [if_neg (by omega), if_neg (by omega)]; exact ⟨rfl, by omega⟩
abbrev W32a := { w : Nat // w < 4294967296 }
noncomputable def zDz : Ct := fam true (fun w : W32a => ([.c (.im (.flt .f32 w.1))], [])) (fun w => .one { val := .c (.im (.str ⟨(fsT w.1).toArray⟩)) })
theorem zAu {w : Nat} (h : w < 4294967296) : zDz.run [.c (.im (.flt .f32 w))] [] = some (.one { val := .c (.im (.str ⟨(fsT w).toArray⟩)) }) := by
 refine zAd (args := fun w : W32a => ([D.c (.im (.flt .f32 w.1))], [])) ?_ ⟨w, h⟩
 rintro ⟨a, _⟩ ⟨b, _⟩ h
 simp only [Prod.mk.injEq, List.cons.injEq, D.c.injEq, C.im.injEq, I.flt.injEq, true_and, and_true] at h
 exact Subtype.ext h
set_option maxRecDepth 100000 in
set_option maxHeartbeats 4000000 in
theorem zHe : Law Tryz.prog 145 zDz := by
 refine zAf (zAc law_isFinite (zCn law_bits (zAc law_tz (zAc law_Itoa zAe)))) hmixA Tryz.func145 rfl rfl (fun ⟨w, hw⟩ => ⟨zAv rfl, by simp [Tryz.f145], ?_⟩)
 simp only
 cases hf : isFin w with
 | false =>
   have e : fsT w = [] := by simp [fsT, hf]
   try simp -dsimp (maxSteps := 1000000) only [go_sem, List.forall_mem_nil, ↓reduceIte, Nat.reduceEqDiff, Nat.reduceLT, Nat.reduceLeDiff, Nat.reduceAdd, Nat.reduceMul, reduceCtorEq, Tryz.f145, zCe, hf, e, Bool.not_false]
 | true =>
   have hn := fin_nan hf
   have hr : w % 2147483648 < 2139095040 := by simp only [isFin, decide_eq_true_eq] at hf; omega
   obtain ⟨r, hre⟩ : ∃ r, w % 2147483648 = r := ⟨_, rfl⟩
   have e : fsT w = sgnT (decide (2147483648 ≤ w)) ++ magT r := by simp [fsT, hf, fmtT, hre]
   rw [hre] at hr
   obtain ⟨m1, m2⟩ := mag_bits hr
   have h31 : (w : Int).fdiv (2 ^ min (Int.toNat 31) 32) = ((w / 2147483648 : Nat) : Int) := shr_nat w 31 (by omega)
   have h23 : (w : Int).fdiv (2 ^ min (Int.toNat 23) 32) = ((w / 8388608 : Nat) : Int) := shr_nat w 23 (by omega)
   have hwe : IntKind.i64.wrap ((r / 8388608 : Nat) : Int) = ((r / 8388608 : Nat) : Int) := zAi (by omega) (by omega)
   have hlow : w % 8388608 = r % 8388608 := by omega
   have hexp : w / 8388608 % 256 = r / 8388608 := by omega
   obtain ⟨S, hS, sl, c31, hsg⟩ : ∃ S : Txt, fsT w = S ++ magT r ∧ S.length ≤ 1 ∧ ((((w / 2147483648 : Nat) : Int) = 1) = True ∧ S = [45] ∨ (((w / 2147483648 : Nat) : Int) = 1) = False ∧ S = []) ∧ True := by
     rw [e]
     by_cases hs : 2147483648 ≤ w
     · exact ⟨[45], by simp [sgnT, hs], by simp, .inl ⟨eq_true (by omega), rfl⟩, trivial⟩
     · exact ⟨[], by simp [sgnT, hs], by simp, .inr ⟨eq_false (by omega), rfl⟩, trivial⟩
   clear e hsg
   rw [hS]
   by_cases hr0 : r = 0
   · subst hr0
     have ce : (((0 / 8388608 : Nat) : Int) = 0) = True := by simp
     have cm : (((0 % 8388608 : Nat) : Int) = 0) = True := by simp
     have z : magT 0 = [48] := rfl
     rcases c31 with ⟨c31, rfl⟩ | ⟨c31, rfl⟩
     · skip
       try simp -dsimp (maxSteps := 1000000) only [go_sem, List.forall_mem_nil, ↓reduceIte, Nat.reduceEqDiff, Nat.reduceLT, Nat.reduceLeDiff, Nat.reduceAdd, Nat.reduceMul, reduceCtorEq, Tryz.f145, zCe, hf, Bool.not_true, zDt hn, h31, h23, bits_m23, bits_m8, hlow, hexp, hwe, c31, ce, cm, z, Int.reduceLT, zDd, List.size_toArray, Nat.reduceAdd, Nat.reduceLeDiff]
     · skip
       try simp -dsimp (maxSteps := 1000000) only [go_sem, List.forall_mem_nil, ↓reduceIte, Nat.reduceEqDiff, Nat.reduceLT, Nat.reduceLeDiff, Nat.reduceAdd, Nat.reduceMul, reduceCtorEq, Tryz.f145, zCe, hf, Bool.not_true, zDt hn, h31, h23, bits_m23, bits_m8, hlow, hexp, hwe, c31, ce, cm, z, Int.reduceLT, zDd, List.size_toArray, Nat.reduceAdd, Nat.reduceLeDiff]
   have hrp : 0 < r := Nat.pos_of_ne_zero hr0
   have hmd := md_of hrp hr
   have hMp := zFf hrp
   have hMl := rungM_lt (r := r)
   have hz := tz_pow (k := 24) hMp hMl
   obtain ⟨E1, E2⟩ := rungE_lt hr
   have hsh : ((rgM single r : Nat) : Int).fdiv (2 ^ min (Int.toNat ((tz (rgM single r) : Nat) : Int)) 32) = ((mdM r : Nat) : Int) := shr_nat _ _ (by omega)
   have hs2 : IntKind.i64.wrap (rgE single r + ((tz (rgM single r) : Nat) : Int)) = mdE r := by rw [zAi (by omega) (by omega)]; rfl
   have rz := run_tz hMp (by omega : rgM single r < 4294967296)
   have hneg : (((tz (rgM single r) : Nat) : Int) < 0) = False := eq_false (by omega)
   have mdl := hmd.lt
   have hb1 : i64B ((mdM r : Nat) : Int) := ⟨by omega, by omega⟩
   have hb2 : i64B (mdE r) := ⟨by have := hmd.lo; omega, by have := hmd.hi; omega⟩
   have hwm : IntKind.i64.wrap ((mdM r : Nat) : Int) = ((mdM r : Nat) : Int) := zAi hb1.1 hb1.2
   have ri1 := run_Itoa hb1
   have ri2 := run_Itoa hb2
   have hmag : magT r = Lib.itoa (mdM r) ++ 112 :: Lib.itoa (mdE r) := by simp [magT, hr0]
   have la := zBv hb1
   have lb := zBv hb2
   have hM0 : (((rgM single r : Nat) : Int) = 0) = False := eq_false (by omega)
   generalize Lib.itoa (mdM r) = A at *
   generalize Lib.itoa (mdE r) = B at *
   have q1 : (1 + A.length ≤ 4611686018427387904) = True := eq_true (by omega)
   have q2 : (A.length + 1 + 1 ≤ 4611686018427387904) = True := eq_true (by omega)
   have q3 : (A.length + 1 + 1 + B.length ≤ 4611686018427387904) = True := eq_true (by omega)
   have q4 : (A.length ≤ 4611686018427387904) = True := eq_true (by omega)
   have q5 : (A.length + 1 ≤ 4611686018427387904) = True := eq_true (by omega)
   have q6 : (A.length + 1 + B.length ≤ 4611686018427387904) = True := eq_true (by omega)
   have hfin : S ++ A ++ [112] ++ B = S ++ magT r := by rw [hmag]; simp
   rw [← hfin]
   by_cases he0 : r / 8388608 = 0
   · obtain ⟨k1, k2⟩ := m1 he0
     have ce : (((r / 8388608 : Nat) : Int) = 0) = True := eq_true (by omega)
     have hmm : r % 8388608 = rgM single r := by rw [k1]; omega
     have hs1 : IntKind.i64.wrap (1 - 150) = rgE single r := by rw [k2]; decide
     rcases c31 with ⟨c31, rfl⟩ | ⟨c31, rfl⟩
     · skip
       try simp -dsimp (maxSteps := 1000000) only [go_sem, List.forall_mem_nil, ↓reduceIte, Nat.reduceEqDiff, Nat.reduceLT, Nat.reduceLeDiff, Nat.reduceAdd, Nat.reduceMul, reduceCtorEq, Tryz.f145, zCe, hf, Bool.not_true, zDt hn, h31, h23, bits_m23, bits_m8, hlow, hexp, hwe, c31, ce, hmm, hM0, rz, hsh, hneg, hwm, ri1, hs1, hs2, ri2, Int.reduceLT, zDd, List.size_toArray, List.length_append, q1, q2, q3, q4, q5, q6]
     · skip
       try simp -dsimp (maxSteps := 1000000) only [go_sem, List.forall_mem_nil, ↓reduceIte, Nat.reduceEqDiff, Nat.reduceLT, Nat.reduceLeDiff, Nat.reduceAdd, Nat.reduceMul, reduceCtorEq, Tryz.f145, zCe, hf, Bool.not_true, zDt hn, h31, h23, bits_m23, bits_m8, hlow, hexp, hwe, c31, ce, hmm, hM0, rz, hsh, hneg, hwm, ri1, hs1, hs2, ri2, Int.reduceLT, zDd, List.size_toArray, List.length_append, q1, q2, q3, q4, q5, q6]
   · obtain ⟨k1, k2⟩ := m2 he0
     have ce : (((r / 8388608 : Nat) : Int) = 0) = False := eq_false (by omega)
     have hor : bitsI .or .u32 ((r % 8388608 : Nat) : Int) 8388608 = ((rgM single r : Nat) : Int) := by rw [bits_or23 (by omega), k1]
     have hs1 : IntKind.i64.wrap (((r / 8388608 : Nat) : Int) - 150) = rgE single r := by rw [k2, zAi (by omega) (by omega)]
     rcases c31 with ⟨c31, rfl⟩ | ⟨c31, rfl⟩
     · skip
       try simp -dsimp (maxSteps := 1000000) only [go_sem, List.forall_mem_nil, ↓reduceIte, Nat.reduceEqDiff, Nat.reduceLT, Nat.reduceLeDiff, Nat.reduceAdd, Nat.reduceMul, reduceCtorEq, Tryz.f145, zCe, hf, Bool.not_true, zDt hn, h31, h23, bits_m23, bits_m8, hlow, hexp, hwe, c31, ce, hor, hM0, rz, hsh, hneg, hwm, ri1, hs1, hs2, ri2, Int.reduceLT, zDd, List.size_toArray, List.length_append, q1, q2, q3, q4, q5, q6]
     · skip
       try simp -dsimp (maxSteps := 1000000) only [go_sem, List.forall_mem_nil, ↓reduceIte, Nat.reduceEqDiff, Nat.reduceLT, Nat.reduceLeDiff, Nat.reduceAdd, Nat.reduceMul, reduceCtorEq, Tryz.f145, zCe, hf, Bool.not_true, zDt hn, h31, h23, bits_m23, bits_m8, hlow, hexp, hwe, c31, ce, hor, hM0, rz, hsh, hneg, hwm, ri1, hs1, hs2, ri2, Int.reduceLT, zDd, List.size_toArray, List.length_append, q1, q2, q3, q4, q5, q6]
end Go.SX
