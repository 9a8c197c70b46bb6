/-
  Points: isNoughts, EqualPoints, add, scaled, DistanceOf, size, MultiplyPoints.
  place, IsTable.
  place, IsTable, NearestPoint.
  slices.Clone, copyTable, copyRing.
  copyRing, IsRing, isBare, IsModule, copyModule.
  isBare.
  IsModule, copyModule.
  slices.Contains, slices.ContainsFunc, the order of a rack.
  The order of a rack, its end.
  IsRack.
  copyRack.
  A step of a module.
  asItIs, sample, isPlug; the pure step of a rack.
  stepRack.
  stepRack: the walk.
  isPlug, canRun.
  RunRack.
  NewRing, checked, NewDelay, NewHold.
  laws.at, laws.equal.
  TraceRack: the walk.
  Plain words: a line of delay, and what FnDelayed asks of the rack's rows.
  laws.FnDelayed: the walk.
  No condition.
-/
import Derived.Test.YtfmpjhjnpeheeaaGreatDoorPkE
set_option linter.unusedVariables false
set_option linter.unusedSimpArgs false
namespace Go.SX
open Go Go.Proofs
def nz (x : Nat) : Bool := decide ((x : Int) = 0)
def nzP (p : Pt) : Bool := nz p.1 && nz p.2
noncomputable def ct_isNoughts : Ct := fam true (fun x : Pt => ([.c (.im (.cpx .f32 x.1 x.2))], [])) (fun x => .one { val := .c (.im (.bool (nzP x))) })
theorem zAh (x y : Nat) : ct_isNoughts.run [.c (.im (.cpx .f32 x y))] [] = some (.one { val := .c (.im (.bool (nzP (x, y)))) }) := zAd (by
   intro a b h
   simp only [Prod.mk.injEq, List.cons.injEq, D.c.injEq, D.agg.injEq, C.im.injEq, I.cpx.injEq, I.flt.injEq, I.int.injEq, I.sl.injEq, I.bool.injEq, I.str.injEq, Int.natCast_inj, true_and, and_true] at h
   (try simp only [Prod.ext_iff, Subtype.ext_iff])
   (try simp only [zAs, zAw] at h)
   simp_all) (x, y)
set_option maxRecDepth 100000 in
theorem law_isNoughts : Law Tryz.prog 186 ct_isNoughts := by
 refine zAf (zAc zFx zAe) hmixA Tryz.func186 rfl rfl (fun x => ⟨zAv rfl, by simp [Tryz.f186], ?_⟩)
 simp only [nzP, nz]
 try simp -dsimp (maxSteps := 1000000) only [go_sem, List.forall_mem_nil, ↓reduceIte, Nat.reduceEqDiff, Nat.reduceLT, Nat.reduceLeDiff, Nat.reduceAdd, Nat.reduceMul, reduceCtorEq, Tryz.f186, zAm]
 repeat' ((first | (with_reducible refine gS_d ?_ ?_) | (with_reducible refine gS_dn ?_ ?_) | (with_reducible refine gS_i ?_ ?_)) <;> intro hg <;> (try simp -dsimp (maxSteps := 1000000) only [go_sem, List.forall_mem_nil, ↓reduceIte, Nat.reduceEqDiff, Nat.reduceLT, Nat.reduceLeDiff, Nat.reduceAdd, Nat.reduceMul, reduceCtorEq, Tryz.f186, zAm, *]))
 all_goals simp_all
noncomputable def zHg : Ct := fam true (fun x : Pt => ([.c (.im (.cpx .f32 x.1 x.2))], [])) (fun x => .one { val := .c (.im (.bool (isFin x.1 && isFin x.2))) })
theorem zEe (x y : Nat) : zHg.run [.c (.im (.cpx .f32 x y))] [] = some (.one { val := .c (.im (.bool (isFin x && isFin y))) }) := zAd (by
   intro a b h
   simp only [Prod.mk.injEq, List.cons.injEq, D.c.injEq, D.agg.injEq, C.im.injEq, I.cpx.injEq, I.flt.injEq, I.int.injEq, I.sl.injEq, I.bool.injEq, I.str.injEq, Int.natCast_inj, true_and, and_true] at h
   (try simp only [Prod.ext_iff, Subtype.ext_iff])
   (try simp only [zAs, zAw] at h)
   simp_all) (x, y)
set_option maxRecDepth 100000 in
theorem law_isFinitePoint : Law Tryz.prog 187 zHg := by
 refine zAf (zAc law_isFinite zAe) hmixA Tryz.func187 rfl rfl (fun x => ⟨zAv rfl, by simp [Tryz.f187], ?_⟩)
 try simp -dsimp (maxSteps := 1000000) only [go_sem, List.forall_mem_nil, ↓reduceIte, Nat.reduceEqDiff, Nat.reduceLT, Nat.reduceLeDiff, Nat.reduceAdd, Nat.reduceMul, reduceCtorEq, Tryz.f187, zCe]
 repeat' ((first | (with_reducible refine gS_d ?_ ?_) | (with_reducible refine gS_dn ?_ ?_) | (with_reducible refine gS_i ?_ ?_)) <;> intro hg <;> (try simp -dsimp (maxSteps := 1000000) only [go_sem, List.forall_mem_nil, ↓reduceIte, Nat.reduceEqDiff, Nat.reduceLT, Nat.reduceLeDiff, Nat.reduceAdd, Nat.reduceMul, reduceCtorEq, Tryz.f187, zCe, *]))
 all_goals simp_all
def eqPt (p q : Pt) : Bool := fcmp .eql .f32 p.1 q.1 && fcmp .eql .f32 p.2 q.2
noncomputable def ct_EqualPoints : Ct := fam true (fun x : Pt × Pt => ([.c (.im (.cpx .f32 x.1.1 x.1.2)), .c (.im (.cpx .f32 x.2.1 x.2.2))], [])) (fun x => .one { val := .c (.im (.bool (eqPt x.1 x.2))) })
theorem run_EqualPoints (x y u v : Nat) : ct_EqualPoints.run [.c (.im (.cpx .f32 x y)), .c (.im (.cpx .f32 u v))] [] = some (.one { val := .c (.im (.bool (eqPt (x, y) (u, v)))) }) := zAd (by
   intro a b h
   simp only [Prod.mk.injEq, List.cons.injEq, D.c.injEq, D.agg.injEq, C.im.injEq, I.cpx.injEq, I.flt.injEq, I.int.injEq, I.sl.injEq, I.bool.injEq, I.str.injEq, Int.natCast_inj, true_and, and_true] at h
   (try simp only [Prod.ext_iff, Subtype.ext_iff])
   (try simp only [zAs, zAw] at h)
   simp_all) ((x, y), (u, v))
set_option maxRecDepth 100000 in
theorem law_EqualPoints : Law Tryz.prog 246 ct_EqualPoints := by
 refine zAf zAe hmixA Tryz.func246 rfl rfl (fun x => ⟨zAv rfl, by simp [Tryz.f246], ?_⟩)
 simp only [eqPt]
 try simp -dsimp (maxSteps := 1000000) only [go_sem, List.forall_mem_nil, ↓reduceIte, Nat.reduceEqDiff, Nat.reduceLT, Nat.reduceLeDiff, Nat.reduceAdd, Nat.reduceMul, reduceCtorEq, Tryz.f246]
 repeat' ((first | (with_reducible refine gS_d ?_ ?_) | (with_reducible refine gS_dn ?_ ?_) | (with_reducible refine gS_i ?_ ?_)) <;> intro hg <;> (try simp -dsimp (maxSteps := 1000000) only [go_sem, List.forall_mem_nil, ↓reduceIte, Nat.reduceEqDiff, Nat.reduceLT, Nat.reduceLeDiff, Nat.reduceAdd, Nat.reduceMul, reduceCtorEq, Tryz.f246, *]))
 all_goals simp_all
def addPt (p q : Pt) : Pt := (fop .add .f32 p.1 q.1, fop .add .f32 p.2 q.2)
def scaleF (p : Pt) (l : Nat) : Pt := (flushF (fop .mul .f32 p.1 l), flushF (fop .mul .f32 p.2 l))
noncomputable def ct_scaled : Ct := fam true (fun x : Pt × Nat => ([.c (.im (.cpx .f32 x.1.1 x.1.2)), .c (.im (.flt .f32 x.2))], [])) (fun x => .one { val := .c (.im (.cpx .f32 (scaleF x.1 x.2).1 (scaleF x.1 x.2).2)) })
theorem run_scaled (x y u : Nat) : ct_scaled.run [.c (.im (.cpx .f32 x y)), .c (.im (.flt .f32 u))] [] = some (.one { val := .c (.im (.cpx .f32 (scaleF (x, y) u).1 (scaleF (x, y) u).2)) }) := zAd (by
   intro a b h
   simp only [Prod.mk.injEq, List.cons.injEq, D.c.injEq, D.agg.injEq, C.im.injEq, I.cpx.injEq, I.flt.injEq, I.int.injEq, I.sl.injEq, I.bool.injEq, I.str.injEq, Int.natCast_inj, true_and, and_true] at h
   (try simp only [Prod.ext_iff, Subtype.ext_iff])
   (try simp only [zAs, zAw] at h)
   simp_all) ((x, y), u)
set_option maxRecDepth 100000 in
theorem law_scaled : Law Tryz.prog 140 ct_scaled := by
 refine zAf (zAc law_flush zAe) hmixA Tryz.func140 rfl rfl (fun x => ⟨zAv rfl, by simp [Tryz.f140], ?_⟩)
 simp only [scaleF]
 try simp -dsimp (maxSteps := 1000000) only [go_sem, List.forall_mem_nil, ↓reduceIte, Nat.reduceEqDiff, Nat.reduceLT, Nat.reduceLeDiff, Nat.reduceAdd, Nat.reduceMul, reduceCtorEq, Tryz.f140, run_flush]
def distF (p q : Pt) : Nat := fop .add .f32 (fop .mul .f32 (fop .sub .f32 p.1 q.1) (fop .sub .f32 p.1 q.1)) (fop .mul .f32 (fop .sub .f32 p.2 q.2) (fop .sub .f32 p.2 q.2))
noncomputable def zHa : Ct := fam true (fun x : Pt × Pt => ([.c (.im (.cpx .f32 x.1.1 x.1.2)), .c (.im (.cpx .f32 x.2.1 x.2.2))], [])) (fun x => .one { val := .c (.im (.flt .f32 (distF x.1 x.2))) })
theorem zBw (x y u v : Nat) : zHa.run [.c (.im (.cpx .f32 x y)), .c (.im (.cpx .f32 u v))] [] = some (.one { val := .c (.im (.flt .f32 (distF (x, y) (u, v)))) }) := zAd (by
   intro a b h
   simp only [Prod.mk.injEq, List.cons.injEq, D.c.injEq, D.agg.injEq, C.im.injEq, I.cpx.injEq, I.flt.injEq, I.int.injEq, I.sl.injEq, I.bool.injEq, I.str.injEq, Int.natCast_inj, true_and, and_true] at h
   (try simp only [Prod.ext_iff, Subtype.ext_iff])
   (try simp only [zAs, zAw] at h)
   simp_all) ((x, y), (u, v))
set_option maxRecDepth 100000 in
theorem law_DistanceOf : Law Tryz.prog 203 zHa := by
 refine zAf zAe hmixA Tryz.func203 rfl rfl (fun x => ⟨zAv rfl, by simp [Tryz.f203], ?_⟩)
 simp only [distF]
 try simp -dsimp (maxSteps := 1000000) only [go_sem, List.forall_mem_nil, ↓reduceIte, Nat.reduceEqDiff, Nat.reduceLT, Nat.reduceLeDiff, Nat.reduceAdd, Nat.reduceMul, reduceCtorEq, Tryz.f203]
def absF (x : Nat) : Nat := if fcmp .lss .f32 x 0 = true then Op.negFloat .f32 x else x
noncomputable def ct_size : Ct := fam true (fun x : Nat => ([.c (.im (.flt .f32 x))], [])) (fun x => .one { val := .c (.im (.flt .f32 (absF x))) })
theorem run_size (x : Nat) : ct_size.run [.c (.im (.flt .f32 x))] [] = some (.one { val := .c (.im (.flt .f32 (absF x))) }) := zAd (by
   intro a b h
   simp only [Prod.mk.injEq, List.cons.injEq, D.c.injEq, D.agg.injEq, C.im.injEq, I.cpx.injEq, I.flt.injEq, I.int.injEq, I.sl.injEq, I.bool.injEq, I.str.injEq, Int.natCast_inj, true_and, and_true] at h
   (try simp only [Prod.ext_iff, Subtype.ext_iff])
   (try simp only [zAs, zAw] at h)
   simp_all) x
set_option maxRecDepth 100000 in
theorem law_size : Law Tryz.prog 142 ct_size := by
 refine zAf zAe hmixA Tryz.func142 rfl rfl (fun x => ⟨zAv rfl, by simp [Tryz.f142], ?_⟩)
 simp only [absF]
 cases h : fcmp .lss .f32 x 0 with
 | false =>
   try simp -dsimp (maxSteps := 1000000) only [go_sem, List.forall_mem_nil, ↓reduceIte, Nat.reduceEqDiff, Nat.reduceLT, Nat.reduceLeDiff, Nat.reduceAdd, Nat.reduceMul, reduceCtorEq, Tryz.f142, h]
 | true =>
   try simp -dsimp (maxSteps := 1000000) only [go_sem, List.forall_mem_nil, ↓reduceIte, Nat.reduceEqDiff, Nat.reduceLT, Nat.reduceLeDiff, Nat.reduceAdd, Nat.reduceMul, reduceCtorEq, Tryz.f142, h]
def mulRe (p q : Pt) : Nat := fop .sub .f64 (fop .mul .f64 (w64 p.1) (w64 q.1)) (fop .mul .f64 (w64 p.2) (w64 q.2))
def mulIm (p q : Pt) : Nat := fop .add .f64 (fop .mul .f64 (w64 p.1) (w64 q.2)) (fop .mul .f64 (w64 p.2) (w64 q.1))
def narrow (o : Nat) (x : Nat) : Nat := (fconv .f64 x .f32).getD (o % 4294967296)
def mulPt (o : Nat × Nat) (p q : Pt) : Pt := (narrow o.1 (mulRe p q), narrow o.2 (mulIm p q))
def oMul (p q : Pt) : Outs := .any (Nat × Nat) (fun o => { val := .c (.im (.cpx .f32 (mulPt o p q).1 (mulPt o p q).2)) })
noncomputable def zEg : Ct := fam true (fun x : Pt × Pt => ([.c (.im (.cpx .f32 x.1.1 x.1.2)), .c (.im (.cpx .f32 x.2.1 x.2.2))], [])) (fun x => oMul x.1 x.2)
theorem zBr (x y u v : Nat) : zEg.run [.c (.im (.cpx .f32 x y)), .c (.im (.cpx .f32 u v))] [] = some (oMul (x, y) (u, v)) := zAd (by
   intro a b h
   simp only [Prod.mk.injEq, List.cons.injEq, D.c.injEq, D.agg.injEq, C.im.injEq, I.cpx.injEq, I.flt.injEq, I.int.injEq, I.sl.injEq, I.bool.injEq, I.str.injEq, Int.natCast_inj, true_and, and_true] at h
   (try simp only [Prod.ext_iff, Subtype.ext_iff])
   (try simp only [zAs, zAw] at h)
   simp_all) ((x, y), (u, v))
theorem ne_nn : Nonempty (Nat × Nat) = True := by simp only [eq_iff_iff, iff_true]; exact ⟨(0, 0)⟩
theorem cK_narrow {x : Nat} {K : Nat → Prop} {t : Tag K} : cK (fconv .f64 x .f32) K t = ∀ o, K (narrow o x) := by
 unfold cK narrow
 cases fconv .f64 x .f32 with
 | some r => simp
 | none => exact propext ⟨fun h o => h _ (Nat.mod_lt _ (by decide)), fun h r hr => by have := h r; simpa [Nat.mod_eq_of_lt hr] using this⟩
set_option maxRecDepth 100000 in
theorem law_MultiplyPoints : Law Tryz.prog 139 zEg := by
 refine zAf zAe hmixA Tryz.func139 rfl rfl (fun x => ⟨okA (fun o => okR_im rfl), by simp [Tryz.f139], ?_⟩)
 simp only [oMul, mulPt, mulRe, mulIm]
 try simp -dsimp (maxSteps := 1000000) only [go_sem, List.forall_mem_nil, ↓reduceIte, Nat.reduceEqDiff, Nat.reduceLT, Nat.reduceLeDiff, Nat.reduceAdd, Nat.reduceMul, reduceCtorEq, Tryz.f139, fconv_w, cK_narrow]
 exact fun a b => ⟨(a, b), rfl, rfl⟩
end Go.SX
namespace Go.SX
open Go Go.Proofs
def idxF {α : Type} (f : α → Bool) : List α → Nat → Int
 | [], _ => -1
 | x :: l, k => if f x = true then (k : Int) else idxF f l (k + 1)
theorem idxF_drop {α : Type} {f : α → Bool} {l : List α} {k : Nat} {p : α} (h : l[k]? = some p) : idxF f (l.drop k) k = if f p = true then (k : Int) else idxF f (l.drop (k + 1)) (k + 1) := by
 have hlt : k < l.length := (List.getElem?_eq_some_iff.1 h).1
 have hp : l[k] = p := by rw [List.getElem?_eq_getElem hlt] at h; injection h
 rw [List.drop_eq_getElem_cons hlt, hp]; rfl
def sm : Nat := 16777216
theorem lt_sm {k n : Nat} (h : n ≤ sm) (hk : k < n) : IntKind.i64.wrap ((k : Int) + 1) = ((k + 1 : Nat) : Int) := by
 have : sm = 16777216 := rfl
 rw [zAi] <;> omega
noncomputable def ct_place_1 : Ct := fam true (fun x : Pt × Pt => ([.c (.im (.cpx .f32 x.1.1 x.1.2)), .c (.ptr 0 0 0 0)], [[.t (.im (.cpx .f32 x.2.1 x.2.2))]])) (fun x => .one { val := .c (.im (.bool (eqPt x.1 x.2))), places := [[.t (.im (.cpx .f32 x.2.1 x.2.2))]] })
theorem run_place_1 (x y u v : Nat) : ct_place_1.run [.c (.im (.cpx .f32 x y)), .c (.ptr 0 0 0 0)] [[.t (.im (.cpx .f32 u v))]] = some (.one { val := .c (.im (.bool (eqPt (x, y) (u, v)))), places := [[.t (.im (.cpx .f32 u v))]] }) := by
 refine zAd (args := fun x : Pt × Pt => ([D.c (.im (.cpx .f32 x.1.1 x.1.2)), .c (.ptr 0 0 0 0)], [[B.t (.im (.cpx .f32 x.2.1 x.2.2))]])) ?_ ((x, y), (u, v))
 rintro ⟨⟨a, b⟩, ⟨c, d⟩⟩ ⟨⟨a', b'⟩, ⟨c', d'⟩⟩ h
 simp at h ⊢
 simp [h]
set_option maxRecDepth 100000 in
theorem law_place_1 : Law Tryz.prog 245 ct_place_1 := by
 refine zAf (zAc law_EqualPoints zAe) hmixA Tryz.func245 rfl rfl (fun x => ⟨okO ⟨okD_im rfl, by simp, by intro c hc x hx; simp at hc; subst hc; simp at hx; subst hx; exact .t _ (.im _ (.inr rfl))⟩, by simp [Tryz.f245], ?_⟩)
 try simp -dsimp (maxSteps := 1000000) only [go_sem, List.forall_mem_nil, ↓reduceIte, Nat.reduceEqDiff, Nat.reduceLT, Nat.reduceLeDiff, Nat.reduceAdd, Nat.reduceMul, reduceCtorEq, Tryz.f245, run_EqualPoints]
noncomputable def zEb : Ct := fam true (fun x : { l : List Pt // l.length ≤ sm } × Pt => ([.c (.im (.sl 1 (rowsZ x.1.1))), .c (.fn (.func 245) [.ptr 0 0 0 0])], [[.t (.im (.cpx .f32 x.2.1 x.2.2))]]))
 (fun x => .one { val := .c (.im (.int .i64 (idxF (eqPt · x.2) x.1.1 0))), places := [[.t (.im (.cpx .f32 x.2.1 x.2.2))]] })
theorem zGq {l : List Pt} (hl : l.length ≤ sm) (u v : Nat) : zEb.run [.c (.im (.sl 1 (rowsZ l))), .c (.fn (.func 245) [.ptr 0 0 0 0])] [[.t (.im (.cpx .f32 u v))]] =
   some (.one { val := .c (.im (.int .i64 (idxF (eqPt · (u, v)) l 0))), places := [[.t (.im (.cpx .f32 u v))]] }) := by
 refine zAd (args := fun x : { l : List Pt // l.length ≤ sm } × Pt => ([D.c (.im (.sl 1 (rowsZ x.1.1))), .c (.fn (.func 245) [.ptr 0 0 0 0])], [[B.t (.im (.cpx .f32 x.2.1 x.2.2))]])) ?_ (⟨l, hl⟩, (u, v))
 rintro ⟨⟨a, b⟩, ⟨c, d⟩⟩ ⟨⟨a', b'⟩, ⟨c', d'⟩⟩ h
 simp [zAs] at h ⊢
 simp [h]
set_option maxRecDepth 100000 in
theorem zGv : Law Tryz.prog 244 zEb := by
 refine zAf (zAc law_place_1 zAe) hmixA Tryz.func244 rfl rfl (fun ⟨⟨l, hl⟩, ⟨u, v⟩⟩ => ⟨okO ⟨okD_im rfl, by simp, by intro c hc x hx; simp at hc; subst hc; simp at hx; subst hx; exact .t _ (.im _ (.inr rfl))⟩, by simp [Tryz.f244], ?_⟩)
 try simp -dsimp (maxSteps := 1000000) only [go_sem, List.forall_mem_nil, ↓reduceIte, Nat.reduceEqDiff, Nat.reduceLT, Nat.reduceLeDiff, Nat.reduceAdd, Nat.reduceMul, reduceCtorEq, Tryz.f244, zAa]
 refine zBh (ι := { k : Nat // k ≤ l.length ∧ idxF (eqPt · (u, v)) l 0 = idxF (eqPt · (u, v)) (l.drop k) k }) (fun k => ⟨[(0, some (.c (.im (.sl 1 (rowsZ l))))), (1, some (.c (.fn (.func 245) [.ptr 0 0 0 0]))), (7, some (.c (.im (.int .i64 (l.length : Int))))), (8, some (.c (.im (.int .i64 (k.1 : Int)))))],
   [(0, some (.box [.t (.im (.cpx .f32 u v))]))], 1⟩) (fun k => l.length - k.1) ⟨0, by simp⟩ ⟨[], [], by ((simp only [go_sem, eq_self, MvRb, MvRn, MvRt, List.nodup_cons, List.nodup_nil, ↓reduceIte, Nat.reduceEqDiff, Nat.reduceLT, Nat.reduceLeDiff, reduceCtorEq, List.forall_mem_nil, Nat.zero_le, false_implies, List.mem_singleton]) <;> (try (simp -dsimp only [go_sem, eq_self, MvRb, MvRn, MvRt, List.nodup_cons, List.nodup_nil, ↓reduceIte, Nat.reduceEqDiff, Nat.reduceLT, Nat.reduceLeDiff, reduceCtorEq, List.forall_mem_nil, Nat.zero_le, false_implies, List.mem_singleton]))) <;> simp⟩ (fun ⟨k, hk, hinv⟩ => ?_)
 by_cases hlt : k < l.length
 · obtain ⟨p, hp⟩ : ∃ p, l[k]? = some p := ⟨_, List.getElem?_eq_getElem hlt⟩
   have hrow := zCf hp
   have hI : ((k : Int) < (l.length : Int)) = True := by simp; omega
   have h0 : (0 ≤ (k : Int)) = True := by simp
   have hidx := idxF_drop (f := (eqPt · (u, v))) hp
   have hwr := lt_sm hl hlt
   obtain ⟨a, b⟩ := p
   cases hq : eqPt (a, b) (u, v) with
   | true =>
     simp only [hq, if_true] at hidx
     rw [hidx] at hinv
     clear hidx
     try simp -dsimp (maxSteps := 1000000) only [go_sem, List.forall_mem_nil, ↓reduceIte, Nat.reduceEqDiff, Nat.reduceLT, Nat.reduceLeDiff, Nat.reduceAdd, Nat.reduceMul, reduceCtorEq, Tryz.f244, hI, h0, Int.toNat_natCast, hrow, run_place_1, hq, hinv, zAa]
   | false =>
     simp only [hq, if_false, Bool.false_eq_true] at hidx
     rw [hidx] at hinv
     clear hidx
     try simp -dsimp (maxSteps := 1000000) only [go_sem, List.forall_mem_nil, ↓reduceIte, Nat.reduceEqDiff, Nat.reduceLT, Nat.reduceLeDiff, Nat.reduceAdd, Nat.reduceMul, reduceCtorEq, Tryz.f244, hI, h0, Int.toNat_natCast, hrow, run_place_1, hq, hwr, zAa]
     exact ⟨⟨k + 1, by omega, hinv⟩, by simp only []; omega, [], [], by (simp only [go_sem, eq_self, MvRb, MvRn, MvRt, List.nodup_cons, List.nodup_nil, ↓reduceIte, Nat.reduceEqDiff, Nat.reduceLT, Nat.reduceLeDiff, reduceCtorEq, List.forall_mem_nil, Nat.zero_le, false_implies, List.mem_singleton]) <;> simp⟩
 · have hI : ((k : Int) < (l.length : Int)) = False := by simp; omega
   have hkl : k = l.length := by omega
   subst hkl
   rw [List.drop_length] at hinv
   try simp -dsimp (maxSteps := 1000000) only [go_sem, List.forall_mem_nil, ↓reduceIte, Nat.reduceEqDiff, Nat.reduceLT, Nat.reduceLeDiff, Nat.reduceAdd, Nat.reduceMul, reduceCtorEq, Tryz.f244, hI, hinv, idxF, zAa]
end Go.SX
namespace Go.SX
open Go Go.Proofs
theorem rowsZ_take (l : List Pt) (k : Nat) : (rowsZ l).take k = rowsZ (l.take k) := by simp [rowsZ, List.map_take]
noncomputable def ct_place : Ct := fam true (fun x : { l : List Pt // l.length ≤ sm } × Pt => ([.c (.im (.sl 1 (rowsZ x.1.1))), .c (.im (.cpx .f32 x.2.1 x.2.2))], [])) (fun x => .one { val := .c (.im (.int .i64 (idxF (eqPt · x.2) x.1.1 0))) })
theorem run_place {l : List Pt} (hl : l.length ≤ sm) (u v : Nat) : ct_place.run [.c (.im (.sl 1 (rowsZ l))), .c (.im (.cpx .f32 u v))] [] = some (.one { val := .c (.im (.int .i64 (idxF (eqPt · (u, v)) l 0))) }) := by
 refine zAd (args := fun x : { l : List Pt // l.length ≤ sm } × Pt => ([D.c (.im (.sl 1 (rowsZ x.1.1))), .c (.im (.cpx .f32 x.2.1 x.2.2))], [])) ?_ (⟨l, hl⟩, (u, v))
 rintro ⟨⟨a, b⟩, ⟨c, d⟩⟩ ⟨⟨a', b'⟩, ⟨c', d'⟩⟩ h
 simp [zAs] at h ⊢
 simp [h]
set_option maxRecDepth 100000 in
theorem law_place : Law Tryz.prog 188 ct_place := by
 refine zAf (zAc zGv zAe) hmixA Tryz.func188 rfl rfl (fun ⟨⟨l, hl⟩, ⟨u, v⟩⟩ => ⟨zAv rfl, by simp [Tryz.f188], ?_⟩)
 try simp -dsimp (maxSteps := 1000000) only [go_sem, List.forall_mem_nil, ↓reduceIte, Nat.reduceEqDiff, Nat.reduceLT, Nat.reduceLeDiff, Nat.reduceAdd, Nat.reduceMul, reduceCtorEq, Tryz.f188, zGq hl]
def tblGo (pts : List Pt) : List Pt → Nat → Bool
 | [], _ => true
 | p :: l, k => (isFin p.1 && isFin p.2) && (decide (idxF (eqPt · p) (pts.take k) 0 < 0) && tblGo pts l (k + 1))
def isTableF (pts : List Pt) (lab : List Int) : Bool := decide (pts.length = lab.length) && (decide (pts.length ≤ 64) && tblGo pts pts 0)
theorem tblGo_drop {pts : List Pt} {k : Nat} {p : Pt} (h : pts[k]? = some p) : tblGo pts (pts.drop k) k = ((isFin p.1 && isFin p.2) && (decide (idxF (eqPt · p) (pts.take k) 0 < 0) && tblGo pts (pts.drop (k + 1)) (k + 1))) := by
 have hlt : k < pts.length := (List.getElem?_eq_some_iff.1 h).1
 have hp : pts[k] = p := by rw [List.getElem?_eq_getElem hlt] at h; injection h
 rw [List.drop_eq_getElem_cons hlt, hp]; rfl
abbrev Tb := { t : List Pt × List Int // t.1.length ≤ sm ∧ t.2.length ≤ sm }
noncomputable def zGm : Ct := fam true (fun x : Tb => ([.agg [.im (.sl 1 (rowsZ x.1.1)), .im (.sl 1 (rowsN x.1.2))]], [])) (fun x => .one { val := .c (.im (.bool (isTableF x.1.1 x.1.2))) })
theorem zBy {pts : List Pt} {lab : List Int} (h1 : pts.length ≤ sm) (h2 : lab.length ≤ sm) : zGm.run [.agg [.im (.sl 1 (rowsZ pts)), .im (.sl 1 (rowsN lab))]] [] = some (.one { val := .c (.im (.bool (isTableF pts lab))) }) := by
 refine zAd (args := fun x : Tb => ([D.agg [.im (.sl 1 (rowsZ x.1.1)), .im (.sl 1 (rowsN x.1.2))]], [])) ?_ ⟨(pts, lab), h1, h2⟩
 rintro ⟨⟨a, b⟩, _⟩ ⟨⟨a', b'⟩, _⟩ h
 simp [zAs, zAw] at h ⊢
 simp [h]
set_option maxRecDepth 100000 in
theorem law_IsTable : Law Tryz.prog 105 zGm := by
 refine zAf (zAc law_isFinitePoint (zAc law_place zAe)) hmixA Tryz.func105 rfl rfl (fun ⟨⟨pts, lab⟩, h1, h2⟩ => ⟨zAv rfl, by simp [Tryz.f105], ?_⟩)
 simp only [] at h1 h2
 by_cases hlen : pts.length = lab.length
 rotate_left
 · have e1 : ((pts.length : Int) = (lab.length : Int)) = False := by simp; omega
   have hF : isTableF pts lab = false := by simp [isTableF, hlen]
   clear hlen
   try simp -dsimp (maxSteps := 1000000) only [go_sem, List.forall_mem_nil, ↓reduceIte, Nat.reduceEqDiff, Nat.reduceLT, Nat.reduceLeDiff, Nat.reduceAdd, Nat.reduceMul, reduceCtorEq, Tryz.f105, zAa, zAb, e1, hF]
 have e1 : ((pts.length : Int) = (lab.length : Int)) = True := by simp; omega
 by_cases h64 : pts.length ≤ 64
 rotate_left
 · have e2 : ((64 : Int) < (pts.length : Int)) = True := by simp; omega
   have hF : isTableF pts lab = false := by simp [isTableF, h64]
   clear hlen h64
   try simp -dsimp (maxSteps := 1000000) only [go_sem, List.forall_mem_nil, ↓reduceIte, Nat.reduceEqDiff, Nat.reduceLT, Nat.reduceLeDiff, Nat.reduceAdd, Nat.reduceMul, reduceCtorEq, Tryz.f105, zAa, zAb, e1, e2, hF]
 have e2 : ((64 : Int) < (pts.length : Int)) = False := by simp; omega
 have hF : isTableF pts lab = tblGo pts pts 0 := by unfold isTableF; rw [decide_eq_true hlen, decide_eq_true h64]; simp
 rw [hF]
 clear hlen h64 hF
 try simp -dsimp (maxSteps := 1000000) only [go_sem, List.forall_mem_nil, ↓reduceIte, Nat.reduceEqDiff, Nat.reduceLT, Nat.reduceLeDiff, Nat.reduceAdd, Nat.reduceMul, reduceCtorEq, Tryz.f105, zAa, zAb, e1, e2]
 refine zBh (ι := { k : Nat // k ≤ pts.length ∧ tblGo pts pts 0 = tblGo pts (pts.drop k) k }) (fun k => ⟨[(1, some (.c (.ptr 0 0 0 0))), (19, some (.c (.im (.sl 1 (rowsZ pts))))), (20, some (.c (.im (.int .i64 (pts.length : Int))))), (21, some (.c (.im (.int .i64 (k.1 : Int)))))],
   [(0, some (.box [.t (.im (.sl 1 (rowsZ pts))), .t (.im (.sl 1 (rowsN lab)))]))], 1⟩) (fun k => pts.length - k.1) ⟨0, by simp⟩ ⟨[], [], by ((simp only [go_sem, eq_self, MvRb, MvRn, MvRt, List.nodup_cons, List.nodup_nil, ↓reduceIte, Nat.reduceEqDiff, Nat.reduceLT, Nat.reduceLeDiff, reduceCtorEq, List.forall_mem_nil, Nat.zero_le, false_implies, List.mem_singleton]) <;> (try (simp -dsimp only [go_sem, eq_self, MvRb, MvRn, MvRt, List.nodup_cons, List.nodup_nil, ↓reduceIte, Nat.reduceEqDiff, Nat.reduceLT, Nat.reduceLeDiff, reduceCtorEq, List.forall_mem_nil, Nat.zero_le, false_implies, List.mem_singleton]))) <;> simp⟩ (fun ⟨k, hk, hinv⟩ => ?_)
 by_cases hlt : k < pts.length
 · obtain ⟨p, hp⟩ : ∃ p, pts[k]? = some p := ⟨_, List.getElem?_eq_getElem hlt⟩
   have hrow := zCf hp
   have hI : ((k : Int) < (pts.length : Int)) = True := by simp; omega
   have h0 : (0 ≤ (k : Int)) = True := by simp
   have hle : ((k : Int) ≤ (pts.length : Int)) = True := by simp; omega
   have hidx := tblGo_drop hp
   have hwr := lt_sm h1 hlt
   have htk : (pts.take k).length ≤ sm := by rw [List.length_take]; omega
   obtain ⟨a, b⟩ := p
   cases hf : (isFin a && isFin b) with
   | false =>
     simp only [hf, Bool.false_and] at hidx
     rw [hidx] at hinv
     clear hidx
     try simp -dsimp (maxSteps := 1000000) only [go_sem, List.forall_mem_nil, ↓reduceIte, Nat.reduceEqDiff, Nat.reduceLT, Nat.reduceLeDiff, Nat.reduceAdd, Nat.reduceMul, reduceCtorEq, Tryz.f105, hI, h0, Int.toNat_natCast, hrow, zEe, hf, hinv, zAa]
   | true =>
     by_cases hq : idxF (eqPt · (a, b)) (pts.take k) 0 < 0
     · have hq' : ((0 : Int) ≤ idxF (eqPt · (a, b)) (pts.take k) 0) = False := by simp; omega
       simp only [hf, hq, decide_true, Bool.true_and] at hidx
       rw [hidx] at hinv
       clear hidx hq
       try simp -dsimp (maxSteps := 1000000) only [go_sem, List.forall_mem_nil, ↓reduceIte, Nat.reduceEqDiff, Nat.reduceLT, Nat.reduceLeDiff, Nat.reduceAdd, Nat.reduceMul, reduceCtorEq, Tryz.f105, hI, h0, hle, Int.toNat_natCast, hrow, zEe, hf, rowsZ_take, run_place htk, hq', hwr, zAa]
       exact ⟨⟨k + 1, by omega, hinv⟩, by simp only []; omega, [], [], by (simp only [go_sem, eq_self, MvRb, MvRn, MvRt, List.nodup_cons, List.nodup_nil, ↓reduceIte, Nat.reduceEqDiff, Nat.reduceLT, Nat.reduceLeDiff, reduceCtorEq, List.forall_mem_nil, Nat.zero_le, false_implies, List.mem_singleton]) <;> simp⟩
     · have hq' : ((0 : Int) ≤ idxF (eqPt · (a, b)) (pts.take k) 0) = True := by simp; omega
       simp only [hf, hq, decide_false, Bool.true_and, Bool.false_and] at hidx
       rw [hidx] at hinv
       clear hidx hq
       try simp -dsimp (maxSteps := 1000000) only [go_sem, List.forall_mem_nil, ↓reduceIte, Nat.reduceEqDiff, Nat.reduceLT, Nat.reduceLeDiff, Nat.reduceAdd, Nat.reduceMul, reduceCtorEq, Tryz.f105, hI, h0, hle, Int.toNat_natCast, hrow, zEe, hf, rowsZ_take, run_place htk, hq', hinv, zAa]
 · have hI : ((k : Int) < (pts.length : Int)) = False := by simp; omega
   have hkl : k = pts.length := by omega
   subst hkl
   rw [List.drop_length] at hinv
   try simp -dsimp (maxSteps := 1000000) only [go_sem, List.forall_mem_nil, ↓reduceIte, Nat.reduceEqDiff, Nat.reduceLT, Nat.reduceLeDiff, Nat.reduceAdd, Nat.reduceMul, reduceCtorEq, Tryz.f105, hI, hinv, tblGo, zAa]
def nearGo (z : Pt) : List Pt → Nat → Int → Nat → Int
 | [], _, b, _ => b
 | p :: l, k, b, m => if (fcmp .eql .f32 (distF p z) (distF p z) && (decide (b < 0) || fcmp .lss .f32 (distF p z) m)) = true then nearGo z l (k + 1) k (distF p z) else nearGo z l (k + 1) b m
theorem nearGo_drop {z : Pt} {pts : List Pt} {k : Nat} {b : Int} {m : Nat} {p : Pt} (h : pts[k]? = some p) : nearGo z (pts.drop k) k b m =
   if (fcmp .eql .f32 (distF p z) (distF p z) && (decide (b < 0) || fcmp .lss .f32 (distF p z) m)) = true then nearGo z (pts.drop (k + 1)) (k + 1) k (distF p z) else nearGo z (pts.drop (k + 1)) (k + 1) b m := by
 have hlt : k < pts.length := (List.getElem?_eq_some_iff.1 h).1
 have hp : pts[k] = p := by rw [List.getElem?_eq_getElem hlt] at h; injection h
 rw [List.drop_eq_getElem_cons hlt, hp]; rfl
def nearF (pts : List Pt) (lab : List Int) (z : Pt) : Option Nat := if isTableF pts lab = true then (if nearGo z pts 0 (-1) 0 < 0 then none else some (nearGo z pts 0 (-1) 0).toNat) else none
def oNear : Option Nat → Outs
 | some k => .one { val := .tup [.c (.im (.int .i64 k)), .c (.im (.bool true))] }
 | none => .one { val := .tup [.c (.im (.int .i64 0)), .c (.im (.bool false))] }
noncomputable def zDy : Ct := fam true (fun x : Tb × Pt => ([.agg [.im (.sl 1 (rowsZ x.1.1.1)), .im (.sl 1 (rowsN x.1.1.2))], .c (.im (.cpx .f32 x.2.1 x.2.2))], [])) (fun x => oNear (nearF x.1.1.1 x.1.1.2 x.2))
theorem zHc {pts : List Pt} {lab : List Int} (h1 : pts.length ≤ sm) (h2 : lab.length ≤ sm) (u v : Nat) : zDy.run [.agg [.im (.sl 1 (rowsZ pts)), .im (.sl 1 (rowsN lab))], .c (.im (.cpx .f32 u v))] [] = some (oNear (nearF pts lab (u, v))) := by
 refine zAd (args := fun x : Tb × Pt => ([D.agg [.im (.sl 1 (rowsZ x.1.1.1)), .im (.sl 1 (rowsN x.1.1.2))], .c (.im (.cpx .f32 x.2.1 x.2.2))], [])) ?_ (⟨(pts, lab), h1, h2⟩, (u, v))
 rintro ⟨⟨⟨a, b⟩, _⟩, ⟨c, d⟩⟩ ⟨⟨⟨a', b'⟩, _⟩, ⟨c', d'⟩⟩ h
 simp [zAs, zAw] at h ⊢
 simp [h]
theorem okR_tup2 {sc : Bool} {i j : I} (h1 : scI i = true) (h2 : scI j = true) : OkR sc { val := .tup [.c (.im i), .c (.im j)] } :=
 ⟨.tup _ (by intro d hd; simp at hd; rcases hd with rfl | rfl; exact .inl ⟨_, rfl, zCg h1⟩; exact .inl ⟨_, rfl, zCg h2⟩), by simp, by simp⟩
set_option maxRecDepth 100000 in
theorem law_NearestPoint : Law Tryz.prog 141 zDy := by
 refine zAf (zAc law_IsTable (zAc law_DistanceOf zAe)) hmixA Tryz.func141 rfl rfl (fun ⟨⟨⟨pts, lab⟩, h1, h2⟩, ⟨u, v⟩⟩ => ⟨?_, by simp [Tryz.f141], ?_⟩)
 · unfold oNear; split <;> exact okO (okR_tup2 rfl rfl)
 simp only [nearF]
 cases ht : isTableF pts lab with
 | false =>
   try simp -dsimp (maxSteps := 1000000) only [go_sem, List.forall_mem_nil, ↓reduceIte, Nat.reduceEqDiff, Nat.reduceLT, Nat.reduceLeDiff, Nat.reduceAdd, Nat.reduceMul, reduceCtorEq, Tryz.f141, zBy h1 h2, ht, oNear]
 | true =>
   rw [if_pos rfl]
   try simp -dsimp (maxSteps := 1000000) only [go_sem, List.forall_mem_nil, ↓reduceIte, Nat.reduceEqDiff, Nat.reduceLT, Nat.reduceLeDiff, Nat.reduceAdd, Nat.reduceMul, reduceCtorEq, Tryz.f141, zBy h1 h2, ht, zAa]
   refine zBh (ι := { x : Nat × Int × Nat // x.1 ≤ pts.length ∧ nearGo (u, v) pts 0 (-1) 0 = nearGo (u, v) (pts.drop x.1) x.1 x.2.1 x.2.2 }) (fun x => ⟨[(1, some (.c (.im (.cpx .f32 u v)))), (6, some (.c (.im (.int .i64 x.1.2.1)))), (7, some (.c (.im (.flt .f32 x.1.2.2)))), (15, some (.c (.im (.sl 1 (rowsZ pts))))), (16, some (.c (.im (.int .i64 (pts.length : Int))))), (17, some (.c (.im (.int .i64 (x.1.1 : Int)))))],
     [], 0⟩) (fun x => pts.length - x.1.1) ⟨(0, -1, 0), by simp⟩ ⟨[], [], by ((simp only [go_sem, eq_self, MvRb, MvRn, MvRt, List.nodup_cons, List.nodup_nil, ↓reduceIte, Nat.reduceEqDiff, Nat.reduceLT, Nat.reduceLeDiff, reduceCtorEq, List.forall_mem_nil, Nat.zero_le, false_implies, List.mem_singleton]) <;> (try (simp -dsimp only [go_sem, eq_self, MvRb, MvRn, MvRt, List.nodup_cons, List.nodup_nil, ↓reduceIte, Nat.reduceEqDiff, Nat.reduceLT, Nat.reduceLeDiff, reduceCtorEq, List.forall_mem_nil, Nat.zero_le, false_implies, List.mem_singleton]))) <;> simp⟩ (fun ⟨⟨k, b, m⟩, hk, hinv⟩ => ?_)
   by_cases hlt : k < pts.length
   · obtain ⟨p, hp⟩ : ∃ p, pts[k]? = some p := ⟨_, List.getElem?_eq_getElem hlt⟩
     have hrow := zCf hp
     have hI : ((k : Int) < (pts.length : Int)) = True := by simp; omega
     have h0 : (0 ≤ (k : Int)) = True := by simp
     have hidx := nearGo_drop (z := (u, v)) (b := b) (m := m) hp
     have hwr := lt_sm h1 hlt
     obtain ⟨a, c⟩ := p
     simp only [] at hinv hk
     rw [hidx] at hinv
     clear hidx
     generalize hd : distF (a, c) (u, v) = d at *
     cases hq1 : fcmp .eql .f32 d d with
     | false =>
       simp only [hq1, Bool.false_and, Bool.false_eq_true, if_false] at hinv
       try simp -dsimp (maxSteps := 1000000) only [go_sem, List.forall_mem_nil, ↓reduceIte, Nat.reduceEqDiff, Nat.reduceLT, Nat.reduceLeDiff, Nat.reduceAdd, Nat.reduceMul, reduceCtorEq, Tryz.f141, hI, h0, Int.toNat_natCast, hrow, zBw, hd, hq1, hwr]
       exact ⟨⟨(k + 1, b, m), by simp only []; omega, hinv⟩, by simp only []; omega, [], [], by (simp only [go_sem, eq_self, MvRb, MvRn, MvRt, List.nodup_cons, List.nodup_nil, ↓reduceIte, Nat.reduceEqDiff, Nat.reduceLT, Nat.reduceLeDiff, reduceCtorEq, List.forall_mem_nil, Nat.zero_le, false_implies, List.mem_singleton]) <;> simp⟩
     | true =>
       by_cases hb : b < 0
       · have hb' : (b < 0) = True := by simp [hb]
         simp only [hq1, hb', decide_true, Bool.true_or, Bool.true_and, if_true] at hinv
         clear hb
         try simp -dsimp (maxSteps := 1000000) only [go_sem, List.forall_mem_nil, ↓reduceIte, Nat.reduceEqDiff, Nat.reduceLT, Nat.reduceLeDiff, Nat.reduceAdd, Nat.reduceMul, reduceCtorEq, Tryz.f141, hI, h0, Int.toNat_natCast, hrow, zBw, hd, hq1, hb', hwr]
         exact ⟨⟨(k + 1, (k : Int), d), by simp only []; omega, hinv⟩, by simp only []; omega, [], [], by (simp only [go_sem, eq_self, MvRb, MvRn, MvRt, List.nodup_cons, List.nodup_nil, ↓reduceIte, Nat.reduceEqDiff, Nat.reduceLT, Nat.reduceLeDiff, reduceCtorEq, List.forall_mem_nil, Nat.zero_le, false_implies, List.mem_singleton]) <;> simp⟩
       · have hb' : (b < 0) = False := by simp [hb]
         clear hb
         cases hq2 : fcmp .lss .f32 d m with
         | false =>
           simp only [hq1, hb', hq2, decide_false, Bool.false_or, Bool.true_and, Bool.false_eq_true, if_false] at hinv
           try simp -dsimp (maxSteps := 1000000) only [go_sem, List.forall_mem_nil, ↓reduceIte, Nat.reduceEqDiff, Nat.reduceLT, Nat.reduceLeDiff, Nat.reduceAdd, Nat.reduceMul, reduceCtorEq, Tryz.f141, hI, h0, Int.toNat_natCast, hrow, zBw, hd, hq1, hq2, hb', hwr]
           exact ⟨⟨(k + 1, b, m), by simp only []; omega, hinv⟩, by simp only []; omega, [], [], by (simp only [go_sem, eq_self, MvRb, MvRn, MvRt, List.nodup_cons, List.nodup_nil, ↓reduceIte, Nat.reduceEqDiff, Nat.reduceLT, Nat.reduceLeDiff, reduceCtorEq, List.forall_mem_nil, Nat.zero_le, false_implies, List.mem_singleton]) <;> simp⟩
         | true =>
           simp only [hq1, hb', hq2, decide_false, Bool.false_or, Bool.true_and, if_true] at hinv
           try simp -dsimp (maxSteps := 1000000) only [go_sem, List.forall_mem_nil, ↓reduceIte, Nat.reduceEqDiff, Nat.reduceLT, Nat.reduceLeDiff, Nat.reduceAdd, Nat.reduceMul, reduceCtorEq, Tryz.f141, hI, h0, Int.toNat_natCast, hrow, zBw, hd, hq1, hq2, hb', hwr]
           exact ⟨⟨(k + 1, (k : Int), d), by simp only []; omega, hinv⟩, by simp only []; omega, [], [], by (simp only [go_sem, eq_self, MvRb, MvRn, MvRt, List.nodup_cons, List.nodup_nil, ↓reduceIte, Nat.reduceEqDiff, Nat.reduceLT, Nat.reduceLeDiff, reduceCtorEq, List.forall_mem_nil, Nat.zero_le, false_implies, List.mem_singleton]) <;> simp⟩
   · have hI : ((k : Int) < (pts.length : Int)) = False := by simp only [] at hk; simp; omega
     simp only [] at hk hinv
     have hkl : k = pts.length := by omega
     subst hkl
     rw [List.drop_length] at hinv
     simp only [nearGo] at hinv
     by_cases hb : b < 0
     · have hb' : (b < 0) = True := by simp [hb]
       clear hb
       try simp -dsimp (maxSteps := 1000000) only [go_sem, List.forall_mem_nil, ↓reduceIte, Nat.reduceEqDiff, Nat.reduceLT, Nat.reduceLeDiff, Nat.reduceAdd, Nat.reduceMul, reduceCtorEq, Tryz.f141, hI, hinv, hb', oNear]
     · have hb' : (b < 0) = False := by simp [hb]
       have hbn : ((b.toNat : Nat) : Int) = b := by omega
       clear hb
       try simp -dsimp (maxSteps := 1000000) only [go_sem, List.forall_mem_nil, ↓reduceIte, Nat.reduceEqDiff, Nat.reduceLT, Nat.reduceLeDiff, Nat.reduceAdd, Nat.reduceMul, reduceCtorEq, Tryz.f141, hI, hinv, hb', hbn, oNear]
end Go.SX
namespace Go.SX
open Go Go.Proofs
theorem zGk {sc : Bool} {sz : Nat} {rows : List (List I)} (h : ∀ r ∈ rows, ∀ i ∈ r, scI i = true) : MvR sc (.arr sz (tI rows)) := by
 intro r hr t ht
 simp only [tI, List.mem_map] at hr
 obtain ⟨r0, hr0, rfl⟩ := hr
 simp only [List.mem_map] at ht
 obtain ⟨i, hi, rfl⟩ := ht
 exact .im _ (.inr (h r0 hr0 i hi))
theorem zEi (l : List Pt) : ∀ r ∈ rowsZ l, ∀ i ∈ r, scI i = true := by
 intro r hr i hi
 simp only [rowsZ, List.mem_map] at hr
 obtain ⟨p, _, rfl⟩ := hr
 simp at hi; subst hi; rfl
theorem sc_rowsN (l : List Int) : ∀ r ∈ rowsN l, ∀ i ∈ r, scI i = true := by
 intro r hr i hi
 simp only [rowsN, List.mem_map] at hr
 obtain ⟨p, _, rfl⟩ := hr
 simp at hi; subst hi; rfl
def rNew (sz : Nat) (rows : List (List I)) : Res := { val := .c (.view 0 sz 0 rows.length), roots := [.arr sz (tI rows)] }
theorem okR_new {sc : Bool} {sz : Nat} {rows : List (List I)} (h : ∀ r ∈ rows, ∀ i ∈ r, scI i = true) : OkR sc (rNew sz rows) :=
 ⟨.c _ (.view _ _ _ _ (by simp [rNew])), by intro r hr; simp [rNew] at hr; subst hr; exact zGk h, by simp [rNew]⟩
theorem map_im_tI (rows : List (List I)) : List.map (fun r => List.map T.im r) rows = tI rows := rfl
theorem bytes_sm {n k : Nat} (h : n ≤ sm) (hk : k ≤ 128) : (n * k ≤ 140737488355328) = True := by
 have : sm = 16777216 := rfl
 simp only [eq_iff_iff, iff_true]
 calc n * k ≤ 16777216 * 128 := Nat.mul_le_mul (by omega) hk
   _ ≤ _ := by decide
noncomputable def zGb : Ct := fam true (fun x : { l : List Pt // l.length ≤ sm } => ([.c (.im (.sl 1 (rowsZ x.1)))], [])) (fun x => .one (rNew 1 (rowsZ x.1)))
theorem zFk {l : List Pt} (hl : l.length ≤ sm) : zGb.run [.c (.im (.sl 1 (rowsZ l)))] [] = some (.one (rNew 1 (rowsZ l))) := by
 refine zAd (args := fun x : { l : List Pt // l.length ≤ sm } => ([D.c (.im (.sl 1 (rowsZ x.1)))], [])) ?_ ⟨l, hl⟩
 rintro ⟨a, _⟩ ⟨b, _⟩ h
 simp [zAs] at h ⊢
 exact h
set_option maxRecDepth 100000 in
theorem zFm : Law Tryz.prog 200 zGb := by
 refine zBl zAe hmixA Tryz.func200 rfl rfl (fun ⟨l, hl⟩ => ⟨okO (okR_new (zEi l)), by simp [Tryz.f200], ?_⟩)
 simp only [rNew]
 try simp -dsimp (maxSteps := 1000000) only [go_sem, List.forall_mem_nil, ↓reduceIte, Nat.reduceEqDiff, Nat.reduceLT, Nat.reduceLeDiff, Nat.reduceAdd, Nat.reduceMul, reduceCtorEq, Tryz.f200, zAa, bytes_sm hl (show 8 ≤ 128 by decide), map_im_tI, zAg, appendH, srcRows]
 refine ⟨zAj [] ?_, fun he => zAj [.nilS 2 1] ?_⟩
 · simp -dsimp (maxSteps := 1000000) only [go_sem, List.forall_mem_nil, ↓reduceIte, Nat.reduceEqDiff, Nat.reduceLT, Nat.reduceLeDiff, Nat.reduceAdd, Nat.reduceMul, reduceCtorEq]
   exact ⟨[1], by simp, by simp, by simp [rtOk, lk], by simp⟩
 · have hn : l = [] := by cases l with | nil => rfl | cons => simp [rowsZ] at he
   subst hn
   simp -dsimp (maxSteps := 1000000) only [go_sem, List.forall_mem_nil, ↓reduceIte, Nat.reduceEqDiff, Nat.reduceLT, Nat.reduceLeDiff, Nat.reduceAdd, Nat.reduceMul, reduceCtorEq]
   exact ⟨[0], by simp, by simp, by simp [rtOk, lk, tI, rowsZ], by simp⟩
noncomputable def ct_Clone_int : Ct := fam true (fun x : { l : List Int // l.length ≤ sm } => ([.c (.im (.sl 1 (rowsN x.1)))], [])) (fun x => .one (rNew 1 (rowsN x.1)))
theorem run_Clone_int {l : List Int} (hl : l.length ≤ sm) : ct_Clone_int.run [.c (.im (.sl 1 (rowsN l)))] [] = some (.one (rNew 1 (rowsN l))) := by
 refine zAd (args := fun x : { l : List Int // l.length ≤ sm } => ([D.c (.im (.sl 1 (rowsN x.1)))], [])) ?_ ⟨l, hl⟩
 rintro ⟨a, _⟩ ⟨b, _⟩ h
 simp [zAw] at h ⊢
 exact h
set_option maxRecDepth 100000 in
theorem law_Clone_int : Law Tryz.prog 201 ct_Clone_int := by
 refine zBl zAe hmixA Tryz.func201 rfl rfl (fun ⟨l, hl⟩ => ⟨okO (okR_new (sc_rowsN l)), by simp [Tryz.f201], ?_⟩)
 simp only [rNew]
 try simp -dsimp (maxSteps := 1000000) only [go_sem, List.forall_mem_nil, ↓reduceIte, Nat.reduceEqDiff, Nat.reduceLT, Nat.reduceLeDiff, Nat.reduceAdd, Nat.reduceMul, reduceCtorEq, Tryz.f201, zAb, bytes_sm hl (show 8 ≤ 128 by decide), map_im_tI, zAg, appendH, srcRows]
 refine ⟨zAj [] ?_, fun he => zAj [.nilS 2 1] ?_⟩
 · simp -dsimp (maxSteps := 1000000) only [go_sem, List.forall_mem_nil, ↓reduceIte, Nat.reduceEqDiff, Nat.reduceLT, Nat.reduceLeDiff, Nat.reduceAdd, Nat.reduceMul, reduceCtorEq]
   exact ⟨[1], by simp, by simp, by simp [rtOk, lk], by simp⟩
 · have hn : l = [] := by cases l with | nil => rfl | cons => simp [rowsN] at he
   subst hn
   simp -dsimp (maxSteps := 1000000) only [go_sem, List.forall_mem_nil, ↓reduceIte, Nat.reduceEqDiff, Nat.reduceLT, Nat.reduceLeDiff, Nat.reduceAdd, Nat.reduceMul, reduceCtorEq]
   exact ⟨[0], by simp, by simp, by simp [rtOk, lk, tI, rowsN], by simp⟩
abbrev Cbl := Int × Int
def rTb (pts : List Pt) (lab : List Int) : Res := { val := .agg [.view 0 1 0 pts.length, .view 1 1 0 lab.length], roots := [.arr 1 (tI (rowsZ pts)), .arr 1 (tI (rowsN lab))] }
theorem okR_tb {sc : Bool} {pts : List Pt} {lab : List Int} : OkR sc (rTb pts lab) := by
 refine ⟨.agg _ (fun x hx => ?_), fun r hr => ?_, by simp [rTb]⟩
 · simp [rTb] at hx ⊢
   rcases hx with rfl | rfl <;> exact .view _ _ _ _ (by simp)
 · simp [rTb] at hr
   rcases hr with rfl | rfl
   · exact zGk (zEi _)
   · exact zGk (sc_rowsN _)
noncomputable def zEo : Ct := fam true (fun x : Tb => ([.agg [.im (.sl 1 (rowsZ x.1.1)), .im (.sl 1 (rowsN x.1.2))]], [])) (fun x => .one (rTb x.1.1 x.1.2))
theorem zCw {pts : List Pt} {lab : List Int} (h1 : pts.length ≤ sm) (h2 : lab.length ≤ sm) : zEo.run [.agg [.im (.sl 1 (rowsZ pts)), .im (.sl 1 (rowsN lab))]] [] = some (.one (rTb pts lab)) := by
 refine zAd (args := fun x : Tb => ([D.agg [.im (.sl 1 (rowsZ x.1.1)), .im (.sl 1 (rowsN x.1.2))]], [])) ?_ ⟨(pts, lab), h1, h2⟩
 rintro ⟨⟨a, b⟩, _⟩ ⟨⟨a', b'⟩, _⟩ h
 simp [zAs, zAw] at h ⊢
 simp [h]
set_option maxRecDepth 100000 in
theorem law_copyTable : Law Tryz.prog 127 zEo := by
 refine zAf (zAc zFm (zAc law_Clone_int zAe)) hmixA Tryz.func127 rfl rfl (fun ⟨⟨pts, lab⟩, h1, h2⟩ => ⟨okO okR_tb, by simp [Tryz.f127], ?_⟩)
 simp only [rTb]
 try simp -dsimp (maxSteps := 1000000) only [go_sem, List.forall_mem_nil, ↓reduceIte, Nat.reduceEqDiff, Nat.reduceLT, Nat.reduceLeDiff, Nat.reduceAdd, Nat.reduceMul, reduceCtorEq, Tryz.f127, zFk h1, run_Clone_int h2, rNew, zAa, zAb]
 repeat' (first
   | ((with_reducible refine sl_i ?_ ?_); focus kernel_rfl)
   | ((with_reducible refine ro_i ?_ ?_); focus kernel_rfl))
 refine ⟨[_, _], ?_, ?_, ?_, rfl, rfl⟩ <;> simp [rtOk]
end Go.SX
namespace Go.SX
open Go Go.Proofs
structure Mod where
 kind : Int
 turn : Pt
 state : Pt
 level : Nat
 store : List Pt
 rat : Int
 rcnt : Int
 pts : List Pt
 lab : List Int
 count : Int
 left : Int
def modC (m : Mod) : List C := [.im (.int .i64 m.kind), .im (.cpx .f32 m.turn.1 m.turn.2), .im (.cpx .f32 m.state.1 m.state.2), .im (.flt .f32 m.level), .im (.sl 1 (rowsZ m.store)), .im (.int .i64 m.rat), .im (.int .i64 m.rcnt), .im (.sl 1 (rowsZ m.pts)), .im (.sl 1 (rowsN m.lab)), .im (.int .i64 m.count), .im (.int .i64 m.left)]
theorem zDg {a b : Mod} (h : modC a = modC b) : a = b := by
 obtain ⟨k, ⟨t1, t2⟩, ⟨s1, s2⟩, l, st, r1, r2, p, la, c, le⟩ := a
 obtain ⟨k', ⟨t1', t2'⟩, ⟨s1', s2'⟩, l', st', r1', r2', p', la', c', le'⟩ := b
 simp [modC, zAs, zAw] at h
 simp [h]
structure OkM (m : Mod) : Prop where
 store : m.store.length ≤ sm
 pts : m.pts.length ≤ sm
 lab : m.lab.length ≤ sm
noncomputable def zFq : Ct := fam true (fun x : { l : List Pt // l.length ≤ sm } × Int × Int => ([.agg [.im (.sl 1 (rowsZ x.1.1)), .im (.int .i64 x.2.1), .im (.int .i64 x.2.2)]], []))
 (fun x => .one { val := .agg [.view 0 1 0 x.1.1.length, .im (.int .i64 x.2.1), .im (.int .i64 x.2.2)], roots := [.arr 1 (tI (rowsZ x.1.1))] })
theorem zFv {l : List Pt} (hl : l.length ≤ sm) (a c : Int) : zFq.run [.agg [.im (.sl 1 (rowsZ l)), .im (.int .i64 a), .im (.int .i64 c)]] [] =
   some (.one { val := .agg [.view 0 1 0 l.length, .im (.int .i64 a), .im (.int .i64 c)], roots := [.arr 1 (tI (rowsZ l))] }) := by
 refine zAd (args := fun x : { l : List Pt // l.length ≤ sm } × Int × Int => ([D.agg [.im (.sl 1 (rowsZ x.1.1)), .im (.int .i64 x.2.1), .im (.int .i64 x.2.2)]], [])) ?_ (⟨l, hl⟩, a, c)
 rintro ⟨⟨a, b⟩, c⟩ ⟨⟨a', b'⟩, c'⟩ h
 simp [zAs] at h ⊢
 simp [h, Prod.ext_iff]
set_option maxRecDepth 100000 in
set_option maxHeartbeats 4000000 in
theorem law_copyRing : Law Tryz.prog 126 zFq := by
 refine zAf (zAc zFm zAe) hmixA Tryz.func126 rfl rfl (fun ⟨⟨l, hl⟩, a, c⟩ => ⟨okO ⟨.agg _ (fun x hx => ?_), fun r hr => ?_, by simp⟩, by simp [Tryz.f126], ?_⟩)
 · simp at hx
   rcases hx with rfl | rfl | rfl
   · exact .view _ _ _ _ (by simp)
   · exact zCg rfl
   · exact zCg rfl
 · simp at hr; subst hr; exact zGk (zEi _)
 try simp -dsimp (maxSteps := 1000000) only [go_sem, List.forall_mem_nil, ↓reduceIte, Nat.reduceEqDiff, Nat.reduceLT, Nat.reduceLeDiff, Nat.reduceAdd, Nat.reduceMul, reduceCtorEq, Tryz.f126, zFk hl, rNew, zAa]
 refine ⟨[_], ?_, ?_, ?_, rfl⟩ <;> simp [rtOk]
def ringGo (st : List Pt) (a : Nat) : Nat → Nat → Bool
 | 0, _ => true
 | f + 1, i => nzP (st.getD ((a + i) % st.length) (0, 0)) && ringGo st a f (i + 1)
def ringC (st : List Pt) (a c : Int) : Prop := 1 ≤ st.length ∧ st.length ≤ 16 ∧ 0 ≤ a ∧ a < st.length ∧ 0 ≤ c ∧ c ≤ st.length
instance (st : List Pt) (a c : Int) : Decidable (ringC st a c) := by unfold ringC; infer_instance
def isRingF (st : List Pt) (a c : Int) : Bool := decide (ringC st a c) && ringGo st a.toNat (st.length - c.toNat) c.toNat
noncomputable def ct_IsRing : Ct := fam true (fun x : { l : List Pt // l.length ≤ sm } × Int × Int => ([.agg [.im (.sl 1 (rowsZ x.1.1)), .im (.int .i64 x.2.1), .im (.int .i64 x.2.2)]], []))
 (fun x => .one { val := .c (.im (.bool (isRingF x.1.1 x.2.1 x.2.2))) })
theorem run_IsRing {l : List Pt} (hl : l.length ≤ sm) (a c : Int) : ct_IsRing.run [.agg [.im (.sl 1 (rowsZ l)), .im (.int .i64 a), .im (.int .i64 c)]] [] = some (.one { val := .c (.im (.bool (isRingF l a c))) }) := by
 refine zAd (args := fun x : { l : List Pt // l.length ≤ sm } × Int × Int => ([D.agg [.im (.sl 1 (rowsZ x.1.1)), .im (.int .i64 x.2.1), .im (.int .i64 x.2.2)]], [])) ?_ (⟨l, hl⟩, a, c)
 rintro ⟨⟨a, b⟩, c⟩ ⟨⟨a', b'⟩, c'⟩ h
 simp [zAs] at h ⊢
 simp [h, Prod.ext_iff]
set_option maxRecDepth 100000 in
set_option maxHeartbeats 4000000 in
theorem law_IsRing : Law Tryz.prog 104 ct_IsRing := by
 refine zAf (zAc law_isNoughts zAe) hmixA Tryz.func104 rfl rfl (fun ⟨⟨l, hl⟩, a, c⟩ => ⟨zAv rfl, by simp [Tryz.f104], ?_⟩)
 by_cases hC : ringC l a c
 rotate_left
 · have hF : isRingF l a c = false := by simp [isRingF, hC]
   by_cases p1 : (l.length : Int) < 1
   · have e1 := eq_true p1
     clear p1
     try simp -dsimp (maxSteps := 1000000) only [go_sem, List.forall_mem_nil, ↓reduceIte, Nat.reduceEqDiff, Nat.reduceLT, Nat.reduceLeDiff, Nat.reduceAdd, Nat.reduceMul, reduceCtorEq, Tryz.f104, zAa, hF, e1]
   have e1 := eq_false p1
   by_cases p2 : (16 : Int) < (l.length : Int)
   · have e2 := eq_true p2
     clear p2
     try simp -dsimp (maxSteps := 1000000) only [go_sem, List.forall_mem_nil, ↓reduceIte, Nat.reduceEqDiff, Nat.reduceLT, Nat.reduceLeDiff, Nat.reduceAdd, Nat.reduceMul, reduceCtorEq, Tryz.f104, zAa, hF, e1, e2]
   have e2 := eq_false p2
   by_cases p3 : a < 0
   · have e3 := eq_true p3
     clear p3
     try simp -dsimp (maxSteps := 1000000) only [go_sem, List.forall_mem_nil, ↓reduceIte, Nat.reduceEqDiff, Nat.reduceLT, Nat.reduceLeDiff, Nat.reduceAdd, Nat.reduceMul, reduceCtorEq, Tryz.f104, zAa, hF, e1, e2, e3]
   have e3 := eq_false p3
   by_cases p4 : (l.length : Int) ≤ a
   · have e4 := eq_true p4
     clear p4
     try simp -dsimp (maxSteps := 1000000) only [go_sem, List.forall_mem_nil, ↓reduceIte, Nat.reduceEqDiff, Nat.reduceLT, Nat.reduceLeDiff, Nat.reduceAdd, Nat.reduceMul, reduceCtorEq, Tryz.f104, zAa, hF, e1, e2, e3, e4]
   have e4 := eq_false p4
   by_cases p5 : c < 0
   · have e5 := eq_true p5
     clear p5
     try simp -dsimp (maxSteps := 1000000) only [go_sem, List.forall_mem_nil, ↓reduceIte, Nat.reduceEqDiff, Nat.reduceLT, Nat.reduceLeDiff, Nat.reduceAdd, Nat.reduceMul, reduceCtorEq, Tryz.f104, zAa, hF, e1, e2, e3, e4, e5]
   have e5 := eq_false p5
   by_cases p6 : (l.length : Int) < c
   · have e6 := eq_true p6
     clear p6
     try simp -dsimp (maxSteps := 1000000) only [go_sem, List.forall_mem_nil, ↓reduceIte, Nat.reduceEqDiff, Nat.reduceLT, Nat.reduceLeDiff, Nat.reduceAdd, Nat.reduceMul, reduceCtorEq, Tryz.f104, zAa, hF, e1, e2, e3, e4, e5, e6]
   have e6 := eq_false p6
   exfalso; apply hC; unfold ringC; omega
 obtain ⟨c1, c2, c3, c4, c5, c6⟩ := hC
 have hF : isRingF l a c = ringGo l a.toNat (l.length - c.toNat) c.toNat := by
   have : ringC l a c := ⟨c1, c2, c3, c4, c5, c6⟩
   simp [isRingF, this]
 have q1 : ((l.length : Int) < 1) = False := by simp; omega
 have q2 : ((16 : Int) < (l.length : Int)) = False := by simp; omega
 have q3 : (a < 0) = False := by simp; omega
 have q4 : ((l.length : Int) ≤ a) = False := by simp; omega
 have q5 : (c < 0) = False := by simp; omega
 have q6 : ((l.length : Int) < c) = False := by simp; omega
 obtain ⟨an, rfl⟩ : ∃ n : Nat, a = n := ⟨a.toNat, by omega⟩
 obtain ⟨cn, rfl⟩ : ∃ n : Nat, c = n := ⟨c.toNat, by omega⟩
 rw [hF]
 simp only [Int.toNat_natCast] at *
 clear hF c3 c5
 try simp -dsimp (maxSteps := 1000000) only [go_sem, List.forall_mem_nil, ↓reduceIte, Nat.reduceEqDiff, Nat.reduceLT, Nat.reduceLeDiff, Nat.reduceAdd, Nat.reduceMul, reduceCtorEq, Tryz.f104, zAa, q1, q2, q3, q4, q5, q6]
 clear q1 q2 q3 q4 q5 q6
 refine zBh (ι := { k : Nat // k ≤ l.length ∧ ringGo l an (l.length - cn) cn = ringGo l an (l.length - k) k }) (fun k => ⟨[(1, some (.c (.ptr 0 0 0 0))), (3, some (.c (.im (.int .i64 (l.length : Int))))), (4, some (.c (.im (.int .i64 (k.1 : Int)))))],
   [(0, some (.box [.t (.im (.sl 1 (rowsZ l))), .t (.im (.int .i64 (an : Int))), .t (.im (.int .i64 (cn : Int)))]))], 1⟩) (fun k => l.length - k.1) ⟨cn, by omega, rfl⟩ ⟨[], [], by (simp only [go_sem, eq_self, MvRb, MvRn, MvRt, List.nodup_cons, List.nodup_nil, ↓reduceIte, Nat.reduceEqDiff, Nat.reduceLT, Nat.reduceLeDiff, reduceCtorEq, List.forall_mem_nil, Nat.zero_le, false_implies, List.mem_singleton]) <;> simp⟩ (fun ⟨k, hk, hinv⟩ => ?_)
 by_cases hlt : k < l.length
 · have hlt2 : (an + k) % l.length < l.length := Nat.mod_lt _ (by omega)
   obtain ⟨p, hp⟩ : ∃ p, l[(an + k) % l.length]? = some p := ⟨_, List.getElem?_eq_getElem hlt2⟩
   have hrow := zCf hp
   have hI : ((k : Int) < (l.length : Int)) = True := by simp; omega
   have hw : IntKind.i64.wrap ((an : Int) + (k : Int)) = ((an + k : Nat) : Int) := by rw [zAi] <;> omega
   have hm : (((an + k : Nat) : Int)).tmod (l.length : Int) = (((an + k) % l.length : Nat) : Int) := by rw [Int.tmod_eq_emod_of_nonneg (Int.natCast_nonneg _)]; exact (Int.natCast_emod _ _).symm
   have h00 : ((l.length : Int) = 0) = False := eq_false (by omega)
   have h01 : (0 ≤ (((an + k) % l.length : Nat) : Int)) = True := eq_true (Int.natCast_nonneg _)
   have hwr := lt_sm hl hlt
   have hidx : ringGo l an (l.length - k) k = (nzP p && ringGo l an (l.length - (k + 1)) (k + 1)) := by
     rw [show l.length - k = (l.length - (k + 1)) + 1 by omega]
     simp [ringGo, hp]
   obtain ⟨x, y⟩ := p
   rw [hidx] at hinv
   cases hq : nzP (x, y) with
   | false =>
     rw [hq, Bool.false_and] at hinv
     clear hidx
     try simp -dsimp (maxSteps := 1000000) only [go_sem, List.forall_mem_nil, ↓reduceIte, Nat.reduceEqDiff, Nat.reduceLT, Nat.reduceLeDiff, Nat.reduceAdd, Nat.reduceMul, reduceCtorEq, Tryz.f104, hI, hw, hm, h00, h01, Int.toNat_natCast, hrow, zAh, hq, hinv, zAa]
     repeat' (first
       | ((with_reducible refine sl_i ?_ ?_); focus kernel_rfl)
       | ((with_reducible refine ro_e ?_); kernel_rfl))
   | true =>
     rw [hq, Bool.true_and] at hinv
     clear hidx
     try simp -dsimp (maxSteps := 1000000) only [go_sem, List.forall_mem_nil, ↓reduceIte, Nat.reduceEqDiff, Nat.reduceLT, Nat.reduceLeDiff, Nat.reduceAdd, Nat.reduceMul, reduceCtorEq, Tryz.f104, hI, hw, hm, h00, h01, Int.toNat_natCast, hrow, zAh, hq, hwr, zAa]
     repeat' (first
       | ((with_reducible refine sl_i ?_ ?_); focus kernel_rfl)
       | ((with_reducible refine ro_i ?_ ?_); focus kernel_rfl))
     exact ⟨⟨k + 1, by omega, hinv⟩, by simp only []; omega, [], [], by (simp only [go_sem, eq_self, MvRb, MvRn, MvRt, List.nodup_cons, List.nodup_nil, ↓reduceIte, Nat.reduceEqDiff, Nat.reduceLT, Nat.reduceLeDiff, reduceCtorEq, List.forall_mem_nil, Nat.zero_le, false_implies, List.mem_singleton]) <;> simp⟩
 · have hI : ((k : Int) < (l.length : Int)) = False := by simp; omega
   have hkl : k = l.length := by omega
   subst hkl
   rw [Nat.sub_self] at hinv
   try simp -dsimp (maxSteps := 1000000) only [go_sem, List.forall_mem_nil, ↓reduceIte, Nat.reduceEqDiff, Nat.reduceLT, Nat.reduceLeDiff, Nat.reduceAdd, Nat.reduceMul, reduceCtorEq, Tryz.f104, hI, hinv, ringGo, zAa]
end Go.SX
namespace Go.SX
open Go Go.Proofs
def bareF (m : Mod) : Bool := nzP m.turn && (nzP m.state && (nz m.level && (decide ((m.store.length : Int) = 0) && (decide (m.rat = 0) && (decide (m.rcnt = 0) && (decide ((m.pts.length : Int) = 0) && (decide ((m.lab.length : Int) = 0) && (decide (m.count = 0) && decide (m.left = 0)))))))))
def modV (v : Nat) (m : Mod) : List C := [.im (.int .i64 m.kind), .im (.cpx .f32 m.turn.1 m.turn.2), .im (.cpx .f32 m.state.1 m.state.2), .im (.flt .f32 m.level), (if v = 1 then .nil else .im (.sl 1 (rowsZ m.store))), .im (.int .i64 m.rat), .im (.int .i64 m.rcnt),
 (if v = 2 then .nil else .im (.sl 1 (rowsZ m.pts))), (if v = 2 then .nil else .im (.sl 1 (rowsN m.lab))), .im (.int .i64 m.count), .im (.int .i64 m.left)]
abbrev MdV := { x : Mod × Nat // OkM x.1 ∧ (x.2 = 0 ∨ (x.2 = 1 ∧ x.1.store = []) ∨ (x.2 = 2 ∧ x.1.pts = [] ∧ x.1.lab = [])) }
noncomputable def ct_isBare : Ct := fam true (fun x : MdV => ([.agg (modV x.1.2 x.1.1)], [])) (fun x => .one { val := .c (.im (.bool (bareF x.1.1))) })
theorem isBare_inj : ∀ a b : MdV, ([D.agg (modV a.1.2 a.1.1)], ([] : List (List B))) = ([D.agg (modV b.1.2 b.1.1)], []) → Outs.one { val := .c (.im (.bool (bareF a.1.1))) } = Outs.one { val := .c (.im (.bool (bareF b.1.1))) } := by
 rintro ⟨⟨⟨k, ⟨t1, t2⟩, ⟨s1, s2⟩, l, st, r1, r2, p, la, c, le⟩, v⟩, _, hv⟩ ⟨⟨⟨k', ⟨t1', t2'⟩, ⟨s1', s2'⟩, l', st', r1', r2', p', la', c', le'⟩, v'⟩, _, hv'⟩ h
 simp only [Prod.mk.injEq, List.cons.injEq, D.agg.injEq, modV, C.im.injEq, I.cpx.injEq, I.flt.injEq, I.int.injEq, true_and, and_true] at h
 obtain ⟨rfl, ⟨rfl, rfl⟩, ⟨rfl, rfl⟩, rfl, h1, rfl, rfl, h2, h3, rfl, rfl⟩ := h
 have e1 : st = st' ∧ p = p' ∧ la = la' := by
   simp only at hv hv'
   rcases hv with rfl | ⟨rfl, rfl⟩ | ⟨rfl, rfl, rfl⟩ <;> rcases hv' with rfl | ⟨rfl, rfl⟩ | ⟨rfl, rfl, rfl⟩ <;> simp_all [zAs, zAw]
 obtain ⟨rfl, rfl, rfl⟩ := e1
 rfl
theorem zCb {k : Int} {t1 t2 s1 s2 lv : Nat} {ra rc c l : Int} {st : List Pt} {pts : List Pt} {lab : List Int} (hst : st.length ≤ sm) (hp : pts.length ≤ sm) (hl : lab.length ≤ sm) :
   ct_isBare.run [.agg [.im (.int .i64 k), .im (.cpx .f32 t1 t2), .im (.cpx .f32 s1 s2), .im (.flt .f32 lv), .im (.sl 1 (rowsZ st)), .im (.int .i64 ra), .im (.int .i64 rc), .im (.sl 1 (rowsZ pts)), .im (.sl 1 (rowsN lab)), .im (.int .i64 c), .im (.int .i64 l)]] [] =
     some (.one { val := .c (.im (.bool (bareF ⟨k, (t1, t2), (s1, s2), lv, st, ra, rc, pts, lab, c, l⟩))) }) :=
 zDw (args := fun x : MdV => ([D.agg (modV x.1.2 x.1.1)], [])) isBare_inj ⟨(⟨k, (t1, t2), (s1, s2), lv, st, ra, rc, pts, lab, c, l⟩, 0), ⟨hst, hp, hl⟩, .inl rfl⟩
theorem run_isBare1 {k : Int} {t1 t2 s1 s2 lv : Nat} {ra rc c l : Int} {pts : List Pt} {lab : List Int} (hp : pts.length ≤ sm) (hl : lab.length ≤ sm) :
   ct_isBare.run [.agg [.im (.int .i64 k), .im (.cpx .f32 t1 t2), .im (.cpx .f32 s1 s2), .im (.flt .f32 lv), .nil, .im (.int .i64 ra), .im (.int .i64 rc), .im (.sl 1 (rowsZ pts)), .im (.sl 1 (rowsN lab)), .im (.int .i64 c), .im (.int .i64 l)]] [] =
     some (.one { val := .c (.im (.bool (bareF ⟨k, (t1, t2), (s1, s2), lv, [], ra, rc, pts, lab, c, l⟩))) }) :=
 zDw (args := fun x : MdV => ([D.agg (modV x.1.2 x.1.1)], [])) isBare_inj ⟨(⟨k, (t1, t2), (s1, s2), lv, [], ra, rc, pts, lab, c, l⟩, 1), ⟨(by simp [sm]), hp, hl⟩, .inr (.inl ⟨rfl, rfl⟩)⟩
theorem run_isBare2 {k : Int} {t1 t2 s1 s2 lv : Nat} {ra rc c l : Int} {st : List Pt} (hst : st.length ≤ sm) :
   ct_isBare.run [.agg [.im (.int .i64 k), .im (.cpx .f32 t1 t2), .im (.cpx .f32 s1 s2), .im (.flt .f32 lv), .im (.sl 1 (rowsZ st)), .im (.int .i64 ra), .im (.int .i64 rc), .nil, .nil, .im (.int .i64 c), .im (.int .i64 l)]] [] =
     some (.one { val := .c (.im (.bool (bareF ⟨k, (t1, t2), (s1, s2), lv, st, ra, rc, [], [], c, l⟩))) }) :=
 zDw (args := fun x : MdV => ([D.agg (modV x.1.2 x.1.1)], [])) isBare_inj ⟨(⟨k, (t1, t2), (s1, s2), lv, st, ra, rc, [], [], c, l⟩, 2), ⟨hst, (by simp [sm]), (by simp [sm])⟩, .inr (.inr ⟨rfl, rfl, rfl⟩)⟩
set_option maxRecDepth 100000 in
set_option maxHeartbeats 8000000 in
theorem law_isBare : Law Tryz.prog 107 ct_isBare := by
 refine zAf (zAc law_isNoughts (zAc zFx zAe)) hmixA Tryz.func107 rfl rfl (fun ⟨⟨⟨k, ⟨t1, t2⟩, ⟨s1, s2⟩, lv, st, ra, rc, pts, lab, c, l⟩, v⟩, hm, hv⟩ => ⟨zAv rfl, by simp [Tryz.f107], ?_⟩)
 simp only at hv
 rcases hv with rfl | ⟨rfl, rfl⟩ | ⟨rfl, rfl, rfl⟩
 · simp only [modV, Nat.reduceEqDiff, if_true, if_false, ↓reduceIte, (eq_false (by decide) : ((0 : Nat) = 1) = False), (eq_false (by decide) : ((0 : Nat) = 2) = False), (eq_false (by decide) : ((1 : Nat) = 2) = False), (eq_false (by decide) : ((2 : Nat) = 1) = False)]
   cases h1 : nzP (t1, t2) with
   | false =>
     try simp -dsimp (maxSteps := 1000000) only [go_sem, List.forall_mem_nil, ↓reduceIte, Nat.reduceEqDiff, Nat.reduceLT, Nat.reduceLeDiff, Nat.reduceAdd, Nat.reduceMul, reduceCtorEq, Tryz.f107, zAh, h1, zAa, zAb]
     simp [bareF, h1]
   | true =>
     cases h2 : nzP (s1, s2) with
     | false =>
       try simp -dsimp (maxSteps := 1000000) only [go_sem, List.forall_mem_nil, ↓reduceIte, Nat.reduceEqDiff, Nat.reduceLT, Nat.reduceLeDiff, Nat.reduceAdd, Nat.reduceMul, reduceCtorEq, Tryz.f107, zAh, h1, h2, zAa, zAb]
       simp [bareF, h1, h2]
     | true =>
       by_cases p1 : (lv : Int) = 0
       rotate_left
       · have e1 := eq_false p1
         clear p1
         try simp -dsimp (maxSteps := 1000000) only [go_sem, List.forall_mem_nil, ↓reduceIte, Nat.reduceEqDiff, Nat.reduceLT, Nat.reduceLeDiff, Nat.reduceAdd, Nat.reduceMul, reduceCtorEq, Tryz.f107, zAh, zAm, h1, h2, zAa, zAb, e1]
         all_goals (simp only [bareF, nz, h1, h2, *, decide_false, decide_true, Bool.false_and, Bool.true_and, Bool.and_false, List.length_nil, Int.ofNat_zero, Int.natCast_zero])
       have e1 := eq_true p1
       by_cases p2 : (st.length : Int) = 0
       rotate_left
       · have e2 := eq_false p2
         clear p2
         try simp -dsimp (maxSteps := 1000000) only [go_sem, List.forall_mem_nil, ↓reduceIte, Nat.reduceEqDiff, Nat.reduceLT, Nat.reduceLeDiff, Nat.reduceAdd, Nat.reduceMul, reduceCtorEq, Tryz.f107, zAh, zAm, h1, h2, zAa, zAb, e1, e2]
         all_goals (simp only [bareF, nz, h1, h2, *, decide_false, decide_true, Bool.false_and, Bool.true_and, Bool.and_false, List.length_nil, Int.ofNat_zero, Int.natCast_zero])
       have e2 := eq_true p2
       by_cases p3 : ra = 0
       rotate_left
       · have e3 := eq_false p3
         clear p3
         try simp -dsimp (maxSteps := 1000000) only [go_sem, List.forall_mem_nil, ↓reduceIte, Nat.reduceEqDiff, Nat.reduceLT, Nat.reduceLeDiff, Nat.reduceAdd, Nat.reduceMul, reduceCtorEq, Tryz.f107, zAh, zAm, h1, h2, zAa, zAb, e1, e2, e3]
         all_goals (simp only [bareF, nz, h1, h2, *, decide_false, decide_true, Bool.false_and, Bool.true_and, Bool.and_false, List.length_nil, Int.ofNat_zero, Int.natCast_zero])
       have e3 := eq_true p3
       by_cases p4 : rc = 0
       rotate_left
       · have e4 := eq_false p4
         clear p4
         try simp -dsimp (maxSteps := 1000000) only [go_sem, List.forall_mem_nil, ↓reduceIte, Nat.reduceEqDiff, Nat.reduceLT, Nat.reduceLeDiff, Nat.reduceAdd, Nat.reduceMul, reduceCtorEq, Tryz.f107, zAh, zAm, h1, h2, zAa, zAb, e1, e2, e3, e4]
         all_goals (simp only [bareF, nz, h1, h2, *, decide_false, decide_true, Bool.false_and, Bool.true_and, Bool.and_false, List.length_nil, Int.ofNat_zero, Int.natCast_zero])
       have e4 := eq_true p4
       by_cases p5 : (pts.length : Int) = 0
       rotate_left
       · have e5 := eq_false p5
         clear p5
         try simp -dsimp (maxSteps := 1000000) only [go_sem, List.forall_mem_nil, ↓reduceIte, Nat.reduceEqDiff, Nat.reduceLT, Nat.reduceLeDiff, Nat.reduceAdd, Nat.reduceMul, reduceCtorEq, Tryz.f107, zAh, zAm, h1, h2, zAa, zAb, e1, e2, e3, e4, e5]
         all_goals (simp only [bareF, nz, h1, h2, *, decide_false, decide_true, Bool.false_and, Bool.true_and, Bool.and_false, List.length_nil, Int.ofNat_zero, Int.natCast_zero])
       have e5 := eq_true p5
       by_cases p6 : (lab.length : Int) = 0
       rotate_left
       · have e6 := eq_false p6
         clear p6
         try simp -dsimp (maxSteps := 1000000) only [go_sem, List.forall_mem_nil, ↓reduceIte, Nat.reduceEqDiff, Nat.reduceLT, Nat.reduceLeDiff, Nat.reduceAdd, Nat.reduceMul, reduceCtorEq, Tryz.f107, zAh, zAm, h1, h2, zAa, zAb, e1, e2, e3, e4, e5, e6]
         all_goals (simp only [bareF, nz, h1, h2, *, decide_false, decide_true, Bool.false_and, Bool.true_and, Bool.and_false, List.length_nil, Int.ofNat_zero, Int.natCast_zero])
       have e6 := eq_true p6
       by_cases p7 : c = 0
       rotate_left
       · have e7 := eq_false p7
         clear p7
         try simp -dsimp (maxSteps := 1000000) only [go_sem, List.forall_mem_nil, ↓reduceIte, Nat.reduceEqDiff, Nat.reduceLT, Nat.reduceLeDiff, Nat.reduceAdd, Nat.reduceMul, reduceCtorEq, Tryz.f107, zAh, zAm, h1, h2, zAa, zAb, e1, e2, e3, e4, e5, e6, e7]
         all_goals (simp only [bareF, nz, h1, h2, *, decide_false, decide_true, Bool.false_and, Bool.true_and, Bool.and_false, List.length_nil, Int.ofNat_zero, Int.natCast_zero])
       have e7 := eq_true p7
       by_cases p8 : l = 0
       rotate_left
       · have e8 := eq_false p8
         clear p8
         try simp -dsimp (maxSteps := 1000000) only [go_sem, List.forall_mem_nil, ↓reduceIte, Nat.reduceEqDiff, Nat.reduceLT, Nat.reduceLeDiff, Nat.reduceAdd, Nat.reduceMul, reduceCtorEq, Tryz.f107, zAh, zAm, h1, h2, zAa, zAb, e1, e2, e3, e4, e5, e6, e7, e8]
         all_goals (simp only [bareF, nz, h1, h2, *, decide_false, decide_true, Bool.false_and, Bool.true_and, Bool.and_false, List.length_nil, Int.ofNat_zero, Int.natCast_zero])
       have e8 := eq_true p8
       clear p1 p2 p3 p4 p5 p6 p7 p8
       try simp -dsimp (maxSteps := 1000000) only [go_sem, List.forall_mem_nil, ↓reduceIte, Nat.reduceEqDiff, Nat.reduceLT, Nat.reduceLeDiff, Nat.reduceAdd, Nat.reduceMul, reduceCtorEq, Tryz.f107, zAh, zAm, h1, h2, zAa, zAb, e1, e2, e3, e4, e5, e6, e7, e8]
       simp only [bareF, nz, h1, h2, *, decide_false, decide_true, Bool.false_and, Bool.true_and, Bool.and_false, List.length_nil, Int.ofNat_zero, Int.natCast_zero]
 · simp only [modV, Nat.reduceEqDiff, if_true, if_false, ↓reduceIte, (eq_false (by decide) : ((0 : Nat) = 1) = False), (eq_false (by decide) : ((0 : Nat) = 2) = False), (eq_false (by decide) : ((1 : Nat) = 2) = False), (eq_false (by decide) : ((2 : Nat) = 1) = False)]
   cases h1 : nzP (t1, t2) with
   | false =>
     try simp -dsimp (maxSteps := 1000000) only [go_sem, List.forall_mem_nil, ↓reduceIte, Nat.reduceEqDiff, Nat.reduceLT, Nat.reduceLeDiff, Nat.reduceAdd, Nat.reduceMul, reduceCtorEq, Tryz.f107, zAh, h1, zAa, zAb]
     simp [bareF, h1]
   | true =>
     cases h2 : nzP (s1, s2) with
     | false =>
       try simp -dsimp (maxSteps := 1000000) only [go_sem, List.forall_mem_nil, ↓reduceIte, Nat.reduceEqDiff, Nat.reduceLT, Nat.reduceLeDiff, Nat.reduceAdd, Nat.reduceMul, reduceCtorEq, Tryz.f107, zAh, h1, h2, zAa, zAb]
       simp [bareF, h1, h2]
     | true =>
       by_cases p1 : (lv : Int) = 0
       rotate_left
       · have e1 := eq_false p1
         clear p1
         try simp -dsimp (maxSteps := 1000000) only [go_sem, List.forall_mem_nil, ↓reduceIte, Nat.reduceEqDiff, Nat.reduceLT, Nat.reduceLeDiff, Nat.reduceAdd, Nat.reduceMul, reduceCtorEq, Tryz.f107, zAh, zAm, h1, h2, zAa, zAb, e1]
         all_goals (simp only [bareF, nz, h1, h2, *, decide_false, decide_true, Bool.false_and, Bool.true_and, Bool.and_false, List.length_nil, Int.ofNat_zero, Int.natCast_zero])
       have e1 := eq_true p1
       by_cases p2 : ra = 0
       rotate_left
       · have e2 := eq_false p2
         clear p2
         try simp -dsimp (maxSteps := 1000000) only [go_sem, List.forall_mem_nil, ↓reduceIte, Nat.reduceEqDiff, Nat.reduceLT, Nat.reduceLeDiff, Nat.reduceAdd, Nat.reduceMul, reduceCtorEq, Tryz.f107, zAh, zAm, h1, h2, zAa, zAb, e1, e2]
         all_goals (simp only [bareF, nz, h1, h2, *, decide_false, decide_true, Bool.false_and, Bool.true_and, Bool.and_false, List.length_nil, Int.ofNat_zero, Int.natCast_zero])
       have e2 := eq_true p2
       by_cases p3 : rc = 0
       rotate_left
       · have e3 := eq_false p3
         clear p3
         try simp -dsimp (maxSteps := 1000000) only [go_sem, List.forall_mem_nil, ↓reduceIte, Nat.reduceEqDiff, Nat.reduceLT, Nat.reduceLeDiff, Nat.reduceAdd, Nat.reduceMul, reduceCtorEq, Tryz.f107, zAh, zAm, h1, h2, zAa, zAb, e1, e2, e3]
         all_goals (simp only [bareF, nz, h1, h2, *, decide_false, decide_true, Bool.false_and, Bool.true_and, Bool.and_false, List.length_nil, Int.ofNat_zero, Int.natCast_zero])
       have e3 := eq_true p3
       by_cases p4 : (pts.length : Int) = 0
       rotate_left
       · have e4 := eq_false p4
         clear p4
         try simp -dsimp (maxSteps := 1000000) only [go_sem, List.forall_mem_nil, ↓reduceIte, Nat.reduceEqDiff, Nat.reduceLT, Nat.reduceLeDiff, Nat.reduceAdd, Nat.reduceMul, reduceCtorEq, Tryz.f107, zAh, zAm, h1, h2, zAa, zAb, e1, e2, e3, e4]
         all_goals (simp only [bareF, nz, h1, h2, *, decide_false, decide_true, Bool.false_and, Bool.true_and, Bool.and_false, List.length_nil, Int.ofNat_zero, Int.natCast_zero])
       have e4 := eq_true p4
       by_cases p5 : (lab.length : Int) = 0
       rotate_left
       · have e5 := eq_false p5
         clear p5
         try simp -dsimp (maxSteps := 1000000) only [go_sem, List.forall_mem_nil, ↓reduceIte, Nat.reduceEqDiff, Nat.reduceLT, Nat.reduceLeDiff, Nat.reduceAdd, Nat.reduceMul, reduceCtorEq, Tryz.f107, zAh, zAm, h1, h2, zAa, zAb, e1, e2, e3, e4, e5]
         all_goals (simp only [bareF, nz, h1, h2, *, decide_false, decide_true, Bool.false_and, Bool.true_and, Bool.and_false, List.length_nil, Int.ofNat_zero, Int.natCast_zero])
       have e5 := eq_true p5
       by_cases p6 : c = 0
       rotate_left
       · have e6 := eq_false p6
         clear p6
         try simp -dsimp (maxSteps := 1000000) only [go_sem, List.forall_mem_nil, ↓reduceIte, Nat.reduceEqDiff, Nat.reduceLT, Nat.reduceLeDiff, Nat.reduceAdd, Nat.reduceMul, reduceCtorEq, Tryz.f107, zAh, zAm, h1, h2, zAa, zAb, e1, e2, e3, e4, e5, e6]
         all_goals (simp only [bareF, nz, h1, h2, *, decide_false, decide_true, Bool.false_and, Bool.true_and, Bool.and_false, List.length_nil, Int.ofNat_zero, Int.natCast_zero])
       have e6 := eq_true p6
       by_cases p7 : l = 0
       rotate_left
       · have e7 := eq_false p7
         clear p7
         try simp -dsimp (maxSteps := 1000000) only [go_sem, List.forall_mem_nil, ↓reduceIte, Nat.reduceEqDiff, Nat.reduceLT, Nat.reduceLeDiff, Nat.reduceAdd, Nat.reduceMul, reduceCtorEq, Tryz.f107, zAh, zAm, h1, h2, zAa, zAb, e1, e2, e3, e4, e5, e6, e7]
         all_goals (simp only [bareF, nz, h1, h2, *, decide_false, decide_true, Bool.false_and, Bool.true_and, Bool.and_false, List.length_nil, Int.ofNat_zero, Int.natCast_zero])
       have e7 := eq_true p7
       clear p1 p2 p3 p4 p5 p6 p7
       try simp -dsimp (maxSteps := 1000000) only [go_sem, List.forall_mem_nil, ↓reduceIte, Nat.reduceEqDiff, Nat.reduceLT, Nat.reduceLeDiff, Nat.reduceAdd, Nat.reduceMul, reduceCtorEq, Tryz.f107, zAh, zAm, h1, h2, zAa, zAb, e1, e2, e3, e4, e5, e6, e7]
       simp only [bareF, nz, h1, h2, *, decide_false, decide_true, Bool.false_and, Bool.true_and, Bool.and_false, List.length_nil, Int.ofNat_zero, Int.natCast_zero]
 · simp only [modV, Nat.reduceEqDiff, if_true, if_false, ↓reduceIte, (eq_false (by decide) : ((0 : Nat) = 1) = False), (eq_false (by decide) : ((0 : Nat) = 2) = False), (eq_false (by decide) : ((1 : Nat) = 2) = False), (eq_false (by decide) : ((2 : Nat) = 1) = False)]
   cases h1 : nzP (t1, t2) with
   | false =>
     try simp -dsimp (maxSteps := 1000000) only [go_sem, List.forall_mem_nil, ↓reduceIte, Nat.reduceEqDiff, Nat.reduceLT, Nat.reduceLeDiff, Nat.reduceAdd, Nat.reduceMul, reduceCtorEq, Tryz.f107, zAh, h1, zAa, zAb]
     simp [bareF, h1]
   | true =>
     cases h2 : nzP (s1, s2) with
     | false =>
       try simp -dsimp (maxSteps := 1000000) only [go_sem, List.forall_mem_nil, ↓reduceIte, Nat.reduceEqDiff, Nat.reduceLT, Nat.reduceLeDiff, Nat.reduceAdd, Nat.reduceMul, reduceCtorEq, Tryz.f107, zAh, h1, h2, zAa, zAb]
       simp [bareF, h1, h2]
     | true =>
       by_cases p1 : (lv : Int) = 0
       rotate_left
       · have e1 := eq_false p1
         clear p1
         try simp -dsimp (maxSteps := 1000000) only [go_sem, List.forall_mem_nil, ↓reduceIte, Nat.reduceEqDiff, Nat.reduceLT, Nat.reduceLeDiff, Nat.reduceAdd, Nat.reduceMul, reduceCtorEq, Tryz.f107, zAh, zAm, h1, h2, zAa, zAb, e1]
         all_goals (simp only [bareF, nz, h1, h2, *, decide_false, decide_true, Bool.false_and, Bool.true_and, Bool.and_false, List.length_nil, Int.ofNat_zero, Int.natCast_zero])
       have e1 := eq_true p1
       by_cases p2 : (st.length : Int) = 0
       rotate_left
       · have e2 := eq_false p2
         clear p2
         try simp -dsimp (maxSteps := 1000000) only [go_sem, List.forall_mem_nil, ↓reduceIte, Nat.reduceEqDiff, Nat.reduceLT, Nat.reduceLeDiff, Nat.reduceAdd, Nat.reduceMul, reduceCtorEq, Tryz.f107, zAh, zAm, h1, h2, zAa, zAb, e1, e2]
         all_goals (simp only [bareF, nz, h1, h2, *, decide_false, decide_true, Bool.false_and, Bool.true_and, Bool.and_false, List.length_nil, Int.ofNat_zero, Int.natCast_zero])
       have e2 := eq_true p2
       by_cases p3 : ra = 0
       rotate_left
       · have e3 := eq_false p3
         clear p3
         try simp -dsimp (maxSteps := 1000000) only [go_sem, List.forall_mem_nil, ↓reduceIte, Nat.reduceEqDiff, Nat.reduceLT, Nat.reduceLeDiff, Nat.reduceAdd, Nat.reduceMul, reduceCtorEq, Tryz.f107, zAh, zAm, h1, h2, zAa, zAb, e1, e2, e3]
         all_goals (simp only [bareF, nz, h1, h2, *, decide_false, decide_true, Bool.false_and, Bool.true_and, Bool.and_false, List.length_nil, Int.ofNat_zero, Int.natCast_zero])
       have e3 := eq_true p3
       by_cases p4 : rc = 0
       rotate_left
       · have e4 := eq_false p4
         clear p4
         try simp -dsimp (maxSteps := 1000000) only [go_sem, List.forall_mem_nil, ↓reduceIte, Nat.reduceEqDiff, Nat.reduceLT, Nat.reduceLeDiff, Nat.reduceAdd, Nat.reduceMul, reduceCtorEq, Tryz.f107, zAh, zAm, h1, h2, zAa, zAb, e1, e2, e3, e4]
         all_goals (simp only [bareF, nz, h1, h2, *, decide_false, decide_true, Bool.false_and, Bool.true_and, Bool.and_false, List.length_nil, Int.ofNat_zero, Int.natCast_zero])
       have e4 := eq_true p4
       by_cases p5 : c = 0
       rotate_left
       · have e5 := eq_false p5
         clear p5
         try simp -dsimp (maxSteps := 1000000) only [go_sem, List.forall_mem_nil, ↓reduceIte, Nat.reduceEqDiff, Nat.reduceLT, Nat.reduceLeDiff, Nat.reduceAdd, Nat.reduceMul, reduceCtorEq, Tryz.f107, zAh, zAm, h1, h2, zAa, zAb, e1, e2, e3, e4, e5]
         all_goals (simp only [bareF, nz, h1, h2, *, decide_false, decide_true, Bool.false_and, Bool.true_and, Bool.and_false, List.length_nil, Int.ofNat_zero, Int.natCast_zero])
       have e5 := eq_true p5
       by_cases p6 : l = 0
       rotate_left
       · have e6 := eq_false p6
         clear p6
         try simp -dsimp (maxSteps := 1000000) only [go_sem, List.forall_mem_nil, ↓reduceIte, Nat.reduceEqDiff, Nat.reduceLT, Nat.reduceLeDiff, Nat.reduceAdd, Nat.reduceMul, reduceCtorEq, Tryz.f107, zAh, zAm, h1, h2, zAa, zAb, e1, e2, e3, e4, e5, e6]
         all_goals (simp only [bareF, nz, h1, h2, *, decide_false, decide_true, Bool.false_and, Bool.true_and, Bool.and_false, List.length_nil, Int.ofNat_zero, Int.natCast_zero])
       have e6 := eq_true p6
       clear p1 p2 p3 p4 p5 p6
       try simp -dsimp (maxSteps := 1000000) only [go_sem, List.forall_mem_nil, ↓reduceIte, Nat.reduceEqDiff, Nat.reduceLT, Nat.reduceLeDiff, Nat.reduceAdd, Nat.reduceMul, reduceCtorEq, Tryz.f107, zAh, zAm, h1, h2, zAa, zAb, e1, e2, e3, e4, e5, e6]
       simp only [bareF, nz, h1, h2, *, decide_false, decide_true, Bool.false_and, Bool.true_and, Bool.and_false, List.length_nil, Int.ofNat_zero, Int.natCast_zero]
end Go.SX
namespace Go.SX
open Go Go.Proofs
def isModuleF (m : Mod) : Bool :=
 if m.kind = 1 then bareF { m with turn := (0, 0), state := (0, 0) }
 else if m.kind = 2 then bareF { m with turn := (0, 0), state := (0, 0) }
 else if m.kind = 3 then bareF { m with level := 0 }
 else if m.kind = 4 then (isRingF m.store m.rat m.rcnt && decide (m.rcnt = (m.store.length : Int))) && bareF { m with store := [], rat := 0, rcnt := 0 }
 else if m.kind = 5 then bareF m
 else if m.kind = 6 then isTableF m.pts m.lab && bareF { m with pts := [], lab := [], count := 0 }
 else if m.kind = 7 then (nz m.level || fcmp .gtr .f32 m.level 0) && bareF { m with level := 0 }
 else if m.kind = 8 then (decide (1 ≤ m.count) && (decide (m.count ≤ 100) && (decide (0 ≤ m.left) && decide (m.left < m.count)))) && bareF { m with state := (0, 0), count := 0, left := 0 }
 else false
abbrev MdA := { m : Mod // OkM m }
noncomputable def zGz : Ct := fam true (fun x : MdA => ([.agg (modC x.1)], [])) (fun x => .one { val := .c (.im (.bool (isModuleF x.1))) })
theorem zBf {k : Int} {t1 t2 s1 s2 lv : Nat} {st : List Pt} {ra rc : Int} {pts : List Pt} {lab : List Int} {c l : Int} (hst : st.length ≤ sm) (hp : pts.length ≤ sm) (hl : lab.length ≤ sm) :
   zGz.run [.agg [.im (.int .i64 k), .im (.cpx .f32 t1 t2), .im (.cpx .f32 s1 s2), .im (.flt .f32 lv), .im (.sl 1 (rowsZ st)), .im (.int .i64 ra), .im (.int .i64 rc), .im (.sl 1 (rowsZ pts)), .im (.sl 1 (rowsN lab)), .im (.int .i64 c), .im (.int .i64 l)]] [] =
     some (.one { val := .c (.im (.bool (isModuleF ⟨k, (t1, t2), (s1, s2), lv, st, ra, rc, pts, lab, c, l⟩))) }) := by
 refine zAd (args := fun x : MdA => ([D.agg (modC x.1)], [])) ?_ ⟨⟨k, (t1, t2), (s1, s2), lv, st, ra, rc, pts, lab, c, l⟩, ⟨hst, hp, hl⟩⟩
 rintro ⟨a, _⟩ ⟨b, _⟩ h
 simp at h ⊢
 exact zDg h
set_option maxRecDepth 100000 in
set_option maxHeartbeats 8000000 in
theorem zDp : Law Tryz.prog 45 zGz := by
 refine zAf (zAc law_isBare (zAc law_IsRing (zAc law_IsTable (zAc zFx zAe)))) hmixA Tryz.func45 rfl rfl (fun ⟨⟨k, ⟨t1, t2⟩, ⟨s1, s2⟩, lv, st, ra, rc, pts, lab, c, l⟩, ⟨q1, q2, q3⟩⟩ => ⟨zAv rfl, by simp [Tryz.f45], ?_⟩)
 simp only at q1 q2 q3
 simp only [modC]
 by_cases k1 : k = 1
 · subst k1
   try simp -dsimp (maxSteps := 1000000) only [go_sem, List.forall_mem_nil, ↓reduceIte, Nat.reduceEqDiff, Nat.reduceLT, Nat.reduceLeDiff, Nat.reduceAdd, Nat.reduceMul, reduceCtorEq, Tryz.f45, zCb q1 q2 q3, isModuleF]
 by_cases k2 : k = 2
 · subst k2
   try simp -dsimp (maxSteps := 1000000) only [go_sem, List.forall_mem_nil, ↓reduceIte, Nat.reduceEqDiff, Nat.reduceLT, Nat.reduceLeDiff, Nat.reduceAdd, Nat.reduceMul, reduceCtorEq, Tryz.f45, zCb q1 q2 q3, isModuleF, Int.reduceEq]
 by_cases k3 : k = 3
 · subst k3
   try simp -dsimp (maxSteps := 1000000) only [go_sem, List.forall_mem_nil, ↓reduceIte, Nat.reduceEqDiff, Nat.reduceLT, Nat.reduceLeDiff, Nat.reduceAdd, Nat.reduceMul, reduceCtorEq, Tryz.f45, zCb q1 q2 q3, isModuleF, Int.reduceEq]
 by_cases k4 : k = 4
 · subst k4
   cases h1 : isRingF st ra rc with
   | false =>
     try simp -dsimp (maxSteps := 1000000) only [go_sem, List.forall_mem_nil, ↓reduceIte, Nat.reduceEqDiff, Nat.reduceLT, Nat.reduceLeDiff, Nat.reduceAdd, Nat.reduceMul, reduceCtorEq, Tryz.f45, run_isBare1 q2 q3, run_IsRing q1, h1, isModuleF, Int.reduceEq, Bool.false_and]
     repeat' (first
       | ((with_reducible refine sl_i ?_ ?_); focus kernel_rfl)
       | ((with_reducible refine ro_e ?_); kernel_rfl))
   | true =>
     by_cases h2 : rc = (st.length : Int)
     · have h2' := eq_true h2
       clear h2
       try simp -dsimp (maxSteps := 1000000) only [go_sem, List.forall_mem_nil, ↓reduceIte, Nat.reduceEqDiff, Nat.reduceLT, Nat.reduceLeDiff, Nat.reduceAdd, Nat.reduceMul, reduceCtorEq, Tryz.f45, run_isBare1 q2 q3, run_IsRing q1, h1, h2', zAa, isModuleF, Int.reduceEq, Bool.true_and]
       repeat' (first
         | ((with_reducible refine sl_i ?_ ?_); focus kernel_rfl)
         | ((with_reducible refine ro_e ?_); kernel_rfl))
     · have h2' := eq_false h2
       clear h2
       try simp -dsimp (maxSteps := 1000000) only [go_sem, List.forall_mem_nil, ↓reduceIte, Nat.reduceEqDiff, Nat.reduceLT, Nat.reduceLeDiff, Nat.reduceAdd, Nat.reduceMul, reduceCtorEq, Tryz.f45, run_isBare1 q2 q3, run_IsRing q1, h1, h2', zAa, isModuleF, Int.reduceEq, Bool.true_and, Bool.false_and]
       repeat' (first
         | ((with_reducible refine sl_i ?_ ?_); focus kernel_rfl)
         | ((with_reducible refine ro_e ?_); kernel_rfl))
 by_cases k5 : k = 5
 · subst k5
   try simp -dsimp (maxSteps := 1000000) only [go_sem, List.forall_mem_nil, ↓reduceIte, Nat.reduceEqDiff, Nat.reduceLT, Nat.reduceLeDiff, Nat.reduceAdd, Nat.reduceMul, reduceCtorEq, Tryz.f45, zCb q1 q2 q3, isModuleF, Int.reduceEq]
 by_cases k6 : k = 6
 · subst k6
   cases h1 : isTableF pts lab with
   | false =>
     try simp -dsimp (maxSteps := 1000000) only [go_sem, List.forall_mem_nil, ↓reduceIte, Nat.reduceEqDiff, Nat.reduceLT, Nat.reduceLeDiff, Nat.reduceAdd, Nat.reduceMul, reduceCtorEq, Tryz.f45, run_isBare2 q1, zBy q2 q3, h1, isModuleF, Int.reduceEq, Bool.false_and]
   | true =>
     try simp -dsimp (maxSteps := 1000000) only [go_sem, List.forall_mem_nil, ↓reduceIte, Nat.reduceEqDiff, Nat.reduceLT, Nat.reduceLeDiff, Nat.reduceAdd, Nat.reduceMul, reduceCtorEq, Tryz.f45, run_isBare2 q1, zBy q2 q3, h1, isModuleF, Int.reduceEq, Bool.true_and]
 by_cases k7 : k = 7
 · subst k7
   by_cases h1 : (lv : Int) = 0
   · have h1' := eq_true h1
     clear h1
     try simp -dsimp (maxSteps := 1000000) only [go_sem, List.forall_mem_nil, ↓reduceIte, Nat.reduceEqDiff, Nat.reduceLT, Nat.reduceLeDiff, Nat.reduceAdd, Nat.reduceMul, reduceCtorEq, Tryz.f45, zCb q1 q2 q3, zAm, h1', nz, isModuleF, Int.reduceEq, Bool.true_or, Bool.true_and]
     repeat' (first
       | ((with_reducible refine sl_i ?_ ?_); focus kernel_rfl)
       | ((with_reducible refine ro_e ?_); kernel_rfl))
   · have h1' := eq_false h1
     clear h1
     cases h2 : fcmp .gtr .f32 lv 0 with
     | false =>
       try simp -dsimp (maxSteps := 1000000) only [go_sem, List.forall_mem_nil, ↓reduceIte, Nat.reduceEqDiff, Nat.reduceLT, Nat.reduceLeDiff, Nat.reduceAdd, Nat.reduceMul, reduceCtorEq, Tryz.f45, zCb q1 q2 q3, zAm, h1', h2, nz, isModuleF, Int.reduceEq, Bool.false_or, Bool.false_and]
       repeat' (first
         | ((with_reducible refine sl_i ?_ ?_); focus kernel_rfl)
         | ((with_reducible refine ro_e ?_); kernel_rfl))
     | true =>
       try simp -dsimp (maxSteps := 1000000) only [go_sem, List.forall_mem_nil, ↓reduceIte, Nat.reduceEqDiff, Nat.reduceLT, Nat.reduceLeDiff, Nat.reduceAdd, Nat.reduceMul, reduceCtorEq, Tryz.f45, zCb q1 q2 q3, zAm, h1', h2, nz, isModuleF, Int.reduceEq, Bool.false_or, Bool.true_and]
       repeat' (first
         | ((with_reducible refine sl_i ?_ ?_); focus kernel_rfl)
         | ((with_reducible refine ro_e ?_); kernel_rfl))
 by_cases k8 : k = 8
 · subst k8
   by_cases p1 : (1 : Int) ≤ c
   rotate_left
   · have e1 := eq_false p1
     clear p1
     try simp -dsimp (maxSteps := 1000000) only [go_sem, List.forall_mem_nil, ↓reduceIte, Nat.reduceEqDiff, Nat.reduceLT, Nat.reduceLeDiff, Nat.reduceAdd, Nat.reduceMul, reduceCtorEq, Tryz.f45, zCb q1 q2 q3, isModuleF, Int.reduceEq, Bool.false_and, Bool.true_and, Bool.and_false, e1]
   have e1 := eq_true p1
   by_cases p2 : c ≤ 100
   rotate_left
   · have e2 := eq_false p2
     clear p2
     try simp -dsimp (maxSteps := 1000000) only [go_sem, List.forall_mem_nil, ↓reduceIte, Nat.reduceEqDiff, Nat.reduceLT, Nat.reduceLeDiff, Nat.reduceAdd, Nat.reduceMul, reduceCtorEq, Tryz.f45, zCb q1 q2 q3, isModuleF, Int.reduceEq, Bool.false_and, Bool.true_and, Bool.and_false, e1, e2]
   have e2 := eq_true p2
   by_cases p3 : (0 : Int) ≤ l
   rotate_left
   · have e3 := eq_false p3
     clear p3
     try simp -dsimp (maxSteps := 1000000) only [go_sem, List.forall_mem_nil, ↓reduceIte, Nat.reduceEqDiff, Nat.reduceLT, Nat.reduceLeDiff, Nat.reduceAdd, Nat.reduceMul, reduceCtorEq, Tryz.f45, zCb q1 q2 q3, isModuleF, Int.reduceEq, Bool.false_and, Bool.true_and, Bool.and_false, e1, e2, e3]
   have e3 := eq_true p3
   by_cases p4 : l < c
   rotate_left
   · have e4 := eq_false p4
     clear p4
     try simp -dsimp (maxSteps := 1000000) only [go_sem, List.forall_mem_nil, ↓reduceIte, Nat.reduceEqDiff, Nat.reduceLT, Nat.reduceLeDiff, Nat.reduceAdd, Nat.reduceMul, reduceCtorEq, Tryz.f45, zCb q1 q2 q3, isModuleF, Int.reduceEq, Bool.false_and, Bool.true_and, Bool.and_false, e1, e2, e3, e4]
   have e4 := eq_true p4
   clear p1 p2 p3 p4
   try simp -dsimp (maxSteps := 1000000) only [go_sem, List.forall_mem_nil, ↓reduceIte, Nat.reduceEqDiff, Nat.reduceLT, Nat.reduceLeDiff, Nat.reduceAdd, Nat.reduceMul, reduceCtorEq, Tryz.f45, zCb q1 q2 q3, e1, e2, e3, e4, isModuleF, Int.reduceEq, Bool.true_and]
 have k1' := eq_false k1
 have k2' := eq_false k2
 have k3' := eq_false k3
 have k4' := eq_false k4
 have k5' := eq_false k5
 have k6' := eq_false k6
 have k7' := eq_false k7
 have k8' := eq_false k8
 clear k1 k2 k3 k4 k5 k6 k7 k8
 try simp -dsimp (maxSteps := 1000000) only [go_sem, List.forall_mem_nil, ↓reduceIte, Nat.reduceEqDiff, Nat.reduceLT, Nat.reduceLeDiff, Nat.reduceAdd, Nat.reduceMul, reduceCtorEq, Tryz.f45, k1', k2', k3', k4', k5', k6', k7', k8', isModuleF]
def modT (m : Mod) : List T := [.im (.int .i64 m.kind), .im (.cpx .f32 m.turn.1 m.turn.2), .im (.cpx .f32 m.state.1 m.state.2), .im (.flt .f32 m.level), .own 1 (tI (rowsZ m.store)), .im (.int .i64 m.rat), .im (.int .i64 m.rcnt), .own 1 (tI (rowsZ m.pts)), .own 1 (tI (rowsN m.lab)), .im (.int .i64 m.count), .im (.int .i64 m.left)]
def rMod (m : Mod) : Res := { val := .agg [.im (.int .i64 m.kind), .im (.cpx .f32 m.turn.1 m.turn.2), .im (.cpx .f32 m.state.1 m.state.2), .im (.flt .f32 m.level), .view 0 1 0 m.store.length, .im (.int .i64 m.rat), .im (.int .i64 m.rcnt), .view 1 1 0 m.pts.length, .view 2 1 0 m.lab.length, .im (.int .i64 m.count), .im (.int .i64 m.left)], roots := [.arr 1 (tI (rowsZ m.store)), .arr 1 (tI (rowsZ m.pts)), .arr 1 (tI (rowsN m.lab))] }
theorem okR_mod {sc : Bool} {m : Mod} : OkR sc (rMod m) := by
 refine ⟨.agg _ (fun x hx => ?_), fun r hr => ?_, by simp [rMod]⟩
 · simp only [rMod, List.mem_cons, List.not_mem_nil, or_false] at hx
   rcases hx with rfl | rfl | rfl | rfl | rfl | rfl | rfl | rfl | rfl | rfl | rfl <;> first | exact zCg rfl | exact .view _ _ _ _ (by simp [rMod])
 · simp only [rMod, List.mem_cons, List.not_mem_nil, or_false] at hr
   rcases hr with rfl | rfl | rfl <;> first | exact zGk (zEi _) | exact zGk (sc_rowsN _)
noncomputable def ct_copyModule : Ct := fam true (fun x : MdA => ([.agg (modC x.1)], [])) (fun x => .one (rMod x.1))
theorem zGd {k : Int} {t1 t2 s1 s2 lv : Nat} {st : List Pt} {ra rc : Int} {pts : List Pt} {lab : List Int} {c l : Int} (hst : st.length ≤ sm) (hp : pts.length ≤ sm) (hl : lab.length ≤ sm) :
   ct_copyModule.run [.agg [.im (.int .i64 k), .im (.cpx .f32 t1 t2), .im (.cpx .f32 s1 s2), .im (.flt .f32 lv), .im (.sl 1 (rowsZ st)), .im (.int .i64 ra), .im (.int .i64 rc), .im (.sl 1 (rowsZ pts)), .im (.sl 1 (rowsN lab)), .im (.int .i64 c), .im (.int .i64 l)]] [] =
     some (.one (rMod ⟨k, (t1, t2), (s1, s2), lv, st, ra, rc, pts, lab, c, l⟩)) := by
 refine zAd (args := fun x : MdA => ([D.agg (modC x.1)], [])) ?_ ⟨⟨k, (t1, t2), (s1, s2), lv, st, ra, rc, pts, lab, c, l⟩, ⟨hst, hp, hl⟩⟩
 rintro ⟨a, _⟩ ⟨b, _⟩ h
 simp at h ⊢
 exact zDg h
set_option maxRecDepth 100000 in
set_option maxHeartbeats 8000000 in
theorem zGf : Law Tryz.prog 57 ct_copyModule := by
 refine zAf (zAc law_copyRing (zAc law_copyTable zAe)) hmixA Tryz.func57 rfl rfl (fun ⟨⟨k, ⟨t1, t2⟩, ⟨s1, s2⟩, lv, st, ra, rc, pts, lab, c, l⟩, ⟨q1, q2, q3⟩⟩ => ⟨okO okR_mod, by simp [Tryz.f57], ?_⟩)
 simp only at q1 q2 q3
 simp only [modC, rMod]
 try simp -dsimp (maxSteps := 1000000) only [go_sem, List.forall_mem_nil, ↓reduceIte, Nat.reduceEqDiff, Nat.reduceLT, Nat.reduceLeDiff, Nat.reduceAdd, Nat.reduceMul, reduceCtorEq, Tryz.f57, zFv q1, zCw q2 q3, rTb]
 repeat' (first
   | ((with_reducible refine sl_i ?_ ?_); focus kernel_rfl)
   | ((with_reducible refine ro_i ?_ ?_); focus kernel_rfl))
 refine ⟨[_, _, _], ?_, ?_, ?_, rfl, rfl, rfl⟩ <;> simp [rtOk]
end Go.SX
namespace Go.SX
open Go Go.Proofs
theorem sc_false (rows : List (List I)) : ∀ (sz : Nat), MvR false (.arr sz (tI rows)) := by
 intro sz r hr t ht
 simp only [tI, List.mem_map] at hr
 obtain ⟨r0, hr0, rfl⟩ := hr
 simp only [List.mem_map] at ht
 obtain ⟨i, hi, rfl⟩ := ht
 exact .im _ (.inl rfl)
noncomputable def ct_Index_int : Ct := fam true (fun x : { l : List Int // l.length ≤ sm } × Int => ([.c (.im (.sl 1 (rowsN x.1.1))), .c (.im (.int .i64 x.2))], [])) (fun x => .one { val := .c (.im (.int .i64 (idxF (fun y => decide (x.2 = y)) x.1.1 0))) })
theorem run_Index_int {l : List Int} (hl : l.length ≤ sm) (v : Int) : ct_Index_int.run [.c (.im (.sl 1 (rowsN l))), .c (.im (.int .i64 v))] [] = some (.one { val := .c (.im (.int .i64 (idxF (fun y => decide (v = y)) l 0))) }) := by
 refine zAd (args := fun x : { l : List Int // l.length ≤ sm } × Int => ([D.c (.im (.sl 1 (rowsN x.1.1))), .c (.im (.int .i64 x.2))], [])) ?_ (⟨l, hl⟩, v)
 rintro ⟨⟨a, b⟩, c⟩ ⟨⟨a', b'⟩, c'⟩ h
 simp [zAw] at h ⊢
 simp [h]
set_option maxRecDepth 100000 in
theorem law_Index_int : Law Tryz.prog 125 ct_Index_int := by
 refine zAf zAe hmixA Tryz.func125 rfl rfl (fun ⟨⟨l, hl⟩, v⟩ => ⟨zAv rfl, by simp [Tryz.f125], ?_⟩)
 try simp -dsimp (maxSteps := 1000000) only [go_sem, List.forall_mem_nil, ↓reduceIte, Nat.reduceEqDiff, Nat.reduceLT, Nat.reduceLeDiff, Nat.reduceAdd, Nat.reduceMul, reduceCtorEq, Tryz.f125, zAb]
 refine zBh (ι := { k : Nat // k ≤ l.length ∧ idxF (fun y => decide (v = y)) l 0 = idxF (fun y => decide (v = y)) (l.drop k) k }) (fun k => ⟨[(0, some (.c (.im (.sl 1 (rowsN l))))), (1, some (.c (.im (.int .i64 v)))), (7, some (.c (.im (.int .i64 (l.length : Int))))), (8, some (.c (.im (.int .i64 (k.1 : Int)))))],
   [], 0⟩) (fun k => l.length - k.1) ⟨0, by simp⟩ ⟨[], [], by ((simp only [go_sem, eq_self, MvRb, MvRn, MvRt, List.nodup_cons, List.nodup_nil, ↓reduceIte, Nat.reduceEqDiff, Nat.reduceLT, Nat.reduceLeDiff, reduceCtorEq, List.forall_mem_nil, Nat.zero_le, false_implies, List.mem_singleton]) <;> (try (simp -dsimp only [go_sem, eq_self, MvRb, MvRn, MvRt, List.nodup_cons, List.nodup_nil, ↓reduceIte, Nat.reduceEqDiff, Nat.reduceLT, Nat.reduceLeDiff, reduceCtorEq, List.forall_mem_nil, Nat.zero_le, false_implies, List.mem_singleton]))) <;> simp⟩ (fun ⟨k, hk, hinv⟩ => ?_)
 by_cases hlt : k < l.length
 · obtain ⟨p, hp⟩ : ∃ p, l[k]? = some p := ⟨_, List.getElem?_eq_getElem hlt⟩
   have hrow := zGs hp
   have hI : ((k : Int) < (l.length : Int)) = True := by simp; omega
   have h0 : (0 ≤ (k : Int)) = True := by simp
   have hidx := idxF_drop (f := (fun y => decide (v = y))) hp
   have hwr := lt_sm hl hlt
   by_cases hq : v = p
   · have hq' := eq_true hq
     simp only [hq', decide_true, if_true] at hidx
     rw [hidx] at hinv
     clear hidx hq
     try simp -dsimp (maxSteps := 1000000) only [go_sem, List.forall_mem_nil, ↓reduceIte, Nat.reduceEqDiff, Nat.reduceLT, Nat.reduceLeDiff, Nat.reduceAdd, Nat.reduceMul, reduceCtorEq, Tryz.f125, hI, h0, Int.toNat_natCast, hrow, hq', hinv, zAb]
   · have hq' := eq_false hq
     simp only [hq', decide_false, if_false, Bool.false_eq_true] at hidx
     rw [hidx] at hinv
     clear hidx hq
     try simp -dsimp (maxSteps := 1000000) only [go_sem, List.forall_mem_nil, ↓reduceIte, Nat.reduceEqDiff, Nat.reduceLT, Nat.reduceLeDiff, Nat.reduceAdd, Nat.reduceMul, reduceCtorEq, Tryz.f125, hI, h0, Int.toNat_natCast, hrow, hq', hwr, zAb]
     exact ⟨⟨k + 1, by omega, hinv⟩, by simp only []; omega, [], [], by (simp only [go_sem, eq_self, MvRb, MvRn, MvRt, List.nodup_cons, List.nodup_nil, ↓reduceIte, Nat.reduceEqDiff, Nat.reduceLT, Nat.reduceLeDiff, reduceCtorEq, List.forall_mem_nil, Nat.zero_le, false_implies, List.mem_singleton]) <;> simp⟩
 · have hI : ((k : Int) < (l.length : Int)) = False := by simp; omega
   have hkl : k = l.length := by omega
   subst hkl
   rw [List.drop_length] at hinv
   try simp -dsimp (maxSteps := 1000000) only [go_sem, List.forall_mem_nil, ↓reduceIte, Nat.reduceEqDiff, Nat.reduceLT, Nat.reduceLeDiff, Nat.reduceAdd, Nat.reduceMul, reduceCtorEq, Tryz.f125, hI, hinv, idxF, zAb]
def hasF (l : List Int) (v : Int) : Bool := decide (0 ≤ idxF (fun y => decide (v = y)) l 0)
noncomputable def zBz : Ct := fam true (fun x : { l : List Int // l.length ≤ sm } × Int => ([.c (.im (.sl 1 (rowsN x.1.1))), .c (.im (.int .i64 x.2))], [])) (fun x => .one { val := .c (.im (.bool (hasF x.1.1 x.2))) })
theorem sc_Contains_int : (zBz.sc = true) = True := by simp [zBz, fam]
theorem zEq {l : List Int} (hl : l.length ≤ sm) (v : Int) : zBz.run [.c (.im (.sl 1 (rowsN l))), .c (.im (.int .i64 v))] [] = some (.one { val := .c (.im (.bool (hasF l v))) }) := by
 refine zAd (args := fun x : { l : List Int // l.length ≤ sm } × Int => ([D.c (.im (.sl 1 (rowsN x.1.1))), .c (.im (.int .i64 x.2))], [])) ?_ (⟨l, hl⟩, v)
 rintro ⟨⟨a, b⟩, c⟩ ⟨⟨a', b'⟩, c'⟩ h
 simp [zAw] at h ⊢
 simp [h]
set_option maxRecDepth 100000 in
theorem law_Contains_int : Law Tryz.prog 56 zBz := by
 refine zAf (zAc law_Index_int zAe) hmixA Tryz.func56 rfl rfl (fun ⟨⟨l, hl⟩, v⟩ => ⟨zAv rfl, by simp [Tryz.f56], ?_⟩)
 simp only [hasF]
 try simp -dsimp (maxSteps := 1000000) only [go_sem, List.forall_mem_nil, ↓reduceIte, Nat.reduceEqDiff, Nat.reduceLT, Nat.reduceLeDiff, Nat.reduceAdd, Nat.reduceMul, reduceCtorEq, Tryz.f56, run_Index_int hl]
structure OkR2 (ms : List Mod) (cs : List Cbl) : Prop where
 ml : ms.length ≤ sm
 cl : cs.length ≤ sm
def kindOf (ms : List Mod) (i : Int) : Int := match ms[i.toNat]? with
 | some m => m.kind
 | none => 0
def blocks (ms : List Mod) (out : List Int) (i : Int) (c : Cbl) : Bool := decide (c.2 = i) && (!(decide (kindOf ms c.1 = 4)) && !(hasF out c.1))
structure AO where
 i : Int
 ms : List Mod
 cs : List Cbl
 out : List Int
 ml : ms.length ≤ sm
 cl : cs.length ≤ sm
 ol : out.length ≤ sm
theorem take_N (l : List Int) : (tI (rowsN l)).take l.length = tI (rowsN l) := by rw [List.take_of_length_le]; simp [zAg, zAb]
theorem take_Z (l : List Pt) : (tI (rowsZ l)).take l.length = tI (rowsZ l) := by rw [List.take_of_length_le]; simp [zAg, zAa]
end Go.SX
namespace Go.SX
open Go Go.Proofs
def anyF (ms : List Mod) (out : List Int) (i : Int) (cs : List Cbl) : Bool := decide (0 ≤ idxF (blocks ms out i) cs 0)
def readyF (ms : List Mod) (cs : List Cbl) (out : List Int) (i : Int) : Bool := !(hasF out i) && !(anyF ms out i cs)
def readyIdx (ms : List Mod) (cs : List Cbl) (out : List Int) : Nat → Nat → Nat
 | 0, i => i
 | f + 1, i => if readyF ms cs out i = true then i else readyIdx ms cs out f (i + 1)
def orderGo (ms : List Mod) (cs : List Cbl) : Nat → List Int → Option (List Int)
 | 0, out => some out
 | f + 1, out => if readyIdx ms cs out ms.length 0 = ms.length then none else orderGo ms cs f (out ++ [(readyIdx ms cs out ms.length 0 : Int)])
def orderF (ms : List Mod) (cs : List Cbl) : Option (List Int) := orderGo ms cs ms.length []
structure ARk where
 ms : List Mod
 cs : List Cbl
 ml : ms.length ≤ 16
 cl : cs.length ≤ sm
 ok : ∀ c ∈ cs, 0 ≤ c.1 ∧ c.1 < ms.length
end Go.SX
namespace Go.SX
open Go Go.Proofs
def cabF (n : Nat) (c : Cbl) : Bool := decide (0 ≤ c.1) && (decide (c.1 < n) && (decide (0 ≤ c.2) && decide (c.2 < n)))
def isRackF (ms : List Mod) (cs : List Cbl) : Bool := decide (ms.length ≤ 16) && (decide (cs.length ≤ 40) && (ms.all isModuleF && (cs.all (cabF ms.length) && (orderF ms cs).isSome)))
structure ARo where
 ms : List Mod
 cs : List Cbl
 ml : ms.length ≤ sm
 cl : cs.length ≤ sm
 ok : ∀ m ∈ ms, OkM m
end Go.SX
namespace Go.SX
open Go Go.Proofs
def tM (ms : List Mod) : List (List T) := ms.map modT
theorem lentR_tM (ms : List Mod) {sz : Nat} : lentR (.arr sz (tM ms)) = [] := by
 simp only [lentR, tM, List.flatMap_eq_nil_iff, List.mem_map]
 rintro r ⟨m, _, rfl⟩ t ht
 simp only [modT, List.mem_cons, List.not_mem_nil, or_false] at ht
 rcases ht with rfl | rfl | rfl | rfl | rfl | rfl | rfl | rfl | rfl | rfl | rfl <;> rfl
attribute [go_sem] lentR_tM
theorem mv_own {sc : Bool} {sz : Nat} {rows : List (List I)} (h : ∀ r ∈ rows, ∀ i ∈ r, scI i = true) : Mv sc (.own sz (tI rows)) := .own _ _ (zGk (sz := sz) h)
end Go.SX
namespace Go.SX
open Go Go.Proofs
def modB (m : Mod) : List B := [.t (.im (.int .i64 m.kind)), .t (.im (.cpx .f32 m.turn.1 m.turn.2)), .t (.im (.cpx .f32 m.state.1 m.state.2)), .t (.im (.flt .f32 m.level)), .t (.own 1 (tI (rowsZ m.store))), .t (.im (.int .i64 m.rat)), .t (.im (.int .i64 m.rcnt)), .t (.own 1 (tI (rowsZ m.pts))), .t (.own 1 (tI (rowsN m.lab))), .t (.im (.int .i64 m.count)), .t (.im (.int .i64 m.left))]
theorem mvB_modB {sc : Bool} (m : Mod) : ∀ x ∈ modB m, MvB sc x := by
 intro t ht
 simp only [modB, List.mem_cons, List.not_mem_nil, or_false] at ht
 rcases ht with rfl | rfl | rfl | rfl | rfl | rfl | rfl | rfl | rfl | rfl | rfl <;> first | exact .t _ (.im _ (.inr rfl)) | exact .t _ (mv_own (zEi _)) | exact .t _ (mv_own (sc_rowsN _))
theorem tI_inj {a b : List (List I)} (h : tI a = tI b) : a = b := by
 have h4 := congrArg (mapO (mapO (toI [] (fun _ => none) 0))) h
 rw [zBc, zBc] at h4
 exact Option.some.inj h4
theorem modB_inj {a b : Mod} (h : modB a = modB b) : a = b := by
 obtain ⟨k, ⟨t1, t2⟩, ⟨s1, s2⟩, l, st, r1, r2, p, la, c, le⟩ := a
 obtain ⟨k', ⟨t1', t2'⟩, ⟨s1', s2'⟩, l', st', r1', r2', p', la', c', le'⟩ := b
 simp only [modB, List.cons.injEq, B.t.injEq, T.im.injEq, T.own.injEq, I.int.injEq, I.cpx.injEq, I.flt.injEq, true_and, and_true] at h
 obtain ⟨rfl, ⟨rfl, rfl⟩, ⟨rfl, rfl⟩, rfl, h1, rfl, rfl, h2, h3, rfl, rfl⟩ := h
 rw [rowsZ_inj (tI_inj h1), rowsZ_inj (tI_inj h2), rowsN_inj (tI_inj h3)]
abbrev Or := (Nat × Nat) × (Nat × Nat)
def maxLv (l x : Nat) : Nat := if fcmp .gtr .f32 (absF x) l = true then absF x else l
def stepF (o : Or) (m : Mod) (z : Pt) : Mod × Pt :=
 if m.kind = 1 then ({ m with state := mulPt o.1 m.state m.turn }, m.state)
 else if m.kind = 2 then ({ m with state := mulPt o.2 m.state m.turn }, mulPt o.1 z m.state)
 else if m.kind = 3 then (m, scaleF z m.level)
 else if m.kind = 4 then ({ m with store := m.store.set m.rat.toNat z, rat := (m.rat + 1) % (m.store.length : Int) }, m.store.getD m.rat.toNat (0, 0))
 else if m.kind = 6 then (match nearF m.pts m.lab z with
   | none => ({ m with count := -1 }, (0, 0))
   | some i => ({ m with count := m.lab.getD i 0 }, m.pts.getD i (0, 0)))
 else if m.kind = 7 then ({ m with level := maxLv (maxLv m.level z.1) z.2 }, z)
 else if m.kind = 8 then (if m.left = 0 then ({ m with state := z, left := m.count - 1 }, z) else ({ m with left := m.left - 1 }, m.state))
 else (m, z)
def mxK (l u v : Nat) : Nat → Nat
 | 0 => l
 | 1 => maxLv l u
 | _ + 2 => maxLv (maxLv l u) v
structure OkS (m : Mod) : Prop where
 ok : OkM m
 ring : m.kind = 4 → 0 ≤ m.rat ∧ m.rat < m.store.length
 hold : m.kind = 8 → 1 ≤ m.count ∧ m.count ≤ 100 ∧ 0 ≤ m.left ∧ m.left < m.count
theorem nearGo_lt (z : Pt) (n : Nat) : ∀ (l : List Pt) (k : Nat) (b : Int) (m : Nat), b < n → k + l.length = n → nearGo z l k b m < n
 | [], k, b, m, hb, hk => hb
 | p :: l, k, b, m, hb, hk => by
   simp only [nearGo]
   simp at hk
   split
   · exact nearGo_lt z n l (k + 1) k _ (by omega) (by omega)
   · exact nearGo_lt z n l (k + 1) b m hb (by omega)
theorem nearF_lt {pts : List Pt} {lab : List Int} {z : Pt} {i : Nat} (h : nearF pts lab z = some i) : i < pts.length ∧ i < lab.length := by
 unfold nearF at h
 split at h
 · rename_i ht
   have hl : pts.length = lab.length := by
     simp only [isTableF, Bool.and_eq_true, decide_eq_true_eq] at ht; exact ht.1
   split at h
   · cases h
   · rename_i hn
     injection h with h
     have hz : pts.length ≠ 0 := by
       intro h0
       have : pts = [] := List.eq_nil_of_length_eq_zero h0
       subst this
       simp [nearGo] at hn
     have := nearGo_lt z pts.length pts 0 (-1) 0 (by omega) (by omega)
     omega
 · cases h
def oStep (m : Mod) (z : Pt) : Outs := .any Or (fun o => { val := .c (.im (.cpx .f32 (stepF o m z).2.1 (stepF o m z).2.2)), places := [modB (stepF o m z).1] })
noncomputable def ct_step : Ct := fam true (fun x : { m : Mod // OkS m } × Pt => ([.c (.ptr 0 0 0 0), .c (.im (.cpx .f32 x.2.1 x.2.2))], [modB x.1.1])) (fun x => oStep x.1.1 x.2)
theorem run_step {m : Mod} (h : OkS m) (u v : Nat) : ct_step.run [.c (.ptr 0 0 0 0), .c (.im (.cpx .f32 u v))] [modB m] = some (oStep m (u, v)) := by
 refine zAd (args := fun x : { m : Mod // OkS m } × Pt => ([D.c (.ptr 0 0 0 0), .c (.im (.cpx .f32 x.2.1 x.2.2))], [modB x.1.1])) ?_ (⟨m, h⟩, (u, v))
 rintro ⟨⟨a, _⟩, b⟩ ⟨⟨a', _⟩, b'⟩ h
 simp only [Prod.mk.injEq, List.cons.injEq, D.c.injEq, C.im.injEq, I.cpx.injEq, true_and, and_true] at h
 have := modB_inj h.2
 subst this
 simp [Prod.ext_iff, h.1]
theorem ne_or : Nonempty Or = True := by simp only [eq_iff_iff, iff_true]; exact ⟨((0, 0), (0, 0))⟩
theorem zHi : (zDy.sc = true) = True := by simp [zDy, fam]
theorem tI_setZ (l : List Pt) (k : Nat) (a b : Nat) : (tI (rowsZ l)).set k [T.im (.cpx .f32 a b)] = tI (rowsZ (l.set k (a, b))) := by simp [tI, rowsZ, List.map_set]
theorem tIZ_at {l : List Pt} {k : Nat} {p : Pt} (h : l[k]? = some p) : (tI (rowsZ l))[k]? = some [T.im (.cpx .f32 p.1 p.2)] := by simp [tI, rowsZ, h]
theorem tIN_at {l : List Int} {k : Nat} {p : Int} (h : l[k]? = some p) : (tI (rowsN l))[k]? = some [T.im (.int .i64 p)] := by simp [tI, rowsN, h]
set_option maxRecDepth 100000 in
set_option maxHeartbeats 8000000 in
theorem law_step : Law Tryz.prog 69 ct_step := by
 refine fam_lawU (zAc law_MultiplyPoints (zAc law_scaled (zAc law_NearestPoint (zAc law_size zAe)))) hmixA Tryz.func69 rfl rfl (fun _ => [.unf 0 0 4, .unf 0 0 7, .unf 0 0 8]) (fun ⟨⟨⟨k, ⟨t1, t2⟩, ⟨s1, s2⟩, lv, st, ra, rc, pts, lab, c, l⟩, ⟨⟨q1, q2, q3⟩, hr, hh⟩⟩, ⟨u, v⟩⟩ =>
   ⟨okA (fun o => ⟨okD_im rfl, by simp, fun c hc => by simp at hc; subst hc; exact mvB_modB _⟩), by simp [Tryz.f69], ?_⟩)
 simp only at q1 q2 q3 hr hh
 simp only [oStep, modB]
 by_cases k1 : k = 1
 · subst k1
   clear hr hh
   try simp -dsimp (maxSteps := 1000000) only [go_sem, List.forall_mem_nil, ↓reduceIte, Nat.reduceEqDiff, Nat.reduceLT, Nat.reduceLeDiff, Nat.reduceAdd, Nat.reduceMul, reduceCtorEq, Tryz.f69, stepF, Int.reduceEq, zAg, zAa, zAb, List.length_set, zBr, oMul, ne_nn]
   repeat' ((with_reducible refine sl_i ?_ ?_); focus kernel_rfl)
   intro o1
   try simp -dsimp (maxSteps := 1000000) only [go_sem, List.forall_mem_nil, ↓reduceIte, Nat.reduceEqDiff, Nat.reduceLT, Nat.reduceLeDiff, Nat.reduceAdd, Nat.reduceMul, reduceCtorEq, Tryz.f69, stepF, Int.reduceEq, zAg, zAa, zAb, List.length_set]
   repeat' ((with_reducible refine ro_i ?_ ?_); focus kernel_rfl)
   refine zAj [.fold 0 0 4, .fold 0 0 7, .fold 0 0 8] ?_
   simp -dsimp (maxSteps := 1000000) only [go_sem, List.forall_mem_nil, ↓reduceIte, Nat.reduceEqDiff, Nat.reduceLT, Nat.reduceLeDiff, Nat.reduceAdd, Nat.reduceMul, reduceCtorEq, zAg, zAa, zAb, List.length_set]
   all_goals exact ⟨(o1, (0, 0)), by simp⟩
 have e1 := eq_false k1
 clear k1
 by_cases k2 : k = 2
 · subst k2
   clear hr hh e1
   try simp -dsimp (maxSteps := 1000000) only [go_sem, List.forall_mem_nil, ↓reduceIte, Nat.reduceEqDiff, Nat.reduceLT, Nat.reduceLeDiff, Nat.reduceAdd, Nat.reduceMul, reduceCtorEq, Tryz.f69, stepF, Int.reduceEq, zAg, zAa, zAb, List.length_set, zBr, oMul, ne_nn]
   intro o1
   try simp -dsimp (maxSteps := 1000000) only [go_sem, List.forall_mem_nil, ↓reduceIte, Nat.reduceEqDiff, Nat.reduceLT, Nat.reduceLeDiff, Nat.reduceAdd, Nat.reduceMul, reduceCtorEq, Tryz.f69, stepF, Int.reduceEq, zAg, zAa, zAb, List.length_set, zBr, oMul, ne_nn]
   repeat' ((with_reducible refine sl_i ?_ ?_); focus kernel_rfl)
   intro o2
   try simp -dsimp (maxSteps := 1000000) only [go_sem, List.forall_mem_nil, ↓reduceIte, Nat.reduceEqDiff, Nat.reduceLT, Nat.reduceLeDiff, Nat.reduceAdd, Nat.reduceMul, reduceCtorEq, Tryz.f69, stepF, Int.reduceEq, zAg, zAa, zAb, List.length_set]
   repeat' ((with_reducible refine ro_i ?_ ?_); focus kernel_rfl)
   refine zAj [.fold 0 0 4, .fold 0 0 7, .fold 0 0 8] ?_
   simp -dsimp (maxSteps := 1000000) only [go_sem, List.forall_mem_nil, ↓reduceIte, Nat.reduceEqDiff, Nat.reduceLT, Nat.reduceLeDiff, Nat.reduceAdd, Nat.reduceMul, reduceCtorEq, zAg, zAa, zAb, List.length_set]
   all_goals exact ⟨(o1, o2), by simp⟩
 have e2 := eq_false k2
 clear k2
 by_cases k3 : k = 3
 · subst k3
   clear hr hh e1 e2
   try simp -dsimp (maxSteps := 1000000) only [go_sem, List.forall_mem_nil, ↓reduceIte, Nat.reduceEqDiff, Nat.reduceLT, Nat.reduceLeDiff, Nat.reduceAdd, Nat.reduceMul, reduceCtorEq, Tryz.f69, stepF, Int.reduceEq, zAg, zAa, zAb, List.length_set, run_scaled]
   refine zAj [.fold 0 0 4, .fold 0 0 7, .fold 0 0 8] ?_
   simp -dsimp (maxSteps := 1000000) only [go_sem, List.forall_mem_nil, ↓reduceIte, Nat.reduceEqDiff, Nat.reduceLT, Nat.reduceLeDiff, Nat.reduceAdd, Nat.reduceMul, reduceCtorEq, zAg, zAa, zAb, List.length_set]
   all_goals exact ⟨((0, 0), (0, 0)), by simp⟩
 have e3 := eq_false k3
 clear k3
 by_cases k4 : k = 4
 · subst k4
   clear hh e1 e2 e3
   obtain ⟨hr0, hr1⟩ := hr rfl
   obtain ⟨n, rfl⟩ := Int.eq_ofNat_of_zero_le hr0
   clear hr hr0
   have hn : n < st.length := by omega
   clear hr1
   obtain ⟨p, hp⟩ : ∃ p, st[n]? = some p := ⟨_, List.getElem?_eq_getElem hn⟩
   have hrow := tIZ_at hp
   have hg : st.getD n (0, 0) = p := by simp [List.getD, hp]
   have hI : ((n : Int) < (st.length : Int)) = True := by simp; omega
   have h0 : (0 ≤ (n : Int)) = True := by simp
   have hnz : ((st.length : Int) = 0) = False := eq_false (by omega)
   have hwr : IntKind.i64.wrap ((n : Int) + 1) = (n : Int) + 1 := lt_sm q1 hn
   have hmod : ((n : Int) + 1).tmod (st.length : Int) = ((n : Int) + 1) % (st.length : Int) := Int.tmod_eq_emod_of_nonneg (by omega)
   clear hp
   try simp -dsimp (maxSteps := 1000000) only [go_sem, List.forall_mem_nil, ↓reduceIte, Nat.reduceEqDiff, Nat.reduceLT, Nat.reduceLeDiff, Nat.reduceAdd, Nat.reduceMul, reduceCtorEq, Tryz.f69, stepF, Int.reduceEq, zAg, zAa, zAb, List.length_set, hI, h0, hrow, hg, hnz, hwr, hmod, tI_setZ, Int.toNat_natCast]
   repeat' (first
     | ((with_reducible refine sl_i ?_ ?_); focus kernel_rfl)
     | ((with_reducible refine ro_i ?_ ?_); focus kernel_rfl))
   refine zAj [.fold 0 0 4, .fold 0 0 7, .fold 0 0 8] ?_
   simp -dsimp (maxSteps := 1000000) only [go_sem, List.forall_mem_nil, ↓reduceIte, Nat.reduceEqDiff, Nat.reduceLT, Nat.reduceLeDiff, Nat.reduceAdd, Nat.reduceMul, reduceCtorEq, zAg, zAa, zAb, List.length_set, tI_setZ]
   all_goals exact ⟨((0, 0), (0, 0)), by simp⟩
 have e4 := eq_false k4
 clear k4 hr
 by_cases k6 : k = 6
 · subst k6
   clear hh e1 e2 e3 e4
   cases hf : nearF pts lab (u, v) with
   | none =>
     have hf' := zHc q2 q3 u v
     rw [hf] at hf'
     try simp -dsimp (maxSteps := 1000000) only [go_sem, List.forall_mem_nil, ↓reduceIte, Nat.reduceEqDiff, Nat.reduceLT, Nat.reduceLeDiff, Nat.reduceAdd, Nat.reduceMul, reduceCtorEq, Tryz.f69, stepF, Int.reduceEq, zAg, zAa, zAb, List.length_set, hf', oNear, hf, zHi, zBc, take_Z, take_N]
     refine zAj [.fold 0 0 4, .fold 0 0 7, .fold 0 0 8] ?_
     simp -dsimp (maxSteps := 1000000) only [go_sem, List.forall_mem_nil, ↓reduceIte, Nat.reduceEqDiff, Nat.reduceLT, Nat.reduceLeDiff, Nat.reduceAdd, Nat.reduceMul, reduceCtorEq, zAg, zAa, zAb, List.length_set]
     all_goals exact ⟨((0, 0), (0, 0)), by simp⟩
   | some n =>
     have hf' := zHc q2 q3 u v
     rw [hf] at hf'
     obtain ⟨hl1, hl2⟩ := nearF_lt hf
     obtain ⟨p, hp⟩ : ∃ p, pts[n]? = some p := ⟨_, List.getElem?_eq_getElem hl1⟩
     obtain ⟨y, hy⟩ : ∃ y, lab[n]? = some y := ⟨_, List.getElem?_eq_getElem hl2⟩
     have hrow := tIZ_at hp
     have hrow2 := tIN_at hy
     have hg : pts.getD n (0, 0) = p := by simp [List.getD, hp]
     have hg2 : lab.getD n 0 = y := by simp [List.getD, hy]
     have hI : ((n : Int) < (pts.length : Int)) = True := by simp; omega
     have hI2 : ((n : Int) < (lab.length : Int)) = True := by simp; omega
     have h0 : (0 ≤ (n : Int)) = True := by simp
     try simp -dsimp (maxSteps := 1000000) only [go_sem, List.forall_mem_nil, ↓reduceIte, Nat.reduceEqDiff, Nat.reduceLT, Nat.reduceLeDiff, Nat.reduceAdd, Nat.reduceMul, reduceCtorEq, Tryz.f69, stepF, Int.reduceEq, zAg, zAa, zAb, List.length_set, hf', oNear, hf, zHi, zBc, take_Z, take_N, hI, hI2, h0, hrow, hrow2, hg, hg2, Int.toNat_natCast]
     refine zAj [.fold 0 0 4, .fold 0 0 7, .fold 0 0 8] ?_
     simp -dsimp (maxSteps := 1000000) only [go_sem, List.forall_mem_nil, ↓reduceIte, Nat.reduceEqDiff, Nat.reduceLT, Nat.reduceLeDiff, Nat.reduceAdd, Nat.reduceMul, reduceCtorEq, zAg, zAa, zAb, List.length_set]
     all_goals exact ⟨((0, 0), (0, 0)), by simp⟩
 have e6 := eq_false k6
 clear k6
 by_cases k8 : k = 8
 · subst k8
   clear e1 e2 e3 e4 e6
   obtain ⟨hh1, hh2, hh3, hh4⟩ := hh rfl
   clear hh
   have hw1 : IntKind.i64.wrap (c - 1) = c - 1 := zAi (by omega) (by omega)
   have hw2 : IntKind.i64.wrap (l - 1) = l - 1 := zAi (by omega) (by omega)
   by_cases hz : l = 0
   · subst hz
     try simp -dsimp (maxSteps := 1000000) only [go_sem, List.forall_mem_nil, ↓reduceIte, Nat.reduceEqDiff, Nat.reduceLT, Nat.reduceLeDiff, Nat.reduceAdd, Nat.reduceMul, reduceCtorEq, Tryz.f69, stepF, Int.reduceEq, zAg, zAa, zAb, List.length_set, hw1, hw2]
     refine zAj [.fold 0 0 4, .fold 0 0 7, .fold 0 0 8] ?_
     simp -dsimp (maxSteps := 1000000) only [go_sem, List.forall_mem_nil, ↓reduceIte, Nat.reduceEqDiff, Nat.reduceLT, Nat.reduceLeDiff, Nat.reduceAdd, Nat.reduceMul, reduceCtorEq, zAg, zAa, zAb, List.length_set]
     all_goals exact ⟨((0, 0), (0, 0)), by simp⟩
   · have hz' := eq_false hz
     clear hz
     try simp -dsimp (maxSteps := 1000000) only [go_sem, List.forall_mem_nil, ↓reduceIte, Nat.reduceEqDiff, Nat.reduceLT, Nat.reduceLeDiff, Nat.reduceAdd, Nat.reduceMul, reduceCtorEq, Tryz.f69, stepF, Int.reduceEq, zAg, zAa, zAb, List.length_set, hw1, hw2, hz']
     refine zAj [.fold 0 0 4, .fold 0 0 7, .fold 0 0 8] ?_
     simp -dsimp (maxSteps := 1000000) only [go_sem, List.forall_mem_nil, ↓reduceIte, Nat.reduceEqDiff, Nat.reduceLT, Nat.reduceLeDiff, Nat.reduceAdd, Nat.reduceMul, reduceCtorEq, zAg, zAa, zAb, List.length_set]
     all_goals exact ⟨((0, 0), (0, 0)), by simp⟩
 have e8 := eq_false k8
 clear k8 hh
 by_cases k7 : k = 7
 · subst k7
   clear e1 e2 e3 e4 e6 e8
   try simp -dsimp (maxSteps := 1000000) only [go_sem, List.forall_mem_nil, ↓reduceIte, Nat.reduceEqDiff, Nat.reduceLT, Nat.reduceLeDiff, Nat.reduceAdd, Nat.reduceMul, reduceCtorEq, Tryz.f69, stepF, Int.reduceEq, zAg, zAa, zAb, List.length_set]
   refine zBh (ι := { k : Nat // k ≤ 2 }) (fun k => ⟨[(0, some (.c (.ptr 0 0 0 0))), (1, some (.c (.im (.cpx .f32 u v)))), (149, some (.c (.view 4 1 0 2))), (150, some (.c (.im (.int .i64 2)))), (151, some (.c (.im (.int .i64 (k.1 : Int)))))],
     [(0, some (.box [.t (.im (.int .i64 7)), .t (.im (.cpx .f32 t1 t2)), .t (.im (.cpx .f32 s1 s2)), .t (.im (.flt .f32 (mxK lv u v k.1))), .t (.lent 1 1 st.length), .t (.im (.int .i64 ra)), .t (.im (.int .i64 rc)), .t (.lent 2 1 pts.length), .t (.lent 3 1 lab.length), .t (.im (.int .i64 c)), .t (.im (.int .i64 l))])),
      (1, some (.arr 1 (tI (rowsZ st)))), (2, some (.arr 1 (tI (rowsZ pts)))), (3, some (.arr 1 (tI (rowsN lab)))), (4, some (.arr 1 [[.im (.flt .f32 u)], [.im (.flt .f32 v)]]))], 5⟩) (fun k => 2 - k.1) ⟨0, by simp⟩ ⟨[], [0, 1, 2, 3, 4], by ((simp only [go_sem, eq_self, MvRb, MvRn, MvRt, List.nodup_cons, List.nodup_nil, ↓reduceIte, Nat.reduceEqDiff, Nat.reduceLT, Nat.reduceLeDiff, reduceCtorEq, List.forall_mem_nil, Nat.zero_le, false_implies, List.mem_singleton, mxK, MvRt]) <;> (try (simp -dsimp only [go_sem, eq_self, MvRb, MvRn, MvRt, List.nodup_cons, List.nodup_nil, ↓reduceIte, Nat.reduceEqDiff, Nat.reduceLT, Nat.reduceLeDiff, reduceCtorEq, List.forall_mem_nil, Nat.zero_le, false_implies, List.mem_singleton, mxK, MvRt]))) <;> simp [lk, zBg, mxK]⟩ (fun ⟨k, hk⟩ => ?_)
   have hc0 : ((0 : Nat) : Int) = 0 := rfl
   have hc1 : ((1 : Nat) : Int) = 1 := rfl
   have hc2 : ((2 : Nat) : Int) = 2 := rfl
   have hw1 : IntKind.i64.wrap 1 = 1 := zAi (by omega) (by omega)
   have hw2 : IntKind.i64.wrap 2 = 2 := zAi (by omega) (by omega)
   match k, hk with
   | 0, hk =>
     try simp -dsimp (maxSteps := 1000000) only [go_sem, List.forall_mem_nil, ↓reduceIte, Nat.reduceEqDiff, Nat.reduceLT, Nat.reduceLeDiff, Nat.reduceAdd, Nat.reduceMul, reduceCtorEq, Tryz.f69, run_size, mxK, hc0, hc1, hc2, hw1, hw2, Int.reduceLT, Int.reduceLE, Int.reduceToNat, Int.reduceAdd, Int.lt_irrefl]
     repeat' (first
       | ((with_reducible refine sl_i ?_ ?_); focus kernel_rfl)
       | ((with_reducible refine ro_i ?_ ?_); focus kernel_rfl)
       | ((first | (with_reducible refine gS_d ?_ ?_) | (with_reducible refine gS_dn ?_ ?_) | (with_reducible refine gS_i ?_ ?_)) <;> intro hg <;> (try simp -dsimp (maxSteps := 1000000) only [go_sem, List.forall_mem_nil, ↓reduceIte, Nat.reduceEqDiff, Nat.reduceLT, Nat.reduceLeDiff, Nat.reduceAdd, Nat.reduceMul, reduceCtorEq, Tryz.f69, run_size, mxK, hc0, hc1, hc2, hw1, hw2, Int.reduceLT, Int.reduceLE, Int.reduceToNat, Int.reduceAdd, Int.lt_irrefl, *])))
     all_goals refine ⟨⟨1, by omega⟩, by simp only []; omega, [], [0, 1, 2, 3, 4], ?_⟩
     all_goals (simp only [go_sem, eq_self, MvRb, MvRn, MvRt, List.nodup_cons, List.nodup_nil, ↓reduceIte, Nat.reduceEqDiff, Nat.reduceLT, Nat.reduceLeDiff, reduceCtorEq, List.forall_mem_nil, Nat.zero_le, false_implies, List.mem_singleton, mxK, maxLv, MvRt, hc1, hc2, hg, if_true, if_false, Bool.false_eq_true])
     all_goals simp [lk, zBg, mxK, maxLv, hg]
   | 1, hk =>
     try simp -dsimp (maxSteps := 1000000) only [go_sem, List.forall_mem_nil, ↓reduceIte, Nat.reduceEqDiff, Nat.reduceLT, Nat.reduceLeDiff, Nat.reduceAdd, Nat.reduceMul, reduceCtorEq, Tryz.f69, run_size, mxK, hc0, hc1, hc2, hw1, hw2, Int.reduceLT, Int.reduceLE, Int.reduceToNat, Int.reduceAdd, Int.lt_irrefl]
     repeat' (first
       | ((with_reducible refine sl_i ?_ ?_); focus kernel_rfl)
       | ((with_reducible refine ro_i ?_ ?_); focus kernel_rfl)
       | ((first | (with_reducible refine gS_d ?_ ?_) | (with_reducible refine gS_dn ?_ ?_) | (with_reducible refine gS_i ?_ ?_)) <;> intro hg <;> (try simp -dsimp (maxSteps := 1000000) only [go_sem, List.forall_mem_nil, ↓reduceIte, Nat.reduceEqDiff, Nat.reduceLT, Nat.reduceLeDiff, Nat.reduceAdd, Nat.reduceMul, reduceCtorEq, Tryz.f69, run_size, mxK, hc0, hc1, hc2, hw1, hw2, Int.reduceLT, Int.reduceLE, Int.reduceToNat, Int.reduceAdd, Int.lt_irrefl, *])))
     all_goals refine ⟨⟨2, by omega⟩, by simp only []; omega, [], [0, 1, 2, 3, 4], ?_⟩
     all_goals ((simp only [go_sem, eq_self, MvRb, MvRn, MvRt, List.nodup_cons, List.nodup_nil, ↓reduceIte, Nat.reduceEqDiff, Nat.reduceLT, Nat.reduceLeDiff, reduceCtorEq, List.forall_mem_nil, Nat.zero_le, false_implies, List.mem_singleton, mxK, MvRt, hc1, hc2]) <;> (try (simp -dsimp only [go_sem, eq_self, MvRb, MvRn, MvRt, List.nodup_cons, List.nodup_nil, ↓reduceIte, Nat.reduceEqDiff, Nat.reduceLT, Nat.reduceLeDiff, reduceCtorEq, List.forall_mem_nil, Nat.zero_le, false_implies, List.mem_singleton, mxK, MvRt, hc1, hc2])))
     all_goals (generalize maxLv lv u = w at hg ⊢)
     all_goals simp [lk, zBg, maxLv, hg]
   | 2, hk =>
     try simp -dsimp (maxSteps := 1000000) only [go_sem, List.forall_mem_nil, ↓reduceIte, Nat.reduceEqDiff, Nat.reduceLT, Nat.reduceLeDiff, Nat.reduceAdd, Nat.reduceMul, reduceCtorEq, Tryz.f69, mxK, stepF, Int.reduceEq, hc0, hc1, hc2, hw1, hw2, Int.reduceLT, Int.reduceLE, Int.reduceToNat, Int.reduceAdd, Int.lt_irrefl]
     refine zAj [.fold 0 0 4, .fold 0 0 7, .fold 0 0 8] ?_
     simp -dsimp (maxSteps := 1000000) only [go_sem, List.forall_mem_nil, ↓reduceIte, Nat.reduceEqDiff, Nat.reduceLT, Nat.reduceLeDiff, Nat.reduceAdd, Nat.reduceMul, reduceCtorEq, zAg, zAa, zAb, List.length_set, mxK]
     all_goals exact ⟨((0, 0), (0, 0)), by simp⟩
 have e7 := eq_false k7
 clear k7
 try simp -dsimp (maxSteps := 1000000) only [go_sem, List.forall_mem_nil, ↓reduceIte, Nat.reduceEqDiff, Nat.reduceLT, Nat.reduceLeDiff, Nat.reduceAdd, Nat.reduceMul, reduceCtorEq, Tryz.f69, stepF, Int.reduceEq, zAg, zAa, zAb, List.length_set, e1, e2, e3, e4, e6, e7, e8]
 refine zAj [.fold 0 0 4, .fold 0 0 7, .fold 0 0 8] ?_
 simp -dsimp (maxSteps := 1000000) only [go_sem, List.forall_mem_nil, ↓reduceIte, Nat.reduceEqDiff, Nat.reduceLT, Nat.reduceLeDiff, Nat.reduceAdd, Nat.reduceMul, reduceCtorEq, zAg, zAa, zAb, List.length_set, e1, e2, e3, e4, e6, e7, e8, stepF]
 all_goals exact ⟨((0, 0), (0, 0)), by simp⟩
end Go.SX
namespace Go.SX
open Go Go.Proofs
theorem stepF_kind (o : Or) (m : Mod) (z : Pt) : (stepF o m z).1.kind = m.kind := by
 unfold stepF
 repeat' split
 all_goals rfl
theorem stepF_ok {o : Or} {m : Mod} {z : Pt} (h : OkS m) : OkS (stepF o m z).1 := by
 obtain ⟨⟨h1, h2, h3⟩, h4, h5⟩ := h
 have hk := stepF_kind o m z
 refine ⟨?_, fun hq => ?_, fun hq => ?_⟩
 · unfold stepF
   repeat' split
   all_goals exact ⟨by simp [h1], h2, h3⟩
 · rw [hk] at hq
   have := h4 hq
   simp only [stepF, hq, Int.reduceEq, if_false, if_true, List.length_set]
   have hp : (0 : Int) < m.store.length := by omega
   exact ⟨Int.emod_nonneg _ (by omega), Int.emod_lt_of_pos _ hp⟩
 · rw [hk] at hq
   have := h5 hq
   simp only [stepF, hq, Int.reduceEq, if_false, if_true]
   split
   · simp only []; omega
   · simp only []; omega
end Go.SX
namespace Go.SX
open Go Go.Proofs
structure ASt where
 ms : List Mod
 cs : List Cbl
 inn : Int
 z : Pt
 ml : ms.length ≤ 16
 cl : cs.length ≤ sm
 ok : ∀ m ∈ ms, OkS m
 cr : ∀ c ∈ cs, 0 ≤ c.1 ∧ c.1 < ms.length
end Go.SX
namespace Go.SX
open Go Go.Proofs
theorem MvB_Z (l : List Pt) : MvB false (.t (.own 1 (tI (rowsZ l)))) = True := eq_true (.t _ (mv_own (zEi _)))
theorem MvB_N (l : List Int) : MvB false (.t (.own 1 (tI (rowsN l)))) = True := eq_true (.t _ (mv_own (sc_rowsN _)))
end Go.SX
namespace Go.SX
open Go Go.Proofs
theorem OkS_of {m : Mod} (h : OkM m) (h1 : isModuleF m = true) : OkS m := by
 refine ⟨h, fun hk => ?_, fun hk => ?_⟩
 · simp only [isModuleF, hk, Int.reduceEq, if_true, if_false, Bool.and_eq_true, isRingF, decide_eq_true_eq] at h1
   obtain ⟨⟨⟨⟨_, _, h2, h3, _⟩, _⟩, _⟩, _⟩ := h1
   exact ⟨h2, h3⟩
 · simp only [isModuleF, hk, Int.reduceEq, if_true, if_false, Bool.and_eq_true, decide_eq_true_eq] at h1
   exact ⟨h1.1.1, h1.1.2.1, h1.1.2.2.1, h1.1.2.2.2⟩
structure RackOk (ms : List Mod) (cs : List Cbl) : Prop where
 ml : ms.length ≤ 16
 cl : cs.length ≤ 40
 ok : ∀ m ∈ ms, OkS m
 cr : ∀ c ∈ cs, 0 ≤ c.1 ∧ c.1 < ms.length ∧ 0 ≤ c.2 ∧ c.2 < ms.length
structure APl where
 ms : List Mod
 cs : List Cbl
 a : Int
 b : Int
structure ACr where
 ms : List Mod
 cs : List Cbl
 a : Int
 b : Int
 n : Int
 ml : ms.length ≤ sm
 cl : cs.length ≤ sm
 ok : ∀ m ∈ ms, OkM m
end Go.SX
namespace Go.SX
open Go Go.Proofs
structure ARun where
 ms : List Mod
 cs : List Cbl
 a : Int
 b : Int
 xs : List Pt
 n : Int
 ml : ms.length ≤ sm
 cl : cs.length ≤ sm
 xl : xs.length ≤ sm
 ok : ∀ m ∈ ms, OkM m
theorem tI_nil : tI (rowsZ []) = [] := rfl
end Go.SX
namespace Go.SX
open Go Go.Proofs
structure ACk where
 m : Mod
 b : Bool
 ok : OkM m
 p : m.pts = []
 l : m.lab = []
 s : b = false → m.store = []
 v : isModuleF m = true
def zs (n : Nat) : List Pt := List.replicate n (0, 0)
end Go.SX
namespace Go.SX
open Go Go.Proofs
def rowsB (l : List Int) : List (List I) := l.map fun b => [.int .u8 b]
theorem zAl (l : List Int) : (rowsB l).length = l.length := by simp [rowsB]
theorem rowsB_at {l : List Int} {k : Nat} {b : Int} (h : l[k]? = some b) : (rowsB l)[k]? = some [.int .u8 b] := by simp [rowsB, h]
theorem rowsB_inj {a b : List Int} (h : rowsB a = rowsB b) : a = b := by
 induction a generalizing b with
 | nil => cases b with
   | nil => rfl
   | cons y b => simp [rowsB] at h
 | cons x a ih => cases b with
   | nil => simp [rowsB] at h
   | cons y b =>
     simp only [rowsB, List.map_cons, List.cons.injEq, I.int.injEq, true_and, and_true] at h
     rw [h.1, ih h.2]
structure ABy where
 l : List Int
 len : l.length ≤ 1048576
 by_ : ∀ b ∈ l, 0 ≤ b ∧ b < 256
structure AEq where
 l : List Pt
 m : List Pt
 ll : l.length ≤ sm
 ml : m.length ≤ sm
end Go.SX
namespace Go.SX
open Go Go.Proofs
structure ATr where
 ms : List Mod
 cs : List Cbl
 n : Int
 ml : ms.length ≤ sm
 cl : cs.length ≤ sm
 ok : ∀ m ∈ ms, OkM m
end Go.SX
namespace Go.SX
open Go Go.Proofs
def dst (n : Nat) (x : Nat → Pt) : Nat → List Pt
 | 0 => List.replicate n (0, 0)
 | k + 1 => (dst n x k).set (k % n) (x k)
def g2 (d : Pt) : Pt := scaleF (addPt (0, 0) d) 1073741824
def g3 (d : Pt) : Pt := scaleF (addPt (0, 0) (g2 d)) 1056964608
end Go.SX
namespace Go.SX
open Go Go.Proofs
abbrev LB := { l : List Int // ∀ b ∈ l, 0 ≤ b ∧ b < 256 }
noncomputable def ctLaw : Ct := fam true (fun x : LB => ([.c (.im (.sl 1 (rowsB x.1)))], [])) (fun _ => .one { val := .c (.im (.bool true)) })
theorem zAk : rowsZ [] = [] := rfl
theorem zAo : rowsN [] = [] := rfl
end Go.SX
