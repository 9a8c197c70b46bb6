/-
  laws: markComplex64S, markIntS, markRing, markTable, markModule, as parts of their callers: what they leave in the arrays.
  The text of a module, and how it is read: plain words.
  slices.Contains, slices.ContainsFunc, the order of a rack.
  The order of a rack, its end.
  IsRack.
  copyRack.
  A step of a module.
  stepRack.
  stepRack: the walk.
  isPlug, canRun.
  RunRack.
  NewRing, checked, NewDelay, NewHold.
  laws.at, laws.equal.
  TraceRack: the walk.
  Plain words: a line of delay, and what FnDelayed asks of the rack's rows.
  laws.FnDelayed: the walk.
  Draws: l01New, l01Byte, l01Below, l2Small, MakeWhole. Of what is drawn only its range is told.
  MakeWhole, laws.fresh.
  l1In, FromSteps, l1Any, l2Any, l4Samples, MakeSamples.
  spec: small functions of numbers and points; constructors of modules without slices.
  spec: plain words of what is drawn: finite numbers, levels, modules, what a step makes of them.
  Reading a module's text gives the module again.
  spec: tables.
  spec: PutPoint, GridTable, l2Table.
  spec: l2Nearest, NewSlicer, NewRing, NewDelay, NewHold, l4Copy, l4Take, l4Push, l5Slice, l5Copy.
  spec: l5Step, l5Module.
  spec: l1Number (whole numbers), FormatSingle (at the levels that are drawn), l4Zero, l5Uses, l5Unused, IsRing, IsModule.
  The library's contracts at this program: what they ask of it. Printed by wip/tools/laytext.py off the kit's own laying.
  The library's functions on texts: strconv.Itoa, impl.number (over strconv.Atoi), math/bits.TrailingZeros32, strings.Cut: as laws.
  strings.Split at one byte, as a law.
  impl.FormatSingle.
  No condition.
-/
import Derived.Laws.Strings
import Derived.Test.YtfmpjhjnpeheeaaGreatDoorProg
import Derived.Shelf.Strings.Split
import Derived.Shelf.Strings.Cut
import Derived.Shelf.Strconv.Itoa3
import Derived.Shelf.Strconv.AtoiAll
import Derived.Shelf.Spec.TrailingZeros
import Derived.Shelf.Strconv.ErrVarAll
import Derived.WalkKit
import Derived.Lib.ItoaLen
import Derived.Test.YtfmpjhjnpeheeaaGreatDoorPkF
set_option linter.unusedVariables false
set_option linter.unusedSimpArgs false
namespace Go.SX
open Go Go.Proofs Ieee
theorem lk_ext {α : Type} {h h1 : List (Nat × Option α)} (e : ∀ m, lk h1 m = lk h m) : lk h1 = lk h := funext e
theorem InlAt.conv {P : Program} {k : FuncId} {ds : List D} {h h1 h' : List (Nat × Option Root)} {n n' : Nat} {d : D} (hI : InlAt P k ds h1 n d h' n') (e : ∀ m, lk h1 m = lk h m) : InlAt P k ds h n d h' n' := by
 have := lk_ext e
 refine ⟨hI.1, fun en g S a w args h1 h2 h3 h4 h5 => hI.2 en g S a w args h1 h2 ?_ h4 h5⟩
 rw [this]; exact h3
theorem lk_head {h : List (Nat × Option Root)} {n : Nat} {r : Root} (e : lk h n = some r) (m : Nat) : lk ((n, some r) :: h) m = lk h m := by
 simp only [lk]
 split
 · rename_i e1; subst e1; exact e.symm
 · rfl
theorem tI_sZ (l : List Pt) (k : Nat) (a b : Nat) : (tI (rowsZ l)).set k [T.im (.cpx .f32 a b)] = tI (rowsZ (l.set k (a, b))) := by simp [tI, rowsZ, List.map_set]
theorem tI_sN (l : List Int) (k : Nat) (a : Int) : (tI (rowsN l)).set k [T.im (.int .i64 a)] = tI (rowsN (l.set k a)) := by simp [tI, rowsN, List.map_set]
theorem subI_i {pn : Nat} {st st' : St} (h1 : st.n ≤ st'.n) (h2 : ∀ p ∈ st'.s, ∀ d, p.2 = some d → lk st.s p.1 = some d) (h3 : st.h = st'.h) : SubI pn st st' := by
 refine .inl ⟨h1, fun t d ht => h2 _ (lk_mem ht) d rfl, fun m r hr => ?_⟩
 rw [h3]; exact hr
set_option maxRecDepth 100000 in
set_option maxHeartbeats 4000000 in
theorem inl_markC {h : List (Nat × Option Root)} {nm n k0 : Nat} {zs : List Pt} (hH : lk h n = some (.arr 1 (tI (rowsZ zs)))) (hk : k0 + zs.length ≤ 4096) :
   InlAt Tryz.prog 110 [.c (.view n 1 0 zs.length), .c (.im (.int .i64 (k0 : Int)))] h nm (.c (.im (.int .i64 ((k0 + zs.length : Nat) : Int)))) ((n, some (.arr 1 (tI (rowsZ (mkZ k0 zs.length))))) :: h) nm := by
 refine InlAt.conv (h1 := (n, some (.arr 1 (tI (rowsZ zs)))) :: h) ?_ (lk_head hH)
 clear hH
 refine inl_of (Φ := phi []) zAf hmixA Tryz.func110 rfl rfl [] (by simp [Tryz.f110]) ?_
 obtain ⟨n0, hn0⟩ : ∃ m, zs.length = m := ⟨_, rfl⟩
 rw [hn0] at hk ⊢
 have hfc : ∀ i, i < n0 → ∃ w, wI ((k0 + i : Nat) : Int) = w ∧ fconv .f64 (FloatKind.f64.nearest ((k0 + i : Nat) : Int)) .f32 = some w := fun i hi => ⟨_, rfl, fc_nat (by omega)⟩
 have hL0 : ∀ i, i < n0 → (mkZ k0 i ++ zs.drop i)[i]? = some (zs.getD i (0, 0)) := fun i hi => by
   rw [List.getElem?_append_right (by simp [zDv])]
   simp only [zDv, Nat.sub_self, List.getElem?_drop, Nat.add_zero, List.getD_eq_getElem?_getD]
   rw [List.getElem?_eq_getElem (by omega)]; rfl
 have hLs : ∀ i, i < n0 → (mkZ k0 i ++ zs.drop i).set i (wI ((k0 + i : Nat) : Int), 1065353216) = mkZ k0 (i + 1) ++ zs.drop (i + 1) := fun i hi => by
   have hd := List.drop_eq_getElem_cons (l := zs) (i := i) (by omega)
   rw [List.set_append_right _ _ (by simp [zDv]), mkZ_succ, hd, zDv, Nat.sub_self, List.set_cons_zero, List.append_assoc]
   rfl
 have hLl : ∀ i, i ≤ n0 → (mkZ k0 i ++ zs.drop i).length = n0 := fun i hi => by simp [zDv]; omega
 have hLe : mkZ k0 n0 ++ zs.drop n0 = mkZ k0 n0 := by rw [← hn0]; simp
 have hLb : zs = mkZ k0 0 ++ zs.drop 0 := by simp [mkZ]
 obtain ⟨L, hL⟩ : ∃ L : Nat → List Pt, ∀ i, mkZ k0 i ++ zs.drop i = L i := ⟨_, fun _ => rfl⟩
 simp only [hL] at hL0 hLs hLl hLe hLb
 rw [hLb, ← hLe]
 clear hLb hLe hL hn0
 try simp -dsimp (maxSteps := 1000000) only [go_sem, List.forall_mem_nil, ↓reduceIte, Nat.reduceEqDiff, Nat.reduceLT, Nat.reduceLeDiff, Nat.reduceAdd, Nat.reduceMul, reduceCtorEq, Tryz.f110, zAa, zBa]
 refine loopI_i (ι := { k : Nat // k ≤ n0 }) (fun k => ⟨[(0, some (.c (.view n 1 0 n0))), (1, some (.c (.im (.int .i64 ((k0 + k.1 : Nat) : Int))))), (5, some (.c (.im (.int .i64 (k.1 : Int)))))],
   (n, some (.arr 1 (tI (rowsZ (L k.1))))) :: h, nm⟩) (fun k => n0 - k.1) ⟨0, by simp⟩ (subI_i (Nat.le_refl _) (by simp [lk]) rfl) (fun ⟨k, hkn⟩ => ?_)
 simp only
 by_cases hlt : k < n0
 · obtain ⟨w, hw, hc⟩ := hfc k hlt
   have hrow := tI_at (zCl (hL0 k hlt))
   have hset := hLs k hlt
   rw [hw] at hset
   have hlen := hLl k hkn
   have hI : ((k : Int) < (n0 : Int)) = True := eq_true (by omega)
   have h0 : (0 ≤ (k : Int)) = True := eq_true (by omega)
   have hwr : IntKind.i64.wrap ((k : Int) + 1) = ((k + 1 : Nat) : Int) := by rw [zAh] <;> omega
   have hwk : IntKind.i64.wrap (((k0 + k : Nat) : Int) + 1) = ((k0 + (k + 1) : Nat) : Int) := by rw [zAh] <;> omega
   try simp -dsimp (maxSteps := 1000000) only [go_sem, List.forall_mem_nil, ↓reduceIte, Nat.reduceEqDiff, Nat.reduceLT, Nat.reduceLeDiff, Nat.reduceAdd, Nat.reduceMul, reduceCtorEq, Tryz.f110, hI, h0, Int.toNat_natCast, hrow, hc, fc_one, hwr, hwk, hset, tI_sZ, zBa, zAa]
   exact ⟨⟨k + 1, by omega⟩, by simp only []; omega, subI_i (Nat.le_refl _) (by simp [lk]) rfl⟩
 · have hI : ((k : Int) < (n0 : Int)) = False := eq_false (by omega)
   have hkn' : k = n0 := by omega
   subst hkn'
   try simp -dsimp (maxSteps := 1000000) only [go_sem, List.forall_mem_nil, ↓reduceIte, Nat.reduceEqDiff, Nat.reduceLT, Nat.reduceLeDiff, Nat.reduceAdd, Nat.reduceMul, reduceCtorEq, Tryz.f110, hI, zAa]
   exact fun _ _ h => h
set_option maxRecDepth 100000 in
set_option maxHeartbeats 4000000 in
theorem inl_markN {h : List (Nat × Option Root)} {nm n k0 : Nat} {zs : List Int} (hH : lk h n = some (.arr 1 (tI (rowsN zs)))) (hk : k0 + zs.length ≤ 4096) :
   InlAt Tryz.prog 111 [.c (.view n 1 0 zs.length), .c (.im (.int .i64 (k0 : Int)))] h nm (.c (.im (.int .i64 ((k0 + zs.length : Nat) : Int)))) ((n, some (.arr 1 (tI (rowsN (mkN k0 zs.length))))) :: h) nm := by
 refine InlAt.conv (h1 := (n, some (.arr 1 (tI (rowsN zs)))) :: h) ?_ (lk_head hH)
 clear hH
 refine inl_of (Φ := phi []) zAf hmixA Tryz.func111 rfl rfl [] (by simp [Tryz.f111]) ?_
 obtain ⟨n0, hn0⟩ : ∃ m, zs.length = m := ⟨_, rfl⟩
 rw [hn0] at hk ⊢
 have hL0 : ∀ i, i < n0 → (mkN k0 i ++ zs.drop i)[i]? = some (zs.getD i 0) := fun i hi => by
   rw [List.getElem?_append_right (by simp [zEl])]
   simp only [zEl, Nat.sub_self, List.getElem?_drop, Nat.add_zero, List.getD_eq_getElem?_getD]
   rw [List.getElem?_eq_getElem (by omega)]; rfl
 have hLs : ∀ i, i < n0 → (mkN k0 i ++ zs.drop i).set i ((k0 + i : Nat) : Int) = mkN k0 (i + 1) ++ zs.drop (i + 1) := fun i hi => by
   have hd := List.drop_eq_getElem_cons (l := zs) (i := i) (by omega)
   rw [List.set_append_right _ _ (by simp [zEl]), mkN_succ, hd, zEl, Nat.sub_self, List.set_cons_zero, List.append_assoc]
   rfl
 have hLl : ∀ i, i ≤ n0 → (mkN k0 i ++ zs.drop i).length = n0 := fun i hi => by simp [zEl]; omega
 have hLe : mkN k0 n0 ++ zs.drop n0 = mkN k0 n0 := by rw [← hn0]; simp
 have hLb : zs = mkN k0 0 ++ zs.drop 0 := by simp [mkN]
 obtain ⟨L, hL⟩ : ∃ L : Nat → List Int, ∀ i, mkN k0 i ++ zs.drop i = L i := ⟨_, fun _ => rfl⟩
 simp only [hL] at hL0 hLs hLl hLe hLb
 rw [hLb, ← hLe]
 clear hLb hLe hL hn0
 try simp -dsimp (maxSteps := 1000000) only [go_sem, List.forall_mem_nil, ↓reduceIte, Nat.reduceEqDiff, Nat.reduceLT, Nat.reduceLeDiff, Nat.reduceAdd, Nat.reduceMul, reduceCtorEq, Tryz.f111, zAb, zBa]
 refine loopI_i (ι := { k : Nat // k ≤ n0 }) (fun k => ⟨[(0, some (.c (.view n 1 0 n0))), (1, some (.c (.im (.int .i64 ((k0 + k.1 : Nat) : Int))))), (5, some (.c (.im (.int .i64 (k.1 : Int)))))],
   (n, some (.arr 1 (tI (rowsN (L k.1))))) :: h, nm⟩) (fun k => n0 - k.1) ⟨0, by simp⟩ (subI_i (Nat.le_refl _) (by simp [lk]) rfl) (fun ⟨k, hkn⟩ => ?_)
 simp only
 by_cases hlt : k < n0
 · have hrow := tI_at (zGi (hL0 k hlt))
   have hset := hLs k hlt
   have hlen := hLl k hkn
   have hI : ((k : Int) < (n0 : Int)) = True := eq_true (by omega)
   have h0 : (0 ≤ (k : Int)) = True := eq_true (by omega)
   have hwr : IntKind.i64.wrap ((k : Int) + 1) = ((k + 1 : Nat) : Int) := by rw [zAh] <;> omega
   have hwk : IntKind.i64.wrap (((k0 + k : Nat) : Int) + 1) = ((k0 + (k + 1) : Nat) : Int) := by rw [zAh] <;> omega
   try simp -dsimp (maxSteps := 1000000) only [go_sem, List.forall_mem_nil, ↓reduceIte, Nat.reduceEqDiff, Nat.reduceLT, Nat.reduceLeDiff, Nat.reduceAdd, Nat.reduceMul, reduceCtorEq, Tryz.f111, hI, h0, Int.toNat_natCast, hrow, hwr, hwk, hset, tI_sN, zBa, zAb]
   exact ⟨⟨k + 1, by omega⟩, by simp only []; omega, subI_i (Nat.le_refl _) (by simp [lk]) rfl⟩
 · have hI : ((k : Int) < (n0 : Int)) = False := eq_false (by omega)
   have hkn' : k = n0 := by omega
   subst hkn'
   try simp -dsimp (maxSteps := 1000000) only [go_sem, List.forall_mem_nil, ↓reduceIte, Nat.reduceEqDiff, Nat.reduceLT, Nat.reduceLeDiff, Nat.reduceAdd, Nat.reduceMul, reduceCtorEq, Tryz.f111, hI, zAb]
   exact fun _ _ h => h
theorem ins_fr {h : List (Nat × Option Root)} {nm : Nat} {x : Option Root} (hfr : ∀ m, nm ≤ m → lk h m = none) : ∀ m, nm + 1 ≤ m → lk (ins nm x h) m = none := fun m hm => by
 rw [zCm]
 simp only [upd]
 rw [if_neg (by omega)]
 exact hfr m (by omega)
theorem ins_at {h : List (Nat × Option Root)} {nm n : Nat} {x : Option Root} {r : Root} (hfr : ∀ m, nm ≤ m → lk h m = none) (hH : lk h n = some r) : lk (ins nm x h) n = some r := by
 rw [zCm]
 simp only [upd]
 rw [if_neg (fun e => by rw [e, hfr nm (Nat.le_refl _)] at hH; cases hH)]
 exact hH
theorem lt_fr {h : List (Nat × Option Root)} {nm n : Nat} {r : Root} (hfr : ∀ m, nm ≤ m → lk h m = none) (hH : lk h n = some r) : n < nm := by
 rcases Nat.lt_or_ge n nm with h1 | h1
 · exact h1
 · rw [hfr n h1] at hH; cases hH
theorem cons_fr {h : List (Nat × Option Root)} {nm n : Nat} {x : Option Root} (hfr : ∀ m, nm ≤ m → lk h m = none) (hn : n < nm) : ∀ m, nm ≤ m → lk ((n, x) :: h) m = none := fun m hm => by
 simp only [lk]
 rw [if_neg (by omega)]
 exact hfr m hm
set_option maxRecDepth 100000 in
set_option maxHeartbeats 4000000 in
theorem inl_markRing {h : List (Nat × Option Root)} {nm n k0 : Nat} {zs : List Pt} {a c : Int} (hH : lk h n = some (.arr 1 (tI (rowsZ zs)))) (hfr : ∀ m, nm ≤ m → lk h m = none) (hk : k0 + zs.length ≤ 4096) :
   InlAt Tryz.prog 50 [.agg [.view n 1 0 zs.length, .im (.int .i64 a), .im (.int .i64 c)], .c (.im (.int .i64 (k0 : Int)))] h nm (.c (.im (.int .i64 ((k0 + zs.length : Nat) : Int)))) ((n, some (.arr 1 (tI (rowsZ (mkZ k0 zs.length))))) :: h) (nm + 1) := by
 refine inl_of (Φ := phi []) zAf hmixA Tryz.func50 rfl rfl [1] (by simp [Tryz.f50]) ?_
 try simp -dsimp (maxSteps := 1000000) only [go_sem, List.forall_mem_nil, ↓reduceIte, Nat.reduceEqDiff, Nat.reduceLT, Nat.reduceLeDiff, Nat.reduceAdd, Nat.reduceMul, reduceCtorEq, Tryz.f50, zCm]
 refine inlK_i (inl_markC (ins_at hfr hH) hk) ?_
 try simp -dsimp (maxSteps := 1000000) only [go_sem, List.forall_mem_nil, ↓reduceIte, Nat.reduceEqDiff, Nat.reduceLT, Nat.reduceLeDiff, Nat.reduceAdd, Nat.reduceMul, reduceCtorEq, Tryz.f50, zCm]
 intro m r hm
 by_cases e : m = nm
 · have h0 := hfr nm (Nat.le_refl _)
   subst e
   have h1 := lt_fr hfr hH
   rw [if_neg (by omega), h0] at hm
   cases hm
 · simp only [if_neg e]
   exact hm
set_option maxRecDepth 100000 in
set_option maxHeartbeats 4000000 in
theorem inl_markTable {h : List (Nat × Option Root)} {nm n n2 k0 : Nat} {zs : List Pt} {ls : List Int} (hH : lk h n = some (.arr 1 (tI (rowsZ zs)))) (hH2 : lk h n2 = some (.arr 1 (tI (rowsN ls)))) (hne : n2 ≠ n) (hfr : ∀ m, nm ≤ m → lk h m = none) (hk : k0 + zs.length + ls.length ≤ 4096) :
   InlAt Tryz.prog 51 [.agg [.view n 1 0 zs.length, .view n2 1 0 ls.length], .c (.im (.int .i64 (k0 : Int)))] h nm (.c (.im (.int .i64 ((k0 + zs.length + ls.length : Nat) : Int)))) ((n2, some (.arr 1 (tI (rowsN (mkN (k0 + zs.length) ls.length))))) :: (n, some (.arr 1 (tI (rowsZ (mkZ k0 zs.length))))) :: h) (nm + 1) := by
 refine inl_of (Φ := phi []) zAf hmixA Tryz.func51 rfl rfl [1, 2] (by simp [Tryz.f51]) ?_
 have e1 : (nm = n) = False := eq_false (by have := lt_fr hfr hH; omega)
 have e2 : (nm = n2) = False := eq_false (by have := lt_fr hfr hH2; omega)
 try simp -dsimp (maxSteps := 1000000) only [go_sem, List.forall_mem_nil, ↓reduceIte, Nat.reduceEqDiff, Nat.reduceLT, Nat.reduceLeDiff, Nat.reduceAdd, Nat.reduceMul, reduceCtorEq, Tryz.f51, zCm]
 refine inlK_i (inl_markC (ins_at hfr hH) (by omega)) ?_
 try simp -dsimp (maxSteps := 1000000) only [go_sem, List.forall_mem_nil, ↓reduceIte, Nat.reduceEqDiff, Nat.reduceLT, Nat.reduceLeDiff, Nat.reduceAdd, Nat.reduceMul, reduceCtorEq, Tryz.f51, zCm, e1, e2]
 refine inlK_i (inl_markN (by simp only [lk]; rw [if_neg hne]; exact ins_at hfr hH2) (by omega)) ?_
 try simp -dsimp (maxSteps := 1000000) only [go_sem, List.forall_mem_nil, ↓reduceIte, Nat.reduceEqDiff, Nat.reduceLT, Nat.reduceLeDiff, Nat.reduceAdd, Nat.reduceMul, reduceCtorEq, Tryz.f51, zCm, e1, e2]
 intro m r hm
 by_cases e : m = nm
 · have h0 := hfr nm (Nat.le_refl _)
   subst e
   simp only [e1, e2, if_false, h0] at hm
   exact absurd hm (by simp)
 · simp only [if_neg e]
   exact hm
set_option maxRecDepth 100000 in
set_option maxHeartbeats 4000000 in
theorem inl_markModule {h : List (Nat × Option Root)} {nm n1 n2 n3 k0 : Nat} {m : Mod} (h1 : lk h n1 = some (.arr 1 (tI (rowsZ m.store)))) (h2 : lk h n2 = some (.arr 1 (tI (rowsZ m.pts)))) (h3 : lk h n3 = some (.arr 1 (tI (rowsN m.lab)))) (n12 : n2 ≠ n1) (n13 : n3 ≠ n1) (n23 : n3 ≠ n2) (hfr : ∀ m, nm ≤ m → lk h m = none) (hk : mkE k0 m ≤ 4096) :
   InlAt Tryz.prog 10 [.agg [.im (.int .i64 m.kind), .im (.cpx .f32 m.turn.1 m.turn.2), .im (.cpx .f32 m.state.1 m.state.2), .im (.flt .f32 m.level), .view n1 1 0 m.store.length, .im (.int .i64 m.rat), .im (.int .i64 m.rcnt), .view n2 1 0 m.pts.length, .view n3 1 0 m.lab.length, .im (.int .i64 m.count), .im (.int .i64 m.left)], .c (.im (.int .i64 (k0 : Int)))] h nm (.c (.im (.int .i64 ((mkE k0 m : Nat) : Int))))
     ((n3, some (.arr 1 (tI (rowsN (mkM k0 m).lab)))) :: (n2, some (.arr 1 (tI (rowsZ (mkM k0 m).pts)))) :: (n1, some (.arr 1 (tI (rowsZ (mkM k0 m).store)))) :: h) (nm + 3) := by
 refine inl_of (Φ := phi []) zAf hmixA Tryz.func10 rfl rfl [1, 2] (by simp [Tryz.f10]) ?_
 have e1 : (nm = n1) = False := eq_false (by have := lt_fr hfr h1; omega)
 have e2 : (nm = n2) = False := eq_false (by have := lt_fr hfr h2; omega)
 have e3 : (nm = n3) = False := eq_false (by have := lt_fr hfr h3; omega)
 have l1 := lt_fr hfr h1
 simp only [mkE] at hk ⊢
 simp only [mkM]
 try simp -dsimp (maxSteps := 1000000) only [go_sem, List.forall_mem_nil, ↓reduceIte, Nat.reduceEqDiff, Nat.reduceLT, Nat.reduceLeDiff, Nat.reduceAdd, Nat.reduceMul, reduceCtorEq, Tryz.f10, zCm]
 refine inlK_i (inl_markRing (ins_at hfr h1) (ins_fr hfr) (by omega)) ?_
 try simp -dsimp (maxSteps := 1000000) only [go_sem, List.forall_mem_nil, ↓reduceIte, Nat.reduceEqDiff, Nat.reduceLT, Nat.reduceLeDiff, Nat.reduceAdd, Nat.reduceMul, reduceCtorEq, Tryz.f10, zCm, e1, e2, e3]
 refine inlK_i (inl_markTable (by simp only [lk]; rw [if_neg n12]; exact ins_at hfr h2) (by simp only [lk]; rw [if_neg n13]; exact ins_at hfr h3) n23 (fun k hk => cons_fr (ins_fr hfr) (by omega) k (by omega)) (by omega)) ?_
 try simp -dsimp (maxSteps := 1000000) only [go_sem, List.forall_mem_nil, ↓reduceIte, Nat.reduceEqDiff, Nat.reduceLT, Nat.reduceLeDiff, Nat.reduceAdd, Nat.reduceMul, reduceCtorEq, Tryz.f10, zCm, e1, e2, e3]
 intro m r hm
 by_cases e : m = nm
 · have h0 := hfr nm (Nat.le_refl _)
   subst e
   simp only [e1, e2, e3, if_false, h0] at hm
   exact absurd hm (by simp)
 · simp only [if_neg e]
   exact hm
end Go.SX
namespace Go.SX
open Go Ieee
def nanT : Txt := [110, 97, 110]
def infT : Txt := [105, 110, 102]
def ninfT : Txt := [45, 105, 110, 102]
def sglT (w : Nat) : Txt := if 2139095040 < w % 2147483648 then nanT else if w % 2147483648 = 2139095040 then (if 2147483648 ≤ w then ninfT else infT) else fmtT w
def cW (w : Nat) : Nat := if 2139095040 < w % 2147483648 then qn .f32 else w
noncomputable def sglP (s : Txt) : Nat × Bool := if s = nanT then (qn .f32, true) else if s = infT then (2139095040, true) else if s = ninfT then (4286578688, true) else match prsT s with
 | some w => (w, true)
 | none => (0, false)
theorem fmtT_first {w : Nat} (h : Fin32 w) : ∃ c t, fmtT w = c :: t ∧ (isDig c ∨ (c = 45 ∧ ∃ d t', t = d :: t' ∧ isDig d)) := by
 unfold fmtT
 obtain ⟨c, t, e, hd⟩ := magT_head h.fin
 rw [e]
 unfold sgnT
 split
 · exact ⟨45, c :: t, rfl, .inr ⟨rfl, c, t, rfl, hd⟩⟩
 · exact ⟨c, t, rfl, .inl hd⟩
theorem fmtT_special {w : Nat} (h : Fin32 w) : fmtT w ≠ nanT ∧ fmtT w ≠ infT ∧ fmtT w ≠ ninfT := by
 obtain ⟨c, t, e, hd⟩ := fmtT_first h
 rw [e]
 refine ⟨fun h => ?_, fun h => ?_, fun h => ?_⟩
 · unfold nanT at h; injection h with h1 h2; subst h1
   rcases hd with hd | ⟨hd, _⟩
   · unfold isDig at hd; revert hd; decide
   · revert hd; decide
 · unfold infT at h; injection h with h1 h2; subst h1
   rcases hd with hd | ⟨hd, _⟩
   · unfold isDig at hd; revert hd; decide
   · revert hd; decide
 · unfold ninfT at h; injection h with h1 h2; subst h1 h2
   rcases hd with hd | ⟨_, d, t', h3, hd⟩
   · unfold isDig at hd; revert hd; decide
   · injection h3 with h3 _; subst h3; unfold isDig at hd; revert hd; decide
theorem sglP_T {w : Nat} (h : w < 4294967296) : sglP (sglT w) = (cW w, true) := by
 unfold sglT cW
 by_cases h1 : 2139095040 < w % 2147483648
 · rw [if_pos h1, if_pos h1]; simp [sglP]
 · rw [if_neg h1, if_neg h1]
   by_cases h2 : w % 2147483648 = 2139095040
   · rw [if_pos h2]
     by_cases h3 : 2147483648 ≤ w
     · rw [if_pos h3]
       have : w = 4286578688 := by omega
       subst this
       simp [sglP, ninfT, nanT, infT]
     · rw [if_neg h3]
       have : w = 2139095040 := by omega
       subst this
       simp [sglP, nanT, infT]
   · rw [if_neg h2]
     have hf : Fin32 w := ⟨h, by omega⟩
     obtain ⟨a, b, c⟩ := fmtT_special hf
     simp only [sglP, if_neg a, if_neg b, if_neg c, prsT_fmt hf]
theorem sglT_no {w : Nat} {c : UInt8} (h1 : c ≠ 45) (h2 : ¬ isDig c) (h3 : c ≠ 112) (h4 : c ∉ nanT) (h5 : c ∉ infT) : c ∉ sglT w := by
 unfold sglT
 split
 · exact h4
 · split
   · split
     · intro h
       simp only [ninfT, List.mem_cons] at h
       rcases h with h | h
       · exact h1 h
       · exact h5 (by simpa [infT] using h)
     · exact h5
   · exact fmtT_no h1 h2 h3
theorem sglT_noS (w : Nat) : (32 : UInt8) ∉ sglT w := sglT_no (by decide) (by unfold isDig; decide) (by decide) (by decide) (by decide)
def sourceT : Txt := [115, 111, 117, 114, 99, 101]
def mixerT : Txt := [109, 105, 120, 101, 114]
def gainT : Txt := [103, 97, 105, 110]
def delayT : Txt := [100, 101, 108, 97, 121]
def sumT : Txt := [115, 117, 109]
def slicerT : Txt := [115, 108, 105, 99, 101, 114]
def meterT : Txt := [109, 101, 116, 101, 114]
def holdT : Txt := [104, 111, 108, 100]
def ptW (p : Pt) : List Txt := [sglT p.1, sglT p.2]
def ptsW (l : List Pt) : List Txt := l.flatMap ptW
def tabW : List Pt → List Int → List Txt
 | p :: ps, n :: ns => sglT p.1 :: sglT p.2 :: Lib.itoa n :: tabW ps ns
 | _, _ => []
def nameT (k : Int) : Txt := if k = 1 then sourceT else if k = 2 then mixerT else if k = 3 then gainT else if k = 4 then delayT else if k = 5 then sumT else if k = 6 then slicerT else if k = 7 then meterT else holdT
def restW (m : Mod) : List Txt :=
 if m.kind = 1 then ptW m.turn ++ ptW m.state
 else if m.kind = 2 then ptW m.turn ++ ptW m.state
 else if m.kind = 3 then [sglT m.level]
 else if m.kind = 4 then Lib.itoa m.rat :: ptsW m.store
 else if m.kind = 5 then []
 else if m.kind = 6 then Lib.itoa m.count :: tabW m.pts m.lab
 else if m.kind = 7 then [sglT m.level]
 else Lib.itoa m.count :: Lib.itoa m.left :: ptW m.state
def behind (ws : List Txt) : Txt := ws.flatMap fun p => 32 :: p
def fmtM (m : Mod) : Txt := if isModuleF m then nameT m.kind ++ behind (restW m) else []
theorem joinT_cons (c : UInt8) : ∀ (p : Txt) (q : List Txt), joinT c (p :: q) = p ++ q.flatMap (fun x => c :: x)
 | p, [] => by simp [joinT]
 | p, q :: r => by
   simp only [joinT, joinT_cons c q r, List.flatMap_cons, List.cons_append]
theorem fmtM_join {m : Mod} (h : isModuleF m = true) : fmtM m = joinT 32 (nameT m.kind :: restW m) := by
 rw [joinT_cons, fmtM, if_pos h]; rfl
theorem nameT_noS (k : Int) : (32 : UInt8) ∉ nameT k := by
 unfold nameT
 repeat' split
 all_goals decide
theorem tabW_no {c : UInt8} (h1 : ∀ w, c ∉ sglT w) (h2 : ∀ n, c ∉ Lib.itoa n) : ∀ (ps : List Pt) (ns : List Int), ∀ p ∈ tabW ps ns, c ∉ p
 | [], _, p, h => by simp [tabW] at h
 | _ :: _, [], p, h => by simp [tabW] at h
 | x :: ps, n :: ns, p, h => by
   simp only [tabW, List.mem_cons] at h
   rcases h with rfl | rfl | rfl | h
   · exact h1 _
   · exact h1 _
   · exact h2 _
   · exact tabW_no h1 h2 ps ns p h
theorem ptsW_no {c : UInt8} (h1 : ∀ w, c ∉ sglT w) (l : List Pt) : ∀ p ∈ ptsW l, c ∉ p := fun p h => by
 simp only [ptsW, ptW, List.mem_flatMap, List.mem_cons, List.not_mem_nil, or_false] at h
 obtain ⟨x, _, rfl | rfl⟩ := h <;> exact h1 _
theorem restW_no {c : UInt8} (h1 : ∀ w, c ∉ sglT w) (h2 : ∀ n, c ∉ Lib.itoa n) (m : Mod) : ∀ p ∈ restW m, c ∉ p := fun p h => by
 have hp : ∀ q, p ∈ ptW q → c ∉ p := fun q h => by
   simp only [ptW, List.mem_cons, List.not_mem_nil, or_false] at h
   rcases h with rfl | rfl <;> exact h1 _
 unfold restW at h
 split at h
 · rcases List.mem_append.1 h with h | h <;> exact hp _ h
 split at h
 · rcases List.mem_append.1 h with h | h <;> exact hp _ h
 split at h
 · simp only [List.mem_singleton] at h; subst h; exact h1 _
 split at h
 · rcases List.mem_cons.1 h with rfl | h
   · exact h2 _
   · exact ptsW_no h1 _ p h
 split at h
 · cases h
 split at h
 · rcases List.mem_cons.1 h with rfl | h
   · exact h2 _
   · exact tabW_no h1 h2 _ _ p h
 split at h
 · simp only [List.mem_singleton] at h; subst h; exact h1 _
 · rcases List.mem_cons.1 h with rfl | h
   · exact h2 _
   rcases List.mem_cons.1 h with rfl | h
   · exact h2 _
   · exact hp _ h
theorem splT_fmtM {m : Mod} (h : isModuleF m = true) : splT 32 (fmtM m) = nameT m.kind :: restW m := by
 rw [fmtM_join h]
 refine splT_join (by simp) fun p hp => ?_
 rcases List.mem_cons.1 hp with rfl | hp
 · exact nameT_noS _
 · exact restW_no sglT_noS itoa_noS m p hp
noncomputable def rdS (ps : List Txt) (bad : Bool) : Nat × List Txt × Bool := match ps with
 | [] => (0, [], true)
 | p :: t => ((sglP p).1, t, bad || !(sglP p).2)
def rdI (ps : List Txt) (bad : Bool) : Int × List Txt × Bool := match ps with
 | [] => (0, [], true)
 | p :: t => ((numF p).1, t, bad || !(numF p).2)
noncomputable def rdP (ps : List Txt) (bad : Bool) : Pt × List Txt × Bool :=
 (((rdS ps bad).1, (rdS (rdS ps bad).2.1 (rdS ps bad).2.2).1), (rdS (rdS ps bad).2.1 (rdS ps bad).2.2).2)
theorem rdS_len (ps : List Txt) (bad : Bool) : (rdS ps bad).2.1.length = ps.length - 1 := by cases ps <;> simp [rdS]
theorem zEv (ps : List Txt) (bad : Bool) : (rdI ps bad).2.1.length = ps.length - 1 := by cases ps <;> simp [rdI]
theorem zEk (ps : List Txt) (bad : Bool) : (rdP ps bad).2.1.length = ps.length - 2 := by simp only [rdP, rdS_len]; omega
noncomputable def dlyP (ps : List Txt) (bad : Bool) : List Pt × List Txt × Bool :=
 if h : ps ≠ [] ∧ bad = false then ((rdP ps bad).1 :: (dlyP (rdP ps bad).2.1 (rdP ps bad).2.2).1, (dlyP (rdP ps bad).2.1 (rdP ps bad).2.2).2) else ([], ps, bad)
termination_by ps.length
decreasing_by all_goals (rw [zEk]; have : 0 < ps.length := List.length_pos_iff.2 h.1; omega)
noncomputable def slcP (ps : List Txt) (bad : Bool) : List Pt × List Int × List Txt × Bool :=
 if h : ps ≠ [] ∧ bad = false then
   ((rdP ps bad).1 :: (slcP (rdI (rdP ps bad).2.1 (rdP ps bad).2.2).2.1 (rdI (rdP ps bad).2.1 (rdP ps bad).2.2).2.2).1,
    (rdI (rdP ps bad).2.1 (rdP ps bad).2.2).1 :: (slcP (rdI (rdP ps bad).2.1 (rdP ps bad).2.2).2.1 (rdI (rdP ps bad).2.1 (rdP ps bad).2.2).2.2).2.1,
    (slcP (rdI (rdP ps bad).2.1 (rdP ps bad).2.2).2.1 (rdI (rdP ps bad).2.1 (rdP ps bad).2.2).2.2).2.2)
 else ([], [], ps, bad)
termination_by ps.length
decreasing_by all_goals (rw [zEv, zEk]; have : 0 < ps.length := List.length_pos_iff.2 h.1; omega)
def kindT (w : Txt) : Int := if w = sourceT then 1 else if w = mixerT then 2 else if w = gainT then 3 else if w = delayT then 4 else if w = sumT then 5 else if w = slicerT then 6 else if w = meterT then 7 else if w = holdT then 8 else 0
def mod0 (k : Int) : Mod := ⟨k, (0, 0), (0, 0), 0, [], 0, 0, [], [], 0, 0⟩
noncomputable def readM (k : Int) (ps : List Txt) : Mod × List Txt × Bool :=
 if k = 1 ∨ k = 2 then ({ mod0 k with turn := (rdP ps false).1, state := (rdP (rdP ps false).2.1 (rdP ps false).2.2).1 }, (rdP (rdP ps false).2.1 (rdP ps false).2.2).2)
 else if k = 3 ∨ k = 7 then ({ mod0 k with level := (rdS ps false).1 }, (rdS ps false).2)
 else if k = 4 then ({ mod0 k with rat := (rdI ps false).1, store := (dlyP (rdI ps false).2.1 (rdI ps false).2.2).1, rcnt := ((dlyP (rdI ps false).2.1 (rdI ps false).2.2).1.length : Int) }, (dlyP (rdI ps false).2.1 (rdI ps false).2.2).2)
 else if k = 6 then ({ mod0 k with count := (rdI ps false).1, pts := (slcP (rdI ps false).2.1 (rdI ps false).2.2).1, lab := (slcP (rdI ps false).2.1 (rdI ps false).2.2).2.1 }, (slcP (rdI ps false).2.1 (rdI ps false).2.2).2.2)
 else if k = 8 then ({ mod0 k with count := (rdI ps false).1, left := (rdI (rdI ps false).2.1 (rdI ps false).2.2).1, state := (rdP (rdI (rdI ps false).2.1 (rdI ps false).2.2).2.1 (rdI (rdI ps false).2.1 (rdI ps false).2.2).2.2).1 },
   (rdP (rdI (rdI ps false).2.1 (rdI ps false).2.2).2.1 (rdI (rdI ps false).2.1 (rdI ps false).2.2).2.2).2)
 else (mod0 k, ps, false)
noncomputable def implM (s : Txt) : Option Mod := match splT 32 s with
 | [] => none
 | w :: ps => if (readM (kindT w) ps).2.2 = false ∧ (readM (kindT w) ps).2.1 = [] ∧ isModuleF (readM (kindT w) ps).1 = true ∧ fmtM (readM (kindT w) ps).1 = s then some (readM (kindT w) ps).1 else none
theorem implM_some {s : Txt} {m : Mod} (h : implM s = some m) : isModuleF m = true ∧ fmtM m = s := by
 unfold implM at h
 split at h
 · cases h
 · split at h
   · rename_i hc
     injection h with h
     subst h
     exact ⟨hc.2.2.1, hc.2.2.2⟩
   · cases h
def cP (p : Pt) : Pt := (cW p.1, cW p.2)
def cM (m : Mod) : Mod := { m with turn := cP m.turn, state := cP m.state, level := cW m.level, store := m.store.map cP, pts := m.pts.map cP }
structure W32 (m : Mod) : Prop where
 turn : m.turn.1 < 4294967296 ∧ m.turn.2 < 4294967296
 state : m.state.1 < 4294967296 ∧ m.state.2 < 4294967296
 level : m.level < 4294967296
 store : ∀ p ∈ m.store, p.1 < 4294967296 ∧ p.2 < 4294967296
 pts : ∀ p ∈ m.pts, p.1 < 4294967296 ∧ p.2 < 4294967296
theorem rdS_T {w : Nat} (h : w < 4294967296) (t : List Txt) : rdS (sglT w :: t) false = (cW w, t, false) := by simp [rdS, sglP_T h]
theorem rdI_T {n : Int} (h : i64B n) (t : List Txt) : rdI (Lib.itoa n :: t) false = (n, t, false) := by simp [rdI, numF_itoa h.1 h.2]
theorem rdP_T {p : Pt} (h : p.1 < 4294967296 ∧ p.2 < 4294967296) (t : List Txt) : rdP (ptW p ++ t) false = (cP p, t, false) := by
 simp [rdP, ptW, rdS_T h.1, rdS_T h.2, cP]
theorem dlyP_T : ∀ (l : List Pt), (∀ p ∈ l, p.1 < 4294967296 ∧ p.2 < 4294967296) → dlyP (ptsW l) false = (l.map cP, [], false)
 | [], _ => by unfold dlyP; simp [ptsW]
 | p :: l, h => by
   have ih := dlyP_T l (fun q hq => h q (List.mem_cons_of_mem _ hq))
   have e : ptsW (p :: l) = ptW p ++ ptsW l := by simp [ptsW]
   unfold dlyP
   rw [dif_pos ⟨by rw [e]; simp [ptW], rfl⟩, e, rdP_T (h p (by simp)), ih]
   simp
theorem slcP_T : ∀ (l : List Pt) (n : List Int), l.length = n.length → (∀ p ∈ l, p.1 < 4294967296 ∧ p.2 < 4294967296) → (∀ x ∈ n, i64B x) → slcP (tabW l n) false = (l.map cP, n, [], false)
 | [], [], _, _, _ => by unfold slcP; simp [tabW]
 | [], _ :: _, h, _, _ => by simp at h
 | _ :: _, [], h, _, _ => by simp at h
 | p :: l, x :: n, h, h1, h2 => by
   have ih := slcP_T l n (by simpa using h) (fun q hq => h1 q (List.mem_cons_of_mem _ hq)) (fun q hq => h2 q (List.mem_cons_of_mem _ hq))
   have e : tabW (p :: l) (x :: n) = ptW p ++ Lib.itoa x :: tabW l n := by simp [tabW, ptW]
   unfold slcP
   rw [dif_pos ⟨by rw [e]; simp [ptW], rfl⟩, e, rdP_T (h1 p (by simp))]
   simp only [rdI_T (h2 x (by simp)), ih]
   simp
end Go.SX
namespace Go.SX
open Go Go.Proofs
theorem sc_false (rows : List (List I)) : ∀ (sz : Nat), MvR false (.arr sz (tI rows)) := by
 intro sz r hr t ht
 simp only [tI, List.mem_map] at hr
 obtain ⟨r0, hr0, rfl⟩ := hr
 simp only [List.mem_map] at ht
 obtain ⟨i, hi, rfl⟩ := ht
 exact .im _ (.inl rfl)
structure OkR2 (ms : List Mod) (cs : List Cbl) : Prop where
 ml : ms.length ≤ sm
 cl : cs.length ≤ sm
structure AO where
 i : Int
 ms : List Mod
 cs : List Cbl
 out : List Int
 ml : ms.length ≤ sm
 cl : cs.length ≤ sm
 ol : out.length ≤ sm
end Go.SX
namespace Go.SX
open Go Go.Proofs
structure ARk where
 ms : List Mod
 cs : List Cbl
 ml : ms.length ≤ 16
 cl : cs.length ≤ sm
 ok : ∀ c ∈ cs, 0 ≤ c.1 ∧ c.1 < ms.length
end Go.SX
namespace Go.SX
open Go Go.Proofs
structure ARo where
 ms : List Mod
 cs : List Cbl
 ml : ms.length ≤ sm
 cl : cs.length ≤ sm
 ok : ∀ m ∈ ms, OkM m
end Go.SX
namespace Go.SX
open Go Go.Proofs
def tM (ms : List Mod) : List (List T) := ms.map modT
theorem lentR_tM (ms : List Mod) {sz : Nat} : lentR (.arr sz (tM ms)) = [] := by
 simp only [lentR, tM, List.flatMap_eq_nil_iff, List.mem_map]
 rintro r ⟨m, _, rfl⟩ t ht
 simp only [modT, List.mem_cons, List.not_mem_nil, or_false] at ht
 rcases ht with rfl | rfl | rfl | rfl | rfl | rfl | rfl | rfl | rfl | rfl | rfl <;> rfl
attribute [go_sem] lentR_tM
theorem mv_own {sc : Bool} {sz : Nat} {rows : List (List I)} (h : ∀ r ∈ rows, ∀ i ∈ r, scI i = true) : Mv sc (.own sz (tI rows)) := .own _ _ (mvR_tI (sz := sz) h)
end Go.SX
namespace Go.SX
open Go Go.Proofs
abbrev Or := (Nat × Nat) × (Nat × Nat)
structure OkS (m : Mod) : Prop where
 ok : OkM m
 ring : m.kind = 4 → 0 ≤ m.rat ∧ m.rat < m.store.length
 hold : m.kind = 8 → 1 ≤ m.count ∧ m.count ≤ 100 ∧ 0 ≤ m.left ∧ m.left < m.count
end Go.SX
namespace Go.SX
open Go Go.Proofs
structure ASt where
 ms : List Mod
 cs : List Cbl
 inn : Int
 z : Pt
 ml : ms.length ≤ 16
 cl : cs.length ≤ sm
 ok : ∀ m ∈ ms, OkS m
 cr : ∀ c ∈ cs, 0 ≤ c.1 ∧ c.1 < ms.length
end Go.SX
namespace Go.SX
open Go Go.Proofs
theorem MvB_N (l : List Int) : MvB false (.t (.own 1 (tI (rowsN l)))) = True := eq_true (.t _ (mv_own (sc_rowsN _)))
end Go.SX
namespace Go.SX
open Go Go.Proofs
structure RackOk (ms : List Mod) (cs : List Cbl) : Prop where
 ml : ms.length ≤ 16
 cl : cs.length ≤ 40
 ok : ∀ m ∈ ms, OkS m
 cr : ∀ c ∈ cs, 0 ≤ c.1 ∧ c.1 < ms.length ∧ 0 ≤ c.2 ∧ c.2 < ms.length
structure APl where
 ms : List Mod
 cs : List Cbl
 a : Int
 b : Int
structure ACr where
 ms : List Mod
 cs : List Cbl
 a : Int
 b : Int
 n : Int
 ml : ms.length ≤ sm
 cl : cs.length ≤ sm
 ok : ∀ m ∈ ms, OkM m
end Go.SX
namespace Go.SX
open Go Go.Proofs
structure ARun where
 ms : List Mod
 cs : List Cbl
 a : Int
 b : Int
 xs : List Pt
 n : Int
 ml : ms.length ≤ sm
 cl : cs.length ≤ sm
 xl : xs.length ≤ sm
 ok : ∀ m ∈ ms, OkM m
theorem tI_nil : tI (rowsZ []) = [] := rfl
end Go.SX
namespace Go.SX
open Go Go.Proofs
structure ACk where
 m : Mod
 b : Bool
 ok : OkM m
 p : m.pts = []
 l : m.lab = []
 s : b = false → m.store = []
 v : isModuleF m = true
def zs (n : Nat) : List Pt := List.replicate n (0, 0)
end Go.SX
namespace Go.SX
open Go Go.Proofs
structure ABy where
 l : List Int
 len : l.length ≤ 1048576
 by_ : ∀ b ∈ l, 0 ≤ b ∧ b < 256
structure AEq where
 l : List Pt
 m : List Pt
 ll : l.length ≤ sm
 ml : m.length ≤ sm
end Go.SX
namespace Go.SX
open Go Go.Proofs
structure ATr where
 ms : List Mod
 cs : List Cbl
 n : Int
 ml : ms.length ≤ sm
 cl : cs.length ≤ sm
 ok : ∀ m ∈ ms, OkM m
end Go.SX
namespace Go.SX
open Go Go.Proofs
def dst (n : Nat) (x : Nat → Pt) : Nat → List Pt
 | 0 => List.replicate n (0, 0)
 | k + 1 => (dst n x k).set (k % n) (x k)
def g2 (d : Pt) : Pt := scaleF (addPt (0, 0) d) 1073741824
def g3 (d : Pt) : Pt := scaleF (addPt (0, 0) (g2 d)) 1056964608
end Go.SX
namespace Go.SX
open Go Go.Proofs
theorem zAg : rowsZ [] = [] := rfl
theorem zAl : rowsN [] = [] := rfl
end Go.SX
namespace Go.SX
open Go Go.Proofs
structure AKn where
 l : List Int
 len : l.length ≤ 1048576
 by_ : ∀ b ∈ l, 0 ≤ b ∧ b < 256
 a : Int
 h : Int
 a0 : 0 ≤ a
 a1 : a ≤ l.length
structure ABw where
 l : List Int
 len : l.length ≤ 1048576
 by_ : ∀ b ∈ l, 0 ≤ b ∧ b < 256
end Go.SX
namespace Go.SX
open Go Go.Proofs
theorem MvR_Z (l : List Pt) : MvR false (.arr 1 (tI (rowsZ l))) = True := eq_true (sc_false _ _)
end Go.SX
namespace Go.SX
open Go Go.Proofs
noncomputable def ct_l1In : Ct := fam true (fun x : Int × Int × Int => ([.c (.im (.int .i64 x.1)), .c (.im (.int .i64 x.2.1)), .c (.im (.int .i64 x.2.2))], [])) (fun x => .one { val := .c (.im (.bool (decide (x.2.1 ≤ x.1) && decide (x.1 ≤ x.2.2)))) })
theorem zBe (k a b : Int) : ct_l1In.run [.c (.im (.int .i64 k)), .c (.im (.int .i64 a)), .c (.im (.int .i64 b))] [] = some (.one { val := .c (.im (.bool (decide (a ≤ k) && decide (k ≤ b)))) }) := zAd (args := fun x : Int × Int × Int => ([D.c (.im (.int .i64 x.1)), .c (.im (.int .i64 x.2.1)), .c (.im (.int .i64 x.2.2))], [])) (by
   intro a b h
   simp only [Prod.mk.injEq, List.cons.injEq, D.c.injEq, D.agg.injEq, C.im.injEq, I.cpx.injEq, I.flt.injEq, I.int.injEq, I.sl.injEq, I.bool.injEq, I.str.injEq, Int.natCast_inj, true_and, and_true] at h
   (try simp only [Prod.ext_iff, Subtype.ext_iff])
   (try simp only [zBi, zCc] at h)
   simp_all) (k, a, b)
set_option maxRecDepth 100000 in
theorem law_l1In : Law Tryz.prog 59 ct_l1In := by
 refine zAk zAf hmixA Tryz.func59 rfl rfl (fun ⟨k, a, b⟩ => ⟨zAt rfl, by simp [Tryz.f59], ?_⟩)
 simp only
 by_cases h1 : a ≤ k
 · have h1' := eq_true h1
   by_cases h2 : k ≤ b
   · have h2' := eq_true h2
     clear h1 h2
     try simp -dsimp (maxSteps := 1000000) only [go_sem, List.forall_mem_nil, ↓reduceIte, Nat.reduceEqDiff, Nat.reduceLT, Nat.reduceLeDiff, Nat.reduceAdd, Nat.reduceMul, reduceCtorEq, Tryz.f59, h1', h2', Bool.and_true]
   · have h2' := eq_false h2
     clear h1 h2
     try simp -dsimp (maxSteps := 1000000) only [go_sem, List.forall_mem_nil, ↓reduceIte, Nat.reduceEqDiff, Nat.reduceLT, Nat.reduceLeDiff, Nat.reduceAdd, Nat.reduceMul, reduceCtorEq, Tryz.f59, h1', h2', Bool.and_false]
 · have h1' := eq_false h1
   clear h1
   try simp -dsimp (maxSteps := 1000000) only [go_sem, List.forall_mem_nil, ↓reduceIte, Nat.reduceEqDiff, Nat.reduceLT, Nat.reduceLeDiff, Nat.reduceAdd, Nat.reduceMul, reduceCtorEq, Tryz.f59, h1', Bool.false_and]
end Go.SX
namespace Go.SX
open Go Go.Proofs
def finS (x : Nat) : Bool := fcmp .eql .f32 (fop .sub .f32 x x) 0
noncomputable def ct_l1Finite : Ct := fam true (fun x : Nat => ([.c (.im (.flt .f32 x))], [])) (fun x => .one { val := .c (.im (.bool (finS x))) })
theorem zBp (x : Nat) : ct_l1Finite.run [.c (.im (.flt .f32 x))] [] = some (.one { val := .c (.im (.bool (finS x))) }) := zAd (by
   intro a b h
   simp only [Prod.mk.injEq, List.cons.injEq, D.c.injEq, D.agg.injEq, C.im.injEq, I.cpx.injEq, I.flt.injEq, I.int.injEq, I.sl.injEq, I.bool.injEq, I.str.injEq, Int.natCast_inj, true_and, and_true] at h
   (try simp only [Prod.ext_iff, Subtype.ext_iff])
   (try simp only [zBi, zCc] at h)
   simp_all) x
set_option maxRecDepth 100000 in
theorem zFx : Law Tryz.prog 131 ct_l1Finite := by
 refine zAk zAf hmixA Tryz.func131 rfl rfl (fun x => ⟨zAt rfl, by simp [Tryz.f131], ?_⟩)
 simp only [finS]
 try simp -dsimp (maxSteps := 1000000) only [go_sem, List.forall_mem_nil, ↓reduceIte, Nat.reduceEqDiff, Nat.reduceLT, Nat.reduceLeDiff, Nat.reduceAdd, Nat.reduceMul, reduceCtorEq, Tryz.f131]
noncomputable def ct_l2Finite : Ct := fam true (fun x : Pt => ([.c (.im (.cpx .f32 x.1 x.2))], [])) (fun x => .one { val := .c (.im (.bool (finS x.1 && finS x.2))) })
theorem run_l2Finite (x y : Nat) : ct_l2Finite.run [.c (.im (.cpx .f32 x y))] [] = some (.one { val := .c (.im (.bool (finS x && finS y))) }) := zAd (by
   intro a b h
   simp only [Prod.mk.injEq, List.cons.injEq, D.c.injEq, D.agg.injEq, C.im.injEq, I.cpx.injEq, I.flt.injEq, I.int.injEq, I.sl.injEq, I.bool.injEq, I.str.injEq, Int.natCast_inj, true_and, and_true] at h
   (try simp only [Prod.ext_iff, Subtype.ext_iff])
   (try simp only [zBi, zCc] at h)
   simp_all) (x, y)
set_option maxRecDepth 100000 in
theorem law_l2Finite : Law Tryz.prog 130 ct_l2Finite := by
 refine zAk (zAc zFx zAf) hmixA Tryz.func130 rfl rfl (fun x => ⟨zAt rfl, by simp [Tryz.f130], ?_⟩)
 try simp -dsimp (maxSteps := 1000000) only [go_sem, List.forall_mem_nil, ↓reduceIte, Nat.reduceEqDiff, Nat.reduceLT, Nat.reduceLeDiff, Nat.reduceAdd, Nat.reduceMul, reduceCtorEq, Tryz.f130, zBp]
 repeat' ((first | (with_reducible refine gS_d ?_ ?_) | (with_reducible refine gS_dn ?_ ?_) | (with_reducible refine gS_i ?_ ?_)) <;> intro hg <;> (try simp -dsimp (maxSteps := 1000000) only [go_sem, List.forall_mem_nil, ↓reduceIte, Nat.reduceEqDiff, Nat.reduceLT, Nat.reduceLeDiff, Nat.reduceAdd, Nat.reduceMul, reduceCtorEq, Tryz.f130, zBp, *]))
 all_goals simp_all
def absS (x : Nat) : Nat := if fcmp .lss .f32 x 0 = true then Op.negFloat .f32 x else if fcmp .eql .f32 x 0 = true then 0 else x
noncomputable def ct_l1Abs : Ct := fam true (fun x : Nat => ([.c (.im (.flt .f32 x))], [])) (fun x => .one { val := .c (.im (.flt .f32 (absS x))) })
theorem run_l1Abs (x : Nat) : ct_l1Abs.run [.c (.im (.flt .f32 x))] [] = some (.one { val := .c (.im (.flt .f32 (absS x))) }) := zAd (by
   intro a b h
   simp only [Prod.mk.injEq, List.cons.injEq, D.c.injEq, D.agg.injEq, C.im.injEq, I.cpx.injEq, I.flt.injEq, I.int.injEq, I.sl.injEq, I.bool.injEq, I.str.injEq, Int.natCast_inj, true_and, and_true] at h
   (try simp only [Prod.ext_iff, Subtype.ext_iff])
   (try simp only [zBi, zCc] at h)
   simp_all) x
set_option maxRecDepth 100000 in
theorem law_l1Abs : Law Tryz.prog 132 ct_l1Abs := by
 refine zAk zAf hmixA Tryz.func132 rfl rfl (fun x => ⟨zAt rfl, by simp [Tryz.f132], ?_⟩)
 simp only [absS]
 cases h : fcmp .lss .f32 x 0 with
 | true =>
   try simp -dsimp (maxSteps := 1000000) only [go_sem, List.forall_mem_nil, ↓reduceIte, Nat.reduceEqDiff, Nat.reduceLT, Nat.reduceLeDiff, Nat.reduceAdd, Nat.reduceMul, reduceCtorEq, Tryz.f132, h]
 | false =>
   cases h2 : fcmp .eql .f32 x 0 with
   | true =>
     try simp -dsimp (maxSteps := 1000000) only [go_sem, List.forall_mem_nil, ↓reduceIte, Nat.reduceEqDiff, Nat.reduceLT, Nat.reduceLeDiff, Nat.reduceAdd, Nat.reduceMul, reduceCtorEq, Tryz.f132, h, h2]
   | false =>
     try simp -dsimp (maxSteps := 1000000) only [go_sem, List.forall_mem_nil, ↓reduceIte, Nat.reduceEqDiff, Nat.reduceLT, Nat.reduceLeDiff, Nat.reduceAdd, Nat.reduceMul, reduceCtorEq, Tryz.f132, h, h2]
def rM (m : Mod) : Res := { val := .agg (modC m) }
theorem okR_M {m : Mod} : OkR false (rM m) := by
 refine ⟨.agg _ (fun x hx => ?_), by simp [rM], by simp [rM]⟩
 simp only [modC, List.mem_cons, List.not_mem_nil, or_false] at hx
 rcases hx with rfl | rfl | rfl | rfl | rfl | rfl | rfl | rfl | rfl | rfl | rfl <;> exact .im _ (.inl rfl)
def mSum' : Mod := ⟨5, (0, 0), (0, 0), 0, [], 0, 0, [], [], 0, 0⟩
noncomputable def ct_sSum : Ct := fam false (fun _ : Unit => ([], [])) (fun _ => .one (rM mSum'))
theorem run_sSum : ct_sSum.run [] [] = some (.one (rM mSum')) := zAd (args := fun _ : Unit => ([], [])) (fun _ _ _ => rfl) ()
set_option maxRecDepth 100000 in
theorem law_sSum : Law Tryz.prog 35 ct_sSum := by
 refine zEj zAf hmixA Tryz.func35 rfl rfl (fun _ => ⟨okO okR_M, by simp [Tryz.f35], ?_⟩)
 simp only [mSum', rM, modC, zAg, zAl]
 try simp -dsimp (maxSteps := 1000000) only [go_sem, List.forall_mem_nil, ↓reduceIte, Nat.reduceEqDiff, Nat.reduceLT, Nat.reduceLeDiff, Nat.reduceAdd, Nat.reduceMul, reduceCtorEq, Tryz.f35]
 refine zAr [.nilI 1 [.b 0 0 4, .b 0 0 7, .b 0 0 8]] ?_
 simp -dsimp (maxSteps := 1000000) only [go_sem, List.forall_mem_nil, ↓reduceIte, Nat.reduceEqDiff, Nat.reduceLT, Nat.reduceLeDiff, Nat.reduceAdd, Nat.reduceMul, reduceCtorEq]
end Go.SX
namespace Go.SX
open Go Ieee Go.Proofs
theorem signed_neg (s : Bool) (m k : Nat) : signed s m k + signed (!s) m k = 0 := by cases s <;> simp [signed] <;> omega
theorem finS_eq (x : Nat) : finS x = isFin x := by
 have e1 : single.binade = 8388608 := by decide
 have e2 : single.infRung = 2139095040 := by decide
 have e5 : single.signWeight = 2147483648 := by decide
 have hsub : fop .sub .f32 x x = ((((single.read x).sum (single.read x).opposite).map single.write)).getD (qn .f32) := rfl
 unfold finS isFin
 rw [hsub]
 have hq : fcmp .eql .f32 (qn .f32) 0 = false := by decide
 cases hr : single.read x with
 | nan s t =>
   have hn : isNaNb .f32 x = true := by show (single.read x).isNaN = true; rw [hr]; rfl
   have := nan_low hn
   have h2 : decide (x % 2147483648 ≤ 2139095039) = false := by simp; omega
   rw [h2]
   simpa [Datum.sum] using hq
 | infinity s =>
   have hx : x % 2147483648 = 2139095040 := by
     unfold Format.read at hr
     simp only [e1, e2, e5] at hr
     split at hr
     · cases hr
     · split at hr
       · cases hr
       · split at hr
         · assumption
         · cases hr
   have h2 : decide (x % 2147483648 ≤ 2139095039) = false := by simp; omega
   rw [h2]
   have h3 : (Datum.infinity s).sum (Datum.infinity s).opposite = none := by cases s <;> rfl
   rw [h3]
   simpa using hq
 | number s m e =>
   have hx : x % 2147483648 < 2139095040 := by
     unfold Format.read at hr
     simp only [e1, e2, e5] at hr
     split at hr
     · omega
     · split at hr
       · assumption
       · split at hr <;> cases hr
   have h2 : decide (x % 2147483648 ≤ 2139095039) = true := by simp; omega
   rw [h2]
   have h3 : (Datum.number s m e).sum (Datum.number s m e).opposite = some (.number false 0 e) := by
     simp only [Datum.opposite, Datum.sum, Int.min_self, signed_neg, if_true]
     cases s <;> rfl
   rw [h3]
   have h4 : single.write (.number false 0 e) = 0 := rfl
   simp only [Option.map_some, Option.getD_some, h4]
   decide
def lvlB (x : Nat) : Bool := x == 0 || (x == 1065353216 || (x == 1073741824 || x == 1077936128))
structure Drawn (m : Mod) : Prop where
 ok : OkM m
 mod : isModuleF m = true
 lvl : m.kind = 7 → lvlB m.level = true
theorem Drawn.kind {m : Mod} (h : Drawn m) : m.kind = 1 ∨ m.kind = 2 ∨ m.kind = 3 ∨ m.kind = 4 ∨ m.kind = 5 ∨ m.kind = 6 ∨ m.kind = 7 ∨ m.kind = 8 := by
 have := h.mod
 unfold isModuleF at this
 by_cases h1 : m.kind = 1
 · simp [h1]
 by_cases h2 : m.kind = 2
 · simp [h2]
 by_cases h3 : m.kind = 3
 · simp [h3]
 by_cases h4 : m.kind = 4
 · simp [h4]
 by_cases h5 : m.kind = 5
 · simp [h5]
 by_cases h6 : m.kind = 6
 · simp [h6]
 by_cases h7 : m.kind = 7
 · simp [h7]
 by_cases h8 : m.kind = 8
 · simp [h8]
 simp [h1, h2, h3, h4, h5, h6, h7, h8] at this
theorem zBl (m : Mod) : bareF m = true ↔ (m.turn = (0, 0) ∧ m.state = (0, 0) ∧ m.level = 0 ∧ m.store = [] ∧ m.rat = 0 ∧ m.rcnt = 0 ∧ m.pts = [] ∧ m.lab = [] ∧ m.count = 0 ∧ m.left = 0) := by
 obtain ⟨k, ⟨t1, t2⟩, ⟨s1, s2⟩, lv, st, ra, rc, pts, lab, c, l⟩ := m
 simp only [bareF, nzP, nz, Bool.and_eq_true, decide_eq_true_eq, Prod.mk.injEq, Int.natCast_eq_zero, List.length_eq_zero_iff, and_assoc]
theorem drawn_sum : Drawn mSum' := ⟨⟨by simp [mSum', sm], by simp [mSum', sm], by simp [mSum', sm]⟩, by decide, by decide⟩
theorem table_len {pts : List Pt} {lab : List Int} (h : isTableF pts lab = true) : pts.length = lab.length ∧ pts.length ≤ 64 := by
 simp only [isTableF, Bool.and_eq_true, decide_eq_true_eq] at h; exact ⟨h.1, h.2.1⟩
end Go.SX
namespace Go.SX
open Go Ieee
theorem qn_low : 2139095040 < qn .f32 % 2147483648 := by decide
theorem sglT_cW (w : Nat) : sglT (cW w) = sglT w := by
 unfold cW
 split
 · rename_i h
   unfold sglT
   rw [if_pos qn_low, if_pos h]
 · rfl
theorem ptW_cP (p : Pt) : ptW (cP p) = ptW p := by simp [ptW, cP, sglT_cW]
theorem ptsW_cP (l : List Pt) : ptsW (l.map cP) = ptsW l := by
 simp only [ptsW, List.flatMap_map]
 congr 1; funext p; exact ptW_cP p
theorem tabW_cP : ∀ (l : List Pt) (n : List Int), tabW (l.map cP) n = tabW l n
 | [], _ => rfl
 | _ :: _, [] => rfl
 | p :: l, x :: n => by simp [tabW, tabW_cP l n, cP, sglT_cW]
theorem restW_cM (m : Mod) : restW (cM m) = restW m := by
 have e : (cM m).kind = m.kind := rfl
 simp only [restW, e]
 simp only [cM, ptW_cP, ptsW_cP, tabW_cP, sglT_cW]
theorem cW_fin {w : Nat} (h : isFin w = true) : cW w = w := by
 simp only [isFin, decide_eq_true_eq] at h
 unfold cW
 rw [if_neg (by omega)]
theorem tbl_fin : ∀ (pts l : List Pt) (k : Nat), tblGo pts l k = true → ∀ p ∈ l, isFin p.1 = true ∧ isFin p.2 = true
 | _, [], _, _, p, h => by cases h
 | pts, q :: l, k, ht, p, h => by
   simp only [tblGo, Bool.and_eq_true] at ht
   rcases List.mem_cons.1 h with rfl | h
   · exact ht.1
   · exact tbl_fin pts l (k + 1) ht.2.2 p h
theorem map_cP {l : List Pt} (h : ∀ p ∈ l, isFin p.1 = true ∧ isFin p.2 = true) : l.map cP = l := by
 conv => rhs; rw [← List.map_id l]
 refine List.map_congr_left fun p hp => ?_
 obtain ⟨h1, h2⟩ := h p hp
 simp [cP, cW_fin h1, cW_fin h2]
theorem read_nanW {w : Nat} (h : 2139095040 < w % 2147483648) : ∃ s t, single.read w = .nan s t := by
 unfold Format.read
 simp only [show single.signWeight = 2147483648 from by decide, show single.binade = 8388608 from by decide, show single.infRung = 2139095040 from by decide]
 rw [if_neg (by omega), if_neg (by omega), if_neg (by omega)]
 exact ⟨_, _, rfl⟩
theorem meter_num {w : Nat} (h : (nz w || fcmp .gtr .f32 w 0) = true) : cW w = w := by
 unfold cW
 split
 · rename_i hn
   exfalso
   obtain ⟨s, t, hr⟩ := read_nanW hn
   have h1 : fcmp .gtr .f32 w 0 = false := by
     show (single.order w 0 == some .gt) = false
     unfold Format.order
     rw [hr]; rfl
   rw [h1, Bool.or_false] at h
   simp only [nz, decide_eq_true_eq] at h
   have : w = 0 := by omega
   subst this
   simp at hn
 · rfl
theorem zCh {m : Mod} (h : isModuleF m = true) : (∃ t s, m = ⟨1, t, s, 0, [], 0, 0, [], [], 0, 0⟩) ∨ (∃ t s, m = ⟨2, t, s, 0, [], 0, 0, [], [], 0, 0⟩) ∨ (∃ l, m = ⟨3, (0, 0), (0, 0), l, [], 0, 0, [], [], 0, 0⟩) ∨
   (∃ st a, m = ⟨4, (0, 0), (0, 0), 0, st, a, (st.length : Int), [], [], 0, 0⟩ ∧ isRingF st a (st.length : Int) = true) ∨ m = ⟨5, (0, 0), (0, 0), 0, [], 0, 0, [], [], 0, 0⟩ ∨
   (∃ pts lab c, m = ⟨6, (0, 0), (0, 0), 0, [], 0, 0, pts, lab, c, 0⟩ ∧ isTableF pts lab = true) ∨ (∃ l, m = ⟨7, (0, 0), (0, 0), l, [], 0, 0, [], [], 0, 0⟩ ∧ (nz l || fcmp .gtr .f32 l 0) = true) ∨
   (∃ s c l, m = ⟨8, (0, 0), s, 0, [], 0, 0, [], [], c, l⟩ ∧ 1 ≤ c ∧ c ≤ 100 ∧ 0 ≤ l ∧ l < c) := by
 obtain ⟨k, t, s, lv, st, ra, rc, pts, lab, c, l⟩ := m
 unfold isModuleF at h
 simp only at h
 split at h
 · rename_i hk
   simp only [zBl] at h
   obtain ⟨-, -, rfl, rfl, rfl, rfl, rfl, rfl, rfl, rfl⟩ := h
   exact .inl ⟨t, s, by simp [hk]⟩
 split at h
 · rename_i hk
   simp only [zBl] at h
   obtain ⟨-, -, rfl, rfl, rfl, rfl, rfl, rfl, rfl, rfl⟩ := h
   exact .inr (.inl ⟨t, s, by simp [hk]⟩)
 split at h
 · rename_i hk
   simp only [zBl] at h
   obtain ⟨rfl, rfl, -, rfl, rfl, rfl, rfl, rfl, rfl, rfl⟩ := h
   exact .inr (.inr (.inl ⟨lv, by simp [hk]⟩))
 split at h
 · rename_i hk
   simp only [Bool.and_eq_true, decide_eq_true_eq, zBl] at h
   obtain ⟨⟨h1, rfl⟩, rfl, rfl, rfl, -, -, -, rfl, rfl, rfl, rfl⟩ := h
   exact .inr (.inr (.inr (.inl ⟨st, ra, by simp [hk], h1⟩)))
 split at h
 · rename_i hk
   simp only [zBl] at h
   obtain ⟨rfl, rfl, rfl, rfl, rfl, rfl, rfl, rfl, rfl, rfl⟩ := h
   exact .inr (.inr (.inr (.inr (.inl (by simp [hk])))))
 split at h
 · rename_i hk
   simp only [Bool.and_eq_true, zBl] at h
   obtain ⟨h1, rfl, rfl, rfl, rfl, rfl, rfl, -, -, -, rfl⟩ := h
   exact .inr (.inr (.inr (.inr (.inr (.inl ⟨pts, lab, c, by simp [hk], h1⟩)))))
 split at h
 · rename_i hk
   rw [Bool.and_eq_true, zBl] at h
   obtain ⟨h1, rfl, rfl, -, rfl, rfl, rfl, rfl, rfl, rfl, rfl⟩ := h
   exact .inr (.inr (.inr (.inr (.inr (.inr (.inl ⟨lv, by simp [hk], h1⟩))))))
 split at h
 · rename_i hk
   simp only [Bool.and_eq_true, decide_eq_true_eq, zBl] at h
   obtain ⟨⟨h1, h2, h3, h4⟩, rfl, -, rfl, rfl, rfl, rfl, rfl, rfl, -, -⟩ := h
   exact .inr (.inr (.inr (.inr (.inr (.inr (.inr ⟨s, c, l, by simp [hk], h1, h2, h3, h4⟩))))))
 · cases h
structure I64 (m : Mod) : Prop where
 count : i64B m.count
 lab : ∀ x ∈ m.lab, i64B x
theorem valid_cM {m : Mod} (h : isModuleF m = true) : isModuleF (cM m) = true := by
 have c0 : cP (0, 0) = (0, 0) := by decide
 have w0 : cW 0 = 0 := by decide
 rcases zCh h with ⟨t, s, rfl⟩ | ⟨t, s, rfl⟩ | ⟨l, rfl⟩ | ⟨st, a, rfl, hr⟩ | rfl | ⟨pts, lab, c, rfl, ht⟩ | ⟨l, rfl, hl⟩ | ⟨s, c, l, rfl, h1, h2, h3, h4⟩
 · simp [cM, isModuleF, zBl, c0, w0]
 · simp [cM, isModuleF, zBl, c0, w0]
 · simp [cM, isModuleF, zBl, c0, w0]
 · have : isRingF (st.map cP) a (st.length : Int) = true := by
     simp only [isRingF, Bool.and_eq_true, decide_eq_true_eq, ringC] at hr ⊢
     refine ⟨by simpa using hr.1, ?_⟩
     simp [ringGo]
   simp [cM, isModuleF, zBl, c0, w0, this]
 · simp [cM, isModuleF, zBl, c0, w0]
 · have : pts.map cP = pts := by
     simp only [isTableF, Bool.and_eq_true] at ht
     exact map_cP (tbl_fin pts pts 0 ht.2.2)
   simp [cM, isModuleF, zBl, c0, w0, this, ht]
 · have := meter_num hl
   simp only [cM, this, isModuleF, hl, c0, List.map_nil, Int.reduceEq, if_false, if_true, Bool.true_and]
   simp [zBl]
 · simp [cM, isModuleF, zBl, c0, w0, h1, h2, h3, h4]
theorem fmtM_cM {m : Mod} (h : isModuleF m = true) : fmtM (cM m) = fmtM m := by
 unfold fmtM
 rw [if_pos h, if_pos (valid_cM h), restW_cM]; rfl
theorem readM_fmt {m : Mod} (h : isModuleF m = true) (hw : W32 m) (hi : I64 m) : readM (kindT (nameT m.kind)) (restW m) = (cM m, [], false) := by
 have c0 : cP (0, 0) = (0, 0) := by decide
 have w0 : cW 0 = 0 := by decide
 rcases zCh h with ⟨t, s, rfl⟩ | ⟨t, s, rfl⟩ | ⟨l, rfl⟩ | ⟨st, a, rfl, hr⟩ | rfl | ⟨pts, lab, c, rfl, ht⟩ | ⟨l, rfl, hl⟩ | ⟨s, c, l, rfl, h1, h2, h3, h4⟩
 · have e := rdP_T hw.turn (ptW s)
   have e2 := rdP_T hw.state []
   rw [List.append_nil] at e2
   have k : kindT (nameT 1) = 1 := by decide
   simp only [k, readM, restW, if_pos, true_or, e, e2, cM, mod0, w0, List.map_nil]
 · have e := rdP_T hw.turn (ptW s)
   have e2 := rdP_T hw.state []
   rw [List.append_nil] at e2
   have k : kindT (nameT 2) = 2 := by decide
   simp only [k, readM, restW, Int.reduceEq, if_false, if_pos, or_true, e, e2, cM, mod0, w0, List.map_nil]
 · have e := rdS_T hw.level []
   have k : kindT (nameT 3) = 3 := by decide
   simp only [k, readM, restW, Int.reduceEq, or_self, true_or, if_false, if_true, e, cM, mod0, c0, List.map_nil]
 · simp only [isRingF, Bool.and_eq_true] at hr
   have hr1 : ringC st a (st.length : Int) := of_decide_eq_true hr.1
   unfold ringC at hr1
   obtain ⟨g1, g2, g3, g4, _⟩ := hr1
   have e := rdI_T (n := a) ⟨by omega, by omega⟩ (ptsW st)
   have e2 := dlyP_T st hw.store
   have k : kindT (nameT 4) = 4 := by decide
   simp only [k, readM, restW, Int.reduceEq, or_self, if_false, if_true, e, e2, cM, mod0, c0, w0, List.map_nil, List.length_map]
 · have k : kindT (nameT 5) = 5 := by decide
   simp only [k, readM, restW, Int.reduceEq, or_self, if_false, if_true, cM, mod0, c0, w0, List.map_nil]
 · simp only [isTableF, Bool.and_eq_true, decide_eq_true_eq] at ht
   have e := rdI_T (n := c) hi.count (tabW pts lab)
   have e2 := slcP_T pts lab ht.1 hw.pts hi.lab
   have k : kindT (nameT 6) = 6 := by decide
   simp only [k, readM, restW, Int.reduceEq, or_self, if_false, if_true, e, e2, cM, mod0, c0, w0, List.map_nil]
 · have e := rdS_T hw.level []
   have k : kindT (nameT 7) = 7 := by decide
   simp only [k, readM, restW, Int.reduceEq, or_true, or_self, if_false, if_true, e, cM, mod0, c0, List.map_nil]
 · have e := rdI_T (n := c) ⟨by omega, by omega⟩ (Lib.itoa l :: ptW s)
   have e1 := rdI_T (n := l) ⟨by omega, by omega⟩ (ptW s)
   have e2 := rdP_T hw.state []
   rw [List.append_nil] at e2
   have k : kindT (nameT 8) = 8 := by decide
   simp only [k, readM, restW, Int.reduceEq, or_self, if_false, if_true, e, e1, e2, cM, mod0, c0, w0, List.map_nil]
theorem implM_fmt {m : Mod} (h : isModuleF m = true) (hw : W32 m) (hi : I64 m) : implM (fmtM m) = some (cM m) := by
 unfold implM
 rw [splT_fmtM h]
 simp only [readM_fmt h hw hi, valid_cM h, fmtM_cM h, and_self, if_true]
end Go.SX
namespace Go.SX
open Go Go.Proofs
set_option maxRecDepth 100000 in
set_option maxHeartbeats 8000000 in
theorem law_sIsTable : Law Tryz.prog 62 ct_IsTable := by
 refine zAk (zAc law_l2Finite zAf) hmixA Tryz.func62 rfl rfl (fun ⟨⟨pts, lab⟩, h1, h2⟩ => ⟨zAt rfl, by simp [Tryz.f62], ?_⟩)
 simp only [] at h1 h2
 by_cases hlen : pts.length = lab.length
 rotate_left
 · have e1 : ((pts.length : Int) = (lab.length : Int)) = False := by simp; omega
   have hF : isTableF pts lab = false := by simp [isTableF, hlen]
   clear hlen
   try simp -dsimp (maxSteps := 1000000) only [go_sem, List.forall_mem_nil, ↓reduceIte, Nat.reduceEqDiff, Nat.reduceLT, Nat.reduceLeDiff, Nat.reduceAdd, Nat.reduceMul, reduceCtorEq, Tryz.f62, zAa, zAb, e1, hF]
 have e1 : ((pts.length : Int) = (lab.length : Int)) = True := by simp; omega
 by_cases h64 : pts.length ≤ 64
 rotate_left
 · have e2 : ((64 : Int) < (pts.length : Int)) = True := by simp; omega
   have hF : isTableF pts lab = false := by simp [isTableF, h64]
   clear hlen h64
   try simp -dsimp (maxSteps := 1000000) only [go_sem, List.forall_mem_nil, ↓reduceIte, Nat.reduceEqDiff, Nat.reduceLT, Nat.reduceLeDiff, Nat.reduceAdd, Nat.reduceMul, reduceCtorEq, Tryz.f62, zAa, zAb, e1, e2, hF]
 have e2 : ((64 : Int) < (pts.length : Int)) = False := by simp; omega
 have hF : isTableF pts lab = tblGo pts pts 0 := by unfold isTableF; rw [decide_eq_true hlen, decide_eq_true h64]; simp
 rw [hF]
 clear hlen h64 hF
 try simp -dsimp (maxSteps := 1000000) only [go_sem, List.forall_mem_nil, ↓reduceIte, Nat.reduceEqDiff, Nat.reduceLT, Nat.reduceLeDiff, Nat.reduceAdd, Nat.reduceMul, reduceCtorEq, Tryz.f62, zAa, zAb, e1, e2]
 refine zBc (ι := { k : Nat // k ≤ pts.length ∧ tblGo pts pts 0 = tblGo pts (pts.drop k) k }) (fun k => ⟨[(1, some (.c (.ptr 0 0 0 0))), (20, some (.c (.im (.sl 1 (rowsZ pts))))), (21, some (.c (.im (.int .i64 (pts.length : Int))))), (22, some (.c (.im (.int .i64 (k.1 : Int)))))],
   [(0, some (.box [.t (.im (.sl 1 (rowsZ pts))), .t (.im (.sl 1 (rowsN lab)))]))], 1⟩) (fun k => pts.length - k.1) ⟨0, by simp⟩ ⟨[], [], by ((simp only [go_sem, eq_self, MvRb, MvRn, MvRt, List.nodup_cons, List.nodup_nil, ↓reduceIte, Nat.reduceEqDiff, Nat.reduceLT, Nat.reduceLeDiff, reduceCtorEq, List.forall_mem_nil, Nat.zero_le, false_implies, List.mem_singleton]) <;> (try (simp -dsimp only [go_sem, eq_self, MvRb, MvRn, MvRt, List.nodup_cons, List.nodup_nil, ↓reduceIte, Nat.reduceEqDiff, Nat.reduceLT, Nat.reduceLeDiff, reduceCtorEq, List.forall_mem_nil, Nat.zero_le, false_implies, List.mem_singleton]))) <;> simp⟩ (fun ⟨k, hk, hinv⟩ => ?_)
 by_cases hlt : k < pts.length
 rotate_left
 · have hI : ((k : Int) < (pts.length : Int)) = False := by simp; omega
   have hkl : k = pts.length := by omega
   subst hkl
   rw [List.drop_length] at hinv
   try simp -dsimp (maxSteps := 1000000) only [go_sem, List.forall_mem_nil, ↓reduceIte, Nat.reduceEqDiff, Nat.reduceLT, Nat.reduceLeDiff, Nat.reduceAdd, Nat.reduceMul, reduceCtorEq, Tryz.f62, hI, hinv, tblGo, zAa]
 obtain ⟨p, hp⟩ : ∃ p, pts[k]? = some p := ⟨_, List.getElem?_eq_getElem hlt⟩
 have hrow := zCl hp
 have hI : ((k : Int) < (pts.length : Int)) = True := by simp; omega
 have h0 : (0 ≤ (k : Int)) = True := by simp
 have hidx := tblGo_drop hp
 have hwr := lt_sm h1 hlt
 obtain ⟨a, b⟩ := p
 cases hf : (isFin a && isFin b) with
 | false =>
   simp only [hf, Bool.false_and] at hidx
   rw [hidx] at hinv
   clear hidx
   try simp -dsimp (maxSteps := 1000000) only [go_sem, List.forall_mem_nil, ↓reduceIte, Nat.reduceEqDiff, Nat.reduceLT, Nat.reduceLeDiff, Nat.reduceAdd, Nat.reduceMul, reduceCtorEq, Tryz.f62, hI, h0, Int.toNat_natCast, hrow, run_l2Finite, finS_eq, hf, hinv, zAa]
 | true =>
   simp only [hf, Bool.true_and] at hidx
   try simp -dsimp (maxSteps := 1000000) only [go_sem, List.forall_mem_nil, ↓reduceIte, Nat.reduceEqDiff, Nat.reduceLT, Nat.reduceLeDiff, Nat.reduceAdd, Nat.reduceMul, reduceCtorEq, Tryz.f62, hI, h0, Int.toNat_natCast, hrow, run_l2Finite, finS_eq, hf, zAa]
   refine zBc (ι := { j : Nat // j ≤ k ∧ idxF (eqPt · (a, b)) (pts.take k) 0 = idxF (eqPt · (a, b)) ((pts.take k).drop j) j }) (fun j => ⟨[(1, some (.c (.ptr 0 0 0 0))), (3, some (.c (.im (.int .i64 (k : Int))))), (4, some (.c (.im (.cpx .f32 a b)))), (5, some (.c (.im (.int .i64 (j.1 : Int))))), (20, some (.c (.im (.sl 1 (rowsZ pts))))), (21, some (.c (.im (.int .i64 (pts.length : Int))))), (22, some (.c (.im (.int .i64 (k : Int)))))],
     [(0, some (.box [.t (.im (.sl 1 (rowsZ pts))), .t (.im (.sl 1 (rowsN lab)))]))], 1⟩) (fun j => k - j.1) ⟨0, by simp⟩ ⟨[], [], by ((simp only [go_sem, eq_self, MvRb, MvRn, MvRt, List.nodup_cons, List.nodup_nil, ↓reduceIte, Nat.reduceEqDiff, Nat.reduceLT, Nat.reduceLeDiff, reduceCtorEq, List.forall_mem_nil, Nat.zero_le, false_implies, List.mem_singleton]) <;> (try (simp -dsimp only [go_sem, eq_self, MvRb, MvRn, MvRt, List.nodup_cons, List.nodup_nil, ↓reduceIte, Nat.reduceEqDiff, Nat.reduceLT, Nat.reduceLeDiff, reduceCtorEq, List.forall_mem_nil, Nat.zero_le, false_implies, List.mem_singleton]))) <;> simp⟩ (fun ⟨j, hj, hjinv⟩ => ?_)
   by_cases hjk : j < k
   rotate_left
   · have hJ : ((j : Int) < (k : Int)) = False := by simp; omega
     have hjk' : j = k := by omega
     subst hjk'
     rw [show List.drop j (List.take j pts) = [] from List.drop_of_length_le (by rw [List.length_take]; omega)] at hjinv
     have hneg : idxF (eqPt · (a, b)) (pts.take j) 0 < 0 := by rw [hjinv]; simp [idxF]
     simp only [hneg, decide_true, Bool.true_and] at hidx
     rw [hidx] at hinv
     clear hidx
     try simp -dsimp (maxSteps := 1000000) only [go_sem, List.forall_mem_nil, ↓reduceIte, Nat.reduceEqDiff, Nat.reduceLT, Nat.reduceLeDiff, Nat.reduceAdd, Nat.reduceMul, reduceCtorEq, Tryz.f62, hJ, hwr]
     exact ⟨⟨j + 1, by omega, hinv⟩, by simp only []; omega, [], [], by (simp only [go_sem, eq_self, MvRb, MvRn, MvRt, List.nodup_cons, List.nodup_nil, ↓reduceIte, Nat.reduceEqDiff, Nat.reduceLT, Nat.reduceLeDiff, reduceCtorEq, List.forall_mem_nil, Nat.zero_le, false_implies, List.mem_singleton]) <;> simp⟩
   obtain ⟨⟨c, d⟩, hq⟩ : ∃ q, pts[j]? = some q := ⟨_, List.getElem?_eq_getElem (by omega)⟩
   have hrowj := zCl hq
   have hJ : ((j : Int) < (k : Int)) = True := by simp; omega
   have hJp : ((j : Int) < (pts.length : Int)) = True := by simp; omega
   have hj0 : (0 ≤ (j : Int)) = True := by simp
   have hwj : IntKind.i64.wrap ((j : Int) + 1) = ((j + 1 : Nat) : Int) := lt_sm (n := pts.length) h1 (by omega)
   have hjdx := idxF_drop (f := (eqPt · (a, b))) (l := pts.take k) (k := j) (p := (c, d)) (by rw [List.getElem?_take_of_lt hjk]; exact hq)
   have hq0 : (fcmp .eql .f32 c a && fcmp .eql .f32 d b) = eqPt (c, d) (a, b) := rfl
   cases he : eqPt (c, d) (a, b) with
   | true =>
     simp only [he, if_true] at hjdx
     rw [hjdx] at hjinv
     have hneg : ¬ idxF (eqPt · (a, b)) (pts.take k) 0 < 0 := by rw [hjinv]; omega
     simp only [hneg, decide_false, Bool.false_and] at hidx
     rw [hidx] at hinv
     clear hidx hjdx hjinv
     try simp -dsimp (maxSteps := 1000000) only [go_sem, List.forall_mem_nil, ↓reduceIte, Nat.reduceEqDiff, Nat.reduceLT, Nat.reduceLeDiff, Nat.reduceAdd, Nat.reduceMul, reduceCtorEq, Tryz.f62, hJ, hJp, hj0, hrowj, hq0, he, hinv, zAa, Int.toNat_natCast]
   | false =>
     simp only [he, if_false, Bool.false_eq_true] at hjdx
     rw [hjdx] at hjinv
     clear hjdx
     try simp -dsimp (maxSteps := 1000000) only [go_sem, List.forall_mem_nil, ↓reduceIte, Nat.reduceEqDiff, Nat.reduceLT, Nat.reduceLeDiff, Nat.reduceAdd, Nat.reduceMul, reduceCtorEq, Tryz.f62, hJ, hJp, hj0, hrowj, hq0, he, hwj, zAa, Int.toNat_natCast]
     exact ⟨⟨j + 1, by omega, hjinv⟩, by simp only []; omega, [], [], by (simp only [go_sem, eq_self, MvRb, MvRn, MvRt, List.nodup_cons, List.nodup_nil, ↓reduceIte, Nat.reduceEqDiff, Nat.reduceLT, Nat.reduceLeDiff, reduceCtorEq, List.forall_mem_nil, Nat.zero_le, false_implies, List.mem_singleton]) <;> simp⟩
end Go.SX
namespace Go.SX
open Go Go.Proofs
theorem mapO_imT_row (r : List I) : mapO imT (r.map T.im) = some r := by
 induction r with
 | nil => rfl
 | cons x r ih => simp only [List.map_cons, mapO, imT, ih]
theorem tI_imT (rows : List (List I)) : mapO (mapO imT) (tI rows) = some rows := by
 induction rows with
 | nil => rfl
 | cons x r ih =>
   have h : tI (x :: r) = x.map T.im :: tI r := rfl
   simp only [h, mapO, mapO_imT_row, ih]
end Go.SX
namespace Go.SX
open Go Go.Proofs
def rMB (m : Mod) (b : Bool) : Res := { val := .tup [.agg (modC m), .c (.im (.bool b))] }
theorem okR_MB {m : Mod} {b : Bool} : OkR false (rMB m b) := by
 refine ⟨.tup _ (fun d hd => ?_), by simp [rMB], by simp [rMB]⟩
 simp only [List.mem_cons, List.not_mem_nil, or_false] at hd
 rcases hd with rfl | rfl
 · refine .inr ⟨_, rfl, fun x hx => ?_⟩
   simp only [modC, List.mem_cons, List.not_mem_nil, or_false] at hx
   rcases hx with rfl | rfl | rfl | rfl | rfl | rfl | rfl | rfl | rfl | rfl | rfl <;> exact .im _ (.inl rfl)
 · exact .inl ⟨_, rfl, .im _ (.inl rfl)⟩
structure ARg where
 st : List Pt
 a : Nat
 h1 : 1 ≤ st.length
 h2 : st.length ≤ 16
 h3 : a < st.length
structure ASl where
 pts : List Pt
 lab : List Int
 c : Int
 z : Pt
 t : isTableF pts lab = true
end Go.SX
namespace Go.SX
open Go Go.Proofs
structure AStp where
 m : Mod
 z : Pt
 d : Drawn m
 s1 : lvlB (absS z.1) = true
 s2 : lvlB (absS z.2) = true
def mz11 : List B := [.t (.im (.int .i64 0)), .t (.im (.cpx .f32 0 0)), .t (.im (.cpx .f32 0 0)), .t (.im (.flt .f32 0)), .t .nil, .t (.im (.int .i64 0)), .t (.im (.int .i64 0)), .t .nil, .t .nil, .t (.im (.int .i64 0)), .t (.im (.int .i64 0))]
end Go.SX
namespace Go.SX
open Go Go.Proofs
def strL (l : List UInt8) : ByteArray := ⟨l.toArray⟩
theorem strL_app (a b : List UInt8) : strL a ++ strL b = strL (a ++ b) := by
 apply ByteArray.ext
 simp [strL]
theorem zHi (l : List UInt8) : (strL l).size = l.length := by simp [strL, ByteArray.size]
theorem bytesS_cons (ns : List Int) : bytesS ns = strL (ns.map fun n => UInt8.ofNat n.toNat) := by
 have key : ∀ (ns : List Int) (r : ByteArray), ns.foldl (fun r n => r.push (UInt8.ofNat n.toNat)) r = r ++ strL (ns.map fun n => UInt8.ofNat n.toNat) := by
   intro ns
   induction ns with
   | nil => intro r; simp [strL]; apply ByteArray.ext; simp
   | cons n ns ih =>
     intro r
     simp only [List.foldl_cons, ih, List.map_cons]
     apply ByteArray.ext
     simp [strL]
 have h := key ns ByteArray.empty
 have e : ByteArray.empty ++ strL (ns.map fun n => UInt8.ofNat n.toNat) = strL (ns.map fun n => UInt8.ofNat n.toNat) := by apply ByteArray.ext; simp [strL]
 unfold bytesS
 rw [h, e]
def dig (d : Nat) : UInt8 := UInt8.ofNat (48 + d)
def digF : Nat → Nat → List UInt8
 | 0, _ => []
 | f + 1, n => if n < 10 then [dig n] else digF f (n / 10) ++ [dig (n % 10)]
theorem digF_mono : ∀ (f g n : Nat), n < 10 ^ f → n < 10 ^ g → 0 < f → 0 < g → digF f n = digF g n
 | 0, _, _, _, _, h, _ => by omega
 | _, 0, _, _, _, _, h => by omega
 | f + 1, g + 1, n, h1, h2, _, _ => by
   simp only [digF]
   split
   · rfl
   · rename_i hn
     rw [Nat.pow_succ] at h1 h2
     have a1 : n / 10 < 10 ^ f := Nat.div_lt_of_lt_mul (by omega)
     have a2 : n / 10 < 10 ^ g := Nat.div_lt_of_lt_mul (by omega)
     have b1 : 0 < f := by
       rcases Nat.eq_zero_or_pos f with rfl | h
       · simp at a1; omega
       · exact h
     have b2 : 0 < g := by
       rcases Nat.eq_zero_or_pos g with rfl | h
       · simp at a2; omega
       · exact h
     rw [digF_mono f g (n / 10) a1 a2 b1 b2]
def digs (n : Nat) : List UInt8 := digF 20 n
theorem digs_small {n : Nat} (h : n < 10) : digs n = [dig n] := by simp [digs, digF, h]
theorem digs_step {n : Nat} (h : 10 ≤ n) (h2 : n < 10 ^ 19) : digs n = digs (n / 10) ++ [dig (n % 10)] := by
 have : ¬ n < 10 := by omega
 have e : digs n = digF 19 (n / 10) ++ [dig (n % 10)] := by
   unfold digs
   rw [show (20 : Nat) = 19 + 1 from rfl]
   simp only [digF, this, if_false]
 rw [e, digs, digF_mono 19 20 (n / 10) (by omega) (by omega) (by omega) (by omega)]
theorem digs_len : ∀ (f n : Nat), (digF f n).length ≤ f
 | 0, n => by simp [digF]
 | f + 1, n => by
   simp only [digF]
   split
   · simp
   · have := digs_len f (n / 10); simp; omega
def digR (k : Nat) (cur : List UInt8) : List UInt8 := if k = 0 then cur else digs k ++ cur
theorem digR_step {k : Nat} (h : 0 < k) (h2 : k < 10 ^ 19) (cur : List UInt8) : digR k cur = digR (k / 10) (dig (k % 10) :: cur) := by
 unfold digR
 rw [if_neg (by omega)]
 by_cases h10 : k < 10
 · rw [if_pos (by omega), digs_small h10, Nat.mod_eq_of_lt h10]; rfl
 · rw [if_neg (by omega), digs_step (by omega) h2, List.append_assoc]; rfl
abbrev NNum := { n : Nat // n < 9223372036854775808 }
noncomputable def ct_l1Number : Ct := fam true (fun x : NNum => ([.c (.im (.int .i64 (x.1 : Int)))], [])) (fun x => .one { val := .c (.im (.str (strL (digs x.1)))) })
theorem run_l1Number {n : Nat} (h : n < 9223372036854775808) : ct_l1Number.run [.c (.im (.int .i64 (n : Int)))] [] = some (.one { val := .c (.im (.str (strL (digs n)))) }) := zAd (args := fun x : NNum => ([D.c (.im (.int .i64 (x.1 : Int)))], [])) (by
   intro a b h
   simp only [Prod.mk.injEq, List.cons.injEq, D.c.injEq, D.agg.injEq, C.im.injEq, I.cpx.injEq, I.flt.injEq, I.int.injEq, I.sl.injEq, I.bool.injEq, I.str.injEq, Int.natCast_inj, true_and, and_true] at h
   (try simp only [Prod.ext_iff, Subtype.ext_iff])
   (try simp only [zBi, zCc] at h)
   simp_all) (⟨n, h⟩ : NNum)
set_option maxRecDepth 100000 in
set_option maxHeartbeats 8000000 in
theorem law_l1Number : Law Tryz.prog 133 ct_l1Number := by
 refine zAk zAf hmixA Tryz.func133 rfl rfl (fun ⟨n, hn⟩ => ⟨zAt rfl, by simp [Tryz.f133], ?_⟩)
 simp only
 have hneg : ((n : Int) < 0) = False := eq_false (by omega)
 have h10 : ((10 : Int) = 0) = False := by simp
 have hm : ∀ k : Nat, (k : Int).tmod 10 = ((k % 10 : Nat) : Int) := fun k => by rw [Int.tmod_eq_emod_of_nonneg (by omega)]; omega
 have hd : ∀ k : Nat, k < 9223372036854775808 → IntKind.i64.wrap ((k : Int).tdiv 10) = ((k / 10 : Nat) : Int) := fun k hk => by
   rw [Int.tdiv_eq_ediv_of_nonneg (by omega), zAh (by omega) (by omega)]; omega
 have hw : ∀ k : Nat, IntKind.i64.wrap (48 + ((k % 10 : Nat) : Int)) = ((48 + k % 10 : Nat) : Int) := fun k => by rw [zAh (by omega) (by omega)]; omega
 have hw8 : ∀ k : Nat, IntKind.u8.wrap ((48 + k % 10 : Nat) : Int) = ((48 + k % 10 : Nat) : Int) := fun k => by
   show (((48 + k % 10 : Nat) : Int) % 256) = _
   omega
 have hbs : ∀ k : Nat, bytesS [((48 + k % 10 : Nat) : Int)] = strL [dig (k % 10)] := fun k => by rw [bytesS_cons]; rfl
 try simp -dsimp (maxSteps := 1000000) only [go_sem, List.forall_mem_nil, ↓reduceIte, Nat.reduceEqDiff, Nat.reduceLT, Nat.reduceLeDiff, Nat.reduceAdd, Nat.reduceMul, reduceCtorEq, Tryz.f133, hneg, h10, hm, hd n hn, hw, hw8, hbs]
 refine zBc (ι := { x : Nat × List UInt8 // x.1 < 9223372036854775808 ∧ digR x.1 x.2 = digs n }) (fun x => ⟨[(0, some (.c (.im (.int .i64 (x.1.1 : Int))))), (3, some (.c (.im (.str (strL x.1.2)))))], [], 0⟩) (fun x => x.1.1)
   ⟨(n / 10, [dig (n % 10)]), by omega, by
     by_cases h0 : n = 0
     · subst h0; rfl
     · rw [← digR_step (by omega) (by omega) []]; simp [digR, h0]⟩ ⟨[], [], by (simp only [go_sem, eq_self, MvRb, MvRn, MvRt, List.nodup_cons, List.nodup_nil, ↓reduceIte, Nat.reduceEqDiff, Nat.reduceLT, Nat.reduceLeDiff, reduceCtorEq, List.forall_mem_nil, Nat.zero_le, false_implies, List.mem_singleton]) <;> simp⟩ (fun ⟨⟨k, cur⟩, hk, hinv⟩ => ?_)
 simp only at hk hinv ⊢
 by_cases h0 : k = 0
 · subst h0
   have hI : ((0 : Int) < ((0 : Nat) : Int)) = False := by simp
   simp only [digR, if_true] at hinv
   try simp -dsimp (maxSteps := 1000000) only [go_sem, List.forall_mem_nil, ↓reduceIte, Nat.reduceEqDiff, Nat.reduceLT, Nat.reduceLeDiff, Nat.reduceAdd, Nat.reduceMul, reduceCtorEq, Tryz.f133, hI, hinv]
 · have hI : ((0 : Int) < (k : Int)) = True := eq_true (by omega)
   have hlen : cur.length ≤ 20 := by
     have := congrArg List.length hinv
     have h20 := digs_len 20 n
     simp only [digR, h0, if_false, List.length_append] at this
     unfold digs at this
     omega
   have hsz : ((strL [dig (k % 10)]).size + (strL cur).size ≤ 4611686018427387904) = True := eq_true (by rw [zHi, zHi]; simp; omega)
   rw [digR_step (by omega) (by omega)] at hinv
   try simp -dsimp (maxSteps := 1000000) only [go_sem, List.forall_mem_nil, ↓reduceIte, Nat.reduceEqDiff, Nat.reduceLT, Nat.reduceLeDiff, Nat.reduceAdd, Nat.reduceMul, reduceCtorEq, Tryz.f133, hI, h10, hm, hd k hk, hw, hw8, hbs, hsz, strL_app]
   exact ⟨⟨(k / 10, dig (k % 10) :: cur), by omega, hinv⟩, by simp only []; omega, [], [], by (simp only [go_sem, eq_self, MvRb, MvRn, MvRt, List.nodup_cons, List.nodup_nil, ↓reduceIte, Nat.reduceEqDiff, Nat.reduceLT, Nat.reduceLeDiff, reduceCtorEq, List.forall_mem_nil, Nat.zero_le, false_implies, List.mem_singleton]) <;> simp⟩
structure Lvl (x Y : Nat) (M : Nat) : Prop where
 fin : finS x = true
 e0 : fcmp .eql .f32 x 0 = false
 l0 : fcmp .lss .f32 x 0 = false
 y : w64 (absS x) = Y
 g : fcmp .geq .f64 Y 4715268809856909312 = false
 nn : isNaNb .f64 Y = false
 i : (FloatKind.f64.decode Y).toInt .zero = some (M : Int)
 b : fcmp .neq .f64 Y (FloatKind.f64.nearest (M : Int)) = false
 m : 1 ≤ M ∧ M ≤ 3
def usesF (k : Int) : List (List I) :=
 if k = 1 ∨ k = 2 then [[.bool true], [.bool true], [.bool false], [.bool false], [.bool false], [.bool false], [.bool false]]
 else if k = 3 ∨ k = 7 then [[.bool false], [.bool false], [.bool true], [.bool false], [.bool false], [.bool false], [.bool false]]
 else if k = 4 then [[.bool false], [.bool false], [.bool false], [.bool true], [.bool false], [.bool false], [.bool false]]
 else if k = 6 then [[.bool false], [.bool false], [.bool false], [.bool false], [.bool true], [.bool true], [.bool false]]
 else if k = 8 then [[.bool false], [.bool true], [.bool false], [.bool false], [.bool false], [.bool true], [.bool true]]
 else [[.bool false], [.bool false], [.bool false], [.bool false], [.bool false], [.bool false], [.bool false]]
abbrev NKnd := { k : Int // k = 1 ∨ k = 2 ∨ k = 3 ∨ k = 4 ∨ k = 5 ∨ k = 6 ∨ k = 7 ∨ k = 8 }
noncomputable def ct_l5Uses : Ct := fam false (fun x : NKnd => ([.c (.im (.int .i64 x.1))], [])) (fun x => .one { val := .c (.im (.sl 1 (usesF x.1))) })
theorem zCx {k : Int} (h : k = 1 ∨ k = 2 ∨ k = 3 ∨ k = 4 ∨ k = 5 ∨ k = 6 ∨ k = 7 ∨ k = 8) : ct_l5Uses.run [.c (.im (.int .i64 k))] [] = some (.one { val := .c (.im (.sl 1 (usesF k))) }) := zAd (args := fun x : NKnd => ([D.c (.im (.int .i64 x.1))], [])) (by
   intro a b h
   simp only [Prod.mk.injEq, List.cons.injEq, D.c.injEq, D.agg.injEq, C.im.injEq, I.cpx.injEq, I.flt.injEq, I.int.injEq, I.sl.injEq, I.bool.injEq, I.str.injEq, Int.natCast_inj, true_and, and_true] at h
   (try simp only [Prod.ext_iff, Subtype.ext_iff])
   (try simp only [zBi, zCc] at h)
   simp_all) (⟨k, h⟩ : NKnd)
set_option maxRecDepth 100000 in
set_option maxHeartbeats 8000000 in
theorem zCy : Law Tryz.prog 128 ct_l5Uses := by
 refine zEj zAf hmixA Tryz.func128 rfl rfl (fun ⟨k, hk⟩ => ⟨okO ⟨.c _ (.im _ (.inl rfl)), by simp, by simp⟩, by simp [Tryz.f128], ?_⟩)
 simp only at hk ⊢
 have h17 : (((1 : Nat) : Int) * 7 ≤ 281474976710656) = True := by decide
 rcases hk with rfl | rfl | rfl | rfl | rfl | rfl | rfl | rfl
 all_goals (
   try simp -dsimp (maxSteps := 1000000) only [go_sem, List.forall_mem_nil, ↓reduceIte, Nat.reduceEqDiff, Nat.reduceLT, Nat.reduceLeDiff, Nat.reduceAdd, Nat.reduceMul, reduceCtorEq, Tryz.f128, h17, Int.reduceEq, Int.reduceLE, Int.reduceMul, Int.reduceToNat, Int.reduceLT]
   refine zAr [.frz 0 [.s 2]] ?_
   simp -dsimp (maxSteps := 1000000) only [go_sem, List.forall_mem_nil, ↓reduceIte, Nat.reduceEqDiff, Nat.reduceLT, Nat.reduceLeDiff, Nat.reduceAdd, Nat.reduceMul, reduceCtorEq, usesF, Int.reduceEq])
end Go.SX
set_option maxRecDepth 100000
namespace Go.Proofs
open Go.Shelf
def Tryz.lays146_ren : Go.Shelf.Ren := ⟨fun | 146 => 39 | 221 => 102 | 268 => 180 | 138 => 181 | 143 => 182 | 195 => 237 | 197 => 238 | 218 => 239 | 219 => 209 | 260 => 274 | 217 => 254 | 225 => 255 | 224 => 256 | 267 => 257 | 266 => 283 | 314 => 284 | n => n, fun | 9 => 9 | 31 => 71 | 3 => 3 | 4 => 4 | 0 => 0 | 105 => 243 | 21 => 21 | 5 => 5 | 46 => 215 | 119 => 299 | 139 => 302 | 138 => 301 | 146 => 281 | 51 => 201 | n => n, fun | 1 => 2 | 3 => 5 | 4 => 6 | n => n⟩
theorem Tryz.lays146 : Lays.n146 Tryz.prog Tryz.lays146_ren := {
 mixed := by kernel_rfl,
 f138 := Tryz.func181.trans (congrArg some (by kernel_rfl)),
 f143 := Tryz.func182.trans (congrArg some (by kernel_rfl)),
 f146 := Tryz.func39.trans (congrArg some (by kernel_rfl)),
 f195 := Tryz.func237.trans (congrArg some (by kernel_rfl)),
 f197 := Tryz.func238.trans (congrArg some (by kernel_rfl)),
 f217 := Tryz.func254.trans (congrArg some (by kernel_rfl)),
 f218 := Tryz.func239.trans (congrArg some (by kernel_rfl)),
 f219 := Tryz.func209.trans (congrArg some (by kernel_rfl)),
 f221 := Tryz.func102.trans (congrArg some (by kernel_rfl)),
 f224 := Tryz.func256.trans (congrArg some (by kernel_rfl)),
 f225 := Tryz.func255.trans (congrArg some (by kernel_rfl)),
 f260 := Tryz.func274.trans (congrArg some (by kernel_rfl)),
 f266 := Tryz.func283.trans (congrArg some (by kernel_rfl)),
 f267 := Tryz.func257.trans (congrArg some (by kernel_rfl)),
 f268 := Tryz.func180.trans (congrArg some (by kernel_rfl)),
 f314 := Tryz.func284.trans (congrArg some (by kernel_rfl)),
 t0 := Tryz.underlying0,
 a0 := Tryz.isAgg0,
 z0 := Tryz.sizeOf0,
 v0 := Tryz.zeroValue0,
 t3 := Tryz.underlying3,
 a3 := Tryz.isAgg3,
 z3 := Tryz.sizeOf3,
 v3 := Tryz.zeroValue3,
 t4 := Tryz.underlying4,
 a4 := Tryz.isAgg4,
 z4 := Tryz.sizeOf4,
 v4 := Tryz.zeroValue4,
 t5 := Tryz.underlying5,
 a5 := Tryz.isAgg5,
 z5 := Tryz.sizeOf5,
 v5 := Tryz.zeroValue5,
 t9 := Tryz.underlying9,
 a9 := Tryz.isAgg9,
 z9 := Tryz.sizeOf9,
 v9 := Tryz.zeroValue9,
 t21 := Tryz.underlying21,
 a21 := Tryz.isAgg21,
 z21 := Tryz.sizeOf21,
 v21 := Tryz.zeroValue21,
 t31 := Tryz.underlying71,
 a31 := Tryz.isAgg71,
 z31 := Tryz.sizeOf71,
 v31 := Tryz.zeroValue71,
 t46 := Tryz.underlying215,
 a46 := Tryz.isAgg215,
 z46 := Tryz.sizeOf215,
 v46 := Tryz.zeroValue215,
 t51 := Tryz.underlying201,
 a51 := Tryz.isAgg201,
 z51 := Tryz.sizeOf201,
 v51 := Tryz.zeroValue201,
 t105 := Tryz.underlying243,
 a105 := Tryz.isAgg243,
 z105 := Tryz.sizeOf243,
 v105 := Tryz.zeroValue243,
 t119 := Tryz.underlying299,
 a119 := Tryz.isAgg299,
 z119 := Tryz.sizeOf299,
 t138 := Tryz.underlying301,
 a138 := Tryz.isAgg301,
 z138 := Tryz.sizeOf301,
 v138 := Tryz.zeroValue301,
 t139 := Tryz.underlying302,
 a139 := Tryz.isAgg302,
 z139 := Tryz.sizeOf302,
 v139 := Tryz.zeroValue302,
 t146 := Tryz.underlying281,
 a146 := Tryz.isAgg281,
 z146 := Tryz.sizeOf281,
 v146 := Tryz.zeroValue281,
 g1 := by kernel_rfl,
 g3 := by kernel_rfl,
 g4 := by kernel_rfl }
def Tryz.lays145_ren : Go.Shelf.Ren := ⟨fun | 145 => 77 | 220 => 150 | 219 => 209 | 217 => 254 | 225 => 255 | 224 => 256 | 267 => 257 | 266 => 283 | 314 => 284 | n => n, fun | 9 => 9 | 4 => 4 | 59 => 116 | 3 => 3 | 5 => 5 | 46 => 215 | 146 => 281 | 51 => 201 | n => n, fun | 1 => 2 | n => n⟩
theorem Tryz.lays145 : Lays.n145 Tryz.prog Tryz.lays145_ren := {
 mixed := by kernel_rfl,
 f145 := Tryz.func77.trans (congrArg some (by kernel_rfl)),
 f217 := Tryz.func254.trans (congrArg some (by kernel_rfl)),
 f219 := Tryz.func209.trans (congrArg some (by kernel_rfl)),
 f220 := Tryz.func150.trans (congrArg some (by kernel_rfl)),
 f224 := Tryz.func256.trans (congrArg some (by kernel_rfl)),
 f225 := Tryz.func255.trans (congrArg some (by kernel_rfl)),
 f266 := Tryz.func283.trans (congrArg some (by kernel_rfl)),
 f267 := Tryz.func257.trans (congrArg some (by kernel_rfl)),
 f314 := Tryz.func284.trans (congrArg some (by kernel_rfl)),
 t3 := Tryz.underlying3,
 a3 := Tryz.isAgg3,
 z3 := Tryz.sizeOf3,
 v3 := Tryz.zeroValue3,
 t4 := Tryz.underlying4,
 a4 := Tryz.isAgg4,
 z4 := Tryz.sizeOf4,
 v4 := Tryz.zeroValue4,
 t5 := Tryz.underlying5,
 a5 := Tryz.isAgg5,
 z5 := Tryz.sizeOf5,
 v5 := Tryz.zeroValue5,
 t9 := Tryz.underlying9,
 a9 := Tryz.isAgg9,
 z9 := Tryz.sizeOf9,
 v9 := Tryz.zeroValue9,
 t46 := Tryz.underlying215,
 a46 := Tryz.isAgg215,
 z46 := Tryz.sizeOf215,
 v46 := Tryz.zeroValue215,
 t51 := Tryz.underlying201,
 a51 := Tryz.isAgg201,
 z51 := Tryz.sizeOf201,
 v51 := Tryz.zeroValue201,
 t59 := Tryz.underlying116,
 a59 := Tryz.isAgg116,
 z59 := Tryz.sizeOf116,
 v59 := Tryz.zeroValue116,
 t146 := Tryz.underlying281,
 a146 := Tryz.isAgg281,
 z146 := Tryz.sizeOf281,
 v146 := Tryz.zeroValue281,
 g1 := by kernel_rfl }
def Tryz.lays171_ren : Go.Shelf.Ren := ⟨fun | 171 => 146 | 243 => 207 | 246 => 253 | 283 => 279 | 284 => 280 | 285 => 281 | 286 => 282 | 129 => 300 | 317 => 304 | 318 => 305 | 319 => 306 | 320 => 307 | 337 => 206 | 338 => 316 | n => n, fun | 3 => 3 | 9 => 9 | 2 => 2 | 4 => 4 | 171 => 276 | 0 => 0 | 53 => 247 | 37 => 37 | 5 => 5 | 173 => 279 | 212 => 308 | 51 => 201 | 20 => 20 | 213 => 309 | 46 => 215 | 232 => 256 | 233 => 323 | n => n, fun | 17 => 7 | 18 => 1 | 19 => 8 | n => n⟩
theorem Tryz.lays171 : LaysM.n171 Tryz.prog Tryz.lays171_ren := {
 mixed := by kernel_rfl,
 f129 := Tryz.func300.trans (congrArg some (by kernel_rfl)),
 f171 := Tryz.func146.trans (congrArg some (by kernel_rfl)),
 f243 := Tryz.func207.trans (congrArg some (by kernel_rfl)),
 f246 := Tryz.func253.trans (congrArg some (by kernel_rfl)),
 f283 := Tryz.func279.trans (congrArg some (by kernel_rfl)),
 f284 := Tryz.func280.trans (congrArg some (by kernel_rfl)),
 f285 := Tryz.func281.trans (congrArg some (by kernel_rfl)),
 f286 := Tryz.func282.trans (congrArg some (by kernel_rfl)),
 f317 := Tryz.func304.trans (congrArg some (by kernel_rfl)),
 f318 := Tryz.func305.trans (congrArg some (by kernel_rfl)),
 f319 := Tryz.func306.trans (congrArg some (by kernel_rfl)),
 f320 := Tryz.func307.trans (congrArg some (by kernel_rfl)),
 f337 := Tryz.func206.trans (congrArg some (by kernel_rfl)),
 f338 := Tryz.func316.trans (congrArg some (by kernel_rfl)),
 t0 := Tryz.underlying0,
 a0 := Tryz.isAgg0,
 z0 := Tryz.sizeOf0,
 v0 := Tryz.zeroValue0,
 t2 := Tryz.underlying2,
 a2 := Tryz.isAgg2,
 z2 := Tryz.sizeOf2,
 v2 := Tryz.zeroValue2,
 t3 := Tryz.underlying3,
 a3 := Tryz.isAgg3,
 z3 := Tryz.sizeOf3,
 v3 := Tryz.zeroValue3,
 t4 := Tryz.underlying4,
 a4 := Tryz.isAgg4,
 z4 := Tryz.sizeOf4,
 v4 := Tryz.zeroValue4,
 t5 := Tryz.underlying5,
 a5 := Tryz.isAgg5,
 z5 := Tryz.sizeOf5,
 v5 := Tryz.zeroValue5,
 t9 := Tryz.underlying9,
 a9 := Tryz.isAgg9,
 z9 := Tryz.sizeOf9,
 v9 := Tryz.zeroValue9,
 t20 := Tryz.underlying20,
 a20 := Tryz.isAgg20,
 z20 := Tryz.sizeOf20,
 v20 := Tryz.zeroValue20,
 t37 := Tryz.underlying37,
 a37 := Tryz.isAgg37,
 z37 := Tryz.sizeOf37,
 v37 := Tryz.zeroValue37,
 t46 := Tryz.underlying215,
 a46 := Tryz.isAgg215,
 z46 := Tryz.sizeOf215,
 v46 := Tryz.zeroValue215,
 t51 := Tryz.underlying201,
 a51 := Tryz.isAgg201,
 z51 := Tryz.sizeOf201,
 v51 := Tryz.zeroValue201,
 t53 := Tryz.underlying247,
 a53 := Tryz.isAgg247,
 z53 := Tryz.sizeOf247,
 v53 := Tryz.zeroValue247,
 t171 := Tryz.underlying276,
 a171 := Tryz.isAgg276,
 z171 := Tryz.sizeOf276,
 v171 := Tryz.zeroValue276,
 t173 := Tryz.underlying279,
 a173 := Tryz.isAgg279,
 z173 := Tryz.sizeOf279,
 v173 := Tryz.zeroValue279,
 t212 := Tryz.underlying308,
 a212 := Tryz.isAgg308,
 z212 := Tryz.sizeOf308,
 v212 := Tryz.zeroValue308,
 t213 := Tryz.underlying309,
 a213 := Tryz.isAgg309,
 z213 := Tryz.sizeOf309,
 t232 := Tryz.underlying256,
 a232 := Tryz.isAgg256,
 z232 := Tryz.sizeOf256,
 v232 := Tryz.zeroValue256,
 t233 := Tryz.underlying323,
 a233 := Tryz.isAgg323,
 z233 := Tryz.sizeOf323,
 v233 := Tryz.zeroValue323,
 g17 := by kernel_rfl,
 g18 := by kernel_rfl,
 g19 := by kernel_rfl,
 i0 := by kernel_rfl,
 i2 := by kernel_rfl,
 i3 := by kernel_rfl,
 i4 := by kernel_rfl,
 i5 := by kernel_rfl,
 i9 := by kernel_rfl,
 i20 := by kernel_rfl,
 i37 := by kernel_rfl,
 i46 := by kernel_rfl,
 i51 := by kernel_rfl,
 i53 := by kernel_rfl,
 i171 := by kernel_rfl,
 i173 := by kernel_rfl,
 i212 := by kernel_rfl,
 i232 := by kernel_rfl,
 i233 := by kernel_rfl,
 m17 := by kernel_rfl,
 m18 := by kernel_rfl,
 m19 := by kernel_rfl }
def Tryz.lays28_ren : Go.Shelf.Ren := ⟨fun | 28 => 206 | n => n, fun | 27 => 201 | 3 => 3 | 4 => 4 | 25 => 215 | 53 => 256 | 0 => 0 | 5 => 5 | n => n, fun | 0 => 1 | n => n⟩
theorem Tryz.lays28 : Lays7.n28 Tryz.prog Tryz.lays28_ren := {
 mixed := by kernel_rfl,
 f28 := Tryz.func206.trans (congrArg some (by kernel_rfl)),
 t0 := Tryz.underlying0,
 a0 := Tryz.isAgg0,
 z0 := Tryz.sizeOf0,
 v0 := Tryz.zeroValue0,
 i0 := by kernel_rfl,
 t3 := Tryz.underlying3,
 a3 := Tryz.isAgg3,
 z3 := Tryz.sizeOf3,
 v3 := Tryz.zeroValue3,
 i3 := by kernel_rfl,
 t4 := Tryz.underlying4,
 a4 := Tryz.isAgg4,
 z4 := Tryz.sizeOf4,
 v4 := Tryz.zeroValue4,
 i4 := by kernel_rfl,
 t5 := Tryz.underlying5,
 a5 := Tryz.isAgg5,
 z5 := Tryz.sizeOf5,
 v5 := Tryz.zeroValue5,
 i5 := by kernel_rfl,
 t25 := Tryz.underlying215,
 a25 := Tryz.isAgg215,
 z25 := Tryz.sizeOf215,
 v25 := Tryz.zeroValue215,
 i25 := by kernel_rfl,
 t27 := Tryz.underlying201,
 a27 := Tryz.isAgg201,
 z27 := Tryz.sizeOf201,
 v27 := Tryz.zeroValue201,
 i27 := by kernel_rfl,
 t53 := Tryz.underlying256,
 a53 := Tryz.isAgg256,
 z53 := Tryz.sizeOf256,
 v53 := Tryz.zeroValue256,
 i53 := by kernel_rfl,
 g0 := by kernel_rfl }
def Tryz.lays172_ren : Go.Shelf.Ren := ⟨fun | 172 => 151 | 244 => 210 | 245 => 211 | 247 => 258 | 279 => 259 | 280 => 260 | 281 => 261 | 282 => 262 | 287 => 285 | 316 => 286 | 171 => 146 | 205 => 287 | 321 => 308 | 322 => 309 | 243 => 207 | 246 => 253 | 283 => 279 | 284 => 280 | 285 => 281 | 286 => 282 | 129 => 300 | 317 => 304 | 318 => 305 | 319 => 306 | 320 => 307 | 337 => 206 | 338 => 316 | n => n, fun | 9 => 9 | 3 => 3 | 75 => 169 | 76 => 170 | 4 => 4 | 5 => 5 | 167 => 259 | 37 => 37 | 0 => 0 | 85 => 260 | 2 => 2 | 168 => 262 | 53 => 247 | 175 => 283 | 46 => 215 | 210 => 286 | 127 => 268 | 145 => 313 | 143 => 311 | 21 => 21 | 171 => 276 | 173 => 279 | 212 => 308 | 51 => 201 | 20 => 20 | 213 => 309 | 232 => 256 | 233 => 323 | 80 => 78 | n => n, fun | 15 => 3 | 16 => 4 | 17 => 7 | 18 => 1 | 19 => 8 | n => n⟩
theorem Tryz.lays172 : LaysC.n172 Tryz.prog Tryz.lays172_ren := {
 mixed := by kernel_rfl,
 f129 := Tryz.func300.trans (congrArg some (by kernel_rfl)),
 f171 := Tryz.func146.trans (congrArg some (by kernel_rfl)),
 f172 := Tryz.func151.trans (congrArg some (by kernel_rfl)),
 f205 := Tryz.func287.trans (congrArg some (by kernel_rfl)),
 f243 := Tryz.func207.trans (congrArg some (by kernel_rfl)),
 f244 := Tryz.func210.trans (congrArg some (by kernel_rfl)),
 f245 := Tryz.func211.trans (congrArg some (by kernel_rfl)),
 f246 := Tryz.func253.trans (congrArg some (by kernel_rfl)),
 f247 := Tryz.func258.trans (congrArg some (by kernel_rfl)),
 f279 := Tryz.func259.trans (congrArg some (by kernel_rfl)),
 f280 := Tryz.func260.trans (congrArg some (by kernel_rfl)),
 f281 := Tryz.func261.trans (congrArg some (by kernel_rfl)),
 f282 := Tryz.func262.trans (congrArg some (by kernel_rfl)),
 f283 := Tryz.func279.trans (congrArg some (by kernel_rfl)),
 f284 := Tryz.func280.trans (congrArg some (by kernel_rfl)),
 f285 := Tryz.func281.trans (congrArg some (by kernel_rfl)),
 f286 := Tryz.func282.trans (congrArg some (by kernel_rfl)),
 f287 := Tryz.func285.trans (congrArg some (by kernel_rfl)),
 f316 := Tryz.func286.trans (congrArg some (by kernel_rfl)),
 f317 := Tryz.func304.trans (congrArg some (by kernel_rfl)),
 f318 := Tryz.func305.trans (congrArg some (by kernel_rfl)),
 f319 := Tryz.func306.trans (congrArg some (by kernel_rfl)),
 f320 := Tryz.func307.trans (congrArg some (by kernel_rfl)),
 f321 := Tryz.func308.trans (congrArg some (by kernel_rfl)),
 f322 := Tryz.func309.trans (congrArg some (by kernel_rfl)),
 f337 := Tryz.func206.trans (congrArg some (by kernel_rfl)),
 f338 := Tryz.func316.trans (congrArg some (by kernel_rfl)),
 t0 := Tryz.underlying0,
 a0 := Tryz.isAgg0,
 z0 := Tryz.sizeOf0,
 v0 := Tryz.zeroValue0,
 t2 := Tryz.underlying2,
 a2 := Tryz.isAgg2,
 z2 := Tryz.sizeOf2,
 v2 := Tryz.zeroValue2,
 t3 := Tryz.underlying3,
 a3 := Tryz.isAgg3,
 z3 := Tryz.sizeOf3,
 v3 := Tryz.zeroValue3,
 t4 := Tryz.underlying4,
 a4 := Tryz.isAgg4,
 z4 := Tryz.sizeOf4,
 v4 := Tryz.zeroValue4,
 t5 := Tryz.underlying5,
 a5 := Tryz.isAgg5,
 z5 := Tryz.sizeOf5,
 v5 := Tryz.zeroValue5,
 t9 := Tryz.underlying9,
 a9 := Tryz.isAgg9,
 z9 := Tryz.sizeOf9,
 v9 := Tryz.zeroValue9,
 t20 := Tryz.underlying20,
 a20 := Tryz.isAgg20,
 z20 := Tryz.sizeOf20,
 v20 := Tryz.zeroValue20,
 t21 := Tryz.underlying21,
 a21 := Tryz.isAgg21,
 z21 := Tryz.sizeOf21,
 v21 := Tryz.zeroValue21,
 t37 := Tryz.underlying37,
 a37 := Tryz.isAgg37,
 z37 := Tryz.sizeOf37,
 v37 := Tryz.zeroValue37,
 t46 := Tryz.underlying215,
 a46 := Tryz.isAgg215,
 z46 := Tryz.sizeOf215,
 v46 := Tryz.zeroValue215,
 t51 := Tryz.underlying201,
 a51 := Tryz.isAgg201,
 z51 := Tryz.sizeOf201,
 v51 := Tryz.zeroValue201,
 t53 := Tryz.underlying247,
 a53 := Tryz.isAgg247,
 z53 := Tryz.sizeOf247,
 v53 := Tryz.zeroValue247,
 t75 := Tryz.underlying169,
 a75 := Tryz.isAgg169,
 z75 := Tryz.sizeOf169,
 v75 := Tryz.zeroValue169,
 t76 := Tryz.underlying170,
 a76 := Tryz.isAgg170,
 z76 := Tryz.sizeOf170,
 v76 := Tryz.zeroValue170,
 t85 := Tryz.underlying260,
 a85 := Tryz.isAgg260,
 z85 := Tryz.sizeOf260,
 v85 := Tryz.zeroValue260,
 t127 := Tryz.underlying268,
 a127 := Tryz.isAgg268,
 z127 := Tryz.sizeOf268,
 v127 := Tryz.zeroValue268,
 t143 := Tryz.underlying311,
 a143 := Tryz.isAgg311,
 z143 := Tryz.sizeOf311,
 v143 := Tryz.zeroValue311,
 t145 := Tryz.underlying313,
 a145 := Tryz.isAgg313,
 z145 := Tryz.sizeOf313,
 v145 := Tryz.zeroValue313,
 t167 := Tryz.underlying259,
 a167 := Tryz.isAgg259,
 z167 := Tryz.sizeOf259,
 v167 := Tryz.zeroValue259,
 t168 := Tryz.underlying262,
 a168 := Tryz.isAgg262,
 z168 := Tryz.sizeOf262,
 v168 := Tryz.zeroValue262,
 t171 := Tryz.underlying276,
 a171 := Tryz.isAgg276,
 z171 := Tryz.sizeOf276,
 v171 := Tryz.zeroValue276,
 t173 := Tryz.underlying279,
 a173 := Tryz.isAgg279,
 z173 := Tryz.sizeOf279,
 v173 := Tryz.zeroValue279,
 t175 := Tryz.underlying283,
 a175 := Tryz.isAgg283,
 z175 := Tryz.sizeOf283,
 v175 := Tryz.zeroValue283,
 t210 := Tryz.underlying286,
 a210 := Tryz.isAgg286,
 z210 := Tryz.sizeOf286,
 v210 := Tryz.zeroValue286,
 t212 := Tryz.underlying308,
 a212 := Tryz.isAgg308,
 z212 := Tryz.sizeOf308,
 v212 := Tryz.zeroValue308,
 t213 := Tryz.underlying309,
 a213 := Tryz.isAgg309,
 z213 := Tryz.sizeOf309,
 t232 := Tryz.underlying256,
 a232 := Tryz.isAgg256,
 z232 := Tryz.sizeOf256,
 v232 := Tryz.zeroValue256,
 t233 := Tryz.underlying323,
 a233 := Tryz.isAgg323,
 z233 := Tryz.sizeOf323,
 v233 := Tryz.zeroValue323,
 g15 := by kernel_rfl,
 g16 := by kernel_rfl,
 g17 := by kernel_rfl,
 g18 := by kernel_rfl,
 g19 := by kernel_rfl,
 t80 := Tryz.underlying78,
 a80 := Tryz.isAgg78,
 z80 := Tryz.sizeOf78,
 v80 := Tryz.zeroValue78,
 i0 := by kernel_rfl,
 i2 := by kernel_rfl,
 i3 := by kernel_rfl,
 i4 := by kernel_rfl,
 i5 := by kernel_rfl,
 i9 := by kernel_rfl,
 i20 := by kernel_rfl,
 i21 := by kernel_rfl,
 i37 := by kernel_rfl,
 i46 := by kernel_rfl,
 i51 := by kernel_rfl,
 i53 := by kernel_rfl,
 i75 := by kernel_rfl,
 i76 := by kernel_rfl,
 i80 := by kernel_rfl,
 i85 := by kernel_rfl,
 i127 := by kernel_rfl,
 i143 := by kernel_rfl,
 i145 := by kernel_rfl,
 i167 := by kernel_rfl,
 i168 := by kernel_rfl,
 i171 := by kernel_rfl,
 i173 := by kernel_rfl,
 i175 := by kernel_rfl,
 i210 := by kernel_rfl,
 i212 := by kernel_rfl,
 i232 := by kernel_rfl,
 i233 := by kernel_rfl,
 m15 := by kernel_rfl,
 m16 := by kernel_rfl,
 m17 := by kernel_rfl,
 m18 := by kernel_rfl,
 m19 := by kernel_rfl,
 c0 := by kernel_rfl,
 c2 := by kernel_rfl,
 c3 := by kernel_rfl,
 c4 := by kernel_rfl,
 c5 := by kernel_rfl,
 c9 := by kernel_rfl,
 c20 := by kernel_rfl,
 c21 := by kernel_rfl,
 c37 := by kernel_rfl,
 c46 := by kernel_rfl,
 c51 := by kernel_rfl,
 c53 := by kernel_rfl,
 c75 := by kernel_rfl,
 c76 := by kernel_rfl,
 c80 := by kernel_rfl,
 c85 := by kernel_rfl,
 c127 := by kernel_rfl,
 c143 := by kernel_rfl,
 c145 := by kernel_rfl,
 c167 := by kernel_rfl,
 c168 := by kernel_rfl,
 c171 := by kernel_rfl,
 c173 := by kernel_rfl,
 c175 := by kernel_rfl,
 c210 := by kernel_rfl,
 c212 := by kernel_rfl,
 c213 := by kernel_rfl,
 c232 := by kernel_rfl,
 c233 := by kernel_rfl }
end Go.Proofs
namespace Go.SX
open Go Go.Proofs Go.RowKit
theorem zAo (l : Txt) : (⟨l.toArray⟩ : ByteArray).size = l.length := by simp [ByteArray.size]
theorem zBr (a b : Txt) : (⟨a.toArray⟩ : ByteArray) ++ ⟨b.toArray⟩ = ⟨(a ++ b).toArray⟩ := by
 apply ByteArray.ext
 simp
theorem ba_eta (s : ByteArray) : s = ⟨s.data.toList.toArray⟩ := by cases s; rfl
theorem zAj (a b : Txt) : ((⟨a.toArray⟩ : ByteArray).toList == (⟨b.toArray⟩ : ByteArray).toList) = decide (a = b) := by
 rw [ByteArray.toList_mk, ByteArray.toList_mk]
 by_cases h : a = b <;> simp [h]
theorem zGf {a b : Txt} : (⟨a.toArray⟩ : ByteArray) = ⟨b.toArray⟩ ↔ a = b := by
 constructor
 · intro h
   have := congrArg (fun s : ByteArray => s.data.toList) h
   simpa using this
 · rintro rfl; rfl
theorem laid_itoa {w : World} (h : Laid (fun _ => none) w) : Lib.TabIs Tryz.prog w "internal/strconv.uint64pow10" .u64 Lib.pow10Tab := by
 obtain ⟨⟨e, fr, h1⟩, _⟩ := h.v 7 (Lib.pow10Tab.map fun z => Value.int .u64 z) (by simp [globV])
 unfold Lib.TabIs World.var?
 rw [show Tryz.prog.globalNamed "internal/strconv.uint64pow10" = some 7 by kernel_rfl]
 simp only [Option.bind_some, h1]
theorem laid_tz {w : World} (h : Laid (fun _ => none) w) : TabAt 1 Lib.deBruijn32tab w := by
 obtain ⟨⟨e, fr, h1⟩, _⟩ := h.v 1 (Lib.deBruijn32tab.map fun (k : Nat) => Value.int .u8 (k : Int)) (by simp [globV])
 intro j hj
 have h2 : (Lib.deBruijn32tab.map fun (k : Nat) => Value.int .u8 (k : Int)).toArray[j]? = some (.int .u8 (Lib.deBruijn32tab.getD j 0 : Nat)) := by
   simp [List.getElem?_eq_getElem hj, List.getD_eq_getElem?_getD]
 simp [World.cell?, h1, h2]
theorem laid_err {w : World} (h : Laid (fun _ => none) w) {b : Nat} (hb : b = 3 ∨ b = 4) : ∃ t p, w.cell? ⟨b, 0, none⟩ = some (.iface t p) := by
 obtain ⟨⟨t, p, e, fr, h1⟩, _⟩ := h.i b (by simpa [globI] using hb)
 exact ⟨t, p, by simp [World.cell?, h1]⟩
theorem laid_max {w : World} (h : Laid (fun _ => none) w) : ∃ m, w.cell? ⟨2, 0, none⟩ = some (.int .i64 m) := by
 obtain ⟨⟨m, e, fr, h1⟩, _⟩ := h.n 2 (by simp [globN])
 exact ⟨m, by simp [World.cell?, h1]⟩
theorem below_drewN (w : World) (n : Nat) : Below w.heap.size w (w.drewN n) := ⟨rfl, rfl, rfl, Nat.le_refl _, fun _ _ => rfl⟩
theorem below_grow (w : World) (k : Nat) (os : Array Obj) : Below w.heap.size w (Sort.grow (w.drewN k) os) :=
 ⟨rfl, rfl, rfl, by simp [Sort.grow, World.drewN], fun j hj => by simp [Sort.grow, World.drewN]; rw [Array.getElem?_append_left (by simpa using hj)]⟩
theorem str_dv {g : Gh} {s : ByteArray} {v : Value} (h : DV g (.c (.im (.str s))) v) : v = .string s := by
 cases h with | c _ _ hc => cases hc with | im _ _ hi => exact hi.str_inv
theorem int_dv {g : Gh} {k : IntKind} {n : Int} {v : Value} (h : DV g (.c (.im (.int k n))) v) : v = .int k n := by
 cases h with | c _ _ hc => cases hc with | im _ _ hi => exact hi.int_inv
theorem dv_im {i : I} {v : Value} (h : ∀ fz, IR fz i v) (g : Gh) : DV g (.c (.im i)) v := .c _ _ (.im _ _ (h _))
theorem one_arg {ds : List D} {args : List Value} (hl : args.length = ds.length) {d : D} (hd : ds = [d]) : ∃ v, args = [v] := by
 subst hd
 match args, hl with
 | [v], _ => exact ⟨v, rfl⟩
abbrev Z64 := { n : Int // i64B n }
noncomputable def ct_Itoa : Ct := fam true (fun n : Z64 => ([.c (.im (.int .i64 n.1))], [])) (fun n => .one { val := .c (.im (.str ⟨(Lib.itoa n.1).toArray⟩)) })
theorem run_Itoa {n : Int} (h : i64B n) : ct_Itoa.run [.c (.im (.int .i64 n))] [] = some (.one { val := .c (.im (.str ⟨(Lib.itoa n).toArray⟩)) }) := by
 refine zAd (args := fun n : Z64 => ([D.c (.im (.int .i64 n.1))], [])) ?_ ⟨n, h⟩
 rintro ⟨a, _⟩ ⟨b, _⟩ h
 simp only [Prod.mk.injEq, List.cons.injEq, D.c.injEq, C.im.injEq, I.int.injEq, true_and, and_true] at h
 exact Subtype.ext h
theorem calls_Itoa {n : Int} (h : i64B n) {w : World} (hL : Laid (fun _ => none) w) : Calls Tryz.prog 146 #[.int .i64 n] w fun e w' => e = .returned (.string ⟨(Lib.itoa n).toArray⟩) ∧ Below w.heap.size w w' :=
 (Any.strconv_Itoa Tryz.lays171 n h.1 h.2 w (laid_itoa hL)).mono fun e w' ⟨he, k, os, hw⟩ => ⟨he, by rw [hw]; exact below_grow w k os⟩
theorem law_Itoa : Law Tryz.prog 146 ct_Itoa := by
 refine law_ext (ds := fun n : Z64 => [.c (.im (.int .i64 n.1))]) Tryz.func146 rfl rfl (fun a => zAt rfl) (fun ⟨n, h⟩ args w hl hv hL => ?_)
 obtain ⟨v, rfl⟩ := one_arg hl rfl
 obtain ⟨g, hg⟩ := hv 0 _ v rfl rfl
 rw [int_dv hg]
 exact (calls_Itoa h hL).mono fun e w' ⟨he, hB⟩ => ⟨_, he, ⟨_, rfl, rfl, rfl, fun _ => rfl, dv_im fun _ => .str _⟩, hB⟩
abbrev S21 := { s : Txt // s.length ≤ 2097152 }
noncomputable def ct_number : Ct := fam true (fun s : S21 => ([.c (.im (.str ⟨s.1.toArray⟩))], [])) (fun s => .one { val := .tup [.c (.im (.int .i64 (numF s.1).1)), .c (.im (.bool (numF s.1).2))] })
theorem S21_inj : ∀ a b : S21, ([D.c (.im (.str ⟨a.1.toArray⟩))], ([] : List (List B))) = ([D.c (.im (.str ⟨b.1.toArray⟩))], []) → a = b := by
 rintro ⟨a, _⟩ ⟨b, _⟩ h
 simp only [Prod.mk.injEq, List.cons.injEq, D.c.injEq, C.im.injEq, I.str.injEq, zGf, true_and, and_true] at h
 exact Subtype.ext h
theorem zDy {s : Txt} (h : s.length ≤ 2097152) : ct_number.run [.c (.im (.str ⟨s.toArray⟩))] [] = some (.one { val := .tup [.c (.im (.int .i64 (numF s).1)), .c (.im (.bool (numF s).2))] }) :=
 zAd (args := fun s : S21 => ([D.c (.im (.str ⟨s.1.toArray⟩))], [])) S21_inj ⟨s, h⟩
theorem okR_nb {sc : Bool} {n : Int} {b : Bool} : OkR sc { val := .tup [.c (.im (.int .i64 n)), .c (.im (.bool b))] } :=
 ⟨.tup _ (by intro d hd; simp at hd; rcases hd with rfl | rfl; exact .inl ⟨_, rfl, zGr rfl⟩; exact .inl ⟨_, rfl, zGr rfl⟩), by simp, by simp⟩
theorem dv_nb {n : Int} {b : Bool} (g : Gh) : DV g (.tup [.c (.im (.int .i64 n)), .c (.im (.bool b))]) (.tuple #[.int .i64 n, .bool b]) := by
 refine .tup _ _ rfl fun j d v hd hv => ?_
 match j, hd, hv with
 | 0, hd, hv => simp at hd hv; subst hd hv; exact dv_im (fun _ => .int _ _) g
 | 1, hd, hv => simp at hd hv; subst hd hv; exact dv_im (fun _ => .bool _) g
 | j + 2, hd, hv => simp at hd
theorem laidB {w w' : World} (h : Laid (fun _ => none) w) (hB : Below w.heap.size w w') : Laid (fun _ => none) w' := h.move fun b hb _ => ⟨rfl, hB.block b hb⟩
theorem calls_Atoi_ok {s : Txt} (hs : s.length ≤ 2097152) {v : Int} (h : Lib.atoiAll s = .ok v) (w : World) : Calls Tryz.prog 151 #[.string ⟨s.toArray⟩] w fun e w' => e = .returned (.tuple #[.int .i64 v, .nilIface]) ∧ Below w.heap.size w w' :=
 (Any.strconv_Atoi_ok Tryz.lays172 ⟨s.toArray⟩ (by rw [zAo]; omega) v (by simpa using h) w).mono fun e w' ⟨he, hw⟩ => ⟨he, by
   rcases hw with rfl | ⟨t, rfl⟩
   · exact Below.refl _ _
   · exact Lib.bytesWorld_below _ _ _⟩
theorem calls_Atoi_no {s : Txt} (hs : s.length ≤ 2097152) (h : Lib.atoiAll s = Lib.NumEnd.syntax ∨ Lib.atoiAll s = .range) {w : World} (hL : Laid (fun _ => none) w) :
   Calls Tryz.prog 151 #[.string ⟨s.toArray⟩] w fun e w' => ∃ N t, e = .returned (.tuple #[.int .i64 (numF s).1, .iface t (.pointer (some ⟨N, 0, none⟩))]) ∧ Below w.heap.size w w' := by
 rcases h with h | h
 · obtain ⟨t, p, hc⟩ := laid_err hL (b := 3) (.inl rfl)
   refine (Any.strconv_Atoi_syntax Tryz.lays172 ⟨s.toArray⟩ (by rw [zAo]; omega) (by simpa using h) _ w hc (.inr ⟨t, p, rfl⟩)).mono fun e w' ⟨N, he, _, _, hB⟩ => ⟨N, Tryz.lays172_ren.t 168, ?_, hB⟩
   rw [he]; simp [numF, h]
 · obtain ⟨t, p, hc⟩ := laid_err hL (b := 4) (.inr rfl)
   refine (Any.strconv_Atoi_range Tryz.lays172 ⟨s.toArray⟩ (by rw [zAo]; omega) (by simpa using h) _ w hc (.inr ⟨t, p, rfl⟩)).mono fun e w' ⟨N, he, _, _, hB⟩ => ⟨N, Tryz.lays172_ren.t 168, ?_, hB⟩
   rw [he]; simp [numF, h]
set_option maxHeartbeats 4000000 in
theorem calls_number {s : Txt} (hs : s.length ≤ 2097152) {w : World} (hL : Laid (fun _ => none) w) : Calls Tryz.prog 78 #[.string ⟨s.toArray⟩] w fun e w' => e = .returned (.tuple #[.int .i64 (numF s).1, .bool (numF s).2]) ∧ Below w.heap.size w w' := by
 rcases (show (∃ v, Lib.atoiAll s = .ok v) ∨ Lib.atoiAll s = Lib.NumEnd.syntax ∨ Lib.atoiAll s = .range from by cases Lib.atoiAll s <;> simp) with ⟨v, h⟩ | h | h
 · have hb := Lib.atoiAll_bounds h
   go_enter Tryz.func78, Tryz.ntmps78
   go_wp2_with (first
     | (go_at_call 151; refine (calls_Atoi_ok hs h _).mono ?_; rintro e w1 ⟨rfl, hB⟩)
     | (go_at_call 146; refine (calls_Itoa hb (laidB hL hB)).mono ?_; rintro e w2 ⟨rfl, hB2⟩))
   go_ret2
   refine ⟨?_, hB.trans (hB2.mono hB.size)⟩
   have e : (Lib.itoa v == s) = decide (Lib.itoa v = s) := by by_cases h : Lib.itoa v = s <;> simp [h]
   simp [numF, h, e]
 · have hn : (numF s).2 = false := by simp [numF, h]
   go_enter Tryz.func78, Tryz.ntmps78
   go_wp2_with (go_at_call 151; refine (calls_Atoi_no hs (.inl h) hL).mono ?_; rintro e w1 ⟨N, t, rfl, hB⟩)
   go_ret2
   rw [hn]
   exact ⟨rfl, hB⟩
 · have hn : (numF s).2 = false := by simp [numF, h]
   go_enter Tryz.func78, Tryz.ntmps78
   go_wp2_with (go_at_call 151; refine (calls_Atoi_no hs (.inr h) hL).mono ?_; rintro e w1 ⟨N, t, rfl, hB⟩)
   go_ret2
   rw [hn]
   exact ⟨rfl, hB⟩
theorem law_number : Law Tryz.prog 78 ct_number := by
 refine law_ext (ds := fun s : S21 => [.c (.im (.str ⟨s.1.toArray⟩))]) Tryz.func78 rfl rfl (fun a => okO okR_nb) (fun ⟨s, h⟩ args w hl hv hL => ?_)
 obtain ⟨v, rfl⟩ := one_arg hl rfl
 obtain ⟨g, hg⟩ := hv 0 _ v rfl rfl
 rw [str_dv hg]
 exact (calls_number h hL).mono fun e w' ⟨he, hB⟩ => ⟨_, he, ⟨_, rfl, rfl, rfl, fun _ => rfl, dv_nb⟩, hB⟩
abbrev U32 := { m : Nat // 0 < m ∧ m < 4294967296 }
noncomputable def ct_tz : Ct := fam true (fun m : U32 => ([.c (.im (.int .u32 (m.1 : Int)))], [])) (fun m => .one { val := .c (.im (.int .i64 (tz m.1 : Int))) })
theorem run_tz {m : Nat} (h0 : 0 < m) (h : m < 4294967296) : ct_tz.run [.c (.im (.int .u32 (m : Int)))] [] = some (.one { val := .c (.im (.int .i64 (tz m : Int))) }) := by
 refine zAd (args := fun m : U32 => ([D.c (.im (.int .u32 (m.1 : Int)))], [])) ?_ ⟨m, h0, h⟩
 rintro ⟨a, _⟩ ⟨b, _⟩ h
 simp only [Prod.mk.injEq, List.cons.injEq, D.c.injEq, C.im.injEq, I.int.injEq, true_and, and_true, Int.natCast_inj] at h
 exact Subtype.ext h
theorem ctzFrom_tz : ∀ (f m : Nat), 0 < m → m < 2 ^ f → Lib.ctzFrom f m = tz m
 | 0, m, h0, h => by simp at h; omega
 | f + 1, m, h0, h => by
   unfold Lib.ctzFrom tz
   by_cases h1 : m % 2 = 1
   · rw [if_pos h1, dif_pos (.inr h1)]
   · rw [if_neg h1, dif_neg (by omega), ctzFrom_tz f (m / 2) (by omega) (by rw [Nat.pow_succ] at h; omega)]
     omega
theorem law_tz : Law Tryz.prog 206 ct_tz := by
 refine law_ext (ds := fun m : U32 => [.c (.im (.int .u32 (m.1 : Int)))]) Tryz.func206 rfl rfl (fun a => zAt rfl) (fun ⟨m, h0, h⟩ args w hl hv hL => ?_)
 obtain ⟨v, rfl⟩ := one_arg hl rfl
 obtain ⟨g, hg⟩ := hv 0 _ v rfl rfl
 rw [int_dv hg]
 refine (Any7.bits_TrailingZeros32 Tryz.lays28 m h w (fun _ => laid_tz hL)).mono fun e w' ⟨he, hw⟩ => ⟨_, he, ⟨_, rfl, rfl, rfl, fun _ => rfl, ?_⟩, by rw [hw]; exact Below.refl _ _⟩
 have e1 : Lib.ctz 32 m = tz m := by
   unfold Lib.ctz
   rw [if_neg (by omega), ctzFrom_tz 32 m h0 h]
 rw [e1]
 exact dv_im fun _ => .int _ _
abbrev SB := { x : Txt × UInt8 // x.1.length ≤ 2097152 }
def oCut (s : Txt) (c : UInt8) : Outs := .one { val := .tup [.c (.im (.str ⟨(Lib.cut s [c]).1.toArray⟩)), .c (.im (.str ⟨(Lib.cut s [c]).2.1.toArray⟩)), .c (.im (.bool (Lib.cut s [c]).2.2))] }
noncomputable def ct_Cut : Ct := fam true (fun x : SB => ([.c (.im (.str ⟨x.1.1.toArray⟩)), .c (.im (.str ⟨#[x.1.2]⟩))], [])) (fun x => oCut x.1.1 x.1.2)
theorem run_Cut {s : Txt} (h : s.length ≤ 2097152) (c : UInt8) : ct_Cut.run [.c (.im (.str ⟨s.toArray⟩)), .c (.im (.str ⟨#[c]⟩))] [] = some (oCut s c) := by
 refine zAd (args := fun x : SB => ([D.c (.im (.str ⟨x.1.1.toArray⟩)), .c (.im (.str ⟨#[x.1.2]⟩))], [])) ?_ ⟨(s, c), h⟩
 rintro ⟨⟨a, b⟩, _⟩ ⟨⟨a', b'⟩, _⟩ h
 simp only [Prod.mk.injEq, List.cons.injEq, D.c.injEq, C.im.injEq, I.str.injEq, zGf, true_and, and_true] at h
 exact Subtype.ext (Prod.ext h.1 h.2)
theorem law_Cut : Law Tryz.prog 77 ct_Cut := by
 refine law_ext (ds := fun x : SB => [.c (.im (.str ⟨x.1.1.toArray⟩)), .c (.im (.str ⟨#[x.1.2]⟩))]) Tryz.func77 rfl rfl (fun a => okO ⟨.tup _ (by intro d hd; simp at hd; rcases hd with rfl | rfl | rfl <;> exact .inl ⟨_, rfl, zGr rfl⟩), by simp, by simp⟩) (fun ⟨⟨s, c⟩, h⟩ args w hl hv hL => ?_)
 match args, hl with
 | [v0, v1], _ =>
   obtain ⟨g, hg⟩ := hv 0 _ v0 rfl rfl
   obtain ⟨g', hg'⟩ := hv 1 _ v1 rfl rfl
   rw [str_dv hg, str_dv hg']
   obtain ⟨m, hm⟩ := laid_max hL
   refine (Any.strings_Cut Tryz.lays145 ⟨s.toArray⟩ ⟨#[c]⟩ m w (by rw [zAo]; simp only at h; omega) hm).mono fun e w' ⟨he, n, hw⟩ => ⟨_, he, ⟨_, rfl, rfl, rfl, fun _ => rfl, fun g => ?_⟩, by rw [hw]; exact below_drewN w n⟩
   refine .tup _ _ rfl fun j d v hd hv => ?_
   match j, hd, hv with
   | 0, hd, hv => simp at hd hv; subst hd hv; exact dv_im (fun _ => .str _) g
   | 1, hd, hv => simp at hd hv; subst hd hv; exact dv_im (fun _ => .str _) g
   | 2, hd, hv => simp at hd hv; subst hd hv; exact dv_im (fun _ => .bool _) g
   | j + 3, hd, hv => simp at hd
end Go.SX
namespace Go.SX
open Go Go.Proofs Go.RowKit
def rowsS (ps : List Txt) : List (List I) := ps.map fun p => [.str ⟨p.toArray⟩]
theorem zAe (ps : List Txt) : (rowsS ps).length = ps.length := by simp [rowsS]
theorem rowsS_at {ps : List Txt} {k : Nat} {p : Txt} (h : ps[k]? = some p) : (rowsS ps)[k]? = some [.str ⟨p.toArray⟩] := by simp [rowsS, h]
theorem zAn : rowsS [] = [] := rfl
theorem zAu (p : Txt) (ps : List Txt) : rowsS (p :: ps) = [.str ⟨p.toArray⟩] :: rowsS ps := rfl
theorem rowsS_eq {a b : List Txt} : (rowsS a = rowsS b) = (a = b) := by
 apply propext
 constructor
 · intro h
   induction a generalizing b with
   | nil => cases b with
     | nil => rfl
     | cons y b => simp [rowsS] at h
   | cons x a ih => cases b with
     | nil => simp [rowsS] at h
     | cons y b =>
       simp only [zAu, List.cons.injEq, I.str.injEq, zGf, and_true] at h
       rw [h.1, ih h.2]
 · rintro rfl; rfl
theorem splitB_T (s : Txt) (c : UInt8) : Lib.splitB ⟨#[c]⟩ 0 (Lib.countB ⟨s.toArray⟩ ⟨#[c]⟩) ⟨s.toArray⟩ = (splT c s).map fun p => (⟨p.toArray⟩ : ByteArray) := by
 have h := Lib.splitB_data ⟨#[c]⟩ 0 (Lib.countB ⟨s.toArray⟩ ⟨#[c]⟩) ⟨s.toArray⟩
 have e : (⟨#[c]⟩ : ByteArray).data.toList = [c] := rfl
 have e2 : (⟨s.toArray⟩ : ByteArray).data.toList = s := by simp
 rw [e, e2, splitK_one c _ s (by rw [Lib.countB, e, e2, Lib.count_one]; exact Nat.le_refl _)] at h
 have h2 := congrArg (List.map fun p : Txt => (⟨p.toArray⟩ : ByteArray)) h
 rw [List.map_map] at h2
 rw [← h2]
 conv => lhs; rw [← List.map_id (Lib.splitB _ _ _ _)]
 refine List.map_congr_left fun x _ => ?_
 exact ba_eta x
noncomputable def ct_Split : Ct := fam false (fun x : SB => ([.c (.im (.str ⟨x.1.1.toArray⟩)), .c (.im (.str ⟨#[x.1.2]⟩))], [])) (fun x => .one { val := .c (.im (.sl 1 (rowsS (splT x.1.2 x.1.1)))) })
theorem run_Split {s : Txt} (h : s.length ≤ 2097152) (c : UInt8) : ct_Split.run [.c (.im (.str ⟨s.toArray⟩)), .c (.im (.str ⟨#[c]⟩))] [] = some (.one { val := .c (.im (.sl 1 (rowsS (splT c s)))) }) := by
 refine zAd (args := fun x : SB => ([D.c (.im (.str ⟨x.1.1.toArray⟩)), .c (.im (.str ⟨#[x.1.2]⟩))], [])) ?_ ⟨(s, c), h⟩
 rintro ⟨⟨a, b⟩, _⟩ ⟨⟨a', b'⟩, _⟩ h
 simp only [Prod.mk.injEq, List.cons.injEq, D.c.injEq, C.im.injEq, I.str.injEq, zGf, true_and, and_true] at h
 exact Subtype.ext (Prod.ext h.1 h.2)
theorem sc_Split : (ct_Split.sc = true) = False := by simp [ct_Split, fam]
theorem law_Split : Law Tryz.prog 39 ct_Split := by
 have := law_extS (P := Tryz.prog) (ds := fun x : SB => [.c (.im (.str ⟨x.1.1.toArray⟩)), .c (.im (.str ⟨#[x.1.2]⟩))]) (out := fun x : SB => (splT x.1.2 x.1.1).map fun p => (⟨p.toArray⟩ : ByteArray)) Tryz.func39 rfl rfl (fun ⟨⟨s, c⟩, h⟩ args w hl hv hL => ?_)
 · simp only [List.map_map] at this
   exact this
 match args, hl with
 | [v0, v1], _ =>
   obtain ⟨g, hg⟩ := hv 0 _ v0 rfl rfl
   obtain ⟨g', hg'⟩ := hv 1 _ v1 rfl rfl
   rw [str_dv hg, str_dv hg']
   obtain ⟨m, hm⟩ := laid_max hL
   have hs : (⟨s.toArray⟩ : ByteArray).size < 4294967281 := by rw [zAo]; simp only at h; omega
   refine (Any.strings_Split Tryz.lays146 (by kernel_rfl) ⟨s.toArray⟩ ⟨#[c]⟩ m w hs hm (Nat.le_refl 1)).mono fun e w' ⟨he, hw⟩ => ?_
   have hlen := Lib.splitB_all ⟨#[c]⟩ (Nat.le_refl 1) 0 _ ⟨s.toArray⟩ rfl
   rw [splitB_T] at hw hlen
   refine ⟨_, Lib.countB ⟨s.toArray⟩ ⟨#[c]⟩ + 1, ?_, by rw [hlen]; omega, hw⟩
   rw [he, hlen]
end Go.SX
namespace Go.SX
open Go Go.Proofs Ieee
theorem zGo (x : Nat) : bitsI .and .u32 (x : Int) 8388607 = ((x % 8388608 : Nat) : Int) := by
 have h : (BitVec.ofInt 32 (x : Int) &&& BitVec.ofInt 32 8388607).toNat = x % 8388608 := by
   rw [BitVec.toNat_and]
   have e1 : (BitVec.ofInt 32 (x : Int)).toNat = x % 2 ^ 32 := by simp
   have e2 : (BitVec.ofInt 32 8388607).toNat = 2 ^ 23 - 1 := by decide
   rw [e1, e2, Nat.and_two_pow_sub_one_eq_mod]
   omega
 show IntKind.u32.wrap _ = _
 rw [show (IntKind.u32.bits) = 32 from rfl, h]
 show (((x % 8388608 : Nat) : Int) % 4294967296) = _
 omega
theorem bits_m8 (x : Nat) : bitsI .and .u32 (x : Int) 255 = ((x % 256 : Nat) : Int) := by
 have h : (BitVec.ofInt 32 (x : Int) &&& BitVec.ofInt 32 255).toNat = x % 256 := by
   rw [BitVec.toNat_and]
   have e1 : (BitVec.ofInt 32 (x : Int)).toNat = x % 2 ^ 32 := by simp
   have e2 : (BitVec.ofInt 32 255).toNat = 2 ^ 8 - 1 := by decide
   rw [e1, e2, Nat.and_two_pow_sub_one_eq_mod]
   omega
 show IntKind.u32.wrap _ = _
 rw [show (IntKind.u32.bits) = 32 from rfl, h]
 show (((x % 256 : Nat) : Int) % 4294967296) = _
 omega
theorem bits_or23 {x : Nat} (hx : x < 8388608) : bitsI .or .u32 (x : Int) 8388608 = ((8388608 + x : Nat) : Int) := by
 have h : (BitVec.ofInt 32 (x : Int) ||| BitVec.ofInt 32 8388608).toNat = 8388608 + x := by
   rw [BitVec.toNat_or]
   have e1 : (BitVec.ofInt 32 (x : Int)).toNat = x := by simp; omega
   have e2 : (BitVec.ofInt 32 8388608).toNat = 2 ^ 23 := by decide
   rw [e1, e2, Nat.or_comm]
   have := Nat.two_pow_add_eq_or_of_lt (i := 23) (b := x) (by omega) 1
   rw [Nat.mul_one] at this
   exact this.symm
 show IntKind.u32.wrap _ = _
 rw [show (IntKind.u32.bits) = 32 from rfl, h]
 show (((8388608 + x : Nat) : Int) % 4294967296) = _
 omega
theorem shr_nat (x k : Nat) (hk : k ≤ 32) : (x : Int).fdiv (2 ^ min (k : Int).toNat 32) = ((x / 2 ^ k : Nat) : Int) := by
 rw [Int.toNat_natCast, Nat.min_eq_left hk]
 have h : (0 : Int) ≤ 2 ^ k := by exact_mod_cast Nat.zero_le (2 ^ k)
 rw [Int.fdiv_eq_ediv_of_nonneg _ h]
 exact_mod_cast rfl
theorem zBj {n : Int} (h : i64B n) : (Lib.itoa n).length ≤ 21 := Lib.itoa_length_le n h.1 h.2
theorem fin_nan {w : Nat} (h : isFin w = true) : isNaNb .f32 w = false := by
 cases hn : isNaNb .f32 w with
 | false => rfl
 | true => rw [isFin_nan hn] at h; cases h
def fsT (w : Nat) : Txt := if isFin w then fmtT w else []
theorem mag_bits {r : Nat} (h1 : r < 2139095040) : (r / 8388608 = 0 → rgM single r = r ∧ rgE single r = -149) ∧ (r / 8388608 ≠ 0 → rgM single r = 8388608 + r % 8388608 ∧ rgE single r = ((r / 8388608 : Nat) : Int) - 150) := by
 unfold rgM rgE
 rw [bn1, ep1]
 refine ⟨fun h => ?_, fun h => ?_⟩
 · rw [if_pos (by omega), if_pos (by omega)]; exact ⟨rfl, rfl⟩
 · rw [if_neg (by omega), if_neg (by omega)]; exact ⟨rfl, by omega⟩
abbrev W32a := { w : Nat // w < 4294967296 }
noncomputable def zDi : Ct := fam true (fun w : W32a => ([.c (.im (.flt .f32 w.1))], [])) (fun w => .one { val := .c (.im (.str ⟨(fsT w.1).toArray⟩)) })
theorem zAq {w : Nat} (h : w < 4294967296) : zDi.run [.c (.im (.flt .f32 w))] [] = some (.one { val := .c (.im (.str ⟨(fsT w).toArray⟩)) }) := by
 refine zAd (args := fun w : W32a => ([D.c (.im (.flt .f32 w.1))], [])) ?_ ⟨w, h⟩
 rintro ⟨a, _⟩ ⟨b, _⟩ h
 simp only [Prod.mk.injEq, List.cons.injEq, D.c.injEq, C.im.injEq, I.flt.injEq, true_and, and_true] at h
 exact Subtype.ext h
set_option maxRecDepth 100000 in
set_option maxHeartbeats 4000000 in
theorem zFl : Law Tryz.prog 145 zDi := by
 refine zAk (zAc law_isFinite (zCs law_bits (zAc law_tz (zAc law_Itoa zAf)))) hmixA Tryz.func145 rfl rfl (fun ⟨w, hw⟩ => ⟨zAt rfl, by simp [Tryz.f145], ?_⟩)
 simp only
 cases hf : isFin w with
 | false =>
   have e : fsT w = [] := by simp [fsT, hf]
   try simp -dsimp (maxSteps := 1000000) only [go_sem, List.forall_mem_nil, ↓reduceIte, Nat.reduceEqDiff, Nat.reduceLT, Nat.reduceLeDiff, Nat.reduceAdd, Nat.reduceMul, reduceCtorEq, Tryz.f145, zBy, hf, e, Bool.not_false]
 | true =>
   have hn := fin_nan hf
   have hr : w % 2147483648 < 2139095040 := by simp only [isFin, decide_eq_true_eq] at hf; omega
   obtain ⟨r, hre⟩ : ∃ r, w % 2147483648 = r := ⟨_, rfl⟩
   have e : fsT w = sgnT (decide (2147483648 ≤ w)) ++ magT r := by simp [fsT, hf, fmtT, hre]
   rw [hre] at hr
   obtain ⟨m1, m2⟩ := mag_bits hr
   have h31 : (w : Int).fdiv (2 ^ min (Int.toNat 31) 32) = ((w / 2147483648 : Nat) : Int) := shr_nat w 31 (by omega)
   have h23 : (w : Int).fdiv (2 ^ min (Int.toNat 23) 32) = ((w / 8388608 : Nat) : Int) := shr_nat w 23 (by omega)
   have hwe : IntKind.i64.wrap ((r / 8388608 : Nat) : Int) = ((r / 8388608 : Nat) : Int) := zAh (by omega) (by omega)
   have hlow : w % 8388608 = r % 8388608 := by omega
   have hexp : w / 8388608 % 256 = r / 8388608 := by omega
   obtain ⟨S, hS, sl, c31, hsg⟩ : ∃ S : Txt, fsT w = S ++ magT r ∧ S.length ≤ 1 ∧ ((((w / 2147483648 : Nat) : Int) = 1) = True ∧ S = [45] ∨ (((w / 2147483648 : Nat) : Int) = 1) = False ∧ S = []) ∧ True := by
     rw [e]
     by_cases hs : 2147483648 ≤ w
     · exact ⟨[45], by simp [sgnT, hs], by simp, .inl ⟨eq_true (by omega), rfl⟩, trivial⟩
     · exact ⟨[], by simp [sgnT, hs], by simp, .inr ⟨eq_false (by omega), rfl⟩, trivial⟩
   clear e hsg
   rw [hS]
   by_cases hr0 : r = 0
   · subst hr0
     have ce : (((0 / 8388608 : Nat) : Int) = 0) = True := by simp
     have cm : (((0 % 8388608 : Nat) : Int) = 0) = True := by simp
     have z : magT 0 = [48] := rfl
     rcases c31 with ⟨c31, rfl⟩ | ⟨c31, rfl⟩
     · skip
       try simp -dsimp (maxSteps := 1000000) only [go_sem, List.forall_mem_nil, ↓reduceIte, Nat.reduceEqDiff, Nat.reduceLT, Nat.reduceLeDiff, Nat.reduceAdd, Nat.reduceMul, reduceCtorEq, Tryz.f145, zBy, hf, Bool.not_true, zEh hn, h31, h23, zGo, bits_m8, hlow, hexp, hwe, c31, ce, cm, z, Int.reduceLT, zBr, List.size_toArray, Nat.reduceAdd, Nat.reduceLeDiff]
     · skip
       try simp -dsimp (maxSteps := 1000000) only [go_sem, List.forall_mem_nil, ↓reduceIte, Nat.reduceEqDiff, Nat.reduceLT, Nat.reduceLeDiff, Nat.reduceAdd, Nat.reduceMul, reduceCtorEq, Tryz.f145, zBy, hf, Bool.not_true, zEh hn, h31, h23, zGo, bits_m8, hlow, hexp, hwe, c31, ce, cm, z, Int.reduceLT, zBr, List.size_toArray, Nat.reduceAdd, Nat.reduceLeDiff]
   have hrp : 0 < r := Nat.pos_of_ne_zero hr0
   have hmd := md_of hrp hr
   have hMp := zEa hrp
   have hMl := zGg (r := r)
   have hz := tz_pow (k := 24) hMp hMl
   obtain ⟨E1, E2⟩ := zHl hr
   have hsh : ((rgM single r : Nat) : Int).fdiv (2 ^ min (Int.toNat ((tz (rgM single r) : Nat) : Int)) 32) = ((mdM r : Nat) : Int) := shr_nat _ _ (by omega)
   have hs2 : IntKind.i64.wrap (rgE single r + ((tz (rgM single r) : Nat) : Int)) = mdE r := by rw [zAh (by omega) (by omega)]; rfl
   have rz := run_tz hMp (by omega : rgM single r < 4294967296)
   have hneg : (((tz (rgM single r) : Nat) : Int) < 0) = False := eq_false (by omega)
   have mdl := hmd.lt
   have hb1 : i64B ((mdM r : Nat) : Int) := ⟨by omega, by omega⟩
   have hb2 : i64B (mdE r) := ⟨by have := hmd.lo; omega, by have := hmd.hi; omega⟩
   have hwm : IntKind.i64.wrap ((mdM r : Nat) : Int) = ((mdM r : Nat) : Int) := zAh hb1.1 hb1.2
   have ri1 := run_Itoa hb1
   have ri2 := run_Itoa hb2
   have hmag : magT r = Lib.itoa (mdM r) ++ 112 :: Lib.itoa (mdE r) := by simp [magT, hr0]
   have la := zBj hb1
   have lb := zBj hb2
   have hM0 : (((rgM single r : Nat) : Int) = 0) = False := eq_false (by omega)
   generalize Lib.itoa (mdM r) = A at *
   generalize Lib.itoa (mdE r) = B at *
   have q1 : (1 + A.length ≤ 4611686018427387904) = True := eq_true (by omega)
   have q2 : (A.length + 1 + 1 ≤ 4611686018427387904) = True := eq_true (by omega)
   have q3 : (A.length + 1 + 1 + B.length ≤ 4611686018427387904) = True := eq_true (by omega)
   have q4 : (A.length ≤ 4611686018427387904) = True := eq_true (by omega)
   have q5 : (A.length + 1 ≤ 4611686018427387904) = True := eq_true (by omega)
   have q6 : (A.length + 1 + B.length ≤ 4611686018427387904) = True := eq_true (by omega)
   have hfin : S ++ A ++ [112] ++ B = S ++ magT r := by rw [hmag]; simp
   rw [← hfin]
   by_cases he0 : r / 8388608 = 0
   · obtain ⟨k1, k2⟩ := m1 he0
     have ce : (((r / 8388608 : Nat) : Int) = 0) = True := eq_true (by omega)
     have hmm : r % 8388608 = rgM single r := by rw [k1]; omega
     have hs1 : IntKind.i64.wrap (1 - 150) = rgE single r := by rw [k2]; decide
     rcases c31 with ⟨c31, rfl⟩ | ⟨c31, rfl⟩
     · skip
       try simp -dsimp (maxSteps := 1000000) only [go_sem, List.forall_mem_nil, ↓reduceIte, Nat.reduceEqDiff, Nat.reduceLT, Nat.reduceLeDiff, Nat.reduceAdd, Nat.reduceMul, reduceCtorEq, Tryz.f145, zBy, hf, Bool.not_true, zEh hn, h31, h23, zGo, bits_m8, hlow, hexp, hwe, c31, ce, hmm, hM0, rz, hsh, hneg, hwm, ri1, hs1, hs2, ri2, Int.reduceLT, zBr, List.size_toArray, List.length_append, q1, q2, q3, q4, q5, q6]
     · skip
       try simp -dsimp (maxSteps := 1000000) only [go_sem, List.forall_mem_nil, ↓reduceIte, Nat.reduceEqDiff, Nat.reduceLT, Nat.reduceLeDiff, Nat.reduceAdd, Nat.reduceMul, reduceCtorEq, Tryz.f145, zBy, hf, Bool.not_true, zEh hn, h31, h23, zGo, bits_m8, hlow, hexp, hwe, c31, ce, hmm, hM0, rz, hsh, hneg, hwm, ri1, hs1, hs2, ri2, Int.reduceLT, zBr, List.size_toArray, List.length_append, q1, q2, q3, q4, q5, q6]
   · obtain ⟨k1, k2⟩ := m2 he0
     have ce : (((r / 8388608 : Nat) : Int) = 0) = False := eq_false (by omega)
     have hor : bitsI .or .u32 ((r % 8388608 : Nat) : Int) 8388608 = ((rgM single r : Nat) : Int) := by rw [bits_or23 (by omega), k1]
     have hs1 : IntKind.i64.wrap (((r / 8388608 : Nat) : Int) - 150) = rgE single r := by rw [k2, zAh (by omega) (by omega)]
     rcases c31 with ⟨c31, rfl⟩ | ⟨c31, rfl⟩
     · skip
       try simp -dsimp (maxSteps := 1000000) only [go_sem, List.forall_mem_nil, ↓reduceIte, Nat.reduceEqDiff, Nat.reduceLT, Nat.reduceLeDiff, Nat.reduceAdd, Nat.reduceMul, reduceCtorEq, Tryz.f145, zBy, hf, Bool.not_true, zEh hn, h31, h23, zGo, bits_m8, hlow, hexp, hwe, c31, ce, hor, hM0, rz, hsh, hneg, hwm, ri1, hs1, hs2, ri2, Int.reduceLT, zBr, List.size_toArray, List.length_append, q1, q2, q3, q4, q5, q6]
     · skip
       try simp -dsimp (maxSteps := 1000000) only [go_sem, List.forall_mem_nil, ↓reduceIte, Nat.reduceEqDiff, Nat.reduceLT, Nat.reduceLeDiff, Nat.reduceAdd, Nat.reduceMul, reduceCtorEq, Tryz.f145, zBy, hf, Bool.not_true, zEh hn, h31, h23, zGo, bits_m8, hlow, hexp, hwe, c31, ce, hor, hM0, rz, hsh, hneg, hwm, ri1, hs1, hs2, ri2, Int.reduceLT, zBr, List.size_toArray, List.length_append, q1, q2, q3, q4, q5, q6]
end Go.SX
