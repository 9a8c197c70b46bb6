/-
  spec.IsModule at any module.
  laws.FnPowers: the walk.
  What the rows' lists give: the package variables of 'Laid' hold what they are to hold.
  A law over one []byte: what the frame asks, from the law's contract; the package variables that stand are given.
  FnPowers: the given statement's card: the law returns true at every input, which reads behind the call as it did. The frame: lines of the kit's printed shell for a law over a slice, and of the guide's page on a row that lists variables.
  No condition.
-/
import Derived.Test.YtfmpjhjnpeheeaaGreatDoorRows
import Derived.Test.YtfmpjhjnpeheeaaGreatDoorCards
import Derived.Test.YtfmpjhjnpeheeaaGreatDoorTie
import Derived.WalkKit
import Derived.ProofKit
import Derived.OpenShut
import Derived.Lay
import Derived.MakeChecks
import Derived.Deep.DeepHandedRow
import Derived.Lib.LaidTab
import Derived.Lib.LaidU8
import Derived.Stop.LaidErr
import Derived.SevenTiedAt
import Derived.Test.YtfmpjhjnpeheeaaGreatDoorPkL
set_option linter.unusedVariables false
set_option linter.unusedSimpArgs false
namespace Go.SX
open Go Go.Proofs Ieee
theorem ord_eq0 {w : Nat} (hw : w < 4294967296) (h : single.order w 0 = some .eq) : w = 0 ∨ w = 2147483648 := by
 have e1 : single.binade = 8388608 := by decide
 have e2 : single.infRung = 2139095040 := by decide
 have e5 : single.signWeight = 2147483648 := by decide
 have hz : single.read 0 = .number false 0 (-149) := by decide
 apply Classical.byContradiction
 intro hn
 have h0 : 0 < w % 2147483648 := by omega
 cases hr : single.read w with
 | nan s t => unfold Format.order at h; rw [hr, hz] at h; cases h
 | infinity s => unfold Format.order at h; rw [hr, hz] at h; cases s <;> cases h
 | number s m e =>
   have hx : w % 2147483648 < 2139095040 := by
     unfold Format.read at hr
     simp only [e1, e2, e5] at hr
     split at hr
     · omega
     · split at hr
       · assumption
       · split at hr <;> cases hr
   have q := eql0_no h0 hx (decide (2147483648 ≤ w))
   rw [← word_of hw] at q
   have : (single.order w 0 == some .eq) = false := q
   rw [h] at this
   cases this
theorem meter_eq {w : Nat} (hw : w < 4294967296) : (fcmp .geq .f32 w 0 && !(decide (fsT w = [45, 48]))) = (nz w || fcmp .gtr .f32 w 0) := by
 rw [show decide (fsT w = [45, 48]) = decide (w = 2147483648) from by simp only [fsT_45 hw]]
 by_cases h0 : w = 0
 · subst h0; decide +kernel
 by_cases h1 : w = 2147483648
 · subst h1; decide +kernel
 have hz : nz w = false := by unfold nz; exact decide_eq_false (by omega)
 rw [hz, decide_eq_false h1]
 have hne : (single.order w 0 == some .eq) = false := by
   cases ho : single.order w 0 == some .eq with
   | false => rfl
   | true =>
     have := ord_eq0 hw (by simpa using ho)
     omega
 show ((single.order w 0 == some .gt || single.order w 0 == some .eq) && !false) = (false || (single.order w 0 == some .gt))
 rw [hne]; simp
set_option maxRecDepth 100000 in
set_option maxHeartbeats 16000000 in
theorem law_sIsModuleA : Law Tryz.prog 19 zEy := by
 refine zAf (zAc law_l1In (zAc law_l5UnusedA (zAc law_sIsRingA (zAc zHp (zAc zBa zAe))))) hmixA Tryz.func19 rfl rfl (fun ⟨⟨k, ⟨t1, t2⟩, ⟨s1, s2⟩, lv, st, ra, rc, pts, lab, c, lf⟩, ok, w32⟩ => ⟨zAv rfl, by simp [Tryz.f19], ?_⟩)
 simp only [modC]
 obtain ⟨o1, o2, o3⟩ := ok
 by_cases hk : k = 1 ∨ k = 2 ∨ k = 3 ∨ k = 4 ∨ k = 5 ∨ k = 6 ∨ k = 7 ∨ k = 8
 rotate_left
 · have c1 : (decide ((1 : Int) ≤ k) && decide (k ≤ 8)) = false := by simp; omega
   have r : isModuleF ⟨k, (t1, t2), (s1, s2), lv, st, ra, rc, pts, lab, c, lf⟩ = false := by
     simp only [not_or] at hk
     simp [isModuleF, hk]
   clear hk
   rw [r]
   try simp -dsimp (maxSteps := 1000000) only [go_sem, List.forall_mem_nil, ↓reduceIte, Nat.reduceEqDiff, Nat.reduceLT, Nat.reduceLeDiff, Nat.reduceAdd, Nat.reduceMul, reduceCtorEq, Tryz.f19, zBm, c1, Bool.not_false]
 have c1 : (decide ((1 : Int) ≤ k) && decide (k ≤ 8)) = true := by simp; omega
 have hu := run_l5UnusedA ⟨⟨k, (t1, t2), (s1, s2), lv, st, ra, rc, pts, lab, c, lf⟩, ⟨o1, o2, o3⟩, w32, hk⟩
 have bl : ((⟨(fsT lv).toArray⟩ : ByteArray).toList == (⟨#[45, 48]⟩ : ByteArray).toList) = decide (fsT lv = [45, 48]) := zAz (fsT lv) [45, 48]
 have rl := zAu w32.level
 have hme := meter_eq w32.level
 have rr := run_sIsRingA ra rc o1 w32.store
 have rtb := zBy o2 o3
 simp only [modC] at hu rl hme rr rtb o1 o2 o3 bl
 cases hU : unuF ⟨k, (t1, t2), (s1, s2), lv, st, ra, rc, pts, lab, c, lf⟩ with
 | false =>
   have r : isModuleF ⟨k, (t1, t2), (s1, s2), lv, st, ra, rc, pts, lab, c, lf⟩ = false := by
     rcases hk with rfl | rfl | rfl | rfl | rfl | rfl | rfl | rfl <;> simp only [unuF, restM, Int.reduceEq, or_self, or_false, or_true, if_true, if_false] at hU <;> simp [isModuleF, hU]
   rw [r]
   rw [hU] at hu
   clear hk
   try simp -dsimp (maxSteps := 1000000) only [go_sem, List.forall_mem_nil, ↓reduceIte, Nat.reduceEqDiff, Nat.reduceLT, Nat.reduceLeDiff, Nat.reduceAdd, Nat.reduceMul, reduceCtorEq, Tryz.f19, zBm, c1, hu, Bool.not_false, Bool.not_true]
 | true =>
   rw [hU] at hu
   have key : ∀ K : Int, k = K → isModuleF ⟨k, (t1, t2), (s1, s2), lv, st, ra, rc, pts, lab, c, lf⟩ = (if K = 4 then isRingF st ra rc && decide (rc = (st.length : Int)) else if K = 6 then isTableF pts lab else if K = 7 then nz lv || fcmp .gtr .f32 lv 0 else if K = 8 then decide (1 ≤ c) && (decide (c ≤ 100) && (decide (0 ≤ lf) && decide (lf < c))) else true) := by
     rintro K rfl
     rcases hk with rfl | rfl | rfl | rfl | rfl | rfl | rfl | rfl <;> simp only [unuF, restM, Int.reduceEq, or_self, or_false, or_true, if_true, if_false] at hU <;> simp [isModuleF, hU]
   clear hU
   rcases hk with rfl | rfl | rfl | rfl | rfl | rfl | rfl | rfl
   · have key' := key 1 rfl
     simp only [Int.reduceEq, if_true, if_false] at key'
     rw [key']
     clear key key'
     try simp -dsimp (maxSteps := 1000000) only [go_sem, List.forall_mem_nil, ↓reduceIte, Nat.reduceEqDiff, Nat.reduceLT, Nat.reduceLeDiff, Nat.reduceAdd, Nat.reduceMul, reduceCtorEq, Tryz.f19, zBm, hu, Int.reduceEq, Int.reduceLE, decide_true, Bool.and_self, Bool.and_true, Bool.true_and, Bool.false_and, Bool.and_false, Bool.not_true, Bool.not_false, zAa]
   · have key' := key 2 rfl
     simp only [Int.reduceEq, if_true, if_false] at key'
     rw [key']
     clear key key'
     try simp -dsimp (maxSteps := 1000000) only [go_sem, List.forall_mem_nil, ↓reduceIte, Nat.reduceEqDiff, Nat.reduceLT, Nat.reduceLeDiff, Nat.reduceAdd, Nat.reduceMul, reduceCtorEq, Tryz.f19, zBm, hu, Int.reduceEq, Int.reduceLE, decide_true, Bool.and_self, Bool.and_true, Bool.true_and, Bool.false_and, Bool.and_false, Bool.not_true, Bool.not_false, zAa]
   · have key' := key 3 rfl
     simp only [Int.reduceEq, if_true, if_false] at key'
     rw [key']
     clear key key'
     try simp -dsimp (maxSteps := 1000000) only [go_sem, List.forall_mem_nil, ↓reduceIte, Nat.reduceEqDiff, Nat.reduceLT, Nat.reduceLeDiff, Nat.reduceAdd, Nat.reduceMul, reduceCtorEq, Tryz.f19, zBm, hu, Int.reduceEq, Int.reduceLE, decide_true, Bool.and_self, Bool.and_true, Bool.true_and, Bool.false_and, Bool.and_false, Bool.not_true, Bool.not_false, zAa]
   · have key' := key 4 rfl
     simp only [Int.reduceEq, if_true, if_false] at key'
     rw [key']
     clear key key'
     cases hR : isRingF st ra rc with
     | false =>
       rw [hR] at rr
       try simp -dsimp (maxSteps := 1000000) only [go_sem, List.forall_mem_nil, ↓reduceIte, Nat.reduceEqDiff, Nat.reduceLT, Nat.reduceLeDiff, Nat.reduceAdd, Nat.reduceMul, reduceCtorEq, Tryz.f19, zBm, hu, Int.reduceEq, Int.reduceLE, decide_true, Bool.and_self, Bool.and_true, Bool.true_and, Bool.false_and, Bool.and_false, Bool.not_true, Bool.not_false, zAa, rr]
     | true =>
       rw [hR] at rr
       by_cases hc : rc = (st.length : Int)
       · have e := eq_true hc
         rw [decide_eq_true hc]
         clear hc
         try simp -dsimp (maxSteps := 1000000) only [go_sem, List.forall_mem_nil, ↓reduceIte, Nat.reduceEqDiff, Nat.reduceLT, Nat.reduceLeDiff, Nat.reduceAdd, Nat.reduceMul, reduceCtorEq, Tryz.f19, zBm, hu, Int.reduceEq, Int.reduceLE, decide_true, Bool.and_self, Bool.and_true, Bool.true_and, Bool.false_and, Bool.and_false, Bool.not_true, Bool.not_false, zAa, rr, e]
       · have e := eq_false hc
         rw [decide_eq_false hc]
         clear hc
         try simp -dsimp (maxSteps := 1000000) only [go_sem, List.forall_mem_nil, ↓reduceIte, Nat.reduceEqDiff, Nat.reduceLT, Nat.reduceLeDiff, Nat.reduceAdd, Nat.reduceMul, reduceCtorEq, Tryz.f19, zBm, hu, Int.reduceEq, Int.reduceLE, decide_true, Bool.and_self, Bool.and_true, Bool.true_and, Bool.false_and, Bool.and_false, Bool.not_true, Bool.not_false, zAa, rr, e]
   · have key' := key 5 rfl
     simp only [Int.reduceEq, if_true, if_false] at key'
     rw [key']
     clear key key'
     try simp -dsimp (maxSteps := 1000000) only [go_sem, List.forall_mem_nil, ↓reduceIte, Nat.reduceEqDiff, Nat.reduceLT, Nat.reduceLeDiff, Nat.reduceAdd, Nat.reduceMul, reduceCtorEq, Tryz.f19, zBm, hu, Int.reduceEq, Int.reduceLE, decide_true, Bool.and_self, Bool.and_true, Bool.true_and, Bool.false_and, Bool.and_false, Bool.not_true, Bool.not_false, zAa]
   · have key' := key 6 rfl
     simp only [Int.reduceEq, if_true, if_false] at key'
     rw [key']
     clear key key'
     try simp -dsimp (maxSteps := 1000000) only [go_sem, List.forall_mem_nil, ↓reduceIte, Nat.reduceEqDiff, Nat.reduceLT, Nat.reduceLeDiff, Nat.reduceAdd, Nat.reduceMul, reduceCtorEq, Tryz.f19, zBm, hu, Int.reduceEq, Int.reduceLE, decide_true, Bool.and_self, Bool.and_true, Bool.true_and, Bool.false_and, Bool.and_false, Bool.not_true, Bool.not_false, zAa, rtb]
   · have key' := key 7 rfl
     simp only [Int.reduceEq, if_true, if_false] at key'
     rw [key']
     clear key key'
     rw [← hme]
     cases hg : fcmp .geq .f32 lv 0 with
     | false =>
       try simp -dsimp (maxSteps := 1000000) only [go_sem, List.forall_mem_nil, ↓reduceIte, Nat.reduceEqDiff, Nat.reduceLT, Nat.reduceLeDiff, Nat.reduceAdd, Nat.reduceMul, reduceCtorEq, Tryz.f19, zBm, hu, Int.reduceEq, Int.reduceLE, decide_true, Bool.and_self, Bool.and_true, Bool.true_and, Bool.false_and, Bool.and_false, Bool.not_true, Bool.not_false, zAa, hg]
     | true =>
       try simp -dsimp (maxSteps := 1000000) only [go_sem, List.forall_mem_nil, ↓reduceIte, Nat.reduceEqDiff, Nat.reduceLT, Nat.reduceLeDiff, Nat.reduceAdd, Nat.reduceMul, reduceCtorEq, Tryz.f19, zBm, hu, Int.reduceEq, Int.reduceLE, decide_true, Bool.and_self, Bool.and_true, Bool.true_and, Bool.false_and, Bool.and_false, Bool.not_true, Bool.not_false, zAa, hg, rl, bl]
   · have key' := key 8 rfl
     simp only [Int.reduceEq, if_true, if_false] at key'
     rw [key']
     clear key key'
     by_cases h1 : 1 ≤ c ∧ c ≤ 100
     · have c3 : (decide ((1 : Int) ≤ c) && decide (c ≤ 100)) = true := by simp; omega
       have w1 : IntKind.i64.wrap (c - 1) = c - 1 := zAi (by omega) (by omega)
       have e : (decide (1 ≤ c) && (decide (c ≤ 100) && (decide (0 ≤ lf) && decide (lf < c)))) = (decide ((0 : Int) ≤ lf) && decide (lf ≤ c - 1)) := by
         rw [decide_eq_true h1.1, decide_eq_true h1.2, Bool.true_and, Bool.true_and]
         congr 1
         exact decide_eq_decide.2 (by omega)
       rw [e]
       clear h1
       try simp -dsimp (maxSteps := 1000000) only [go_sem, List.forall_mem_nil, ↓reduceIte, Nat.reduceEqDiff, Nat.reduceLT, Nat.reduceLeDiff, Nat.reduceAdd, Nat.reduceMul, reduceCtorEq, Tryz.f19, zBm, hu, Int.reduceEq, Int.reduceLE, decide_true, Bool.and_self, Bool.and_true, Bool.true_and, Bool.false_and, Bool.and_false, Bool.not_true, Bool.not_false, zAa, c3, w1]
     · have c3 : (decide ((1 : Int) ≤ c) && decide (c ≤ 100)) = false := by simp; omega
       have e : (decide (1 ≤ c) && (decide (c ≤ 100) && (decide (0 ≤ lf) && decide (lf < c)))) = false := by rw [← Bool.and_assoc, c3]; rfl
       rw [e]
       clear h1
       try simp -dsimp (maxSteps := 1000000) only [go_sem, List.forall_mem_nil, ↓reduceIte, Nat.reduceEqDiff, Nat.reduceLT, Nat.reduceLeDiff, Nat.reduceAdd, Nat.reduceMul, reduceCtorEq, Tryz.f19, zBm, hu, Int.reduceEq, Int.reduceLE, decide_true, Bool.and_self, Bool.and_true, Bool.true_and, Bool.false_and, Bool.and_false, Bool.not_true, Bool.not_false, zAa, c3]
end Go.SX
namespace Go.SX
open Go Go.Proofs Ieee
theorem zBk : (zEy.sc = true) = True := by simp [zEy, fam]
theorem cW_cW (w : Nat) : cW (cW w) = cW w := by
 by_cases h : 2139095040 < w % 2147483648
 · have e : cW w = qn .f32 := by unfold cW; rw [if_pos h]
   rw [e]; decide
 · have e : cW w = w := by unfold cW; rw [if_neg h]
   rw [e, e]
theorem cP_cP (p : Pt) : cP (cP p) = cP p := by simp [cP, cW_cW]
theorem cM_cM (m : Mod) : cM (cM m) = cM m := by
 simp only [cM, cP_cP, cW_cW, List.map_map]
 have : cP ∘ cP = cP := funext cP_cP
 rw [this]
theorem ok_cM {m : Mod} (h : OkM m) : OkM (cM m) := ⟨by simp [cM]; exact h.store, by simp [cM]; exact h.pts, by simp [cM]; exact h.lab⟩
theorem rRs_t {m : Mod} (h : canR m = true) : rRs m = rModB (resetM m) true := by unfold rRs; rw [if_pos h]; rfl
theorem rCs_t {m : Mod} {z : Pt} (h : canC m = true) : rCs m z = rModB (ctlM m z) true := by unfold rCs; rw [if_pos h]; rfl
def rZf : Res := { val := .tup [.agg [.im (.int .i64 0), .im (.cpx .f32 0 0), .im (.cpx .f32 0 0), .im (.flt .f32 0), .nil, .im (.int .i64 0), .im (.int .i64 0), .nil, .nil, .im (.int .i64 0), .im (.int .i64 0)], .c (.im (.bool false))] }
theorem rRs_f {m : Mod} (h : canR m = false) : rRs m = rZf := by unfold rRs; rw [h]; rfl
theorem rCs_f {m : Mod} {z : Pt} (h : canC m = false) : rCs m z = rZf := by unfold rCs; rw [h]; rfl
theorem ok_step {o : Or} {m : Mod} {z : Pt} (h : OkS m) : OkM (stepF o m z).1 := (stepF_ok h).ok
theorem ok_reset {m : Mod} (h : Drawn m) : OkM (resetM m) := (drawn_reset h).ok
theorem ok_ctl {m : Mod} {z : Pt} (h : OkM m) : OkM (ctlM m z) := by
 unfold ctlM
 split
 · exact ⟨h.store, h.pts, h.lab⟩
 · exact ⟨h.store, h.pts, h.lab⟩
theorem oPm_fmt {m : Mod} (h : isModuleF m = true) (hw : Wd m) : oPm (fmtM m) = .one (rModB (cM m) true) := by
 unfold oPm
 rw [implM_fmt h hw.w ⟨hw.cnt, hw.lab⟩]
theorem can_cases {k : Int} (h : k = 1 ∨ k = 2 ∨ k = 3 ∨ k = 4 ∨ k = 5 ∨ k = 6 ∨ k = 7 ∨ k = 8) :
   (hasF [2, 4, 6, 7, 8] k = true ∧ hasF [1, 2, 3] k = false ∧ k ≠ 5) ∨ (hasF [2, 4, 6, 7, 8] k = true ∧ hasF [1, 2, 3] k = true ∧ k ≠ 5) ∨
   (hasF [2, 4, 6, 7, 8] k = false ∧ hasF [1, 2, 3] k = true ∧ k ≠ 5) ∨ (hasF [2, 4, 6, 7, 8] k = false ∧ hasF [1, 2, 3] k = false ∧ k = 5) := by
 rcases h with rfl | rfl | rfl | rfl | rfl | rfl | rfl | rfl
 · exact .inr (.inr (.inl (by decide)))
 · exact .inr (.inl (by decide))
 · exact .inr (.inr (.inl (by decide)))
 · exact .inl (by decide)
 · exact .inr (.inr (.inr (by decide)))
 · exact .inl (by decide)
 · exact .inl (by decide)
 · exact .inl (by decide)
set_option maxRecDepth 100000 in
set_option maxHeartbeats 40000000 in
theorem law_FnPowers : Law Tryz.prog 4 ctLaw := by
 refine zAf (zAc law_MakeModuleU (zAc zFy (zAc law_ResetModule (zAc law_fresh (zAc law_MakePointU (zAc law_ControlModule (zAc law_TellModule (zAc law_sIsModuleA (zAc law_SameMods (zAc law_MakeFloatU (zAc law_StepModule (zAc zHf (zAc law_ParseModule (zAc law_MakeSame zAe)))))))))))))) hmixA Tryz.func4 rfl rfl (fun ⟨l, hb⟩ => ⟨zAv rfl, by simp [Tryz.f4], ?_⟩)
 simp only
 by_cases hbig : 1048576 < l.length
 · have hI : ((1048576 : Int) < (l.length : Int)) = True := eq_true (by omega)
   clear hbig
   try simp -dsimp (maxSteps := 1000000) only [go_sem, List.forall_mem_nil, ↓reduceIte, Nat.reduceEqDiff, Nat.reduceLT, Nat.reduceLeDiff, Nat.reduceAdd, Nat.reduceMul, reduceCtorEq, Tryz.f4, zAl, hI]
 have hlen : l.length ≤ 1048576 := by omega
 have hI : ((1048576 : Int) < (l.length : Int)) = False := eq_false (by omega)
 have hsm : sm = 16777216 := rfl
 have rf3 : ct_fresh.run [.c (.im (.sl 1 (rowsB l))), .c (.im (.int .i64 3))] [] = some oFresh := run_fresh hlen hb (s := 3) (by omega) (by omega)
 have rf5 : ct_fresh.run [.c (.im (.sl 1 (rowsB l))), .c (.im (.int .i64 5))] [] = some oFresh := run_fresh hlen hb (s := 5) (by omega) (by omega)
 have rf7 : ct_fresh.run [.c (.im (.sl 1 (rowsB l))), .c (.im (.int .i64 7))] [] = some oFresh := run_fresh hlen hb (s := 7) (by omega) (by omega)
 have rmp := fun (bs : List Int) (lb : bs.length ≤ 601) (hbs : ∀ b ∈ bs, 0 ≤ b ∧ b < 256) => run_MakePointU (l := bs) (by omega) hbs
 have rmf := fun (bs : List Int) (lb : bs.length ≤ 601) (hbs : ∀ b ∈ bs, 0 ≤ b ∧ b < 256) => run_MakeFloatU (l := bs) (by omega) hbs
 have tkb : ∀ bs : List Int, List.take bs.length (tI (rowsB bs)) = tI (rowsB bs) := fun bs => List.take_of_length_le (by simp [zAg, zAl])
 have tkz : ∀ x : List Pt, List.take x.length (tI (rowsZ x)) = tI (rowsZ x) := fun x => List.take_of_length_le (by simp [zAg, zAa])
 have tkn : ∀ x : List Int, List.take x.length (tI (rowsN x)) = tI (rowsN x) := fun x => List.take_of_length_le (by simp [zAg, zAb])
 try simp -dsimp (maxSteps := 1000000) only [go_sem, List.forall_mem_nil, ↓reduceIte, Nat.reduceEqDiff, Nat.reduceLT, Nat.reduceLeDiff, Nat.reduceAdd, Nat.reduceMul, reduceCtorEq, Tryz.f4, zAl, hI, run_MakeModuleU hlen hb, oMmU, ne_qmodU, rM]
 rintro ⟨⟨k, ⟨t1, t2⟩, ⟨s1, s2⟩, lv, st, ra, rc, pts, lab, c, lf⟩, ⟨hD, hW⟩⟩
 have hok := hD.ok
 have hv := hD.mod
 obtain ⟨vA, wA⟩ := rst_valid hD hW
 have okA := ok_reset hD
 have twoA := resetM_two ⟨k, (t1, t2), (s1, s2), lv, st, ra, rc, pts, lab, c, lf⟩
 have kA := resetM_kind ⟨k, (t1, t2), (s1, s2), lv, st, ra, rc, pts, lab, c, lf⟩
 have rR := zHm hok hv
 have rR2 := zHm okA vA
 have rT := run_TellModule hok hv
 have iA := zCk ⟨_, okA, wA.w⟩
 have sA := zDm (a := resetM ⟨k, (t1, t2), (s1, s2), lv, st, ra, rc, pts, lab, c, lf⟩) (b := resetM ⟨k, (t1, t2), (s1, s2), lv, st, ra, rc, pts, lab, c, lf⟩) okA rfl
 have sM := zDm (a := ⟨k, (t1, t2), (s1, s2), lv, st, ra, rc, pts, lab, c, lf⟩) (b := ⟨k, (t1, t2), (s1, s2), lv, st, ra, rc, pts, lab, c, lf⟩) hok rfl
 have hcan := can_cases (mod_kind hv)
 have hR2 : canR (resetM ⟨k, (t1, t2), (s1, s2), lv, st, ra, rc, pts, lab, c, lf⟩) = canR ⟨k, (t1, t2), (s1, s2), lv, st, ra, rc, pts, lab, c, lf⟩ := by simp only [canR, kA]
 have rS := fun u v => run_StepModule hok hv u v
 have hS := OkS_of hok hv
 simp only [vA] at iA
 obtain ⟨A, hA⟩ : ∃ A, resetM ⟨k, (t1, t2), (s1, s2), lv, st, ra, rc, pts, lab, c, lf⟩ = A := ⟨_, rfl⟩
 rw [hA] at vA wA okA twoA kA rR2 iA sA hR2
 obtain ⟨kA', ⟨tA1, tA2⟩, ⟨sA1, sA2⟩, lvA, stA, raA, rcA, ptsA, labA, cA, lfA⟩ := A
 simp only at kA
 have kA := kA.symm
 subst kA
 have hstep := fun (o : Or) (z : Pt) (hz : z.1 < 4294967296 ∧ z.2 < 4294967296) => step_valid (o := o) hv hW hz
 have hstepk := fun (o : Or) (z : Pt) => stepF_kind o ⟨k, (t1, t2), (s1, s2), lv, st, ra, rc, pts, lab, c, lf⟩ z
 have hstepo := fun (o : Or) (z : Pt) => ok_step (o := o) (z := z) hS
 have h5 : k = 5 → ∀ o z, (stepF o ⟨k, (t1, t2), (s1, s2), lv, st, ra, rc, pts, lab, c, lf⟩ z).2 = z := fun e o z => by simp [stepF, e]
 have hctl := fun (h : k = 1 ∨ k = 2 ∨ k = 3) (z : Pt) (hz : z.1 < 4294967296 ∧ z.2 < 4294967296) => ctl_valid hv h hW hz
 have hctlk := fun z => ctlM_kind ⟨k, (t1, t2), (s1, s2), lv, st, ra, rc, pts, lab, c, lf⟩ z
 have hctlo := fun z => ok_ctl (z := z) hok
 simp only at hcan hctlk hstepk
 simp only [modC] at rR rR2 rT iA sA sM rS
 obtain ⟨T, hT⟩ : ∃ T, hasF [1, 2, 6, 7, 8] k = T := ⟨_, rfl⟩
 simp only [canT, hT] at rT
 have hRk : ∀ b, hasF [2, 4, 6, 7, 8] k = b → canR ⟨k, (t1, t2), (s1, s2), lv, st, ra, rc, pts, lab, c, lf⟩ = b := fun b h => h
 have hCk : ∀ b, hasF [1, 2, 3] k = b → canC ⟨k, (t1, t2), (s1, s2), lv, st, ra, rc, pts, lab, c, lf⟩ = b := fun b h => h
 have hks : hasF [1, 2, 3] k = true → k = 1 ∨ k = 2 ∨ k = 3 := fun h => by simpa using hasF_iff.1 h
 rcases hcan with ⟨eR, eC, e5⟩ | ⟨eR, eC, e5⟩ | ⟨eR, eC, e5⟩ | ⟨eR, eC, e5⟩
 · rw [rRs_t (hRk _ eR), hA] at rR
   rw [rRs_t (hR2.trans (hRk _ eR)), twoA] at rR2
   have e5' := eq_false e5
   try simp -dsimp (maxSteps := 1000000) only [go_sem, List.forall_mem_nil, ↓reduceIte, Nat.reduceEqDiff, Nat.reduceLT, Nat.reduceLeDiff, Nat.reduceAdd, Nat.reduceMul, reduceCtorEq, Tryz.f4, zAl, modC, zAp, rModB, rZf, eR, eC, hT, rR, zCq, rf3, oFresh, zDf, rNew]
   repeat' ((with_reducible refine sl_i ?_ ?_); focus kernel_rfl)
   rintro ⟨b3, l3, h3⟩
   try simp -dsimp (maxSteps := 1000000) only [go_sem, List.forall_mem_nil, ↓reduceIte, Nat.reduceEqDiff, Nat.reduceLT, Nat.reduceLeDiff, Nat.reduceAdd, Nat.reduceMul, reduceCtorEq, Tryz.f4, modC, tkb, tkz, tkn, zBc, zAg, zAl, zAa, zAb, rmp b3 l3 h3, zEu, oPnU, ne_p32]
   rintro ⟨⟨u, v⟩, hu, hv2⟩
   have rCc := zCx hok hv u v
   rw [rCs_f (hCk _ eC)] at rCc
   simp only [modC, rZf] at rCc
   try simp -dsimp (maxSteps := 1000000) only [go_sem, List.forall_mem_nil, ↓reduceIte, Nat.reduceEqDiff, Nat.reduceLT, Nat.reduceLeDiff, Nat.reduceAdd, Nat.reduceMul, reduceCtorEq, Tryz.f4, modC, tkb, tkz, tkn, zBc, zAg, zAl, zAa, zAb, Bool.not_true, Bool.not_false, Bool.or_self, Bool.and_self, Bool.and_true, Bool.true_and, Bool.false_and, Bool.or_false, Bool.false_or, bne_self_eq_false, beq_self_eq_true, rModB, rZf, eR, eC, hT, rCc, zDe, rT, oTl, ne_pt, zEs]
   repeat' ((with_reducible refine ro_i ?_ ?_); focus kernel_rfl)
   rintro ⟨p1, p2⟩
   try simp -dsimp (maxSteps := 1000000) only [go_sem, List.forall_mem_nil, ↓reduceIte, Nat.reduceEqDiff, Nat.reduceLT, Nat.reduceLeDiff, Nat.reduceAdd, Nat.reduceMul, reduceCtorEq, Tryz.f4, modC, tkb, tkz, tkn, zBc, zAg, zAl, zAa, zAb, Bool.not_true, Bool.not_false, Bool.or_self, Bool.and_self, Bool.and_true, Bool.true_and, Bool.false_and, Bool.or_false, Bool.false_or, bne_self_eq_false, beq_self_eq_true, rModB, rZf, eR, eC, hT, rCc, rR2, zCq, sA, zCs, iA, zBk, rf5, oFresh, zDf, rNew]
   rintro ⟨b5, l5, h5b⟩
   try simp -dsimp (maxSteps := 1000000) only [go_sem, List.forall_mem_nil, ↓reduceIte, Nat.reduceEqDiff, Nat.reduceLT, Nat.reduceLeDiff, Nat.reduceAdd, Nat.reduceMul, reduceCtorEq, Tryz.f4, modC, tkb, tkz, tkn, zBc, zAg, zAl, zAa, zAb, Bool.not_true, Bool.not_false, Bool.or_self, Bool.and_self, Bool.and_true, Bool.true_and, Bool.false_and, Bool.or_false, Bool.false_or, bne_self_eq_false, beq_self_eq_true, rmf b5 l5 h5b, zCd, oFlU, ne_n32]
   rintro ⟨f5, g5⟩
   try simp -dsimp (maxSteps := 1000000) only [go_sem, List.forall_mem_nil, ↓reduceIte, Nat.reduceEqDiff, Nat.reduceLT, Nat.reduceLeDiff, Nat.reduceAdd, Nat.reduceMul, reduceCtorEq, Tryz.f4, modC, tkb, tkz, tkn, zBc, zAg, zAl, zAa, zAb, Bool.not_true, Bool.not_false, Bool.or_self, Bool.and_self, Bool.and_true, Bool.true_and, Bool.false_and, Bool.or_false, Bool.false_or, bne_self_eq_false, beq_self_eq_true, rf7, oFresh, zDf, rNew]
   rintro ⟨b7, l7, h7b⟩
   try simp -dsimp (maxSteps := 1000000) only [go_sem, List.forall_mem_nil, ↓reduceIte, Nat.reduceEqDiff, Nat.reduceLT, Nat.reduceLeDiff, Nat.reduceAdd, Nat.reduceMul, reduceCtorEq, Tryz.f4, modC, tkb, tkz, tkn, zBc, zAg, zAl, zAa, zAb, Bool.not_true, Bool.not_false, Bool.or_self, Bool.and_self, Bool.and_true, Bool.true_and, Bool.false_and, Bool.or_false, Bool.false_or, bne_self_eq_false, beq_self_eq_true, rmf b7 l7 h7b, zCd, oFlU, ne_n32]
   rintro ⟨f7, g7⟩
   try simp -dsimp (maxSteps := 1000000) only [go_sem, List.forall_mem_nil, ↓reduceIte, Nat.reduceEqDiff, Nat.reduceLT, Nat.reduceLeDiff, Nat.reduceAdd, Nat.reduceMul, reduceCtorEq, Tryz.f4, modC, tkb, tkz, tkn, zBc, zAg, zAl, zAa, zAb, Bool.not_true, Bool.not_false, Bool.or_self, Bool.and_self, Bool.and_true, Bool.true_and, Bool.false_and, Bool.or_false, Bool.false_or, bne_self_eq_false, beq_self_eq_true, rS, oSm, ne_or, zEt]
   intro o
   have hNv := hstep o (f5, f7) ⟨g5, g7⟩
   have hNk := hstepk o (f5, f7)
   have hNo := hstepo o (f5, f7)
   obtain ⟨N, hN⟩ : ∃ N, stepF o ⟨k, (t1, t2), (s1, s2), lv, st, ra, rc, pts, lab, c, lf⟩ (f5, f7) = N := ⟨_, rfl⟩
   rw [hN] at hNv hNk hNo
   obtain ⟨⟨kN, ⟨tN1, tN2⟩, ⟨sN1, sN2⟩, lvN, stN, raN, rcN, ptsN, labN, cN, lfN⟩, ⟨y1, y2⟩⟩ := N
   simp only at hNk hNv hNo
   have hNk := hNk.symm
   subst hNk
   have rF := zAx ⟨_, hNo, hNv.2.w, hNv.2.rat, hNv.2.cnt, hNv.2.lft, hNv.2.lab⟩
   have rPm := zDv (fmtM_len hNv.2)
   rw [oPm_fmt hNv.1 hNv.2] at rPm
   have okR := ok_cM hNo
   have iN := zCk ⟨_, hNo, hNv.2.w⟩
   simp only [hNv.1] at iN
   obtain ⟨Q, hQ⟩ : ∃ Q, cM ⟨k, (tN1, tN2), (sN1, sN2), lvN, stN, raN, rcN, ptsN, labN, cN, lfN⟩ = Q := ⟨_, rfl⟩
   have hRR : cM Q = cM ⟨k, (tN1, tN2), (sN1, sN2), lvN, stN, raN, rcN, ptsN, labN, cN, lfN⟩ := by rw [← hQ]; exact cM_cM _
   have hQk : Q.kind = k := by rw [← hQ]; rfl
   rw [hQ] at rPm okR
   have sN := zDm okR hRR
   obtain ⟨kQ, ⟨tQ1, tQ2⟩, ⟨sQ1, sQ2⟩, lvQ, stQ, raQ, rcQ, ptsQ, labQ, cQ, lfQ⟩ := Q
   simp only at hQk
   have hQk := hQk.symm
   subst hQk
   simp only at rF
   generalize fmtM ⟨k, (tN1, tN2), (sN1, sN2), lvN, stN, raN, rcN, ptsN, labN, cN, lfN⟩ = Fx at rF rPm
   simp only [modC] at rF iN sN
   simp only [rModB] at rPm
   clear hRR hQ hNv hNo hstep hstepo hctl hctlo hD hW
   try simp -dsimp (maxSteps := 1000000) only [go_sem, List.forall_mem_nil, ↓reduceIte, Nat.reduceEqDiff, Nat.reduceLT, Nat.reduceLeDiff, Nat.reduceAdd, Nat.reduceMul, reduceCtorEq, Tryz.f4, modC, tkb, tkz, tkn, zBc, zAg, zAl, zAa, zAb, Bool.not_true, Bool.not_false, Bool.or_self, Bool.and_self, Bool.and_true, Bool.true_and, Bool.false_and, Bool.or_false, Bool.false_or, bne_self_eq_false, beq_self_eq_true, rSm, hN, rMod, e5', rF, zAn, rPm, sN, zCs, iN, zBk, sM]
 · rw [rRs_t (hRk _ eR), hA] at rR
   rw [rRs_t (hR2.trans (hRk _ eR)), twoA] at rR2
   have e5' := eq_false e5
   try simp -dsimp (maxSteps := 1000000) only [go_sem, List.forall_mem_nil, ↓reduceIte, Nat.reduceEqDiff, Nat.reduceLT, Nat.reduceLeDiff, Nat.reduceAdd, Nat.reduceMul, reduceCtorEq, Tryz.f4, zAl, modC, zAp, rModB, rZf, eR, eC, hT, rR, zCq, rf3, oFresh, zDf, rNew]
   repeat' ((with_reducible refine sl_i ?_ ?_); focus kernel_rfl)
   rintro ⟨b3, l3, h3⟩
   try simp -dsimp (maxSteps := 1000000) only [go_sem, List.forall_mem_nil, ↓reduceIte, Nat.reduceEqDiff, Nat.reduceLT, Nat.reduceLeDiff, Nat.reduceAdd, Nat.reduceMul, reduceCtorEq, Tryz.f4, modC, tkb, tkz, tkn, zBc, zAg, zAl, zAa, zAb, rmp b3 l3 h3, zEu, oPnU, ne_p32]
   rintro ⟨⟨u, v⟩, hu, hv2⟩
   have rCc := zCx hok hv u v
   rw [rCs_t (hCk _ eC)] at rCc
   have hBk := hctlk (u, v)
   have hBo := hctlo (u, v)
   have hBv := hctl (hks eC) (u, v) ⟨hu, hv2⟩
   obtain ⟨B, hB⟩ : ∃ B, ctlM ⟨k, (t1, t2), (s1, s2), lv, st, ra, rc, pts, lab, c, lf⟩ (u, v) = B := ⟨_, rfl⟩
   rw [hB] at rCc hBk hBo hBv
   obtain ⟨kB, ⟨tB1, tB2⟩, ⟨sB1, sB2⟩, lvB, stB, raB, rcB, ptsB, labB, cB, lfB⟩ := B
   simp only at hBk
   have hBk := hBk.symm
   subst hBk
   have iB := zCk ⟨_, hBo, hBv.2.w⟩
   simp only [hBv.1, modC] at iB
   simp only [modC, rModB] at rCc
   try simp -dsimp (maxSteps := 1000000) only [go_sem, List.forall_mem_nil, ↓reduceIte, Nat.reduceEqDiff, Nat.reduceLT, Nat.reduceLeDiff, Nat.reduceAdd, Nat.reduceMul, reduceCtorEq, Tryz.f4, modC, tkb, tkz, tkn, zBc, zAg, zAl, zAa, zAb, Bool.not_true, Bool.not_false, Bool.or_self, Bool.and_self, Bool.and_true, Bool.true_and, Bool.false_and, Bool.or_false, Bool.false_or, bne_self_eq_false, beq_self_eq_true, rModB, rZf, eR, eC, hT, rCc, iB, zBk, zDe, rT, oTl, ne_pt, zEs]
   repeat' ((with_reducible refine ro_i ?_ ?_); focus kernel_rfl)
   rintro ⟨p1, p2⟩
   try simp -dsimp (maxSteps := 1000000) only [go_sem, List.forall_mem_nil, ↓reduceIte, Nat.reduceEqDiff, Nat.reduceLT, Nat.reduceLeDiff, Nat.reduceAdd, Nat.reduceMul, reduceCtorEq, Tryz.f4, modC, tkb, tkz, tkn, zBc, zAg, zAl, zAa, zAb, Bool.not_true, Bool.not_false, Bool.or_self, Bool.and_self, Bool.and_true, Bool.true_and, Bool.false_and, Bool.or_false, Bool.false_or, bne_self_eq_false, beq_self_eq_true, rModB, rZf, eR, eC, hT, rCc, iB, zBk, rR2, zCq, sA, zCs, iA, zBk, rf5, oFresh, zDf, rNew]
   rintro ⟨b5, l5, h5b⟩
   try simp -dsimp (maxSteps := 1000000) only [go_sem, List.forall_mem_nil, ↓reduceIte, Nat.reduceEqDiff, Nat.reduceLT, Nat.reduceLeDiff, Nat.reduceAdd, Nat.reduceMul, reduceCtorEq, Tryz.f4, modC, tkb, tkz, tkn, zBc, zAg, zAl, zAa, zAb, Bool.not_true, Bool.not_false, Bool.or_self, Bool.and_self, Bool.and_true, Bool.true_and, Bool.false_and, Bool.or_false, Bool.false_or, bne_self_eq_false, beq_self_eq_true, rmf b5 l5 h5b, zCd, oFlU, ne_n32]
   rintro ⟨f5, g5⟩
   try simp -dsimp (maxSteps := 1000000) only [go_sem, List.forall_mem_nil, ↓reduceIte, Nat.reduceEqDiff, Nat.reduceLT, Nat.reduceLeDiff, Nat.reduceAdd, Nat.reduceMul, reduceCtorEq, Tryz.f4, modC, tkb, tkz, tkn, zBc, zAg, zAl, zAa, zAb, Bool.not_true, Bool.not_false, Bool.or_self, Bool.and_self, Bool.and_true, Bool.true_and, Bool.false_and, Bool.or_false, Bool.false_or, bne_self_eq_false, beq_self_eq_true, rf7, oFresh, zDf, rNew]
   rintro ⟨b7, l7, h7b⟩
   try simp -dsimp (maxSteps := 1000000) only [go_sem, List.forall_mem_nil, ↓reduceIte, Nat.reduceEqDiff, Nat.reduceLT, Nat.reduceLeDiff, Nat.reduceAdd, Nat.reduceMul, reduceCtorEq, Tryz.f4, modC, tkb, tkz, tkn, zBc, zAg, zAl, zAa, zAb, Bool.not_true, Bool.not_false, Bool.or_self, Bool.and_self, Bool.and_true, Bool.true_and, Bool.false_and, Bool.or_false, Bool.false_or, bne_self_eq_false, beq_self_eq_true, rmf b7 l7 h7b, zCd, oFlU, ne_n32]
   rintro ⟨f7, g7⟩
   try simp -dsimp (maxSteps := 1000000) only [go_sem, List.forall_mem_nil, ↓reduceIte, Nat.reduceEqDiff, Nat.reduceLT, Nat.reduceLeDiff, Nat.reduceAdd, Nat.reduceMul, reduceCtorEq, Tryz.f4, modC, tkb, tkz, tkn, zBc, zAg, zAl, zAa, zAb, Bool.not_true, Bool.not_false, Bool.or_self, Bool.and_self, Bool.and_true, Bool.true_and, Bool.false_and, Bool.or_false, Bool.false_or, bne_self_eq_false, beq_self_eq_true, rS, oSm, ne_or, zEt]
   intro o
   have hNv := hstep o (f5, f7) ⟨g5, g7⟩
   have hNk := hstepk o (f5, f7)
   have hNo := hstepo o (f5, f7)
   obtain ⟨N, hN⟩ : ∃ N, stepF o ⟨k, (t1, t2), (s1, s2), lv, st, ra, rc, pts, lab, c, lf⟩ (f5, f7) = N := ⟨_, rfl⟩
   rw [hN] at hNv hNk hNo
   obtain ⟨⟨kN, ⟨tN1, tN2⟩, ⟨sN1, sN2⟩, lvN, stN, raN, rcN, ptsN, labN, cN, lfN⟩, ⟨y1, y2⟩⟩ := N
   simp only at hNk hNv hNo
   have hNk := hNk.symm
   subst hNk
   have rF := zAx ⟨_, hNo, hNv.2.w, hNv.2.rat, hNv.2.cnt, hNv.2.lft, hNv.2.lab⟩
   have rPm := zDv (fmtM_len hNv.2)
   rw [oPm_fmt hNv.1 hNv.2] at rPm
   have okR := ok_cM hNo
   have iN := zCk ⟨_, hNo, hNv.2.w⟩
   simp only [hNv.1] at iN
   obtain ⟨Q, hQ⟩ : ∃ Q, cM ⟨k, (tN1, tN2), (sN1, sN2), lvN, stN, raN, rcN, ptsN, labN, cN, lfN⟩ = Q := ⟨_, rfl⟩
   have hRR : cM Q = cM ⟨k, (tN1, tN2), (sN1, sN2), lvN, stN, raN, rcN, ptsN, labN, cN, lfN⟩ := by rw [← hQ]; exact cM_cM _
   have hQk : Q.kind = k := by rw [← hQ]; rfl
   rw [hQ] at rPm okR
   have sN := zDm okR hRR
   obtain ⟨kQ, ⟨tQ1, tQ2⟩, ⟨sQ1, sQ2⟩, lvQ, stQ, raQ, rcQ, ptsQ, labQ, cQ, lfQ⟩ := Q
   simp only at hQk
   have hQk := hQk.symm
   subst hQk
   simp only at rF
   generalize fmtM ⟨k, (tN1, tN2), (sN1, sN2), lvN, stN, raN, rcN, ptsN, labN, cN, lfN⟩ = Fx at rF rPm
   simp only [modC] at rF iN sN
   simp only [rModB] at rPm
   clear hRR hQ hNv hNo hstep hstepo hctl hctlo hD hW
   try simp -dsimp (maxSteps := 1000000) only [go_sem, List.forall_mem_nil, ↓reduceIte, Nat.reduceEqDiff, Nat.reduceLT, Nat.reduceLeDiff, Nat.reduceAdd, Nat.reduceMul, reduceCtorEq, Tryz.f4, modC, tkb, tkz, tkn, zBc, zAg, zAl, zAa, zAb, Bool.not_true, Bool.not_false, Bool.or_self, Bool.and_self, Bool.and_true, Bool.true_and, Bool.false_and, Bool.or_false, Bool.false_or, bne_self_eq_false, beq_self_eq_true, rSm, hN, rMod, e5', rF, zAn, rPm, sN, zCs, iN, zBk, sM]
 · rw [rRs_f (hRk _ eR)] at rR
   have e5' := eq_false e5
   try simp -dsimp (maxSteps := 1000000) only [go_sem, List.forall_mem_nil, ↓reduceIte, Nat.reduceEqDiff, Nat.reduceLT, Nat.reduceLeDiff, Nat.reduceAdd, Nat.reduceMul, reduceCtorEq, Tryz.f4, zAl, modC, zAp, rModB, rZf, eR, eC, hT, rR, zCq, rf3, oFresh, zDf, rNew]
   repeat' ((with_reducible refine sl_i ?_ ?_); focus kernel_rfl)
   rintro ⟨b3, l3, h3⟩
   try simp -dsimp (maxSteps := 1000000) only [go_sem, List.forall_mem_nil, ↓reduceIte, Nat.reduceEqDiff, Nat.reduceLT, Nat.reduceLeDiff, Nat.reduceAdd, Nat.reduceMul, reduceCtorEq, Tryz.f4, modC, tkb, tkz, tkn, zBc, zAg, zAl, zAa, zAb, rmp b3 l3 h3, zEu, oPnU, ne_p32]
   rintro ⟨⟨u, v⟩, hu, hv2⟩
   have rCc := zCx hok hv u v
   rw [rCs_t (hCk _ eC)] at rCc
   have hBk := hctlk (u, v)
   have hBo := hctlo (u, v)
   have hBv := hctl (hks eC) (u, v) ⟨hu, hv2⟩
   obtain ⟨B, hB⟩ : ∃ B, ctlM ⟨k, (t1, t2), (s1, s2), lv, st, ra, rc, pts, lab, c, lf⟩ (u, v) = B := ⟨_, rfl⟩
   rw [hB] at rCc hBk hBo hBv
   obtain ⟨kB, ⟨tB1, tB2⟩, ⟨sB1, sB2⟩, lvB, stB, raB, rcB, ptsB, labB, cB, lfB⟩ := B
   simp only at hBk
   have hBk := hBk.symm
   subst hBk
   have iB := zCk ⟨_, hBo, hBv.2.w⟩
   simp only [hBv.1, modC] at iB
   simp only [modC, rModB] at rCc
   try simp -dsimp (maxSteps := 1000000) only [go_sem, List.forall_mem_nil, ↓reduceIte, Nat.reduceEqDiff, Nat.reduceLT, Nat.reduceLeDiff, Nat.reduceAdd, Nat.reduceMul, reduceCtorEq, Tryz.f4, modC, tkb, tkz, tkn, zBc, zAg, zAl, zAa, zAb, Bool.not_true, Bool.not_false, Bool.or_self, Bool.and_self, Bool.and_true, Bool.true_and, Bool.false_and, Bool.or_false, Bool.false_or, bne_self_eq_false, beq_self_eq_true, rModB, rZf, eR, eC, hT, rCc, iB, zBk, zDe, rT, oTl, ne_pt, zEs]
   repeat' ((with_reducible refine ro_i ?_ ?_); focus kernel_rfl)
   rintro ⟨p1, p2⟩
   try simp -dsimp (maxSteps := 1000000) only [go_sem, List.forall_mem_nil, ↓reduceIte, Nat.reduceEqDiff, Nat.reduceLT, Nat.reduceLeDiff, Nat.reduceAdd, Nat.reduceMul, reduceCtorEq, Tryz.f4, modC, tkb, tkz, tkn, zBc, zAg, zAl, zAa, zAb, Bool.not_true, Bool.not_false, Bool.or_self, Bool.and_self, Bool.and_true, Bool.true_and, Bool.false_and, Bool.or_false, Bool.false_or, bne_self_eq_false, beq_self_eq_true, rModB, rZf, eR, eC, hT, rCc, iB, zBk, zCs, zBk, rf5, oFresh, zDf, rNew]
   rintro ⟨b5, l5, h5b⟩
   try simp -dsimp (maxSteps := 1000000) only [go_sem, List.forall_mem_nil, ↓reduceIte, Nat.reduceEqDiff, Nat.reduceLT, Nat.reduceLeDiff, Nat.reduceAdd, Nat.reduceMul, reduceCtorEq, Tryz.f4, modC, tkb, tkz, tkn, zBc, zAg, zAl, zAa, zAb, Bool.not_true, Bool.not_false, Bool.or_self, Bool.and_self, Bool.and_true, Bool.true_and, Bool.false_and, Bool.or_false, Bool.false_or, bne_self_eq_false, beq_self_eq_true, rmf b5 l5 h5b, zCd, oFlU, ne_n32]
   rintro ⟨f5, g5⟩
   try simp -dsimp (maxSteps := 1000000) only [go_sem, List.forall_mem_nil, ↓reduceIte, Nat.reduceEqDiff, Nat.reduceLT, Nat.reduceLeDiff, Nat.reduceAdd, Nat.reduceMul, reduceCtorEq, Tryz.f4, modC, tkb, tkz, tkn, zBc, zAg, zAl, zAa, zAb, Bool.not_true, Bool.not_false, Bool.or_self, Bool.and_self, Bool.and_true, Bool.true_and, Bool.false_and, Bool.or_false, Bool.false_or, bne_self_eq_false, beq_self_eq_true, rf7, oFresh, zDf, rNew]
   rintro ⟨b7, l7, h7b⟩
   try simp -dsimp (maxSteps := 1000000) only [go_sem, List.forall_mem_nil, ↓reduceIte, Nat.reduceEqDiff, Nat.reduceLT, Nat.reduceLeDiff, Nat.reduceAdd, Nat.reduceMul, reduceCtorEq, Tryz.f4, modC, tkb, tkz, tkn, zBc, zAg, zAl, zAa, zAb, Bool.not_true, Bool.not_false, Bool.or_self, Bool.and_self, Bool.and_true, Bool.true_and, Bool.false_and, Bool.or_false, Bool.false_or, bne_self_eq_false, beq_self_eq_true, rmf b7 l7 h7b, zCd, oFlU, ne_n32]
   rintro ⟨f7, g7⟩
   try simp -dsimp (maxSteps := 1000000) only [go_sem, List.forall_mem_nil, ↓reduceIte, Nat.reduceEqDiff, Nat.reduceLT, Nat.reduceLeDiff, Nat.reduceAdd, Nat.reduceMul, reduceCtorEq, Tryz.f4, modC, tkb, tkz, tkn, zBc, zAg, zAl, zAa, zAb, Bool.not_true, Bool.not_false, Bool.or_self, Bool.and_self, Bool.and_true, Bool.true_and, Bool.false_and, Bool.or_false, Bool.false_or, bne_self_eq_false, beq_self_eq_true, rS, oSm, ne_or, zEt]
   intro o
   have hNv := hstep o (f5, f7) ⟨g5, g7⟩
   have hNk := hstepk o (f5, f7)
   have hNo := hstepo o (f5, f7)
   obtain ⟨N, hN⟩ : ∃ N, stepF o ⟨k, (t1, t2), (s1, s2), lv, st, ra, rc, pts, lab, c, lf⟩ (f5, f7) = N := ⟨_, rfl⟩
   rw [hN] at hNv hNk hNo
   obtain ⟨⟨kN, ⟨tN1, tN2⟩, ⟨sN1, sN2⟩, lvN, stN, raN, rcN, ptsN, labN, cN, lfN⟩, ⟨y1, y2⟩⟩ := N
   simp only at hNk hNv hNo
   have hNk := hNk.symm
   subst hNk
   have rF := zAx ⟨_, hNo, hNv.2.w, hNv.2.rat, hNv.2.cnt, hNv.2.lft, hNv.2.lab⟩
   have rPm := zDv (fmtM_len hNv.2)
   rw [oPm_fmt hNv.1 hNv.2] at rPm
   have okR := ok_cM hNo
   have iN := zCk ⟨_, hNo, hNv.2.w⟩
   simp only [hNv.1] at iN
   obtain ⟨Q, hQ⟩ : ∃ Q, cM ⟨k, (tN1, tN2), (sN1, sN2), lvN, stN, raN, rcN, ptsN, labN, cN, lfN⟩ = Q := ⟨_, rfl⟩
   have hRR : cM Q = cM ⟨k, (tN1, tN2), (sN1, sN2), lvN, stN, raN, rcN, ptsN, labN, cN, lfN⟩ := by rw [← hQ]; exact cM_cM _
   have hQk : Q.kind = k := by rw [← hQ]; rfl
   rw [hQ] at rPm okR
   have sN := zDm okR hRR
   obtain ⟨kQ, ⟨tQ1, tQ2⟩, ⟨sQ1, sQ2⟩, lvQ, stQ, raQ, rcQ, ptsQ, labQ, cQ, lfQ⟩ := Q
   simp only at hQk
   have hQk := hQk.symm
   subst hQk
   simp only at rF
   generalize fmtM ⟨k, (tN1, tN2), (sN1, sN2), lvN, stN, raN, rcN, ptsN, labN, cN, lfN⟩ = Fx at rF rPm
   simp only [modC] at rF iN sN
   simp only [rModB] at rPm
   clear hRR hQ hNv hNo hstep hstepo hctl hctlo hD hW
   try simp -dsimp (maxSteps := 1000000) only [go_sem, List.forall_mem_nil, ↓reduceIte, Nat.reduceEqDiff, Nat.reduceLT, Nat.reduceLeDiff, Nat.reduceAdd, Nat.reduceMul, reduceCtorEq, Tryz.f4, modC, tkb, tkz, tkn, zBc, zAg, zAl, zAa, zAb, Bool.not_true, Bool.not_false, Bool.or_self, Bool.and_self, Bool.and_true, Bool.true_and, Bool.false_and, Bool.or_false, Bool.false_or, bne_self_eq_false, beq_self_eq_true, rSm, hN, rMod, e5', rF, zAn, rPm, sN, zCs, iN, zBk, sM]
 · rw [rRs_f (hRk _ eR)] at rR
   have e5' := eq_true e5
   try simp -dsimp (maxSteps := 1000000) only [go_sem, List.forall_mem_nil, ↓reduceIte, Nat.reduceEqDiff, Nat.reduceLT, Nat.reduceLeDiff, Nat.reduceAdd, Nat.reduceMul, reduceCtorEq, Tryz.f4, zAl, modC, zAp, rModB, rZf, eR, eC, hT, rR, zCq, rf3, oFresh, zDf, rNew]
   repeat' ((with_reducible refine sl_i ?_ ?_); focus kernel_rfl)
   rintro ⟨b3, l3, h3⟩
   try simp -dsimp (maxSteps := 1000000) only [go_sem, List.forall_mem_nil, ↓reduceIte, Nat.reduceEqDiff, Nat.reduceLT, Nat.reduceLeDiff, Nat.reduceAdd, Nat.reduceMul, reduceCtorEq, Tryz.f4, modC, tkb, tkz, tkn, zBc, zAg, zAl, zAa, zAb, rmp b3 l3 h3, zEu, oPnU, ne_p32]
   rintro ⟨⟨u, v⟩, hu, hv2⟩
   have rCc := zCx hok hv u v
   rw [rCs_f (hCk _ eC)] at rCc
   simp only [modC, rZf] at rCc
   try simp -dsimp (maxSteps := 1000000) only [go_sem, List.forall_mem_nil, ↓reduceIte, Nat.reduceEqDiff, Nat.reduceLT, Nat.reduceLeDiff, Nat.reduceAdd, Nat.reduceMul, reduceCtorEq, Tryz.f4, modC, tkb, tkz, tkn, zBc, zAg, zAl, zAa, zAb, Bool.not_true, Bool.not_false, Bool.or_self, Bool.and_self, Bool.and_true, Bool.true_and, Bool.false_and, Bool.or_false, Bool.false_or, bne_self_eq_false, beq_self_eq_true, rModB, rZf, eR, eC, hT, rCc, zDe, rT, oTl, ne_pt, zEs]
   repeat' ((with_reducible refine ro_i ?_ ?_); focus kernel_rfl)
   rintro ⟨p1, p2⟩
   try simp -dsimp (maxSteps := 1000000) only [go_sem, List.forall_mem_nil, ↓reduceIte, Nat.reduceEqDiff, Nat.reduceLT, Nat.reduceLeDiff, Nat.reduceAdd, Nat.reduceMul, reduceCtorEq, Tryz.f4, modC, tkb, tkz, tkn, zBc, zAg, zAl, zAa, zAb, Bool.not_true, Bool.not_false, Bool.or_self, Bool.and_self, Bool.and_true, Bool.true_and, Bool.false_and, Bool.or_false, Bool.false_or, bne_self_eq_false, beq_self_eq_true, rModB, rZf, eR, eC, hT, rCc, zCs, zBk, rf5, oFresh, zDf, rNew]
   rintro ⟨b5, l5, h5b⟩
   try simp -dsimp (maxSteps := 1000000) only [go_sem, List.forall_mem_nil, ↓reduceIte, Nat.reduceEqDiff, Nat.reduceLT, Nat.reduceLeDiff, Nat.reduceAdd, Nat.reduceMul, reduceCtorEq, Tryz.f4, modC, tkb, tkz, tkn, zBc, zAg, zAl, zAa, zAb, Bool.not_true, Bool.not_false, Bool.or_self, Bool.and_self, Bool.and_true, Bool.true_and, Bool.false_and, Bool.or_false, Bool.false_or, bne_self_eq_false, beq_self_eq_true, rmf b5 l5 h5b, zCd, oFlU, ne_n32]
   rintro ⟨f5, g5⟩
   try simp -dsimp (maxSteps := 1000000) only [go_sem, List.forall_mem_nil, ↓reduceIte, Nat.reduceEqDiff, Nat.reduceLT, Nat.reduceLeDiff, Nat.reduceAdd, Nat.reduceMul, reduceCtorEq, Tryz.f4, modC, tkb, tkz, tkn, zBc, zAg, zAl, zAa, zAb, Bool.not_true, Bool.not_false, Bool.or_self, Bool.and_self, Bool.and_true, Bool.true_and, Bool.false_and, Bool.or_false, Bool.false_or, bne_self_eq_false, beq_self_eq_true, rf7, oFresh, zDf, rNew]
   rintro ⟨b7, l7, h7b⟩
   try simp -dsimp (maxSteps := 1000000) only [go_sem, List.forall_mem_nil, ↓reduceIte, Nat.reduceEqDiff, Nat.reduceLT, Nat.reduceLeDiff, Nat.reduceAdd, Nat.reduceMul, reduceCtorEq, Tryz.f4, modC, tkb, tkz, tkn, zBc, zAg, zAl, zAa, zAb, Bool.not_true, Bool.not_false, Bool.or_self, Bool.and_self, Bool.and_true, Bool.true_and, Bool.false_and, Bool.or_false, Bool.false_or, bne_self_eq_false, beq_self_eq_true, rmf b7 l7 h7b, zCd, oFlU, ne_n32]
   rintro ⟨f7, g7⟩
   try simp -dsimp (maxSteps := 1000000) only [go_sem, List.forall_mem_nil, ↓reduceIte, Nat.reduceEqDiff, Nat.reduceLT, Nat.reduceLeDiff, Nat.reduceAdd, Nat.reduceMul, reduceCtorEq, Tryz.f4, modC, tkb, tkz, tkn, zBc, zAg, zAl, zAa, zAb, Bool.not_true, Bool.not_false, Bool.or_self, Bool.and_self, Bool.and_true, Bool.true_and, Bool.false_and, Bool.or_false, Bool.false_or, bne_self_eq_false, beq_self_eq_true, rS, oSm, ne_or, zEt]
   intro o
   have hNv := hstep o (f5, f7) ⟨g5, g7⟩
   have hNk := hstepk o (f5, f7)
   have hNo := hstepo o (f5, f7)
   have hNz := h5 e5 o (f5, f7)
   obtain ⟨N, hN⟩ : ∃ N, stepF o ⟨k, (t1, t2), (s1, s2), lv, st, ra, rc, pts, lab, c, lf⟩ (f5, f7) = N := ⟨_, rfl⟩
   rw [hN] at hNv hNk hNo hNz
   obtain ⟨⟨kN, ⟨tN1, tN2⟩, ⟨sN1, sN2⟩, lvN, stN, raN, rcN, ptsN, labN, cN, lfN⟩, ⟨y1, y2⟩⟩ := N
   simp only at hNk hNv hNo hNz
   have hNk := hNk.symm
   subst hNk
   obtain ⟨rfl, rfl⟩ : y1 = f5 ∧ y2 = f7 := by simpa using hNz
   have rMs : zFr.run [.c (.im (.sl 1 [[.cpx .f32 y1 y2]])), .c (.im (.sl 1 [[.cpx .f32 y1 y2]]))] [] = some (.one { val := .c (.im (.bool true)) }) := run_MakeSame (l := [(y1, y2)]) (by simp [sm])
   have rF := zAx ⟨_, hNo, hNv.2.w, hNv.2.rat, hNv.2.cnt, hNv.2.lft, hNv.2.lab⟩
   have rPm := zDv (fmtM_len hNv.2)
   rw [oPm_fmt hNv.1 hNv.2] at rPm
   have okR := ok_cM hNo
   have iN := zCk ⟨_, hNo, hNv.2.w⟩
   simp only [hNv.1] at iN
   obtain ⟨Q, hQ⟩ : ∃ Q, cM ⟨k, (tN1, tN2), (sN1, sN2), lvN, stN, raN, rcN, ptsN, labN, cN, lfN⟩ = Q := ⟨_, rfl⟩
   have hRR : cM Q = cM ⟨k, (tN1, tN2), (sN1, sN2), lvN, stN, raN, rcN, ptsN, labN, cN, lfN⟩ := by rw [← hQ]; exact cM_cM _
   have hQk : Q.kind = k := by rw [← hQ]; rfl
   rw [hQ] at rPm okR
   have sN := zDm okR hRR
   obtain ⟨kQ, ⟨tQ1, tQ2⟩, ⟨sQ1, sQ2⟩, lvQ, stQ, raQ, rcQ, ptsQ, labQ, cQ, lfQ⟩ := Q
   simp only at hQk
   have hQk := hQk.symm
   subst hQk
   simp only at rF
   generalize fmtM ⟨k, (tN1, tN2), (sN1, sN2), lvN, stN, raN, rcN, ptsN, labN, cN, lfN⟩ = Fx at rF rPm
   simp only [modC] at rF iN sN
   simp only [rModB] at rPm
   clear hRR hQ hNv hNo hstep hstepo hctl hctlo hD hW
   try simp -dsimp (maxSteps := 1000000) only [go_sem, List.forall_mem_nil, ↓reduceIte, Nat.reduceEqDiff, Nat.reduceLT, Nat.reduceLeDiff, Nat.reduceAdd, Nat.reduceMul, reduceCtorEq, Tryz.f4, modC, tkb, tkz, tkn, zBc, zAg, zAl, zAa, zAb, Bool.not_true, Bool.not_false, Bool.or_self, Bool.and_self, Bool.and_true, Bool.true_and, Bool.false_and, Bool.or_false, Bool.false_or, bne_self_eq_false, beq_self_eq_true, rSm, hN, rMod, e5', rF, zAn, rPm, sN, zCs, iN, zBk, sM, rMs, sc_MakeSame, List.take_succ_cons, List.take_zero]
end Go.SX
namespace Go.SX
open Go Go.Proofs Go.RowKit Go.ChangeShapes
def laidL : List (String × DataW Unit) := [("math/bits.deBruijn32tab", YtfmpjhjnpeheeaaGreatDoor.Rows.laid_math_bits_deBruijn32tab), ("math/bits.deBruijn64tab", YtfmpjhjnpeheeaaGreatDoor.Rows.laid_math_bits_deBruijn64tab), ("internal/strconv.uint64pow10", YtfmpjhjnpeheeaaGreatDoor.Rows.laid_internal_strconv_uint64pow10), ("unicode/utf8.acceptRanges", YtfmpjhjnpeheeaaGreatDoor.Rows.laid_unicode_utf8_acceptRanges), ("strconv.ErrRange", YtfmpjhjnpeheeaaGreatDoor.Rows.laid_strconv_ErrRange), ("strconv.ErrSyntax", YtfmpjhjnpeheeaaGreatDoor.Rows.laid_strconv_ErrSyntax), ("unicode/utf8.first", YtfmpjhjnpeheeaaGreatDoor.Rows.laid_unicode_utf8_first)]
theorem lx1 : Tryz.prog.globalNamed "math/bits.deBruijn32tab" = some 1 := by kernel_rfl
theorem lx1t : (Tryz.prog.globals[1]?).map (·.type) = some 256 := by kernel_rfl
theorem lx1u : Tryz.prog.underlying 256 = some (.array 32 5) := by kernel_rfl
theorem lx1e : Tryz.prog.underlying 5 = some (.int .u8) := by kernel_rfl
theorem lx1c : Tryz.prog.cellsOf 5 = 1 := by kernel_rfl
theorem lx1d : Tryz.prog.cellsOf 256 = 32 := by kernel_rfl
theorem lx7 : Tryz.prog.globalNamed "internal/strconv.uint64pow10" = some 7 := by kernel_rfl
theorem lx7t : (Tryz.prog.globals[7]?).map (·.type) = some 308 := by kernel_rfl
theorem lx7u : Tryz.prog.underlying 308 = some (.array 20 247) := by kernel_rfl
theorem lx7e : Tryz.prog.underlying 247 = some (.int .u64) := by kernel_rfl
theorem lx7c : Tryz.prog.cellsOf 247 = 1 := by kernel_rfl
theorem lx7d : Tryz.prog.cellsOf 308 = 20 := by kernel_rfl
theorem lx3 : Tryz.prog.globalNamed "strconv.ErrSyntax" = some 3 := by kernel_rfl
theorem lx3t : (Tryz.prog.globals[3]?).map (·.type) = some 169 := by kernel_rfl
theorem lx4 : Tryz.prog.globalNamed "strconv.ErrRange" = some 4 := by kernel_rfl
theorem lx4t : (Tryz.prog.globals[4]?).map (·.type) = some 169 := by kernel_rfl
theorem lxS : "*" ++ "errors.errorString" = "*errors.errorString" := by decide
theorem lxR (u : TypeId) (h : Tryz.prog.typeName? 3 u = some "*errors.errorString") : u = 311 :=
 typeName_ptr_named (nm := "errors.errorString") (by rw [lxS]; kernel_rfl) (by kernel_rfl) (by decide) u (by rw [lxS]; exact h)
theorem lxc313 : Tryz.prog.cellsOf 313 = 1 := by kernel_rfl
theorem lxc9 : Tryz.prog.cellsOf 9 = 1 := by kernel_rfl
theorem lxd1 : YtfmpjhjnpeheeaaGreatDoor.Rows.laid_math_bits_deBruijn32tab = (Lib.tabData .u8 (Lib.deBruijn32tab.map fun (k : Nat) => (k : Int)) : DataW Unit) := by kernel_rfl
theorem lxd7 : YtfmpjhjnpeheeaaGreatDoor.Rows.laid_internal_strconv_uint64pow10 = (Lib.tabData .u64 Lib.pow10Tab : DataW Unit) := by kernel_rfl
theorem heap_var {P : Program} {w : World} {n : String} {g : Nat} {cs : Array Value} (hg : P.globalNamed n = some g) (h : w.var? P n = some cs) : ∃ e fr, w.heap[g]? = some (.cells cs e fr) := by
 unfold World.var? at h
 rw [hg] at h
 simp only [Option.bind_some] at h
 split at h
 · rename_i c e fr hh
   injection h with h
   subst h
   exact ⟨e, fr, hh⟩
 · cases h
theorem tab_reads {P : Program} {W : World} {name : String} {k : IntKind} {zs : List Int} {l : List (String × DataW Unit)} {g : Nat} {t e : TypeId} {n : Nat}
   (hg : P.globalNamed name = some g) (hty : (P.globals[g]?).map (·.type) = some t) (ht : P.underlying t = some (.array n e)) (he : P.underlying e = some (.int k)) (hce : P.cellsOf e = 1) (hct : P.cellsOf t = n)
   (h : laidMet P l W) (hm : (name, Lib.tabData k zs) ∈ l) : ∃ e fr, W.heap[g]? = some (.cells (zs.map fun z => Value.int k z).toArray e fr) := by
 obtain ⟨g', t', cs, fuel, p, hg', ht', hvar, hd⟩ := Lib.laidMet.reads h hm
 obtain rfl := Option.some.inj (hg.symm.trans hg')
 obtain rfl := Option.some.inj (hty.symm.trans ht')
 have := Lib.cells_of_tab ht he hce hct hd
 rw [← this]
 exact heap_var hg hvar
theorem lxM0 : ((begin Tryz.prog (fun _ _ => 0) default).world.heap[2]?).bind Obj.row? = some (#[.int .i64 0], 3) := by kernel_rfl
theorem lxMs : 2 < Tryz.prog.globals.size := of_decide_eq_true (by kernel_rfl)
theorem lxMb : Tryz.prog.buildable 3 = true := by kernel_rfl
theorem lxMt : Tryz.prog.cellTypes Tryz.prog.depth 3 = some [3] := by kernel_rfl
theorem lxMu : Tryz.prog.underlying 3 = some (.int .i64) := by kernel_rfl
set_option maxRecDepth 100000 in
theorem laid_of {W : World} (h : laidMetH Tryz.prog laidL W) (hs : W.ShapedOpen Tryz.prog) : Laid (fun _ => none) W := by
 rw [MakeChecks.laidMetH_plain _ _ _ (by kernel_rfl)] at h
 refine ⟨fun b cs hb => ⟨?_, rfl⟩, fun b hb => ⟨?_, rfl⟩, fun b hb => ⟨?_, rfl⟩⟩
 · simp only [globV, List.mem_cons, List.not_mem_nil, or_false, Prod.mk.injEq] at hb
   rcases hb with ⟨rfl, rfl⟩ | ⟨rfl, rfl⟩
   · have := tab_reads lx1 lx1t lx1u lx1e lx1c lx1d h (zs := Lib.deBruijn32tab.map fun (k : Nat) => (k : Int)) (by rw [← lxd1]; simp [laidL])
     simpa [List.map_map, Function.comp_def] using this
   · exact tab_reads lx7 lx7t lx7u lx7e lx7c lx7d h (zs := Lib.pow10Tab) (by rw [← lxd7]; simp [laidL])
 · simp only [globI, List.mem_cons, List.not_mem_nil, or_false] at hb
   rcases hb with rfl | rfl
   · obtain ⟨a0, s0, hv, _, _, _⟩ := laid_sentinel h.tail.tail.tail.tail.tail lx3 lx3t Tryz.underlying169 lxR Tryz.underlying311 Tryz.underlying313 rfl rfl Tryz.underlying9 lxc313 lxc9
     obtain ⟨e, fr, hh⟩ := heap_var lx3 hv
     exact ⟨_, _, e, fr, hh⟩
   · obtain ⟨a0, s0, hv, _, _, _⟩ := laid_sentinel h.tail.tail.tail.tail lx4 lx4t Tryz.underlying169 lxR Tryz.underlying311 Tryz.underlying313 rfl rfl Tryz.underlying9 lxc313 lxc9
     obtain ⟨e, fr, hh⟩ := heap_var lx4 hv
     exact ⟨_, _, e, fr, hh⟩
 · simp only [globN, List.mem_cons, List.not_mem_nil, or_false] at hb
   subst hb
   obtain ⟨cs, hh, hsz, hok⟩ := hs.1 2 _ _ lxMs lxM0
   obtain ⟨ts, hts, _, hc⟩ := hok lxMb
   rw [lxMt] at hts
   injection hts with hts
   subst hts
   obtain ⟨l⟩ := cs
   have hl : l.length = 1 := by simpa using hsz
   match l, hl with
   | [v], _ =>
     obtain ⟨u, hu, hv⟩ := hc 0 v (by simp)
     simp only [List.length_singleton, Nat.zero_mod, List.getElem?_cons_zero, Option.some.injEq] at hu
     subst hu
     unfold Cell.ok at hv
     rw [lxMu] at hv
     cases v <;> simp at hv
     obtain ⟨rfl, _⟩ := hv
     exact ⟨_, _, _, hh⟩
set_option maxRecDepth 100000 in
theorem laid_start (os : Os) (args : Array Value) : laidMetH Tryz.prog laidL ((World.laidAll Tryz.prog os laidL).forCall (fun _ _ => 0) ⟨#[], args, []⟩).memory := by
 rw [MakeChecks.laidMetH_plain _ _ _ (by kernel_rfl)]
 exact laidMet_laidAll _ (by kernel_rfl) (by kernel_rfl)
end Go.SX
namespace Go.SX
open Go Go.Proofs Go.RowKit
theorem run_law {l : List Int} (h : ∀ b ∈ l, 0 ≤ b ∧ b < 256) : ctLaw.run [.c (.im (.sl 1 (rowsB l)))] [] = some (.one { val := .c (.im (.bool true)) }) := by
 refine zAd (args := fun x : LB => ([D.c (.im (.sl 1 (rowsB x.1)))], [])) ?_ ⟨l, h⟩
 rintro ⟨a, _⟩ ⟨b, _⟩ h
 simp only [Prod.mk.injEq, List.cons.injEq, D.c.injEq, C.im.injEq, I.sl.injEq, true_and, and_true] at h
 exact Subtype.ext (rowsB_inj h)
theorem wf_u8 {n : Int} (h : (Lit.int .u8 n).wf = true) : 0 ≤ n ∧ n < 256 := by
 simp only [Lit.wf, Bool.and_eq_true, decide_eq_true_eq] at h
 obtain ⟨h1, h2⟩ := h
 have e1 : IntKind.u8.min = 0 := by decide
 have e2 : IntKind.u8.max = 255 := by decide
 omega
theorem row_IR {w : World} {a : Option Addr} {len cap : Nat} {zs : List Int}
   (h : (a = none ∧ len = 0 ∧ cap = 0 ∧ zs = []) ∨
     ∃ x, a = some x ∧ len ≤ cap ∧ cap ≤ maxLen ∧ zs.length = cap ∧ (∀ i, i < zs.length → w.cell? (x.add i) = some (.int .u8 (zs.getD i 0))) ∧ ∀ n ∈ zs, (Lit.int .u8 n).wf = true) :
   ∃ l : List Int, (∀ b ∈ l, 0 ≤ b ∧ b < 256) ∧ IR (stayG w).fz (.sl 1 (rowsB l)) (.slice a len cap) := by
 rcases h with ⟨rfl, rfl, rfl, rfl⟩ | ⟨x, rfl, hl, hm, hz, hx, hw⟩
 · exact ⟨[], by simp, .sl0 _ _ _⟩
 · by_cases h0 : len = 0
   · subst h0; exact ⟨[], by simp, .sl0 _ _ _⟩
   · have hlen : (zs.take len).length = len := by rw [List.length_take]; omega
     refine ⟨zs.take len, fun b hb => wf_u8 (hw b (List.mem_of_mem_take hb)), ?_⟩
     have hspot : x.spot = none := by
       have := hx 0 (by omega)
       simp only [Addr.add, if_true] at this
       unfold World.cell? at this
       split at this
       · split at this
         · cases this
         · rename_i hs; simpa using hs
       · cases this
     obtain ⟨b, o, s⟩ := x
     simp only at hspot
     subst hspot
     have key : ∀ (i : Nat) (r : List I) (j : Nat) (y : I), (rowsB (zs.take len))[i]? = some r → r[j]? = some y → ∃ v, (stayG w).fz b (o + i * 1 + j) = some v ∧ IR (stayG w).fz y v := by
       intro i r j y hr hy
       simp only [rowsB, List.getElem?_map, Option.map_eq_some_iff] at hr
       obtain ⟨p, hp, rfl⟩ := hr
       have hi : i < len := by have := (List.getElem?_eq_some_iff.1 hp).1; omega
       have h1 := hx i (by omega)
       rw [Go.SX.zCm] at h1
       rw [List.getElem?_take_of_lt hi] at hp
       have hg : zs.getD i 0 = p := by rw [List.getD_eq_getElem?_getD, hp]; rfl
       rw [hg] at h1
       match j, hy with
       | 0, hy => simp at hy; subst hy; exact ⟨_, by rw [Nat.mul_one, Nat.add_zero]; exact h1, .int _ _⟩
       | j + 1, hy => simp at hy
     obtain ⟨vs, hvs⟩ := zGr key
     have := IR.sl (fz := (stayG w).fz) 1 (rowsB (zs.take len)) b o cap vs (by rw [zAl, hlen]; exact hl) (fun i r hr => by
       simp only [rowsB, List.getElem?_map, Option.map_eq_some_iff] at hr
       obtain ⟨p, _, rfl⟩ := hr; rfl) (fun i r j y h1 h2 => (hvs i r j y h1 h2).1) (fun i r j y h1 h2 => (hvs i r j y h1 h2).2)
     rw [zAl, hlen] at this
     exact this
theorem law_walkL {P : Program} {f : FuncId} (hL : Law P f ctLaw) {w : World} (hlaid : Laid (fun _ => none) w) {a : Option Addr} {len cap : Nat} {zs : List Int}
   (h : (a = none ∧ len = 0 ∧ cap = 0 ∧ zs = []) ∨
     ∃ x, a = some x ∧ len ≤ cap ∧ cap ≤ maxLen ∧ zs.length = cap ∧ (∀ i, i < zs.length → w.cell? (x.add i) = some (.int .u8 (zs.getD i 0))) ∧ ∀ n ∈ zs, (Lit.int .u8 n).wf = true) :
   Calls P f #[.slice a len cap] w fun e w' => e = .returned (.bool true) ∧ Below w.heap.size w w' := by
 obtain ⟨l, hl, hir⟩ := row_IR h
 refine (law_calls hL (ds := [.c (.im (.sl 1 (rowsB l)))]) (args := [.slice a len cap]) (i := .bool true) rfl w hlaid (run_law hl) rfl (fun t d v hd hv => ?_)).mono fun e w' ⟨v, he, hv, hb⟩ => ?_
 · cases t with
   | zero => simp at hd hv; subst hd; subst hv; exact .c _ _ (.im _ _ hir)
   | succ t => simp at hd
 · rw [hv.bool_inv] at he; exact ⟨he, hb⟩
end Go.SX
namespace Go.Proofs.YtfmpjhjnpeheeaaGreatDoor.fnPowers
open Go.ChangeShapes Go.WideShapes Go.ChangeAt Go.RowKit
open Go.ChangeMaps (open_string shut_string)
theorem own : ownKnob Tryz.prog.godebug = none := by kernel_rfl
theorem laidOut : laidOutB Tryz.prog = true := by kernel_rfl
def IsRow (k : IntKind) (w : World) (a : Option Addr) (len cap : Nat) (zs : List Int) : Prop :=
 (a = none ∧ len = 0 ∧ cap = 0 ∧ zs = []) ∨
 ∃ x, a = some x ∧ len ≤ cap ∧ cap ≤ maxLen ∧ zs.length = cap ∧ (∀ i, i < zs.length → w.cell? (x.add i) = some (.int k (zs.getD i 0))) ∧ ∀ n ∈ zs, (Lit.int k n).wf = true
theorem walk (a0 : Option Addr) (len0 cap0 : Nat) (z0 : List Int) (w : World) (w0 : IsRow .u8 w a0 len0 cap0 z0) (hl : Go.SX.Laid (fun _ => none) w) :
   Calls Tryz.prog 4 #[.slice a0 len0 cap0] w fun e w' => e = .returned (.bool true) ∧ Below w.heap.size w w' := by
 exact Go.SX.law_walkL Go.SX.law_FnPowers hl w0
theorem reads (os : Os) {H : Type} (enc : TypeId × Value → H) : ∃ places, DataW.whole enc Tryz.prog ((World.laidAll Tryz.prog os Go.SX.laidL).forCall (fun _ _ => 0) ⟨#[], #[.slice none 0 0], []⟩).memory (Tryz.f4).params.toList Rows.fnPowersSpec.vars false #[Value.slice none 0 0].toList 8 = some ([.nil], [], places) :=
 ⟨[], by kernel_rfl⟩
set_option maxRecDepth 100000 in
theorem lifted (os : Os) (started : os.Started) (H : Type) (enc : TypeId × Value → H) (F : Stop.Interp) :
   ReturnsInHanded {} Tryz.checked os 4 .any ((OpenSpec.ofChange Rows.fnPowersSpec).preRow enc Tryz.prog Tryz.f4 Rows.fnPowersRow.domain false Rows.fnPowersRow.laid) (((OpenSpec.ofChange Rows.fnPowersSpec).at F).post enc Tryz.prog Tryz.f4 false true false false) := by
 obtain ⟨places, hx⟩ := reads os enc
 refine returnsInHanded_of_row (C := Tryz.checked) (s := OpenSpec.ofChange Rows.fnPowersSpec) own started (by kernel_rfl) Tryz.func4
   ⟨World.laidAll Tryz.prog os Go.SX.laidL, fun _ _ => 0, ⟨#[], #[.slice none 0 0], []⟩, World.laidAll_os _ _ _, World.shaped_of_ZipB (by kernel_rfl) (by kernel_rfl), rfl, (Input.okWide_of_okWideB (base := (World.laidAll Tryz.prog os Go.SX.laidL).heap.size) (by kernel_rfl)).2,
     OpenSpec.preRow_of_cond 8 hx (by kernel_rfl) (fun k hk => by cases hk) (by kernel_rfl) (Go.SX.laid_start os _), by
       simp only [Assume.holds]
       exact ⟨by simp, by simp, fun _ => Modest.zero, by simp, by simp⟩⟩ ?_
 intro W base args ds gs before hval0 hW _ _ _ hL hsh _
 have hval : ∀ (j : Nat) t v, (Tryz.f4).params[j]? = some t → args[j]? = some v → Value.okWide Tryz.prog W .any base t v := hval0
 have hW' := hW
 obtain ⟨p, q, hA0, hV, rfl, hfz, hnd⟩ := hW
 have hA : DataW.TrodAll enc Tryz.prog W 0 (fun _ => true) true (Tryz.f4).params.toList args.toList ds p := hA0
 rw [Tryz.params4] at hA hval
 obtain ⟨v0, vs0, d0, ds0, p0, q0, hargs, rfl, rfl, h0, r0⟩ := trodAll_cons hA
 obtain ⟨rfl, rfl, rfl⟩ := trodAll_nil r0
 obtain rfl : args = #[v0] := by cases args; simp_all
 obtain ⟨rfl, rfl⟩ := trodVars_none hV
 obtain ⟨a0, len0, cap0, rfl⟩ := okWide_slice Tryz.underlying37 (hval 0 37 v0 rfl rfl)
 have k0 := h0
 have lt0 : ∀ x ∈ p0, x.block < W.heap.size := by obtain ⟨m, hm⟩ := k0; exact DataW.trod_lt m _ _ _ hm
 obtain ⟨z0, w0⟩ : ∃ zs, IsRow .u8 W a0 len0 cap0 zs := by
   obtain ⟨fuel, hf⟩ := h0
   rcases open_ints Tryz.underlying37 Tryz.underlying5 (by kernel_rfl) hf with ⟨hcs, _⟩ | ⟨x, l, c, zs, hcs, _, hl, hm, hz, _, hcell, hwz⟩
   · simp [Value.cells] at hcs
     obtain ⟨rfl, rfl, rfl⟩ := hcs
     exact ⟨[], .inl ⟨rfl, rfl, rfl, rfl⟩⟩
   · simp [Value.cells] at hcs
     obtain ⟨rfl, rfl, rfl⟩ := hcs
     exact ⟨zs, .inr ⟨_, rfl, hl, hm, by simpa using hz, hcell, hwz⟩⟩
 clear hA0 hval0
 refine (walk a0 len0 cap0 z0 W w0 (Go.SX.laid_of hL hsh)).mono fun e W' ⟨he, bel⟩ => ?_
 subst he
 exact ⟨_, rfl, _, _, _, [], _, [], hW', trodAll_mk1 (shut_bool Tryz.underlying4 _), (trodAll_cons_mk (Below.trod laidOut (by kernel_rfl) (of_decide_eq_true (by kernel_rfl)) k0 bel lt0) trodAll_mk0), rfl, bel.frame _, fun h => by cases h⟩
theorem said : Rows.FnPowersSaid :=
 OpenClaim.holds_of_cond 4 Tryz.f4 rfl rfl rfl rfl rfl rfl rfl ⟨rfl, rfl, rfl, rfl, rfl⟩ rfl rfl rfl rfl rfl (by kernel_rfl) Tryz.func4 (by kernel_rfl)
   (of_decide_eq_true (by kernel_rfl)) (by unfold Func.isWrapper; first | (rw [if_pos (by decide +kernel)]; kernel_rfl) | (rw [if_neg (by decide +kernel)]; exact ⟨rfl, rfl⟩))
   (fun os started H enc _ F => by rw [OpenClaim.pre_eq_preRow]; exact lifted os started H enc F)
theorem plain (f : FuncId) (fn : Func) (hf : Tryz.pinned.checked.prog.funcNamed "loop.example/g03223/laws.FnPowers" = some f) (hfn : Tryz.pinned.checked.prog.funcs[f]? = some fn) :
   true = Tryz.pinned.checked.prog.looks [] ∧ ∀ (j : Nat) t, fn.params[j]? = some t → Tryz.pinned.checked.prog.wantsStandIn t = false := by
 obtain rfl : f = 4 := Option.some.inj ((show Tryz.prog.funcNamed "loop.example/g03223/laws.FnPowers" = some 4 by kernel_rfl).symm.trans hf) |>.symm
 obtain rfl : fn = Tryz.f4 := (Option.some.inj ((Tryz.func4).symm.trans hfn)).symm
 refine ⟨by kernel_rfl, fun j t ht => ?_⟩
 rw [Tryz.params4] at ht
 obtain rfl : t = 37 := by simpa using Array.mem_of_getElem? ht
 exact (show Tryz.prog.wantsStandIn 37 = false by kernel_rfl)
theorem proved : Rows.FnPowersCardSaid :=
 Claim7.holds_tied_plain_at .later [] _ _ _ _ said (fun _ h => by cases h) (by kernel_rfl) (fun _ h => by cases h) fnPowers_row_tie rfl ⟨rfl, rfl⟩ (by kernel_rfl) rfl plain (by kernel_rfl)
#print axioms proved
end Go.Proofs.YtfmpjhjnpeheeaaGreatDoor.fnPowers
