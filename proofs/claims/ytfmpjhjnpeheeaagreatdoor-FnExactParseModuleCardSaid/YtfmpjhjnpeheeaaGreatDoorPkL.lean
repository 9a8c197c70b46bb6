/-
  spec.FormatModule, at every valid module whose words are below 2^32.
  What spec.ParseModule gives is what impl's gives: plain words.
  spec.ParseModule gives what impl.ParseModule gives.
  laws.FnExactParseModule returns true at every text.
  What the rows' lists give: the package variables of 'Laid' hold what they are to hold.
  From a law over one string to the call of it.
  FnExactParseModule: the given statement's card: the law returns true at every input, which reads behind the call as it did. The frame: lines of the kit's printed shell for a law over a string, and of the guide's page on a row that lists variables.
  No condition.
-/
import Derived.Test.YtfmpjhjnpeheeaaGreatDoorRows
import Derived.Test.YtfmpjhjnpeheeaaGreatDoorCards
import Derived.Test.YtfmpjhjnpeheeaaGreatDoorTie
import Derived.WalkKit
import Derived.ProofKit
import Derived.OpenShut
import Derived.Lay
import Derived.MakeChecks
import Derived.Deep.DeepHandedRow
import Derived.Lib.LaidTab
import Derived.Lib.LaidU8
import Derived.Stop.LaidErr
import Derived.SevenTiedAt
import Derived.Test.YtfmpjhjnpeheeaaGreatDoorPkK
set_option linter.unusedVariables false
set_option linter.unusedSimpArgs false
namespace Go.SX
open Go Go.Proofs Ieee
set_option maxRecDepth 100000 in
set_option maxHeartbeats 16000000 in
theorem law_sFormatModule : Law Tryz.prog 38 zCk := by
 refine zAk (zAc law_sIsModuleA (zAc law_l8Point (zAc law_l8Single (zAc law_l8Int zAf)))) hmixA Tryz.func38 rfl rfl (fun ⟨m, ok, hw, hrat, hcnt, hlft, hlab⟩ => ⟨zAt rfl, by simp [Tryz.f38], ?_⟩)
 simp only
 have hsm : sm = 16777216 := rfl
 have ri := run_sIsModuleA ⟨m, ok, hw⟩
 simp only at ri
 have big : ∀ n : Nat, n ≤ 1000000000000 → (n ≤ 4611686018427387904) = True := fun n h => eq_true (by omega)
 cases hv : isModuleF m with
 | false =>
   have hT : fmtM m = [] := by simp [fmtM, hv]
   rw [hT]
   rw [hv] at ri
   obtain ⟨k, ⟨t1, t2⟩, ⟨s1, s2⟩, lv, st, ra, rc, pts, lab, c, lf⟩ := m
   simp only [modC] at ri ⊢
   try simp -dsimp (maxSteps := 1000000) only [go_sem, List.forall_mem_nil, ↓reduceIte, Nat.reduceEqDiff, Nat.reduceLT, Nat.reduceLeDiff, Nat.reduceAdd, Nat.reduceMul, reduceCtorEq, Tryz.f38, ri, Bool.not_false]
 | true =>
   have hT : fmtM m = nameT m.kind ++ behind (restW m) := by simp [fmtM, hv]
   rw [hT]
   rw [hv] at ri
   rcases zCh hv with ⟨⟨t1, t2⟩, ⟨s1, s2⟩, e⟩ | ⟨⟨t1, t2⟩, ⟨s1, s2⟩, e⟩ | ⟨l, e⟩ | ⟨st, a, e, hr⟩ | e | ⟨pts, lab, c, e, ht⟩ | ⟨l, e, hl⟩ | ⟨⟨s1, s2⟩, c, l, e, h1, h2, h3, h4⟩
   · subst e
     have rp := zBx hw.turn.1 hw.turn.2
     have rq := zBx hw.state.1 hw.state.2
     have la := zEw hw.turn
     have lb := zEw hw.state
     have hfin : nameT 1 ++ behind (restW ⟨1, (t1, t2), (s1, s2), 0, [], 0, 0, [], [], 0, 0⟩) = [115, 111, 117, 114, 99, 101, 32] ++ ptT (t1, t2) ++ [32] ++ ptT (s1, s2) := by simp [restW, nameT, sourceT, behind, ptW, ptT]
     simp only [modC] at ri rp rq ⊢
     rw [hfin]
     simp only at la lb
     generalize ptT (t1, t2) = A at *
     generalize ptT (s1, s2) = B at *
     have q1 : (7 + A.length ≤ 4611686018427387904) = True := eq_true (by omega)
     have q2 : (A.length ≤ 4611686018427387896) = True := eq_true (by omega)
     have q3 : ((A ++ [32]).length + 1 + 1 + 1 + 1 + 1 + 1 + 1 + B.length ≤ 4611686018427387904) = True := eq_true (by simp only [List.length_cons, List.length_append, List.length_nil]; omega)
     clear big
     try simp -dsimp (maxSteps := 1000000) only [go_sem, List.forall_mem_nil, ↓reduceIte, Nat.reduceEqDiff, Nat.reduceLT, Nat.reduceLeDiff, Nat.reduceAdd, Nat.reduceMul, reduceCtorEq, Tryz.f38, ri, rp, rq, q1, q2, q3, zBr, List.size_toArray, Nat.reduceAdd, Int.reduceEq, Bool.not_true]
     repeat' (first
       | ((with_reducible refine sl_i ?_ ?_); focus kernel_rfl)
       | ((with_reducible refine ro_e ?_); kernel_rfl))
   · subst e
     have rp := zBx hw.turn.1 hw.turn.2
     have rq := zBx hw.state.1 hw.state.2
     have la := zEw hw.turn
     have lb := zEw hw.state
     have hfin : nameT 2 ++ behind (restW ⟨2, (t1, t2), (s1, s2), 0, [], 0, 0, [], [], 0, 0⟩) = [109, 105, 120, 101, 114, 32] ++ ptT (t1, t2) ++ [32] ++ ptT (s1, s2) := by simp [restW, nameT, mixerT, behind, ptW, ptT]
     simp only [modC] at ri rp rq ⊢
     rw [hfin]
     simp only at la lb
     generalize ptT (t1, t2) = A at *
     generalize ptT (s1, s2) = B at *
     have q1 : (6 + A.length ≤ 4611686018427387904) = True := eq_true (by omega)
     have q2 : (A.length ≤ 4611686018427387897) = True := eq_true (by omega)
     have q3 : ((A ++ [32]).length + 1 + 1 + 1 + 1 + 1 + 1 + B.length ≤ 4611686018427387904) = True := eq_true (by simp only [List.length_cons, List.length_append, List.length_nil]; omega)
     clear big
     try simp -dsimp (maxSteps := 1000000) only [go_sem, List.forall_mem_nil, ↓reduceIte, Nat.reduceEqDiff, Nat.reduceLT, Nat.reduceLeDiff, Nat.reduceAdd, Nat.reduceMul, reduceCtorEq, Tryz.f38, ri, rp, rq, q1, q2, q3, zBr, List.size_toArray, Nat.reduceAdd, Int.reduceEq, Bool.not_true]
     repeat' (first
       | ((with_reducible refine sl_i ?_ ?_); focus kernel_rfl)
       | ((with_reducible refine ro_e ?_); kernel_rfl))
   · subst e
     have rp := zBo hw.level
     have la := zCt hw.level
     simp only at rp la
     have hfin : nameT 3 ++ behind (restW ⟨3, (0, 0), (0, 0), l, [], 0, 0, [], [], 0, 0⟩) = [103, 97, 105, 110, 32] ++ sglT l := by simp [restW, nameT, gainT, behind]
     simp only [modC] at ri rp ⊢
     rw [hfin]
     generalize sglT l = A at *
     have q1 := big (5 + A.length) (by omega)
     clear big
     try simp -dsimp (maxSteps := 1000000) only [go_sem, List.forall_mem_nil, ↓reduceIte, Nat.reduceEqDiff, Nat.reduceLT, Nat.reduceLeDiff, Nat.reduceAdd, Nat.reduceMul, reduceCtorEq, Tryz.f38, ri, rp, q1, zBr, List.size_toArray, Nat.reduceAdd, Int.reduceEq, Bool.not_true]
   · subst e
     have hst := ok.store
     have hws := hw.store
     simp only at hst hrat hws
     have ra := zFq hrat
     have la := zBj hrat
     have hfin : nameT 4 ++ behind (restW ⟨4, (0, 0), (0, 0), 0, st, a, (st.length : Int), [], [], 0, 0⟩) = [100, 101, 108, 97, 121, 32] ++ Lib.itoa a ++ behind (ptsW st) := by simp [restW, nameT, delayT, behind]
     simp only [modC] at ri ⊢
     rw [hfin]
     clear hv hT
     have hT2 : behind (ptsW (st.take st.length)) = behind (ptsW st) := by rw [List.take_length]
     generalize Lib.itoa a = A at *
     have q1 := big (6 + A.length) (by omega)
     try simp -dsimp (maxSteps := 1000000) only [go_sem, List.forall_mem_nil, ↓reduceIte, Nat.reduceEqDiff, Nat.reduceLT, Nat.reduceLeDiff, Nat.reduceAdd, Nat.reduceMul, reduceCtorEq, Tryz.f38, ri, ra, q1, zAa, zBr, List.size_toArray, List.length_append, Nat.reduceAdd, Int.reduceEq, Bool.not_true]
     refine zBc (ι := { k : Nat // k ≤ st.length }) (fun k => ⟨[(3, some (.c (.im (.str ⟨([100, 101, 108, 97, 121, 32] ++ A ++ behind (ptsW (st.take k.1))).toArray⟩)))), (51, some (.c (.im (.sl 1 (rowsZ st))))), (52, some (.c (.im (.int .i64 (st.length : Int))))), (53, some (.c (.im (.int .i64 (k.1 : Int)))))],
       [], 0⟩) (fun k => st.length - k.1) ⟨0, by simp⟩ ⟨[], [], by ((simp only [go_sem, eq_self, MvRb, MvRn, MvRt, List.nodup_cons, List.nodup_nil, ↓reduceIte, Nat.reduceEqDiff, Nat.reduceLT, Nat.reduceLeDiff, reduceCtorEq, List.forall_mem_nil, Nat.zero_le, false_implies, List.mem_singleton, List.take_zero, ptsW, behind, List.flatMap_nil, List.append_nil]) <;> (try (simp -dsimp only [go_sem, eq_self, MvRb, MvRn, MvRt, List.nodup_cons, List.nodup_nil, ↓reduceIte, Nat.reduceEqDiff, Nat.reduceLT, Nat.reduceLeDiff, reduceCtorEq, List.forall_mem_nil, Nat.zero_le, false_implies, List.mem_singleton, List.take_zero, ptsW, behind, List.flatMap_nil, List.append_nil]))) <;> simp [lk, zCb]⟩ (fun ⟨k, hk⟩ => ?_)
     simp only
     by_cases hlt : k < st.length
     · obtain ⟨⟨u, v⟩, hp⟩ : ∃ p, st[k]? = some p := ⟨_, List.getElem?_eq_getElem hlt⟩
       have hrow := zCl hp
       have hI : ((k : Int) < (st.length : Int)) = True := eq_true (by omega)
       have h0 : (0 ≤ (k : Int)) = True := eq_true (by omega)
       have hwr := lt_sm hst hlt
       have w1 := hws _ (List.mem_of_getElem? hp)
       have rp := zBx w1.1 w1.2
       have l1 := zEw w1
       have l3 := zBq (st.take k) (fun p hp => hws p (List.mem_of_mem_take hp))
       have l4 : (st.take k).length ≤ st.length := by rw [List.length_take]; omega
       have hsn : [100, 101, 108, 97, 121, 32] ++ A ++ behind (ptsW (st.take (k + 1))) = [100, 101, 108, 97, 121, 32] ++ A ++ behind (ptsW (st.take k)) ++ [32] ++ ptT (u, v) := by
         rw [take_snoc' hp, ptsW_app, zDz]
         simp [ptsW, behind_pt]
       simp only at rp
       generalize ptT (u, v) = X at *
       generalize hO : [100, 101, 108, 97, 121, 32] ++ A ++ behind (ptsW (st.take k)) = O at *
       have lO : O.length ≤ 6 + A.length + 90 * st.length := by rw [← hO]; simp only [List.length_append, List.length_cons, List.length_nil]; omega
       have q0 := big (O.length + 1) (by omega)
       have q1 := big (O.length + 1 + X.length) (by omega)
       try simp -dsimp (maxSteps := 1000000) only [go_sem, List.forall_mem_nil, ↓reduceIte, Nat.reduceEqDiff, Nat.reduceLT, Nat.reduceLeDiff, Nat.reduceAdd, Nat.reduceMul, reduceCtorEq, Tryz.f38, hI, h0, Int.toNat_natCast, hrow, hwr, rp, q0, q1, zAa, zBr, List.size_toArray, List.length_append, Nat.reduceAdd, Int.reduceEq, Bool.not_true]
       refine ⟨⟨k + 1, by omega⟩, by simp only []; omega, [], [], ?_⟩
       ((simp only [go_sem, eq_self, MvRb, MvRn, MvRt, List.nodup_cons, List.nodup_nil, ↓reduceIte, Nat.reduceEqDiff, Nat.reduceLT, Nat.reduceLeDiff, reduceCtorEq, List.forall_mem_nil, Nat.zero_le, false_implies, List.mem_singleton]) <;> (try (simp -dsimp only [go_sem, eq_self, MvRb, MvRn, MvRt, List.nodup_cons, List.nodup_nil, ↓reduceIte, Nat.reduceEqDiff, Nat.reduceLT, Nat.reduceLeDiff, reduceCtorEq, List.forall_mem_nil, Nat.zero_le, false_implies, List.mem_singleton])))
       all_goals simp [lk, zCb]
       simpa using hsn.symm
     · have hI : ((k : Int) < (st.length : Int)) = False := eq_false (by omega)
       have hke : k = st.length := by omega
       subst hke
       rw [hT2]
       try simp -dsimp (maxSteps := 1000000) only [go_sem, List.forall_mem_nil, ↓reduceIte, Nat.reduceEqDiff, Nat.reduceLT, Nat.reduceLeDiff, Nat.reduceAdd, Nat.reduceMul, reduceCtorEq, Tryz.f38, hI]
   · subst e
     have hfin : nameT 5 ++ behind (restW ⟨5, (0, 0), (0, 0), 0, [], 0, 0, [], [], 0, 0⟩) = [115, 117, 109] := by simp [restW, nameT, sumT, behind]
     simp only [modC] at ri ⊢
     rw [hfin]
     clear big
     try simp -dsimp (maxSteps := 1000000) only [go_sem, List.forall_mem_nil, ↓reduceIte, Nat.reduceEqDiff, Nat.reduceLT, Nat.reduceLeDiff, Nat.reduceAdd, Nat.reduceMul, reduceCtorEq, Tryz.f38, ri, zBr, List.size_toArray, List.length_append, Nat.reduceAdd, Int.reduceEq, Bool.not_true]
   · subst e
     have hpl := ok.pts
     have hll := ok.lab
     have hw2 := hw.pts
     simp only at hpl hll hw2 hlab hcnt
     simp only [isTableF, Bool.and_eq_true, decide_eq_true_eq] at ht
     have hpeq := ht.1
     have ra := zFq hcnt
     have la := zBj hcnt
     have hfin : nameT 6 ++ behind (restW ⟨6, (0, 0), (0, 0), 0, [], 0, 0, pts, lab, c, 0⟩) = [115, 108, 105, 99, 101, 114, 32] ++ Lib.itoa c ++ behind (tabW pts lab) := by simp [restW, nameT, slicerT, behind]
     simp only [modC] at ri ⊢
     rw [hfin]
     clear ht hv hT
     have hT2 : behind (tabW (pts.take pts.length) (lab.take pts.length)) = behind (tabW pts lab) := by rw [List.take_length, hpeq, List.take_length]
     generalize Lib.itoa c = A at *
     have q1 := big (7 + A.length) (by omega)
     try simp -dsimp (maxSteps := 1000000) only [go_sem, List.forall_mem_nil, ↓reduceIte, Nat.reduceEqDiff, Nat.reduceLT, Nat.reduceLeDiff, Nat.reduceAdd, Nat.reduceMul, reduceCtorEq, Tryz.f38, ri, ra, q1, zAa, zBr, List.size_toArray, List.length_append, Nat.reduceAdd, Int.reduceEq, Bool.not_true]
     refine zBc (ι := { k : Nat // k ≤ pts.length }) (fun k => ⟨[(1, some (.c (.ptr 0 0 0 0))), (6, some (.c (.im (.str ⟨([115, 108, 105, 99, 101, 114, 32] ++ A ++ behind (tabW (pts.take k.1) (lab.take k.1))).toArray⟩)))), (72, some (.c (.im (.sl 1 (rowsZ pts))))), (73, some (.c (.im (.int .i64 (pts.length : Int))))), (74, some (.c (.im (.int .i64 (k.1 : Int)))))],
       [(0, some (.box [.t (.im (.int .i64 6)), .t (.im (.cpx .f32 0 0)), .t (.im (.cpx .f32 0 0)), .t (.im (.flt .f32 0)), .t (.im (.sl 1 (rowsZ []))), .t (.im (.int .i64 0)), .t (.im (.int .i64 0)), .t (.im (.sl 1 (rowsZ pts))), .t (.im (.sl 1 (rowsN lab))), .t (.im (.int .i64 c)), .t (.im (.int .i64 0))]))], 1⟩) (fun k => pts.length - k.1) ⟨0, by simp⟩ ⟨[], [0], by ((simp only [go_sem, eq_self, MvRb, MvRn, MvRt, List.nodup_cons, List.nodup_nil, ↓reduceIte, Nat.reduceEqDiff, Nat.reduceLT, Nat.reduceLeDiff, reduceCtorEq, List.forall_mem_nil, Nat.zero_le, false_implies, List.mem_singleton, List.take_zero, tabW, behind, List.flatMap_nil, List.append_nil]) <;> (try (simp -dsimp only [go_sem, eq_self, MvRb, MvRn, MvRt, List.nodup_cons, List.nodup_nil, ↓reduceIte, Nat.reduceEqDiff, Nat.reduceLT, Nat.reduceLeDiff, reduceCtorEq, List.forall_mem_nil, Nat.zero_le, false_implies, List.mem_singleton, List.take_zero, tabW, behind, List.flatMap_nil, List.append_nil]))) <;> simp [lk, zCb]⟩ (fun ⟨k, hk⟩ => ?_)
     simp only
     by_cases hlt : k < pts.length
     · obtain ⟨⟨u, v⟩, hp⟩ : ∃ p, pts[k]? = some p := ⟨_, List.getElem?_eq_getElem hlt⟩
       obtain ⟨n, hn⟩ : ∃ p, lab[k]? = some p := ⟨lab[k]'(by omega), List.getElem?_eq_getElem (by omega)⟩
       have hrow := zCl hp
       have hrow2 := zGi hn
       have hI : ((k : Int) < (pts.length : Int)) = True := eq_true (by omega)
       have hI2 : ((k : Int) < (lab.length : Int)) = True := eq_true (by omega)
       have h0 : (0 ≤ (k : Int)) = True := eq_true (by omega)
       have hwr := lt_sm hpl hlt
       have w1 := hw2 _ (List.mem_of_getElem? hp)
       have i1 := hlab n (List.mem_of_getElem? hn)
       have rp := zBx w1.1 w1.2
       have rn := zFq i1
       have l1 := zEw w1
       have l2 := zBj i1
       have l3 := tabW_len (pts.take k) (lab.take k) (fun p hp => hw2 p (List.mem_of_mem_take hp)) (fun p hp => hlab p (List.mem_of_mem_take hp))
       have l4 : (pts.take k).length ≤ pts.length := by rw [List.length_take]; omega
       have hsn : [115, 108, 105, 99, 101, 114, 32] ++ A ++ behind (tabW (pts.take (k + 1)) (lab.take (k + 1))) = [115, 108, 105, 99, 101, 114, 32] ++ A ++ behind (tabW (pts.take k) (lab.take k)) ++ [32] ++ ptT (u, v) ++ [32] ++ Lib.itoa n := by
         rw [tabW_snoc hpeq hp hn, zDz]
         simp [behind, ptT]
       simp only at rp
       generalize ptT (u, v) = X at *
       generalize Lib.itoa n = Y at *
       generalize hO : [115, 108, 105, 99, 101, 114, 32] ++ A ++ behind (tabW (pts.take k) (lab.take k)) = O at *
       have lO : O.length ≤ 7 + A.length + 120 * pts.length := by rw [← hO]; simp only [List.length_append, List.length_cons, List.length_nil]; omega
       have q0 := big (O.length + 1) (by omega)
       have q1 := big (O.length + 1 + X.length) (by omega)
       have q2 := big (O.length + 1 + X.length + 1) (by omega)
       have q3 := big (O.length + 1 + X.length + 1 + Y.length) (by omega)
       try simp -dsimp (maxSteps := 1000000) only [go_sem, List.forall_mem_nil, ↓reduceIte, Nat.reduceEqDiff, Nat.reduceLT, Nat.reduceLeDiff, Nat.reduceAdd, Nat.reduceMul, reduceCtorEq, Tryz.f38, hI, hI2, h0, Int.toNat_natCast, hrow, hrow2, hwr, rp, rn, q0, q1, q2, q3, zAa, zAb, zBr, List.size_toArray, List.length_append, Nat.reduceAdd, Int.reduceEq, Bool.not_true]
       repeat' (first
         | ((with_reducible refine sl_i ?_ ?_); focus kernel_rfl)
         | ((with_reducible refine ro_i ?_ ?_); focus kernel_rfl))
       refine ⟨⟨k + 1, by omega⟩, by simp only []; omega, [], [0], ?_⟩
       ((simp only [go_sem, eq_self, MvRb, MvRn, MvRt, List.nodup_cons, List.nodup_nil, ↓reduceIte, Nat.reduceEqDiff, Nat.reduceLT, Nat.reduceLeDiff, reduceCtorEq, List.forall_mem_nil, Nat.zero_le, false_implies, List.mem_singleton]) <;> (try (simp -dsimp only [go_sem, eq_self, MvRb, MvRn, MvRt, List.nodup_cons, List.nodup_nil, ↓reduceIte, Nat.reduceEqDiff, Nat.reduceLT, Nat.reduceLeDiff, reduceCtorEq, List.forall_mem_nil, Nat.zero_le, false_implies, List.mem_singleton])))
       all_goals simp [lk, zCb]
       simpa using hsn.symm
     · have hI : ((k : Int) < (pts.length : Int)) = False := eq_false (by omega)
       have hke : k = pts.length := by omega
       subst hke
       rw [hT2]
       try simp -dsimp (maxSteps := 1000000) only [go_sem, List.forall_mem_nil, ↓reduceIte, Nat.reduceEqDiff, Nat.reduceLT, Nat.reduceLeDiff, Nat.reduceAdd, Nat.reduceMul, reduceCtorEq, Tryz.f38, hI]
   · subst e
     have rp := zBo hw.level
     have la := zCt hw.level
     simp only at rp la
     have hfin : nameT 7 ++ behind (restW ⟨7, (0, 0), (0, 0), l, [], 0, 0, [], [], 0, 0⟩) = [109, 101, 116, 101, 114, 32] ++ sglT l := by simp [restW, nameT, meterT, behind]
     simp only [modC] at ri rp ⊢
     rw [hfin]
     generalize sglT l = A at *
     have q1 := big (6 + A.length) (by omega)
     clear big
     try simp -dsimp (maxSteps := 1000000) only [go_sem, List.forall_mem_nil, ↓reduceIte, Nat.reduceEqDiff, Nat.reduceLT, Nat.reduceLeDiff, Nat.reduceAdd, Nat.reduceMul, reduceCtorEq, Tryz.f38, ri, rp, q1, zBr, List.size_toArray, Nat.reduceAdd, Int.reduceEq, Bool.not_true]
   · subst e
     have ra := zFq hcnt
     have rl := zFq hlft
     have rp := zBx hw.state.1 hw.state.2
     have la := zBj hcnt
     have lb := zBj hlft
     have lc := zEw hw.state
     simp only at ra rl rp la lb lc
     have hfin : nameT 8 ++ behind (restW ⟨8, (0, 0), (s1, s2), 0, [], 0, 0, [], [], c, l⟩) = [104, 111, 108, 100, 32] ++ Lib.itoa c ++ [32] ++ Lib.itoa l ++ [32] ++ ptT (s1, s2) := by simp [restW, nameT, holdT, behind, ptW, ptT]
     simp only [modC] at ri ⊢
     rw [hfin]
     generalize Lib.itoa c = A at *
     generalize Lib.itoa l = B at *
     generalize ptT (s1, s2) = X at *
     have q1 : (5 + A.length ≤ 4611686018427387904) = True := eq_true (by omega)
     have q2 : (A.length ≤ 4611686018427387898) = True := eq_true (by omega)
     have q3 : ((A ++ [32]).length + 1 + 1 + 1 + 1 + 1 + B.length ≤ 4611686018427387904) = True := eq_true (by simp only [List.length_cons, List.length_append, List.length_nil]; omega)
     have q4 : ((A ++ [32] ++ B).length ≤ 4611686018427387898) = True := eq_true (by simp only [List.length_cons, List.length_append, List.length_nil]; omega)
     have q5 : ((A ++ [32] ++ B ++ [32]).length + 1 + 1 + 1 + 1 + 1 + X.length ≤ 4611686018427387904) = True := eq_true (by simp only [List.length_cons, List.length_append, List.length_nil]; omega)
     clear big
     try simp -dsimp (maxSteps := 1000000) only [go_sem, List.forall_mem_nil, ↓reduceIte, Nat.reduceEqDiff, Nat.reduceLT, Nat.reduceLeDiff, Nat.reduceAdd, Nat.reduceMul, reduceCtorEq, Tryz.f38, ri, ra, rl, rp, q1, q2, q3, q4, q5, zBr, List.size_toArray, Nat.reduceAdd, Int.reduceEq, Bool.not_true]
     repeat' (first
       | ((with_reducible refine sl_i ?_ ?_); focus kernel_rfl)
       | ((with_reducible refine ro_e ?_); kernel_rfl))
end Go.SX
namespace Go.SX
open Go Go.Proofs Ieee
theorem getD32 {l : List Pt} (h : ∀ p ∈ l, p.1 < 4294967296 ∧ p.2 < 4294967296) (i : Nat) : (l.getD i (0, 0)).1 < 4294967296 ∧ (l.getD i (0, 0)).2 < 4294967296 := by
 rw [List.getD_eq_getElem?_getD]
 cases hi : l[i]? with
 | none => exact zEx
 | some p => exact h p (List.mem_of_getElem? hi)
theorem ptsG_32 {k : Nat} : ∀ (f : Nat) (ws : List Txt) (l : List Pt), ptsG k f ws = some l → ∀ p ∈ l, p.1 < 4294967296 ∧ p.2 < 4294967296
 | 0, ws, l, h => by
   simp only [ptsG, Option.some.injEq] at h
   subst h; simp
 | f + 1, ws, l, h => by
   rw [ptsG] at h
   split at h
   · split at h
     · cases hr : ptsG k f (ws.drop k) with
       | none => rw [hr] at h; cases h
       | some r =>
         rw [hr] at h
         simp only [Option.map_some, Option.some.injEq] at h
         subst h
         intro p hp
         rcases List.mem_cons.1 hp with rfl | hp
         · exact ⟨sglP_lt _, sglP_lt _⟩
         · exact ptsG_32 f _ r hr p hp
     · cases h
   · injection h with h
     subst h; simp
theorem zHa (k : Nat) (ws : List Txt) : ∀ p ∈ (pPts k ws).1, p.1 < 4294967296 ∧ p.2 < 4294967296 := by
 unfold pPts
 cases h : ptsO k ws with
 | none => simp
 | some l => exact ptsG_32 _ _ _ h
theorem pPts_sm {k : Nat} (hk : 0 < k) (ws : List Txt) : (pPts k ws).1.length ≤ ws.length := by
 unfold pPts
 cases h : ptsO k ws with
 | none => simp
 | some l =>
   have := ptsG_len hk _ ws l (by omega) h
   show l.length ≤ _
   rw [this]
   exact Nat.div_le_self _ _
theorem labG_ok : ∀ (f : Nat) (ws : List Txt), (labG f ws).1.length ≤ f ∧ ∀ x ∈ (labG f ws).1, i64B x
 | 0, ws => by simp [labG]
 | f + 1, ws => by
   have ih := labG_ok f (ws.drop 3)
   rw [labG]
   split
   · split
     · refine ⟨by simp only [List.length_cons]; omega, fun x hx => ?_⟩
       rcases List.mem_cons.1 hx with rfl | hx
       · exact riF_bd _
       · exact ih.2 x hx
     · simp
   · simp
theorem wd_z (k : Int) : Wd (mod0 k) := ⟨⟨zEx, zEx, by simp [mod0], by simp [mod0], by simp [mod0]⟩, zDj, zDj, zDj, by simp [mod0]⟩
theorem wrdF_ok (w : Txt) {ws : List Txt} (hl : ws.length ≤ 1024) : OkM (wrdF w ws).1 ∧ Wd (wrdF w ws).1 := by
 have hsm : sm = 16777216 := rfl
 have z : OkM (mod0 0) := ⟨by simp [mod0], by simp [mod0], by simp [mod0]⟩
 unfold wrdF
 split
 · split
   · exact ⟨⟨by simp, by simp, by simp⟩, wd_2 (getD32 (zHa _ _) _) (getD32 (zHa _ _) _)⟩
   · exact ⟨z, wd_z 0⟩
 split
 · split
   · exact ⟨⟨by simp, by simp, by simp⟩, wd_2 (getD32 (zHa _ _) _) (getD32 (zHa _ _) _)⟩
   · exact ⟨z, wd_z 0⟩
 split
 · exact ⟨⟨by simp, by simp, by simp⟩, wd_1 (sglP_lt _)⟩
 split
 · exact ⟨⟨by simp, by simp, by simp⟩, wd_1 (sglP_lt _)⟩
 split
 · have h1 := pPts_sm (k := 2) (by decide) ws.tail
   have h2 : ws.tail.length ≤ 1024 := by rw [List.length_tail]; omega
   exact ⟨⟨by simp only []; omega, by simp, by simp⟩, ⟨⟨zEx, zEx, (by decide : (0 : Nat) < 4294967296), zHa _ _, by simp⟩, riF_bd _, zDj, zDj, by simp⟩⟩
 split
 · have h1 := pPts_sm (k := 3) (by decide) ws.tail
   have h2 : ws.tail.length ≤ 1024 := by rw [List.length_tail]; omega
   have h3 := labG_ok (ws.length + 1) (ws.drop 3)
   unfold pSlc
   exact ⟨⟨by simp, by simp only []; omega, by simp only []; omega⟩, ⟨⟨zEx, zEx, (by decide : (0 : Nat) < 4294967296), by simp, zHa _ _⟩, zDj, riF_bd _, zDj, h3.2⟩⟩
 split
 · split
   · exact ⟨⟨by simp, by simp, by simp⟩, ⟨⟨zEx, getD32 (zHa _ _) _, (by decide : (0 : Nat) < 4294967296), by simp, by simp⟩, zDj, riF_bd _, riF_bd _, by simp⟩⟩
   · exact ⟨z, wd_z 0⟩
 · exact ⟨z, wd_z 0⟩
theorem readM_wd (k : Int) (ps : List Txt) : Wd (readM k ps).1 := by
 unfold readM
 split
 · exact ⟨⟨zGq _ _, zGq _ _, by simp [mod0], by simp [mod0], by simp [mod0]⟩, zDj, zDj, zDj, by simp [mod0]⟩
 split
 · exact ⟨⟨zEx, zEx, rdS_lt _ _, by simp [mod0], by simp [mod0]⟩, zDj, zDj, zDj, by simp [mod0]⟩
 split
 · exact ⟨⟨zEx, zEx, by simp [mod0], (dlyP_ok _ _ _ (Nat.le_refl _)).2, by simp [mod0]⟩, rdI_b _ _, zDj, zDj, by simp [mod0]⟩
 split
 · exact ⟨⟨zEx, zEx, by simp [mod0], by simp [mod0], (slcP_ok _ _ _ (Nat.le_refl _)).2.2.1⟩, zDj, rdI_b _ _, zDj, (slcP_ok _ _ _ (Nat.le_refl _)).2.2.2⟩
 split
 · exact ⟨⟨zEx, zGq _ _, by simp [mod0], by simp [mod0], by simp [mod0]⟩, zDj, rdI_b _ _, rdI_b _ _, by simp [mod0]⟩
 · exact wd_z k
theorem implM_wd {s : Txt} {m : Mod} (h : implM s = some m) : Wd m := by
 unfold implM at h
 split at h
 · cases h
 · split at h
   · injection h with h
     subst h
     exact readM_wd _ _
   · cases h
theorem ptsG_T : ∀ (l : List Pt) (f : Nat), (∀ p ∈ l, p.1 < 4294967296 ∧ p.2 < 4294967296) → l.length < f → ptsG 2 f (ptsW l) = some (l.map cP)
 | l, 0, _, hf => by omega
 | [], f + 1, _, _ => by simp [ptsG, ptsW]
 | p :: l, f + 1, h, hf => by
   have ih := ptsG_T l f (fun q hq => h q (List.mem_cons_of_mem _ hq)) (by simp at hf; omega)
   have e : ptsW (p :: l) = sglT p.1 :: sglT p.2 :: ptsW l := by simp [ptsW, ptW]
   have hp := h p (by simp)
   rw [e, ptsG, if_pos (by simp)]
   have g0 : (sglT p.1 :: sglT p.2 :: ptsW l).getD 0 [] = sglT p.1 := rfl
   have g1 : (sglT p.1 :: sglT p.2 :: ptsW l).getD 1 [] = sglT p.2 := rfl
   rw [g0, g1, sglP_T hp.1, sglP_T hp.2, if_pos ⟨rfl, rfl⟩]
   simp only [List.drop_succ_cons, List.drop_zero, ih, Option.map_some, List.map_cons, cP]
theorem zHq : ∀ (l : List Pt), (ptsW l).length = 2 * l.length
 | [] => rfl
 | p :: l => by
   have e : ptsW (p :: l) = sglT p.1 :: sglT p.2 :: ptsW l := by simp [ptsW, ptW]
   rw [e]
   simp only [List.length_cons, zHq l]
   omega
theorem pPts_T {l : List Pt} (h : ∀ p ∈ l, p.1 < 4294967296 ∧ p.2 < 4294967296) : pPts 2 (ptsW l) = (l.map cP, true) := by
 have e : ptsO 2 (ptsW l) = some (l.map cP) := ptsG_T l _ h (by rw [zHq]; omega)
 unfold pPts
 rw [e]
 have : (ptsW l).length % 2 = 0 := by rw [zHq]; omega
 rw [this]; rfl
theorem ptsG_T3 : ∀ (l : List Pt) (n : List Int) (f : Nat), l.length = n.length → (∀ p ∈ l, p.1 < 4294967296 ∧ p.2 < 4294967296) → l.length < f → ptsG 3 f (tabW l n) = some (l.map cP)
 | l, n, 0, _, _, hf => by omega
 | [], n, f + 1, _, _, _ => by simp [ptsG, tabW]
 | p :: l, [], f + 1, hl, _, _ => by simp at hl
 | p :: l, x :: n, f + 1, hl, h, hf => by
   have ih := ptsG_T3 l n f (by simpa using hl) (fun q hq => h q (List.mem_cons_of_mem _ hq)) (by simp at hf; omega)
   have e : tabW (p :: l) (x :: n) = sglT p.1 :: sglT p.2 :: Lib.itoa x :: tabW l n := by simp [tabW]
   have hp := h p (by simp)
   rw [e, ptsG, if_pos (by simp)]
   have g0 : (sglT p.1 :: sglT p.2 :: Lib.itoa x :: tabW l n).getD 0 [] = sglT p.1 := rfl
   have g1 : (sglT p.1 :: sglT p.2 :: Lib.itoa x :: tabW l n).getD 1 [] = sglT p.2 := rfl
   rw [g0, g1, sglP_T hp.1, sglP_T hp.2, if_pos ⟨rfl, rfl⟩]
   simp only [List.drop_succ_cons, List.drop_zero, ih, Option.map_some, List.map_cons, cP]
theorem tabW_ln : ∀ (l : List Pt) (n : List Int), l.length = n.length → (tabW l n).length = 3 * l.length
 | [], _, _ => by simp [tabW]
 | _ :: _, [], h => by simp at h
 | p :: l, x :: n, h => by
   have e : tabW (p :: l) (x :: n) = sglT p.1 :: sglT p.2 :: Lib.itoa x :: tabW l n := by simp [tabW]
   rw [e]
   simp only [List.length_cons, tabW_ln l n (by simpa using h)]
   omega
theorem pPts_T3 {l : List Pt} {n : List Int} (hl : l.length = n.length) (h : ∀ p ∈ l, p.1 < 4294967296 ∧ p.2 < 4294967296) : pPts 3 (tabW l n) = (l.map cP, true) := by
 have e : ptsO 3 (tabW l n) = some (l.map cP) := ptsG_T3 l n _ hl h (by rw [tabW_ln l n hl]; omega)
 unfold pPts
 rw [e]
 have : (tabW l n).length % 3 = 0 := by rw [tabW_ln l n hl]; omega
 rw [this]; rfl
theorem labG_T : ∀ (l : List Pt) (n : List Int) (f : Nat), l.length = n.length → (∀ x ∈ n, i64B x) → l.length < f → labG f ((tabW l n).drop 2) = (n, true)
 | l, n, 0, _, _, hf => by omega
 | [], [], f + 1, _, _, _ => by simp [labG, tabW]
 | [], _ :: _, f + 1, hl, _, _ => by simp at hl
 | p :: l, [], f + 1, hl, _, _ => by simp at hl
 | p :: l, x :: n, f + 1, hl, h, hf => by
   have ih := labG_T l n f (by simpa using hl) (fun q hq => h q (List.mem_cons_of_mem _ hq)) (by simp at hf; omega)
   have e : (tabW (p :: l) (x :: n)).drop 2 = Lib.itoa x :: tabW l n := by simp [tabW]
   rw [e, labG, if_pos (by simp)]
   have g0 : (Lib.itoa x :: tabW l n).getD 0 [] = Lib.itoa x := rfl
   rw [g0, zHo (h x (by simp)), if_pos rfl]
   simp only [List.drop_succ_cons, ih]
theorem wrdF_T {m : Mod} (hv : isModuleF m = true) (hw : Wd m) (h5 : m.kind ≠ 5) : wrdF (nameT m.kind) (restW m) = (cM m, true) := by
 have c0 : cP (0, 0) = (0, 0) := by decide
 have w0 : cW 0 = 0 := by decide
 rcases zCh hv with ⟨t, s, rfl⟩ | ⟨t, s, rfl⟩ | ⟨l, rfl⟩ | ⟨st, a, rfl, hr⟩ | rfl | ⟨pts, lab, c, rfl, ht⟩ | ⟨l, rfl, hl⟩ | ⟨s, c, l, rfl, h1, h2, h3, h4⟩
 · have e : restW ⟨1, t, s, 0, [], 0, 0, [], [], 0, 0⟩ = ptsW [t, s] := by simp [restW, ptsW]
   have q := pPts_T (l := [t, s]) (by simp; exact ⟨hw.w.turn, hw.w.state⟩)
   rw [e]
   show wrdF (nameT 1) _ = _
   unfold wrdF
   rw [if_pos (by decide), q, if_pos (by simp)]
   simp [cM, c0, w0]
 · have e : restW ⟨2, t, s, 0, [], 0, 0, [], [], 0, 0⟩ = ptsW [t, s] := by simp [restW, ptsW]
   have q := pPts_T (l := [t, s]) (by simp; exact ⟨hw.w.turn, hw.w.state⟩)
   rw [e]
   show wrdF (nameT 2) _ = _
   unfold wrdF
   rw [if_neg (by decide), if_pos (by decide), q, if_pos (by simp)]
   simp [cM, c0, w0]
 · have e : restW ⟨3, (0, 0), (0, 0), l, [], 0, 0, [], [], 0, 0⟩ = [sglT l] := by simp [restW]
   have g0 : [sglT l].getD 0 [] = sglT l := rfl
   rw [e]
   show wrdF (nameT 3) _ = _
   unfold wrdF
   rw [if_neg (by decide), if_neg (by decide), if_pos (by decide), g0, sglP_T hw.w.level]
   simp [cM, c0, w0]
 · have e : restW ⟨4, (0, 0), (0, 0), 0, st, a, (st.length : Int), [], [], 0, 0⟩ = Lib.itoa a :: ptsW st := by simp [restW]
   have g0 : (Lib.itoa a :: ptsW st).getD 0 [] = Lib.itoa a := rfl
   have q := pPts_T (l := st) hw.w.store
   rw [e]
   show wrdF (nameT 4) _ = _
   unfold wrdF
   rw [if_neg (by decide), if_neg (by decide), if_neg (by decide), if_neg (by decide), if_pos (by decide), g0, zHo hw.rat, List.tail_cons, q]
   simp [cM, c0, w0]
 · exact absurd rfl h5
 · have e : restW ⟨6, (0, 0), (0, 0), 0, [], 0, 0, pts, lab, c, 0⟩ = Lib.itoa c :: tabW pts lab := by simp [restW]
   have g0 : (Lib.itoa c :: tabW pts lab).getD 0 [] = Lib.itoa c := rfl
   obtain ⟨hl, _⟩ := table_len ht
   have q := pPts_T3 hl hw.w.pts
   have q2 := labG_T pts lab ((Lib.itoa c :: tabW pts lab).length + 1) hl hw.lab (by rw [List.length_cons, tabW_ln _ _ hl]; omega)
   rw [e]
   show wrdF (nameT 6) _ = _
   unfold wrdF
   rw [if_neg (by decide), if_neg (by decide), if_neg (by decide), if_neg (by decide), if_neg (by decide), if_pos (by decide)]
   unfold pSlc
   rw [g0, zHo hw.cnt, List.tail_cons, q]
   simp only [List.drop_succ_cons, q2]
   simp [cM, c0, w0]
 · have e : restW ⟨7, (0, 0), (0, 0), l, [], 0, 0, [], [], 0, 0⟩ = [sglT l] := by simp [restW]
   have g0 : [sglT l].getD 0 [] = sglT l := rfl
   rw [e]
   show wrdF (nameT 7) _ = _
   unfold wrdF
   rw [if_neg (by decide), if_neg (by decide), if_neg (by decide), if_pos (by decide), g0, sglP_T hw.w.level]
   simp [cM, c0, w0]
 · have e : restW ⟨8, (0, 0), s, 0, [], 0, 0, [], [], c, l⟩ = Lib.itoa c :: Lib.itoa l :: ptsW [s] := by simp [restW, ptsW]
   have q := pPts_T (l := [s]) (by simp; exact hw.w.state)
   have g0 : (Lib.itoa c :: Lib.itoa l :: ptsW [s]).getD 0 [] = Lib.itoa c := rfl
   have g1 : (Lib.itoa c :: Lib.itoa l :: ptsW [s]).getD 1 [] = Lib.itoa l := rfl
   have gl : (Lib.itoa c :: Lib.itoa l :: ptsW [s]).length = 4 := by simp [zHq]
   rw [e]
   show wrdF (nameT 8) _ = _
   unfold wrdF
   rw [if_neg (by decide), if_neg (by decide), if_neg (by decide), if_neg (by decide), if_neg (by decide), if_neg (by decide), if_pos (by decide), gl, g0, g1, zHo hw.cnt, zHo hw.lft]
   simp only [List.drop_succ_cons, List.drop_zero, q]
   simp [cM, c0, w0]
theorem rest_len {m : Mod} (hv : isModuleF m = true) (h5 : m.kind ≠ 5) : 1 ≤ (restW m).length ∧ (restW m).length ≤ 299 := by
 rcases zCh hv with ⟨t, s, rfl⟩ | ⟨t, s, rfl⟩ | ⟨l, rfl⟩ | ⟨st, a, rfl, hr⟩ | rfl | ⟨pts, lab, c, rfl, ht⟩ | ⟨l, rfl, hl⟩ | ⟨s, c, l, rfl, h1, h2, h3, h4⟩
 · simp [restW, ptW]
 · simp [restW, ptW]
 · simp [restW]
 · have h : st.length ≤ 16 := by
     simp only [isRingF, Bool.and_eq_true, decide_eq_true_eq] at hr
     exact hr.1.2.1
   simp [restW, zHq]; omega
 · exact absurd rfl h5
 · obtain ⟨hl, h64⟩ := table_len ht
   simp [restW, tabW_ln _ _ hl]; omega
 · simp [restW]
 · simp [restW, ptW]
noncomputable def specM (s : Txt) : Option Mod := if s = sumT then some mSum' else match splT 32 s with
 | [] => none
 | w :: ws => if 1 ≤ ws.length ∧ ws.length ≤ 299 ∧ (wrdF w ws).2 = true ∧ fmtM (wrdF w ws).1 = s then some (wrdF w ws).1 else none
theorem fmt_kind5 {m : Mod} (hv : isModuleF m = true) (h : m.kind = 5) : fmtM m = sumT := by
 rcases zCh hv with ⟨t, s, rfl⟩ | ⟨t, s, rfl⟩ | ⟨l, rfl⟩ | ⟨st, a, rfl, hr⟩ | rfl | ⟨pts, lab, c, rfl, ht⟩ | ⟨l, rfl, hl⟩ | ⟨s, c, l, rfl, h1, h2, h3, h4⟩
 any_goals (revert h; simp; done)
 unfold fmtM
 rw [if_pos hv]
 simp [restW, nameT, behind]
theorem specM_eq (s : Txt) : specM s = implM s := by
 unfold specM
 by_cases hs : s = sumT
 · rw [if_pos hs]
   have hv : isModuleF mSum' = true := drawn_sum.mod
   have h1 := implM_fmt hv wd_sum.w ⟨wd_sum.cnt, wd_sum.lab⟩
   have h2 := fmt_kind5 hv rfl
   rw [h2, ← hs] at h1
   rw [h1]
   have c0 : cP (0, 0) = (0, 0) := by decide
   have w0 : cW 0 = 0 := by decide
   have : cM mSum' = mSum' := by simp [cM, mSum', c0, w0]
   rw [this]
 rw [if_neg hs]
 cases hi : implM s with
 | some m =>
   obtain ⟨hv, hf⟩ := implM_some hi
   have hw := implM_wd hi
   have h5 : m.kind ≠ 5 := fun h => hs (by rw [← hf, fmt_kind5 hv h])
   have hc := implM_fmt hv hw.w ⟨hw.cnt, hw.lab⟩
   rw [hf, hi] at hc
   injection hc with hc
   have hsp := splT_fmtM hv
   rw [hf] at hsp
   rw [hsp]
   obtain ⟨l1, l2⟩ := rest_len hv h5
   have hwr := wrdF_T hv hw h5
   simp only [hwr]
   rw [if_pos ⟨l1, l2, trivial, by rw [← hc]; exact hf⟩, ← hc]
 | none =>
   split
   · rfl
   · rename_i w ws hsp
     rw [if_neg]
     rintro ⟨h1, h2, h3, h4⟩
     have hne : s ≠ [] := by
       intro h
       rw [h] at hsp
       simp only [splT, List.cons.injEq] at hsp
       rw [← hsp.2] at h1
       simp at h1
     have hv : isModuleF (wrdF w ws).1 = true := by
       cases hq : isModuleF (wrdF w ws).1 with
       | true => rfl
       | false =>
         exfalso
         have : fmtM (wrdF w ws).1 = [] := by simp [fmtM, hq]
         exact hne (by rw [← h4, this])
     have hw := (wrdF_ok w (ws := ws) (by omega)).2
     have hc := implM_fmt hv hw.w ⟨hw.cnt, hw.lab⟩
     rw [h4, hi] at hc
     cases hc
end Go.SX
namespace Go.SX
open Go Go.Proofs Ieee
noncomputable def pSp (s : Txt) : Res := match implM s with
 | some m => rMB m true
 | none => rMB (mod0 0) false
theorem okR_sp (s : Txt) : OkR false (pSp s) := by
 unfold pSp
 cases implM s with
 | some m => exact okR_MB
 | none => exact okR_MB
noncomputable def zFz : Ct := fam false (fun s : S20 => ([.c (.im (.str ⟨s.1.toArray⟩))], [])) (fun s => .one (pSp s.1))
theorem run_sParseModule {s : Txt} (h : s.length ≤ 1048576) : zFz.run [.c (.im (.str ⟨s.toArray⟩))] [] = some (.one (pSp s)) :=
 zAd (args := fun s : S20 => ([D.c (.im (.str ⟨s.1.toArray⟩))], [])) S20_inj ⟨s, h⟩
set_option maxRecDepth 100000 in
set_option maxHeartbeats 16000000 in
theorem law_sParseModule : Law Tryz.prog 7 zFz := by
 refine zEj (zAc law_sSum (zAc law_l1Split (zAc law_l8Words (zAc law_sFormatModule zAf)))) hmixA Tryz.func7 rfl rfl (fun ⟨s, hs⟩ => ⟨okO (okR_sp s), by simp [Tryz.f7], ?_⟩)
 simp only at hs ⊢
 have hsp := specM_eq s
 unfold specM at hsp
 by_cases g1 : s = sumT
 · have hr : pSp s = rMB mSum' true := by
     rw [if_pos g1] at hsp
     unfold pSp; rw [← hsp]
   have h1 : (s = [115, 117, 109]) = True := eq_true g1
   rw [hr]
   simp only [rMB, modC, mSum', zAg, zAl]
   clear g1 hr hsp
   try simp -dsimp (maxSteps := 1000000) only [go_sem, List.forall_mem_nil, ↓reduceIte, Nat.reduceEqDiff, Nat.reduceLT, Nat.reduceLeDiff, Nat.reduceAdd, Nat.reduceMul, reduceCtorEq, Tryz.f7, zAj, h1, run_sSum, rM, modC, mSum', zAg, zAl]
   refine zAr [] ?_
   simp -dsimp (maxSteps := 1000000) only [go_sem, List.forall_mem_nil, ↓reduceIte, Nat.reduceEqDiff, Nat.reduceLT, Nat.reduceLeDiff, Nat.reduceAdd, Nat.reduceMul, reduceCtorEq]
 rw [if_neg g1] at hsp
 have h1 : (s = [115, 117, 109]) = False := eq_false g1
 have rsp : zGm.run [.c (.im (.str ⟨s.toArray⟩)), .c (.im (.int .u8 32))] [] = some (.one { val := .c (.im (.sl 1 (rowsS (splT 32 s)))) }) := run_l1Split (by omega) 32
 have hsub := splT_sub 32 s
 obtain ⟨w, ws, hws⟩ : ∃ w ws, splT 32 s = w :: ws := by
   cases h : splT 32 s with
   | nil => exact absurd h (splT_ne _ _)
   | cons a b => exact ⟨a, b, rfl⟩
 rw [hws] at hsp rsp hsub
 simp only at hsp
 rw [zAu] at rsp
 have bad : ¬ (1 ≤ ws.length ∧ ws.length ≤ 299 ∧ (wrdF w ws).2 = true ∧ fmtM (wrdF w ws).1 = s) → pSp s = rMB (mod0 0) false := fun h => by
   rw [if_neg h] at hsp
   unfold pSp; rw [← hsp]
 have good : (1 ≤ ws.length ∧ ws.length ≤ 299 ∧ (wrdF w ws).2 = true ∧ fmtM (wrdF w ws).1 = s) → pSp s = rMB (wrdF w ws).1 true := fun h => by
   rw [if_pos h] at hsp
   unfold pSp; rw [← hsp]
 clear hsp
 have L0 : ((0 : Int) < ((ws.length + 1 : Nat) : Int)) = True := eq_true (by omega)
 have L1 : ((1 : Int) ≤ ((ws.length + 1 : Nat) : Int)) = True := eq_true (by omega)
 by_cases e1 : ws.length < 1
 · have k1 : (((ws.length + 1 : Nat) : Int) < 2) = True := eq_true (by omega)
   rw [bad (fun h => by omega)]
   simp only [rMB, modC, mod0, zAg, zAl]
   clear bad good
   try simp -dsimp (maxSteps := 1000000) only [go_sem, List.forall_mem_nil, ↓reduceIte, Nat.reduceEqDiff, Nat.reduceLT, Nat.reduceLeDiff, Nat.reduceAdd, Nat.reduceMul, reduceCtorEq, Tryz.f7, zAj, h1, rsp, zAe, k1]
   refine zAr [.nilI 1 [.b 0 0 4, .b 0 0 7, .b 0 0 8]] ?_
   simp -dsimp (maxSteps := 1000000) only [go_sem, List.forall_mem_nil, ↓reduceIte, Nat.reduceEqDiff, Nat.reduceLT, Nat.reduceLeDiff, Nat.reduceAdd, Nat.reduceMul, reduceCtorEq]
 have k1 : (((ws.length + 1 : Nat) : Int) < 2) = False := eq_false (by omega)
 by_cases e2 : 299 < ws.length
 · have k2 : ((300 : Int) < ((ws.length + 1 : Nat) : Int)) = True := eq_true (by omega)
   rw [bad (fun h => by omega)]
   simp only [rMB, modC, mod0, zAg, zAl]
   clear bad good
   try simp -dsimp (maxSteps := 1000000) only [go_sem, List.forall_mem_nil, ↓reduceIte, Nat.reduceEqDiff, Nat.reduceLT, Nat.reduceLeDiff, Nat.reduceAdd, Nat.reduceMul, reduceCtorEq, Tryz.f7, zAj, h1, rsp, zAe, k1, k2]
   refine zAr [.nilI 1 [.b 0 0 4, .b 0 0 7, .b 0 0 8]] ?_
   simp -dsimp (maxSteps := 1000000) only [go_sem, List.forall_mem_nil, ↓reduceIte, Nat.reduceEqDiff, Nat.reduceLT, Nat.reduceLeDiff, Nat.reduceAdd, Nat.reduceMul, reduceCtorEq]
 have k2 : ((300 : Int) < ((ws.length + 1 : Nat) : Int)) = False := eq_false (by omega)
 have h4 : List.drop 1 (List.take (ws.length + 1) ([I.str ⟨w.toArray⟩] :: rowsS ws)) = rowsS ws := by rw [List.take_of_length_le (by simp [zAe])]; rfl
 have rw' := run_l8Words (w := w) (ws := ws) (by omega) (by omega) (fun p hp => by have := hsub p (by simp [hp]); omega)
 obtain ⟨hok, hwd⟩ := wrdF_ok w (ws := ws) (by omega)
 have rF := zAy ⟨_, hok, hwd.w, hwd.rat, hwd.cnt, hwd.lft, hwd.lab⟩
 obtain ⟨M, hM⟩ : ∃ M, (wrdF w ws).1 = M := ⟨_, rfl⟩
 obtain ⟨ok, hk⟩ : ∃ M, (wrdF w ws).2 = M := ⟨_, rfl⟩
 simp only [hM] at rF
 rw [hM, hk] at rw' bad good
 clear hok hwd
 obtain ⟨k, ⟨t1, t2⟩, ⟨s1, s2⟩, lv, st, ra, rc, pts, lab, c, lf⟩ := M
 simp only [rMB, modC] at rw' rF
 cases ok with
 | false =>
   rw [bad (fun h => by have := h.2.2.1; cases this)]
   simp only [rMB, modC, mod0, zAg, zAl]
   clear bad good hM
   try simp -dsimp (maxSteps := 1000000) only [go_sem, List.forall_mem_nil, ↓reduceIte, Nat.reduceEqDiff, Nat.reduceLT, Nat.reduceLeDiff, Nat.reduceAdd, Nat.reduceMul, reduceCtorEq, Tryz.f7, zAj, h1, rsp, zAe, k1, k2, L0, L1, h4, rw', List.drop_succ_cons, List.drop_zero, Int.toNat_one, Int.toNat_zero, Int.toNat_natCast, Int.reduceLE, Bool.not_false, Bool.not_true]
   repeat' (first
     | ((with_reducible refine sl_i ?_ ?_); focus kernel_rfl)
     | ((with_reducible refine ro_i ?_ ?_); focus kernel_rfl))
   refine zAr [.nilI 1 [.b 0 0 4, .b 0 0 7, .b 0 0 8]] ?_
   simp -dsimp (maxSteps := 1000000) only [go_sem, List.forall_mem_nil, ↓reduceIte, Nat.reduceEqDiff, Nat.reduceLT, Nat.reduceLeDiff, Nat.reduceAdd, Nat.reduceMul, reduceCtorEq]
 | true =>
   by_cases hF : fmtM ⟨k, (t1, t2), (s1, s2), lv, st, ra, rc, pts, lab, c, lf⟩ = s
   · rw [good ⟨by omega, by omega, rfl, hF⟩]
     rw [hF] at rF
     simp only [rMB, modC]
     clear bad good hM hF
     try simp -dsimp (maxSteps := 1000000) only [go_sem, List.forall_mem_nil, ↓reduceIte, Nat.reduceEqDiff, Nat.reduceLT, Nat.reduceLeDiff, Nat.reduceAdd, Nat.reduceMul, reduceCtorEq, Tryz.f7, zAj, h1, rsp, zAe, k1, k2, L0, L1, h4, rw', rF, zAp, List.drop_succ_cons, List.drop_zero, Int.toNat_one, Int.toNat_zero, Int.toNat_natCast, Int.reduceLE, ne_eq, not_true_eq_false, decide_false, decide_true, Bool.not_false, Bool.not_true]
     repeat' (first
       | ((with_reducible refine sl_i ?_ ?_); focus kernel_rfl)
       | ((with_reducible refine ro_i ?_ ?_); focus kernel_rfl))
     refine zAr [] ?_
     simp -dsimp (maxSteps := 1000000) only [go_sem, List.forall_mem_nil, ↓reduceIte, Nat.reduceEqDiff, Nat.reduceLT, Nat.reduceLeDiff, Nat.reduceAdd, Nat.reduceMul, reduceCtorEq]
   · rw [bad (fun h => hF h.2.2.2)]
     simp only [rMB, modC, mod0, zAg, zAl]
     clear bad good hM
     generalize fmtM ⟨k, (t1, t2), (s1, s2), lv, st, ra, rc, pts, lab, c, lf⟩ = G at *
     have hG := eq_false hF
     try simp -dsimp (maxSteps := 1000000) only [go_sem, List.forall_mem_nil, ↓reduceIte, Nat.reduceEqDiff, Nat.reduceLT, Nat.reduceLeDiff, Nat.reduceAdd, Nat.reduceMul, reduceCtorEq, Tryz.f7, zAj, h1, rsp, zAe, k1, k2, L0, L1, h4, rw', rF, hG, zAp, List.drop_succ_cons, List.drop_zero, Int.toNat_one, Int.toNat_zero, Int.toNat_natCast, Int.reduceLE, ne_eq, not_false_eq_true, decide_false, decide_true, Bool.not_false, Bool.not_true]
     repeat' (first
       | ((with_reducible refine sl_i ?_ ?_); focus kernel_rfl)
       | ((with_reducible refine ro_i ?_ ?_); focus kernel_rfl))
     refine zAr [.nilI 1 [.b 0 0 4, .b 0 0 7, .b 0 0 8]] ?_
     simp -dsimp (maxSteps := 1000000) only [go_sem, List.forall_mem_nil, ↓reduceIte, Nat.reduceEqDiff, Nat.reduceLT, Nat.reduceLeDiff, Nat.reduceAdd, Nat.reduceMul, reduceCtorEq]
end Go.SX
namespace Go.SX
open Go Go.Proofs Ieee
theorem implM_len {s : Txt} {m : Mod} (h : implM s = some m) : m.store.length ≤ 16 ∧ m.pts.length ≤ 64 ∧ m.lab.length ≤ 64 := by
 have hv := (implM_some h).1
 rcases zCh hv with ⟨t, u, rfl⟩ | ⟨t, u, rfl⟩ | ⟨l, rfl⟩ | ⟨st, a, rfl, hr⟩ | rfl | ⟨pts, lab, c, rfl, ht⟩ | ⟨l, rfl, _⟩ | ⟨u, c, l, rfl, _⟩
 · simp
 · simp
 · simp
 · have : 1 ≤ st.length ∧ st.length ≤ 16 := by
     unfold isRingF at hr
     simp only [Bool.and_eq_true, decide_eq_true_eq] at hr
     obtain ⟨⟨c1, c2, _⟩, _⟩ := hr
     exact ⟨c1, c2⟩
   simp; omega
 · simp
 · obtain ⟨h1, h2⟩ := table_len ht
   simp; omega
 · simp
 · simp
theorem both (s : Txt) : ∃ (m : Mod) (b : Bool), pSp s = rMB m b ∧ oPm s = .one (rModB m b) ∧ m.store.length ≤ 16 ∧ m.pts.length ≤ 64 ∧ m.lab.length ≤ 64 := by
 cases h : implM s with
 | some m => exact ⟨m, true, by simp [pSp, h], by simp [oPm, h], implM_len h⟩
 | none => exact ⟨mod0 0, false, by simp [pSp, h], by simp [oPm, h], by simp [mod0]⟩
set_option maxRecDepth 100000 in
set_option maxHeartbeats 16000000 in
theorem zFo : Law Tryz.prog 3 ctLs := by
 refine fam_lawI (zAc law_sParseModule (zAc law_ParseModule (zAc law_eqModule (zAc law_heldModule zAf)))) hmixA Tryz.func3 rfl rfl [8] (args := fun s : Txt => [.c (.im (.str ⟨s.toArray⟩))]) (fun s => ⟨zAt rfl, by simp [Tryz.f3], ?_⟩)
 by_cases hbig : 1048576 < s.length
 · have hI : ((1048576 : Int) < (s.length : Int)) = True := eq_true (by omega)
   try simp -dsimp (maxSteps := 1000000) only [go_sem, List.forall_mem_nil, ↓reduceIte, Nat.reduceEqDiff, Nat.reduceLT, Nat.reduceLeDiff, Nat.reduceAdd, Nat.reduceMul, reduceCtorEq, Tryz.f3, zAo, hI]
 have hI : ((1048576 : Int) < (s.length : Int)) = False := eq_false (by omega)
 have r1 := run_sParseModule (s := s) (by omega)
 have r2 := run_ParseModule (s := s) (by omega)
 obtain ⟨m, b, e1, e2, q1, q2, q3⟩ := both s
 rw [e1] at r1
 rw [e2] at r2
 have hsm : sm = 16777216 := rfl
 have hE : mkE 1 m ≤ 4096 := by simp only [mkE]; omega
 obtain ⟨k, ⟨t1, t2⟩, ⟨s1, s2⟩, lv, st, ra, rc, pts, lab, c, l⟩ := m
 simp only at q1 q2 q3
 have req := run_eqModule (k := k) (t1 := t1) (t2 := t2) (s1 := s1) (s2 := s2) (lv := lv) (st := st) (ra := ra) (rc := rc) (pts := pts) (lab := lab) (c := c) (l := l) (by omega) (by omega) (by omega)
 simp only [rMB, rModB, modC] at r1 r2
 clear e1 e2
 have tkz : ∀ l : List Pt, List.take l.length (tI (rowsZ l)) = tI (rowsZ l) := fun l => List.take_of_length_le (by simp [zBa, zAa])
 have tkn : ∀ l : List Int, List.take l.length (tI (rowsN l)) = tI (rowsN l) := fun l => List.take_of_length_le (by simp [zBa, zAb])
 obtain ⟨M, hM⟩ : ∃ M : Mod, M = ⟨k, (t1, t2), (s1, s2), lv, st, ra, rc, pts, lab, c, l⟩ := ⟨_, rfl⟩
 rw [← hM] at hE
 have rh := run_heldModule hE
 have c1 : ((1 : Nat) : Int) = 1 := rfl
 rw [c1] at rh
 obtain ⟨S, hS⟩ : ∃ S, (mkM 1 M).store = S := ⟨_, rfl⟩
 obtain ⟨Q, hQ⟩ : ∃ S, (mkM 1 M).pts = S := ⟨_, rfl⟩
 obtain ⟨R, hR⟩ : ∃ S, (mkM 1 M).lab = S := ⟨_, rfl⟩
 obtain ⟨E, hEE⟩ : ∃ E, mkE 1 M = E := ⟨_, rfl⟩
 have lS : S.length = st.length := by rw [← hS]; simp [mkM, zDv, hM]
 have lQ : Q.length = pts.length := by rw [← hQ]; simp [mkM, zDv, hM]
 have lR : R.length = lab.length := by rw [← hR]; simp [mkM, zEl, hM]
 have tS : List.take st.length (tI (rowsZ S)) = tI (rowsZ S) := by rw [← lS]; exact tkz S
 have tQ : List.take pts.length (tI (rowsZ Q)) = tI (rowsZ Q) := by rw [← lQ]; exact tkz Q
 have tR : List.take lab.length (tI (rowsN R)) = tI (rowsN R) := by rw [← lR]; exact tkn R
 have hm : mkM 1 M = ⟨k, (t1, t2), (s1, s2), lv, S, ra, rc, Q, R, c, l⟩ := by
   rw [← hS, ← hQ, ← hR, hM]; rfl
 rw [hm, hEE] at rh
 simp only [modC] at rh
 have hneg : ((E : Int) < 0) = False := eq_false (by omega)
 try simp -dsimp (maxSteps := 1000000) only [go_sem, List.forall_mem_nil, ↓reduceIte, Nat.reduceEqDiff, Nat.reduceLT, Nat.reduceLeDiff, Nat.reduceAdd, Nat.reduceMul, reduceCtorEq, Tryz.f3, zAo, hI, r1, r2, req, sc_eqModule, tkz, tkn, zFh, zBa, zAa, zAb, bne_self_eq_false, beq_self_eq_true]
 refine inlK_i (inl_markModule (m := ⟨k, (t1, t2), (s1, s2), lv, st, ra, rc, pts, lab, c, l⟩) (n1 := 1) (n2 := 2) (n3 := 3) (k0 := 1) (by simp [lk]) (by simp [lk]) (by simp [lk]) (by decide) (by decide) (by decide) (fun m hm => by simp [lk, show m ≠ 0 by omega, show m ≠ 1 by omega, show m ≠ 2 by omega, show m ≠ 3 by omega, show m ≠ 4 by omega]) (by rw [← hM]; exact hE)) ?_
 rw [← hM, hEE, hS, hQ, hR]
 try simp -dsimp (maxSteps := 1000000) only [go_sem, List.forall_mem_nil, ↓reduceIte, Nat.reduceEqDiff, Nat.reduceLT, Nat.reduceLeDiff, Nat.reduceAdd, Nat.reduceMul, reduceCtorEq, Tryz.f3, zAo, hI, r1, r2, req, rh, sc_eqModule, sc_heldModule, tkz, tkn, tS, tQ, tR, lS, lQ, lR, hneg, zFh, zBa, zAa, zAb, bne_self_eq_false, beq_self_eq_true, ne_eq, eq_self, not_true_eq_false, decide_false]
end Go.SX
namespace Go.SX
open Go Go.Proofs Go.RowKit Go.ChangeShapes
def laidL : List (String × DataW Unit) := [("math/bits.deBruijn32tab", YtfmpjhjnpeheeaaGreatDoor.Rows.laid_math_bits_deBruijn32tab), ("math/bits.deBruijn64tab", YtfmpjhjnpeheeaaGreatDoor.Rows.laid_math_bits_deBruijn64tab), ("internal/strconv.uint64pow10", YtfmpjhjnpeheeaaGreatDoor.Rows.laid_internal_strconv_uint64pow10), ("unicode/utf8.acceptRanges", YtfmpjhjnpeheeaaGreatDoor.Rows.laid_unicode_utf8_acceptRanges), ("strconv.ErrRange", YtfmpjhjnpeheeaaGreatDoor.Rows.laid_strconv_ErrRange), ("strconv.ErrSyntax", YtfmpjhjnpeheeaaGreatDoor.Rows.laid_strconv_ErrSyntax), ("unicode/utf8.first", YtfmpjhjnpeheeaaGreatDoor.Rows.laid_unicode_utf8_first)]
theorem lx1 : Tryz.prog.globalNamed "math/bits.deBruijn32tab" = some 1 := by kernel_rfl
theorem lx1t : (Tryz.prog.globals[1]?).map (·.type) = some 256 := by kernel_rfl
theorem lx1u : Tryz.prog.underlying 256 = some (.array 32 5) := by kernel_rfl
theorem lx1e : Tryz.prog.underlying 5 = some (.int .u8) := by kernel_rfl
theorem lx1c : Tryz.prog.cellsOf 5 = 1 := by kernel_rfl
theorem lx1d : Tryz.prog.cellsOf 256 = 32 := by kernel_rfl
theorem lx7 : Tryz.prog.globalNamed "internal/strconv.uint64pow10" = some 7 := by kernel_rfl
theorem lx7t : (Tryz.prog.globals[7]?).map (·.type) = some 308 := by kernel_rfl
theorem lx7u : Tryz.prog.underlying 308 = some (.array 20 247) := by kernel_rfl
theorem lx7e : Tryz.prog.underlying 247 = some (.int .u64) := by kernel_rfl
theorem lx7c : Tryz.prog.cellsOf 247 = 1 := by kernel_rfl
theorem lx7d : Tryz.prog.cellsOf 308 = 20 := by kernel_rfl
theorem lx3 : Tryz.prog.globalNamed "strconv.ErrSyntax" = some 3 := by kernel_rfl
theorem lx3t : (Tryz.prog.globals[3]?).map (·.type) = some 169 := by kernel_rfl
theorem lx4 : Tryz.prog.globalNamed "strconv.ErrRange" = some 4 := by kernel_rfl
theorem lx4t : (Tryz.prog.globals[4]?).map (·.type) = some 169 := by kernel_rfl
theorem lxS : "*" ++ "errors.errorString" = "*errors.errorString" := by decide
theorem lxR (u : TypeId) (h : Tryz.prog.typeName? 3 u = some "*errors.errorString") : u = 311 :=
 typeName_ptr_named (nm := "errors.errorString") (by rw [lxS]; kernel_rfl) (by kernel_rfl) (by decide) u (by rw [lxS]; exact h)
theorem lxc313 : Tryz.prog.cellsOf 313 = 1 := by kernel_rfl
theorem lxc9 : Tryz.prog.cellsOf 9 = 1 := by kernel_rfl
theorem lxd1 : YtfmpjhjnpeheeaaGreatDoor.Rows.laid_math_bits_deBruijn32tab = (Lib.tabData .u8 (Lib.deBruijn32tab.map fun (k : Nat) => (k : Int)) : DataW Unit) := by kernel_rfl
theorem lxd7 : YtfmpjhjnpeheeaaGreatDoor.Rows.laid_internal_strconv_uint64pow10 = (Lib.tabData .u64 Lib.pow10Tab : DataW Unit) := by kernel_rfl
theorem heap_var {P : Program} {w : World} {n : String} {g : Nat} {cs : Array Value} (hg : P.globalNamed n = some g) (h : w.var? P n = some cs) : ∃ e fr, w.heap[g]? = some (.cells cs e fr) := by
 unfold World.var? at h
 rw [hg] at h
 simp only [Option.bind_some] at h
 split at h
 · rename_i c e fr hh
   injection h with h
   subst h
   exact ⟨e, fr, hh⟩
 · cases h
theorem tab_reads {P : Program} {W : World} {name : String} {k : IntKind} {zs : List Int} {l : List (String × DataW Unit)} {g : Nat} {t e : TypeId} {n : Nat}
   (hg : P.globalNamed name = some g) (hty : (P.globals[g]?).map (·.type) = some t) (ht : P.underlying t = some (.array n e)) (he : P.underlying e = some (.int k)) (hce : P.cellsOf e = 1) (hct : P.cellsOf t = n)
   (h : laidMet P l W) (hm : (name, Lib.tabData k zs) ∈ l) : ∃ e fr, W.heap[g]? = some (.cells (zs.map fun z => Value.int k z).toArray e fr) := by
 obtain ⟨g', t', cs, fuel, p, hg', ht', hvar, hd⟩ := Lib.laidMet.reads h hm
 obtain rfl := Option.some.inj (hg.symm.trans hg')
 obtain rfl := Option.some.inj (hty.symm.trans ht')
 have := Lib.cells_of_tab ht he hce hct hd
 rw [← this]
 exact heap_var hg hvar
theorem lxM0 : ((begin Tryz.prog (fun _ _ => 0) default).world.heap[2]?).bind Obj.row? = some (#[.int .i64 0], 3) := by kernel_rfl
theorem lxMs : 2 < Tryz.prog.globals.size := of_decide_eq_true (by kernel_rfl)
theorem lxMb : Tryz.prog.buildable 3 = true := by kernel_rfl
theorem lxMt : Tryz.prog.cellTypes Tryz.prog.depth 3 = some [3] := by kernel_rfl
theorem lxMu : Tryz.prog.underlying 3 = some (.int .i64) := by kernel_rfl
set_option maxRecDepth 100000 in
theorem laid_of {W : World} (h : laidMetH Tryz.prog laidL W) (hs : W.ShapedOpen Tryz.prog) : Laid (fun _ => none) W := by
 rw [MakeChecks.laidMetH_plain _ _ _ (by kernel_rfl)] at h
 refine ⟨fun b cs hb => ⟨?_, rfl⟩, fun b hb => ⟨?_, rfl⟩, fun b hb => ⟨?_, rfl⟩⟩
 · simp only [globV, List.mem_cons, List.not_mem_nil, or_false, Prod.mk.injEq] at hb
   rcases hb with ⟨rfl, rfl⟩ | ⟨rfl, rfl⟩
   · have := tab_reads lx1 lx1t lx1u lx1e lx1c lx1d h (zs := Lib.deBruijn32tab.map fun (k : Nat) => (k : Int)) (by rw [← lxd1]; simp [laidL])
     simpa [List.map_map, Function.comp_def] using this
   · exact tab_reads lx7 lx7t lx7u lx7e lx7c lx7d h (zs := Lib.pow10Tab) (by rw [← lxd7]; simp [laidL])
 · simp only [globI, List.mem_cons, List.not_mem_nil, or_false] at hb
   rcases hb with rfl | rfl
   · obtain ⟨a0, s0, hv, _, _, _⟩ := laid_sentinel h.tail.tail.tail.tail.tail lx3 lx3t Tryz.underlying169 lxR Tryz.underlying311 Tryz.underlying313 rfl rfl Tryz.underlying9 lxc313 lxc9
     obtain ⟨e, fr, hh⟩ := heap_var lx3 hv
     exact ⟨_, _, e, fr, hh⟩
   · obtain ⟨a0, s0, hv, _, _, _⟩ := laid_sentinel h.tail.tail.tail.tail lx4 lx4t Tryz.underlying169 lxR Tryz.underlying311 Tryz.underlying313 rfl rfl Tryz.underlying9 lxc313 lxc9
     obtain ⟨e, fr, hh⟩ := heap_var lx4 hv
     exact ⟨_, _, e, fr, hh⟩
 · simp only [globN, List.mem_cons, List.not_mem_nil, or_false] at hb
   subst hb
   obtain ⟨cs, hh, hsz, hok⟩ := hs.1 2 _ _ lxMs lxM0
   obtain ⟨ts, hts, _, hc⟩ := hok lxMb
   rw [lxMt] at hts
   injection hts with hts
   subst hts
   obtain ⟨l⟩ := cs
   have hl : l.length = 1 := by simpa using hsz
   match l, hl with
   | [v], _ =>
     obtain ⟨u, hu, hv⟩ := hc 0 v (by simp)
     simp only [List.length_singleton, Nat.zero_mod, List.getElem?_cons_zero, Option.some.injEq] at hu
     subst hu
     unfold Cell.ok at hv
     rw [lxMu] at hv
     cases v <;> simp at hv
     obtain ⟨rfl, _⟩ := hv
     exact ⟨_, _, _, hh⟩
set_option maxRecDepth 100000 in
theorem laid_start (os : Os) (args : Array Value) : laidMetH Tryz.prog laidL ((World.laidAll Tryz.prog os laidL).forCall (fun _ _ => 0) ⟨#[], args, []⟩).memory := by
 rw [MakeChecks.laidMetH_plain _ _ _ (by kernel_rfl)]
 exact laidMet_laidAll _ (by kernel_rfl) (by kernel_rfl)
end Go.SX
namespace Go.SX
open Go Go.RowKit
theorem law_walkS {P : Program} {f : FuncId} (hL : Law P f ctLs) {w : World} (hlaid : Laid (fun _ => none) w) (b : ByteArray) :
   Calls P f #[.string b] w fun e w' => e = .returned (.bool true) ∧ Below w.heap.size w w' := by
 refine (law_calls hL (ds := [.c (.im (.str b))]) (args := [.string b]) (i := .bool true) rfl w hlaid (run_Ls b) rfl (fun t d v hd hv => ?_)).mono fun e w' ⟨v, he, hv, hb⟩ => ?_
 · cases t with
   | zero => simp at hd hv; subst hd; subst hv; exact .c _ _ (.im _ _ (.str _))
   | succ t => simp at hd
 · rw [hv.bool_inv] at he; exact ⟨he, hb⟩
end Go.SX
namespace Go.Proofs.YtfmpjhjnpeheeaaGreatDoor.fnExactParseModule
open Go.ChangeShapes Go.WideShapes Go.ChangeAt Go.RowKit
open Go.ChangeMaps (open_string shut_string)
theorem own : ownKnob Tryz.prog.godebug = none := by kernel_rfl
theorem walk (a0 : ByteArray) (w0 : a0.size ≤ maxLen) (w : World) (hl : Go.SX.Laid (fun _ => none) w) :
   Calls Tryz.prog 3 #[.string a0] w fun e w' => e = .returned (.bool true) ∧ Below w.heap.size w w' :=
 Go.SX.law_walkS Go.SX.zFo hl a0
theorem reads (os : Os) {H : Type} (enc : TypeId × Value → H) : ∃ places, DataW.whole enc Tryz.prog ((World.laidAll Tryz.prog os Go.SX.laidL).forCall (fun _ _ => 0) ⟨#[], #[.string ByteArray.empty], []⟩).memory (Tryz.f3).params.toList Rows.fnExactParseModuleSpec.vars false #[Value.string ByteArray.empty].toList 8 = some ([.lit (.string [])], [], places) :=
 ⟨[], by kernel_rfl⟩
set_option maxRecDepth 100000 in
theorem lifted (os : Os) (started : os.Started) (H : Type) (enc : TypeId × Value → H) (F : Stop.Interp) :
   ReturnsInHanded {} Tryz.checked os 3 .any ((OpenSpec.ofChange Rows.fnExactParseModuleSpec).preRow enc Tryz.prog Tryz.f3 Rows.fnExactParseModuleRow.domain false Rows.fnExactParseModuleRow.laid) (((OpenSpec.ofChange Rows.fnExactParseModuleSpec).at F).post enc Tryz.prog Tryz.f3 false true false false) := by
 obtain ⟨places, hx⟩ := reads os enc
 refine returnsInHanded_of_row (C := Tryz.checked) (s := OpenSpec.ofChange Rows.fnExactParseModuleSpec) own started (by kernel_rfl) Tryz.func3
   ⟨World.laidAll Tryz.prog os Go.SX.laidL, fun _ _ => 0, ⟨#[], #[.string ByteArray.empty], []⟩, World.laidAll_os _ _ _, World.shaped_of_ZipB (by kernel_rfl) (by kernel_rfl), rfl, (Input.okWide_of_okWideB (base := (World.laidAll Tryz.prog os Go.SX.laidL).heap.size) (by kernel_rfl)).2,
     OpenSpec.preRow_of_cond 8 hx (by kernel_rfl) (fun k hk => by cases hk) (by kernel_rfl) (Go.SX.laid_start os _), by
       simp only [Assume.holds]
       exact ⟨by simp, by simp, fun _ => Modest.zero, by simp, by simp⟩⟩ ?_
 intro W base args ds gs before hval0 hW _ _ _ hL hsh _
 have hval : ∀ (j : Nat) t v, (Tryz.f3).params[j]? = some t → args[j]? = some v → Value.okWide Tryz.prog W .any base t v := hval0
 have hW' := hW
 obtain ⟨p, q, hA0, hV, rfl, hfz, hnd⟩ := hW
 have hA : DataW.TrodAll enc Tryz.prog W 0 (fun _ => true) true (Tryz.f3).params.toList args.toList ds p := hA0
 rw [Tryz.params3] at hA hval
 obtain ⟨v0, vs0, d0, ds0, p0, q0, hargs, rfl, rfl, h0, r0⟩ := trodAll_cons hA
 obtain ⟨rfl, rfl, rfl⟩ := trodAll_nil r0
 obtain rfl : args = #[v0] := by cases args; simp_all
 obtain ⟨rfl, rfl⟩ := trodVars_none hV
 obtain ⟨a0, rfl, rfl, rfl, w0⟩ := open_string Tryz.underlying9 (hval 0 9 v0 rfl rfl) h0
 clear hA0 hval0
 refine (walk a0 w0 W (Go.SX.laid_of hL hsh)).mono fun e W' ⟨he, bel⟩ => ?_
 subst he
 exact ⟨_, rfl, _, _, _, [], _, [], hW', trodAll_mk1 (shut_bool Tryz.underlying4 _), (trodAll_cons_mk (shut_string Tryz.underlying9 w0) trodAll_mk0), rfl, bel.frame _, fun h => by cases h⟩
theorem said : Rows.FnExactParseModuleSaid :=
 OpenClaim.holds_of_cond 3 Tryz.f3 rfl rfl rfl rfl rfl rfl rfl ⟨rfl, rfl, rfl, rfl, rfl⟩ rfl rfl rfl rfl rfl (by kernel_rfl) Tryz.func3 (by kernel_rfl)
   (of_decide_eq_true (by kernel_rfl)) (by unfold Func.isWrapper; first | (rw [if_pos (by decide +kernel)]; kernel_rfl) | (rw [if_neg (by decide +kernel)]; exact ⟨rfl, rfl⟩))
   (fun os started H enc _ F => by rw [OpenClaim.pre_eq_preRow]; exact lifted os started H enc F)
theorem plain (f : FuncId) (fn : Func) (hf : Tryz.pinned.checked.prog.funcNamed "loop.example/g03223/laws.FnExactParseModule" = some f) (hfn : Tryz.pinned.checked.prog.funcs[f]? = some fn) :
   true = Tryz.pinned.checked.prog.looks [] ∧ ∀ (j : Nat) t, fn.params[j]? = some t → Tryz.pinned.checked.prog.wantsStandIn t = false := by
 obtain rfl : f = 3 := Option.some.inj ((show Tryz.prog.funcNamed "loop.example/g03223/laws.FnExactParseModule" = some 3 by kernel_rfl).symm.trans hf) |>.symm
 obtain rfl : fn = Tryz.f3 := (Option.some.inj ((Tryz.func3).symm.trans hfn)).symm
 refine ⟨by kernel_rfl, fun j t ht => ?_⟩
 rw [Tryz.params3] at ht
 obtain rfl : t = 9 := by simpa using Array.mem_of_getElem? ht
 exact (show Tryz.prog.wantsStandIn 9 = false by kernel_rfl)
theorem proved : Rows.FnExactParseModuleCardSaid :=
 Claim7.holds_tied_plain_at .later [] _ _ _ _ said (fun _ h => by cases h) (by kernel_rfl) (fun _ h => by cases h) fnExactParseModule_row_tie rfl ⟨rfl, rfl⟩ (by kernel_rfl) rfl plain (by kernel_rfl)
#print axioms proved
end Go.Proofs.YtfmpjhjnpeheeaaGreatDoor.fnExactParseModule
