/-
  spec: l2Nearest, NewSlicer, NewRing, NewDelay, NewHold, l4Copy, l4Take, l4Push, l5Slice, l5Copy.
  spec: l5Step, l5Module.
  spec: l1Number (whole numbers), FormatSingle (at the levels that are drawn), l4Zero, l5Uses, l5Unused, IsRing, IsModule.
  spec: l5Unused, IsRing, IsModule: of modules that are drawn.
  spec: IsRing, IsModule: of modules that are drawn.
  Sums and products of whole numbers; the order of a rack whose cables lead onwards.
  No condition.
-/
import Derived.Laws.Strings
import Derived.Test.YtojcifdnmihebaaGreatPkG
set_option linter.unusedVariables false
set_option linter.unusedSimpArgs false
namespace Go.SX
open Go Go.Proofs
theorem nearGo_ge (z : Pt) : ∀ (l : List Pt) (k : Nat) (b : Int) (m : Nat), -1 ≤ b → -1 ≤ nearGo z l k b m
  | [], k, b, m, hb => hb
  | p :: l, k, b, m, hb => by
    simp only [nearGo]
    split
    · exact nearGo_ge z l (k + 1) k _ (by omega)
    · exact nearGo_ge z l (k + 1) b m hb
noncomputable def ct_l2Nearest : Ct := fam true (fun x : Tb × Pt => ([.agg [.im (.sl 1 (rowsZ x.1.1.1)), .im (.sl 1 (rowsN x.1.1.2))], .c (.im (.cpx .f32 x.2.1 x.2.2))], [])) (fun x => .one { val := .c (.im (.int .i64 (nearGo x.2 x.1.1.1 0 (-1) 0))) })
theorem run_l2Nearest {pts : List Pt} {lab : List Int} (h1 : pts.length ≤ sm) (h2 : lab.length ≤ sm) (u v : Nat) : ct_l2Nearest.run [.agg [.im (.sl 1 (rowsZ pts)), .im (.sl 1 (rowsN lab))], .c (.im (.cpx .f32 u v))] [] = some (.one { val := .c (.im (.int .i64 (nearGo (u, v) pts 0 (-1) 0))) }) := by
  refine fam_run' (args := fun x : Tb × Pt => ([D.agg [.im (.sl 1 (rowsZ x.1.1.1)), .im (.sl 1 (rowsN x.1.1.2))], .c (.im (.cpx .f32 x.2.1 x.2.2))], [])) ?_ (⟨(pts, lab), h1, h2⟩, (u, v))
  rintro ⟨⟨⟨a, b⟩, _⟩, ⟨c, d⟩⟩ ⟨⟨⟨a', b'⟩, _⟩, ⟨c', d'⟩⟩ h
  simp [rowsZ_eq, rowsN_eq] at h ⊢
  simp [h]
set_option maxRecDepth 100000 in
set_option maxHeartbeats 4000000 in
theorem law_l2Nearest : Law Tryz.prog 148 ct_l2Nearest := by
  refine fam_law (Env_cons law_sDist Env_nil) hmixA Tryz.func148 rfl rfl (fun ⟨⟨⟨pts, lab⟩, h1, h2⟩, ⟨u, v⟩⟩ => ⟨okO_im rfl, by simp [Tryz.f148], ?_⟩)
  simp only at h1 h2 ⊢
  try simp -dsimp (maxSteps := 1000000) only [go_sem, List.forall_mem_nil, ↓reduceIte, Nat.reduceEqDiff, Nat.reduceLT, Nat.reduceLeDiff, Nat.reduceAdd, Nat.reduceMul, reduceCtorEq, Tryz.f148, rowsZ_len]
  refine loop_i (ι := { x : Nat × Int × Nat // x.1 ≤ pts.length ∧ nearGo (u, v) pts 0 (-1) 0 = nearGo (u, v) (pts.drop x.1) x.1 x.2.1 x.2.2 }) (fun x => ⟨[(1, some (.c (.im (.cpx .f32 u v)))), (5, some (.c (.im (.int .i64 x.1.2.1)))), (6, some (.c (.im (.flt .f32 x.1.2.2)))), (11, some (.c (.im (.sl 1 (rowsZ pts))))), (12, some (.c (.im (.int .i64 (pts.length : Int))))), (13, some (.c (.im (.int .i64 (x.1.1 : Int)))))],
    [], 0⟩) (fun x => pts.length - x.1.1) ⟨(0, -1, 0), by simp⟩ ⟨[], [], by ((simp only [go_sem, eq_self, MvRb, MvRn, MvRt, List.nodup_cons, List.nodup_nil, ↓reduceIte, Nat.reduceEqDiff, Nat.reduceLT, Nat.reduceLeDiff, reduceCtorEq, List.forall_mem_nil, Nat.zero_le, false_implies, List.mem_singleton]) <;> (try (simp -dsimp only [go_sem, eq_self, MvRb, MvRn, MvRt, List.nodup_cons, List.nodup_nil, ↓reduceIte, Nat.reduceEqDiff, Nat.reduceLT, Nat.reduceLeDiff, reduceCtorEq, List.forall_mem_nil, Nat.zero_le, false_implies, List.mem_singleton]))) <;> simp⟩ (fun ⟨⟨k, b, m⟩, hk, hinv⟩ => ?_)
  by_cases hlt : k < pts.length
  · obtain ⟨p, hp⟩ : ∃ p, pts[k]? = some p := ⟨_, List.getElem?_eq_getElem hlt⟩
    have hrow := rowsZ_at hp
    have hI : ((k : Int) < (pts.length : Int)) = True := by simp; omega
    have h0 : (0 ≤ (k : Int)) = True := by simp
    have hidx := nearGo_drop (z := (u, v)) (b := b) (m := m) hp
    have hwr := lt_sm h1 hlt
    obtain ⟨a, c⟩ := p
    simp only [] at hinv hk
    rw [hidx] at hinv
    clear hidx
    generalize hd : distF (a, c) (u, v) = d at *
    cases hq1 : fcmp .eql .f32 d d with
    | false =>
      simp only [hq1, Bool.false_and, Bool.false_eq_true, if_false] at hinv
      try simp -dsimp (maxSteps := 1000000) only [go_sem, List.forall_mem_nil, ↓reduceIte, Nat.reduceEqDiff, Nat.reduceLT, Nat.reduceLeDiff, Nat.reduceAdd, Nat.reduceMul, reduceCtorEq, Tryz.f148, hI, h0, Int.toNat_natCast, hrow, run_DistanceOf, hd, hq1, hwr]
      exact ⟨⟨(k + 1, b, m), by simp only []; omega, hinv⟩, by simp only []; omega, [], [], by (simp only [go_sem, eq_self, MvRb, MvRn, MvRt, List.nodup_cons, List.nodup_nil, ↓reduceIte, Nat.reduceEqDiff, Nat.reduceLT, Nat.reduceLeDiff, reduceCtorEq, List.forall_mem_nil, Nat.zero_le, false_implies, List.mem_singleton]) <;> simp⟩
    | true =>
      by_cases hb : b < 0
      · have hb' : (b < 0) = True := by simp [hb]
        simp only [hq1, hb', decide_true, Bool.true_or, Bool.true_and, if_true] at hinv
        clear hb
        try simp -dsimp (maxSteps := 1000000) only [go_sem, List.forall_mem_nil, ↓reduceIte, Nat.reduceEqDiff, Nat.reduceLT, Nat.reduceLeDiff, Nat.reduceAdd, Nat.reduceMul, reduceCtorEq, Tryz.f148, hI, h0, Int.toNat_natCast, hrow, run_DistanceOf, hd, hq1, hb', hwr]
        exact ⟨⟨(k + 1, (k : Int), d), by simp only []; omega, hinv⟩, by simp only []; omega, [], [], by (simp only [go_sem, eq_self, MvRb, MvRn, MvRt, List.nodup_cons, List.nodup_nil, ↓reduceIte, Nat.reduceEqDiff, Nat.reduceLT, Nat.reduceLeDiff, reduceCtorEq, List.forall_mem_nil, Nat.zero_le, false_implies, List.mem_singleton]) <;> simp⟩
      · have hb' : (b < 0) = False := by simp [hb]
        clear hb
        cases hq2 : fcmp .lss .f32 d m with
        | false =>
          simp only [hq1, hb', hq2, decide_false, Bool.false_or, Bool.true_and, Bool.false_eq_true, if_false] at hinv
          try simp -dsimp (maxSteps := 1000000) only [go_sem, List.forall_mem_nil, ↓reduceIte, Nat.reduceEqDiff, Nat.reduceLT, Nat.reduceLeDiff, Nat.reduceAdd, Nat.reduceMul, reduceCtorEq, Tryz.f148, hI, h0, Int.toNat_natCast, hrow, run_DistanceOf, hd, hq1, hq2, hb', hwr]
          exact ⟨⟨(k + 1, b, m), by simp only []; omega, hinv⟩, by simp only []; omega, [], [], by (simp only [go_sem, eq_self, MvRb, MvRn, MvRt, List.nodup_cons, List.nodup_nil, ↓reduceIte, Nat.reduceEqDiff, Nat.reduceLT, Nat.reduceLeDiff, reduceCtorEq, List.forall_mem_nil, Nat.zero_le, false_implies, List.mem_singleton]) <;> simp⟩
        | true =>
          simp only [hq1, hb', hq2, decide_false, Bool.false_or, Bool.true_and, if_true] at hinv
          try simp -dsimp (maxSteps := 1000000) only [go_sem, List.forall_mem_nil, ↓reduceIte, Nat.reduceEqDiff, Nat.reduceLT, Nat.reduceLeDiff, Nat.reduceAdd, Nat.reduceMul, reduceCtorEq, Tryz.f148, hI, h0, Int.toNat_natCast, hrow, run_DistanceOf, hd, hq1, hq2, hb', hwr]
          exact ⟨⟨(k + 1, (k : Int), d), by simp only []; omega, hinv⟩, by simp only []; omega, [], [], by (simp only [go_sem, eq_self, MvRb, MvRn, MvRt, List.nodup_cons, List.nodup_nil, ↓reduceIte, Nat.reduceEqDiff, Nat.reduceLT, Nat.reduceLeDiff, reduceCtorEq, List.forall_mem_nil, Nat.zero_le, false_implies, List.mem_singleton]) <;> simp⟩
  · have hI : ((k : Int) < (pts.length : Int)) = False := by simp only [] at hk; simp; omega
    simp only [] at hk hinv
    have hkl : k = pts.length := by omega
    subst hkl
    rw [List.drop_length] at hinv
    simp only [nearGo] at hinv
    try simp -dsimp (maxSteps := 1000000) only [go_sem, List.forall_mem_nil, ↓reduceIte, Nat.reduceEqDiff, Nat.reduceLT, Nat.reduceLeDiff, Nat.reduceAdd, Nat.reduceMul, reduceCtorEq, Tryz.f148, hI, hinv]
def rMB (m : Mod) (b : Bool) : Res := { val := .tup [.agg (modC m), .c (.im (.bool b))] }
theorem okR_MB {m : Mod} {b : Bool} : OkR false (rMB m b) := by
  refine ⟨.tup _ (fun d hd => ?_), by simp [rMB], by simp [rMB]⟩
  simp only [List.mem_cons, List.not_mem_nil, or_false] at hd
  rcases hd with rfl | rfl
  · refine .inr ⟨_, rfl, fun x hx => ?_⟩
    simp only [modC, List.mem_cons, List.not_mem_nil, or_false] at hx
    rcases hx with rfl | rfl | rfl | rfl | rfl | rfl | rfl | rfl | rfl | rfl | rfl <;> exact .im _ (.inl rfl)
  · exact .inl ⟨_, rfl, .im _ (.inl rfl)⟩
noncomputable def ct_NewSlicer : Ct := fam false (fun x : QTab => ([.agg [.im (.sl 1 (rowsZ x.1.1)), .im (.sl 1 (rowsN x.1.2))]], [])) (fun x => .one (rMB (mSlicer' x.1.1 x.1.2 0) true))
theorem run_NewSlicer {pts : List Pt} {lab : List Int} (h : isTableF pts lab = true) : ct_NewSlicer.run [.agg [.im (.sl 1 (rowsZ pts)), .im (.sl 1 (rowsN lab))]] [] = some (.one (rMB (mSlicer' pts lab 0) true)) := by
  refine fam_run' (args := fun x : QTab => ([D.agg [.im (.sl 1 (rowsZ x.1.1)), .im (.sl 1 (rowsN x.1.2))]], [])) ?_ ⟨(pts, lab), h⟩
  rintro ⟨⟨a, b⟩, _⟩ ⟨⟨a', b'⟩, _⟩ h
  simp [rowsZ_eq, rowsN_eq] at h ⊢
  exact h
set_option maxRecDepth 100000 in
set_option maxHeartbeats 4000000 in
theorem law_NewSlicer : Law Tryz.prog 67 ct_NewSlicer := by
  refine fam_lawF (Env_cons law_sIsTable (Env_cons law_l2Copy Env_nil)) hmixA Tryz.func67 rfl rfl (fun ⟨⟨pts, lab⟩, hT⟩ => ⟨okO okR_MB, by simp [Tryz.f67], ?_⟩)
  simp only at hT
  obtain ⟨e1, e2⟩ := table_len hT
  have h1 : pts.length ≤ sm := by have : sm = 16777216 := rfl; omega
  have h2 : lab.length ≤ sm := by have : sm = 16777216 := rfl; omega
  have hmp : mapO (mapO imT) (tI (rowsZ pts)) = some (rowsZ pts) := tI_imT _
  have hml : mapO (mapO imT) (tI (rowsN lab)) = some (rowsN lab) := tI_imT _
  simp only [rMB, modC, mSlicer', rowsZ_nil]
  try simp -dsimp (maxSteps := 1000000) only [go_sem, List.forall_mem_nil, ↓reduceIte, Nat.reduceEqDiff, Nat.reduceLT, Nat.reduceLeDiff, Nat.reduceAdd, Nat.reduceMul, reduceCtorEq, Tryz.f67, run_IsTable h1 h2, hT, run_copyTable h1 h2, rTb]
  refine finF_i [.frz 2 [.b 1 0 7], .frz 3 [.b 1 0 8], .nilI 1 [.b 1 0 4]] ?_
  simp -dsimp (maxSteps := 1000000) only [go_sem, List.forall_mem_nil, ↓reduceIte, Nat.reduceEqDiff, Nat.reduceLT, Nat.reduceLeDiff, Nat.reduceAdd, Nat.reduceMul, reduceCtorEq, hmp, hml, tI_len, rowsZ_len, rowsN_len]
def rRB (st : List Pt) (a c : Int) (b : Bool) : Res := { val := .tup [.agg [.im (.sl 1 (rowsZ st)), .im (.int .i64 a), .im (.int .i64 c)], .c (.im (.bool b))] }
theorem okR_RB {st : List Pt} {a c : Int} {b : Bool} : OkR false (rRB st a c b) := by
  refine ⟨.tup _ (fun d hd => ?_), by simp [rRB], by simp [rRB]⟩
  simp only [List.mem_cons, List.not_mem_nil, or_false] at hd
  rcases hd with rfl | rfl
  · refine .inr ⟨_, rfl, fun x hx => ?_⟩
    simp only [List.mem_cons, List.not_mem_nil, or_false] at hx
    rcases hx with rfl | rfl | rfl <;> exact .im _ (.inl rfl)
  · exact .inl ⟨_, rfl, .im _ (.inl rfl)⟩
abbrev zrs (n : Nat) : List Pt := List.replicate n (0, 0)
abbrev N16' := { n : Nat // 1 ≤ n ∧ n ≤ 16 }
noncomputable def ct_sRing : Ct := fam false (fun x : N16' => ([.c (.im (.int .i64 (x.1 : Int)))], [])) (fun x => .one (rRB (zrs x.1) 0 0 true))
theorem run_sRing {n : Nat} (h1 : 1 ≤ n) (h2 : n ≤ 16) : ct_sRing.run [.c (.im (.int .i64 (n : Int)))] [] = some (.one (rRB (zrs n) 0 0 true)) := fam_run' (args := fun x : N16' => ([D.c (.im (.int .i64 (x.1 : Int)))], [])) (by
    intro a b h
    simp only [Prod.mk.injEq, List.cons.injEq, D.c.injEq, D.agg.injEq, C.im.injEq, I.cpx.injEq, I.flt.injEq, I.int.injEq, I.sl.injEq, I.bool.injEq, I.str.injEq, Int.natCast_inj, true_and, and_true] at h
    (try simp only [Prod.ext_iff, Subtype.ext_iff])
    (try simp only [rowsZ_eq, rowsN_eq] at h)
    simp_all) (⟨n, h1, h2⟩ : N16')
theorem rep_Z' (n : Nat) : List.replicate n [T.im (.cpx .f32 0 0)] = tI (rowsZ (zrs n)) := by simp [tI, rowsZ, zrs]
set_option maxRecDepth 100000 in
theorem law_sRing : Law Tryz.prog 109 ct_sRing := by
  refine fam_lawF (Env_cons law_l1In Env_nil) hmixA Tryz.func109 rfl rfl (fun ⟨n, h1, h2⟩ => ⟨okO okR_RB, by simp [Tryz.f109], ?_⟩)
  simp only [rRB]
  have hb : (decide ((1 : Int) ≤ (n : Int)) && decide ((n : Int) ≤ 16)) = true := by simp; omega
  have hk1 : (0 ≤ (n : Int)) = True := eq_true (by omega)
  have hk2 : ((n : Int) ≤ 9223372036854775807) = True := eq_true (by omega)
  have hk3 : (((8 : Nat) : Int) * (n : Int) ≤ 281474976710656) = True := eq_true (by omega)
  have hmp : mapO (mapO imT) (tI (rowsZ (zrs n))) = some (rowsZ (zrs n)) := tI_imT _
  try simp -dsimp (maxSteps := 1000000) only [go_sem, List.forall_mem_nil, ↓reduceIte, Nat.reduceEqDiff, Nat.reduceLT, Nat.reduceLeDiff, Nat.reduceAdd, Nat.reduceMul, reduceCtorEq, Tryz.f109, run_l1In, hb, rep_Z', hk1, hk2, hk3, Int.toNat_natCast, List.length_replicate, rowsZ_len]
  refine finF_i [.frz 1 [.b 0 0 0]] ?_
  simp -dsimp (maxSteps := 1000000) only [go_sem, List.forall_mem_nil, ↓reduceIte, Nat.reduceEqDiff, Nat.reduceLT, Nat.reduceLeDiff, Nat.reduceAdd, Nat.reduceMul, reduceCtorEq, hmp, tI_len, rowsZ_len, List.length_replicate]
noncomputable def ct_sDelay : Ct := fam false (fun x : N16' => ([.c (.im (.int .i64 (x.1 : Int)))], [])) (fun x => .one (rMB (mDelay' (zrs x.1) 0) true))
theorem run_sDelay {n : Nat} (h1 : 1 ≤ n) (h2 : n ≤ 16) : ct_sDelay.run [.c (.im (.int .i64 (n : Int)))] [] = some (.one (rMB (mDelay' (zrs n) 0) true)) := fam_run' (args := fun x : N16' => ([D.c (.im (.int .i64 (x.1 : Int)))], [])) (by
    intro a b h
    simp only [Prod.mk.injEq, List.cons.injEq, D.c.injEq, D.agg.injEq, C.im.injEq, I.cpx.injEq, I.flt.injEq, I.int.injEq, I.sl.injEq, I.bool.injEq, I.str.injEq, Int.natCast_inj, true_and, and_true] at h
    (try simp only [Prod.ext_iff, Subtype.ext_iff])
    (try simp only [rowsZ_eq, rowsN_eq] at h)
    simp_all) (⟨n, h1, h2⟩ : N16')
set_option maxRecDepth 100000 in
theorem law_sDelay : Law Tryz.prog 66 ct_sDelay := by
  refine fam_lawF (Env_cons law_sRing Env_nil) hmixA Tryz.func66 rfl rfl (fun ⟨n, h1, h2⟩ => ⟨okO okR_MB, by simp [Tryz.f66], ?_⟩)
  simp only [rMB, modC, mDelay', rowsZ_nil, rowsN_nil]
  have lz : (rowsZ (zrs n)).length = n := by simp [rowsZ_len]
  have lz2 : (zrs n).length = n := by simp
  try simp -dsimp (maxSteps := 1000000) only [go_sem, List.forall_mem_nil, ↓reduceIte, Nat.reduceEqDiff, Nat.reduceLT, Nat.reduceLeDiff, Nat.reduceAdd, Nat.reduceMul, reduceCtorEq, Tryz.f66, run_sRing h1 h2, rRB, lz, lz2]
  refine finF_i [.nilI 1 [.b 0 0 7, .b 0 0 8]] ?_
  simp -dsimp (maxSteps := 1000000) only [go_sem, List.forall_mem_nil, ↓reduceIte, Nat.reduceEqDiff, Nat.reduceLT, Nat.reduceLeDiff, Nat.reduceAdd, Nat.reduceMul, reduceCtorEq, lz, lz2]
abbrev N100h := { n : Nat // 1 ≤ n ∧ n ≤ 100 }
noncomputable def ct_sHold : Ct := fam false (fun x : N100h => ([.c (.im (.int .i64 (x.1 : Int)))], [])) (fun x => .one (rMB (mHold' (0, 0) (x.1 : Int) 0) true))
theorem run_sHold {n : Nat} (h1 : 1 ≤ n) (h2 : n ≤ 100) : ct_sHold.run [.c (.im (.int .i64 (n : Int)))] [] = some (.one (rMB (mHold' (0, 0) (n : Int) 0) true)) := fam_run' (args := fun x : N100h => ([D.c (.im (.int .i64 (x.1 : Int)))], [])) (by
    intro a b h
    simp only [Prod.mk.injEq, List.cons.injEq, D.c.injEq, D.agg.injEq, C.im.injEq, I.cpx.injEq, I.flt.injEq, I.int.injEq, I.sl.injEq, I.bool.injEq, I.str.injEq, Int.natCast_inj, true_and, and_true] at h
    (try simp only [Prod.ext_iff, Subtype.ext_iff])
    (try simp only [rowsZ_eq, rowsN_eq] at h)
    simp_all) (⟨n, h1, h2⟩ : N100h)
set_option maxRecDepth 100000 in
theorem law_sHold : Law Tryz.prog 70 ct_sHold := by
  refine fam_lawF (Env_cons law_l1In Env_nil) hmixA Tryz.func70 rfl rfl (fun ⟨n, h1, h2⟩ => ⟨okO okR_MB, by simp [Tryz.f70], ?_⟩)
  simp only [rMB, modC, mHold', rowsZ_nil, rowsN_nil]
  have hb : (decide ((1 : Int) ≤ (n : Int)) && decide ((n : Int) ≤ 100)) = true := by simp; omega
  try simp -dsimp (maxSteps := 1000000) only [go_sem, List.forall_mem_nil, ↓reduceIte, Nat.reduceEqDiff, Nat.reduceLT, Nat.reduceLeDiff, Nat.reduceAdd, Nat.reduceMul, reduceCtorEq, Tryz.f70, run_l1In, hb]
  refine finF_i [.nilI 1 [.b 0 0 4, .b 0 0 7, .b 0 0 8]] ?_
  simp -dsimp (maxSteps := 1000000) only [go_sem, List.forall_mem_nil, ↓reduceIte, Nat.reduceEqDiff, Nat.reduceLT, Nat.reduceLeDiff, Nat.reduceAdd, Nat.reduceMul, reduceCtorEq]
set_option maxRecDepth 100000 in
set_option maxHeartbeats 4000000 in
theorem law_l4Copy : Law Tryz.prog 117 ct_copyRing := by
  refine fam_law Env_nil hmixA Tryz.func117 rfl rfl (fun ⟨⟨l, hl⟩, a, c⟩ => ⟨okO ⟨.agg _ (fun x hx => ?_), fun r hr => ?_, by simp⟩, by simp [Tryz.f117], ?_⟩)
  · simp at hx
    rcases hx with rfl | rfl | rfl
    · exact .view _ _ _ _ (by simp)
    · exact okC_sc rfl
    · exact okC_sc rfl
  · simp at hr; subst hr; exact mvR_tI (sc_rowsZ _)
  try simp -dsimp (maxSteps := 1000000) only [go_sem, List.forall_mem_nil, ↓reduceIte, Nat.reduceEqDiff, Nat.reduceLT, Nat.reduceLeDiff, Nat.reduceAdd, Nat.reduceMul, reduceCtorEq, Tryz.f117, rowsZ_len, bytes_sm hl (show 8 ≤ 128 by decide), map_im_tI, tI_len, appendH, srcRows]
  repeat' (first
    | ((with_reducible refine sl_i ?_ ?_); focus kernel_rfl)
    | ((with_reducible refine ro_i ?_ ?_); focus kernel_rfl))
  refine ⟨[_], ?_, ?_, ?_, rfl⟩ <;> simp [rtOk]
theorem sc_copyRing : (ct_copyRing.sc = true) = True := by simp [ct_copyRing, fam]
structure ARg where
  st : List Pt
  a : Nat
  h1 : 1 ≤ st.length
  h2 : st.length ≤ 16
  h3 : a < st.length
theorem ARg_ext {x y : ARg} (h : x.st = y.st ∧ x.a = y.a) : x = y := by
  obtain ⟨s, a, _, _, _⟩ := x
  obtain ⟨t, b, _, _, _⟩ := y
  obtain ⟨rfl, rfl⟩ := h
  rfl
def rTake (st : List Pt) (a : Nat) : Res := { val := .tup [.agg [.view 0 1 0 st.length, .im (.int .i64 (((a + 1) % st.length : Nat) : Int)), .im (.int .i64 ((st.length - 1 : Nat) : Int))], .c (.im (.cpx .f32 (st.getD a (0, 0)).1 (st.getD a (0, 0)).2))], roots := [.arr 1 (tI (rowsZ (st.set a (0, 0))))] }
theorem okR_take {sc : Bool} {st : List Pt} {a : Nat} : OkR sc (rTake st a) := by
  refine ⟨.tup _ (fun d hd => ?_), fun r hr => ?_, by simp [rTake]⟩
  · simp only [rTake, List.mem_cons, List.not_mem_nil, or_false] at hd
    rcases hd with rfl | rfl
    · exact .inr ⟨_, rfl, fun x hx => by
        simp only [List.mem_cons, List.not_mem_nil, or_false] at hx
        rcases hx with rfl | rfl | rfl <;> first | exact okC_sc rfl | exact .view _ _ _ _ (by simp [rTake])⟩
    · exact .inl ⟨_, rfl, okC_sc rfl⟩
  · simp only [rTake, List.mem_cons, List.not_mem_nil, or_false] at hr
    subst hr
    exact mvR_tI (sc_rowsZ _)
noncomputable def ct_l4Take : Ct := fam true (fun x : ARg => ([.agg [.im (.sl 1 (rowsZ x.st)), .im (.int .i64 (x.a : Int)), .im (.int .i64 (x.st.length : Int))]], [])) (fun x => .one (rTake x.st x.a))
theorem run_l4Take {st : List Pt} {a : Nat} (h1 : 1 ≤ st.length) (h2 : st.length ≤ 16) (h3 : a < st.length) : ct_l4Take.run [.agg [.im (.sl 1 (rowsZ st)), .im (.int .i64 (a : Int)), .im (.int .i64 (st.length : Int))]] [] = some (.one (rTake st a)) := by
  refine fam_run' (args := fun x : ARg => ([D.agg [.im (.sl 1 (rowsZ x.st)), .im (.int .i64 (x.a : Int)), .im (.int .i64 (x.st.length : Int))]], [])) (fun x y h => ?_) ⟨st, a, h1, h2, h3⟩
  simp [rowsZ_eq] at h
  exact ARg_ext ⟨h.1, by omega⟩
theorem sc_l4Take : (ct_l4Take.sc = true) = True := by simp [ct_l4Take, fam]
theorem setZ (st : List Pt) (a : Nat) (u v : Nat) : (tI (rowsZ st)).set a [T.im (.cpx .f32 u v)] = tI (rowsZ (st.set a (u, v))) := by simp [tI, rowsZ, List.map_set]
set_option maxRecDepth 100000 in
set_option maxHeartbeats 4000000 in
theorem law_l4Take : Law Tryz.prog 147 ct_l4Take := by
  refine fam_law (Env_cons law_l4Copy Env_nil) hmixA Tryz.func147 rfl rfl (fun ⟨st, a, h1, h2, h3⟩ => ⟨okO okR_take, by simp [Tryz.f147], ?_⟩)
  simp only [rTake]
  have hs : st.length ≤ sm := by have : sm = 16777216 := rfl; omega
  obtain ⟨⟨p, q⟩, hp⟩ : ∃ p, st[a]? = some p := ⟨_, List.getElem?_eq_getElem h3⟩
  have hrow : (tI (rowsZ st))[a]? = some [T.im (.cpx .f32 p q)] := tI_at (rowsZ_at hp)
  have hgd : st.getD a (0, 0) = (p, q) := by rw [List.getD_eq_getElem?_getD, hp]; rfl
  have h0 : (0 ≤ (a : Int)) = True := by simp
  have hI : ((a : Int) < (st.length : Int)) = True := eq_true (by omega)
  have hw : IntKind.i64.wrap ((a : Int) + 1) = ((a + 1 : Nat) : Int) := by rw [wrap_id (by omega) (by omega)]; omega
  have hn0 : ((st.length : Int) = 0) = False := eq_false (by omega)
  have hm : ((a + 1 : Nat) : Int).tmod (st.length : Int) = (((a + 1) % st.length : Nat) : Int) := by rw [Int.tmod_eq_emod_of_nonneg (by omega)]; exact (Int.natCast_emod _ _).symm
  have hc : IntKind.i64.wrap ((st.length : Int) - 1) = ((st.length - 1 : Nat) : Int) := by rw [wrap_id (by omega) (by omega)]; omega
  try simp -dsimp (maxSteps := 1000000) only [go_sem, List.forall_mem_nil, ↓reduceIte, Nat.reduceEqDiff, Nat.reduceLT, Nat.reduceLeDiff, Nat.reduceAdd, Nat.reduceMul, reduceCtorEq, Tryz.f147, run_copyRing hs, sc_copyRing, hrow, h0, hI, hw, hn0, hm, hc, setZ, Int.toNat_natCast, tI_len, rowsZ_len, List.length_set]
  refine ⟨[2], ?_, ?_, ?_, ?_⟩ <;> simp [rtOk, hp]
noncomputable def ct_l4Push : Ct := fam false (fun x : ARg × Pt => ([.agg [.im (.sl 1 (rowsZ x.1.st)), .im (.int .i64 (x.1.a : Int)), .im (.int .i64 (x.1.st.length : Int))], .c (.im (.cpx .f32 x.2.1 x.2.2))], []))
  (fun x => .one { val := .tup [.agg [.im (.sl 1 (rowsZ (x.1.st.set x.1.a x.2))), .im (.int .i64 (((x.1.a + 1) % x.1.st.length : Nat) : Int)), .im (.int .i64 (x.1.st.length : Int))], .c (.im (.cpx .f32 (x.1.st.getD x.1.a (0, 0)).1 (x.1.st.getD x.1.a (0, 0)).2))] })
theorem run_l4Push {st : List Pt} {a : Nat} (h1 : 1 ≤ st.length) (h2 : st.length ≤ 16) (h3 : a < st.length) (u v : Nat) : ct_l4Push.run [.agg [.im (.sl 1 (rowsZ st)), .im (.int .i64 (a : Int)), .im (.int .i64 (st.length : Int))], .c (.im (.cpx .f32 u v))] [] =
    some (.one { val := .tup [.agg [.im (.sl 1 (rowsZ (st.set a (u, v)))), .im (.int .i64 (((a + 1) % st.length : Nat) : Int)), .im (.int .i64 (st.length : Int))], .c (.im (.cpx .f32 (st.getD a (0, 0)).1 (st.getD a (0, 0)).2))] }) := by
  refine fam_run' (args := fun x : ARg × Pt => ([D.agg [.im (.sl 1 (rowsZ x.1.st)), .im (.int .i64 (x.1.a : Int)), .im (.int .i64 (x.1.st.length : Int))], .c (.im (.cpx .f32 x.2.1 x.2.2))], [])) (fun x y h => ?_) (⟨st, a, h1, h2, h3⟩, (u, v))
  simp [rowsZ_eq] at h
  exact Prod.ext (ARg_ext ⟨h.1.1, by omega⟩) (Prod.ext h.2.1 h.2.2)
theorem okR_push {st : List Pt} {a : Int} {c : Int} {p q : Nat} : OkR false { val := .tup [.agg [.im (.sl 1 (rowsZ st)), .im (.int .i64 a), .im (.int .i64 c)], .c (.im (.cpx .f32 p q))] } := by
  refine ⟨.tup _ (fun d hd => ?_), by simp, by simp⟩
  simp only [List.mem_cons, List.not_mem_nil, or_false] at hd
  rcases hd with rfl | rfl
  · refine .inr ⟨_, rfl, fun x hx => ?_⟩
    simp only [List.mem_cons, List.not_mem_nil, or_false] at hx
    rcases hx with rfl | rfl | rfl <;> exact .im _ (.inl rfl)
  · exact .inl ⟨_, rfl, .im _ (.inl rfl)⟩
theorem push_pos {a n : Nat} (h : a < n) : ((a + 1) % n + (n - 1)) % n = a := by
  by_cases e : a + 1 = n
  · rw [e, Nat.mod_self, Nat.zero_add, Nat.mod_eq_of_lt (by omega)]; omega
  · rw [Nat.mod_eq_of_lt (show a + 1 < n by omega), show a + 1 + (n - 1) = a + n by omega, Nat.add_mod_right, Nat.mod_eq_of_lt h]
set_option maxRecDepth 100000 in
set_option maxHeartbeats 4000000 in
theorem law_l4Push : Law Tryz.prog 115 ct_l4Push := by
  refine fam_lawF (Env_cons law_l4Copy (Env_cons law_l4Take Env_nil)) hmixA Tryz.func115 rfl rfl (fun ⟨⟨st, a, h1, h2, h3⟩, ⟨u, v⟩⟩ => ⟨okO okR_push, by simp [Tryz.f115], ?_⟩)
  simp only
  have hs : st.length ≤ sm := by have : sm = 16777216 := rfl; omega
  obtain ⟨⟨p, q⟩, hp⟩ : ∃ p, st[a]? = some p := ⟨_, List.getElem?_eq_getElem h3⟩
  have hgd : st.getD a (0, 0) = (p, q) := by rw [List.getD_eq_getElem?_getD, hp]; rfl
  have hlt : (a + 1) % st.length < st.length := Nat.mod_lt _ (by omega)
  have hw : IntKind.i64.wrap ((((a + 1) % st.length : Nat) : Int) + ((st.length - 1 : Nat) : Int)) = (((a + 1) % st.length + (st.length - 1) : Nat) : Int) := by rw [wrap_id (by omega) (by omega)]; omega
  have hn0 : ((st.length : Int) = 0) = False := eq_false (by omega)
  have hm : (((a + 1) % st.length + (st.length - 1) : Nat) : Int).tmod (st.length : Int) = (a : Int) := by rw [Int.tmod_eq_emod_of_nonneg (by omega), ← Int.natCast_emod, push_pos h3]
  have hc : IntKind.i64.wrap (((st.length - 1 : Nat) : Int) + 1) = (st.length : Int) := by rw [wrap_id (by omega) (by omega)]; omega
  have h0 : (0 ≤ (a : Int)) = True := by simp
  have hI : ((a : Int) < (st.length : Int)) = True := eq_true (by omega)
  have hrow0 : (tI (rowsZ (st.set a (0, 0))))[a]? = some [T.im (.cpx .f32 0 0)] := tI_at (rowsZ_at (by rw [List.getElem?_set_self h3]))
  have hset : (tI (rowsZ (st.set a (0, 0)))).set a [T.im (.cpx .f32 u v)] = tI (rowsZ (st.set a (u, v))) := by rw [setZ, List.set_set]
  have hmp : mapO (mapO imT) (tI (rowsZ (st.set a (u, v)))) = some (rowsZ (st.set a (u, v))) := tI_imT _
  have tkz : List.take st.length (tI (rowsZ st)) = tI (rowsZ st) := List.take_of_length_le (by simp [tI_len, rowsZ_len])
  try simp -dsimp (maxSteps := 1000000) only [go_sem, List.forall_mem_nil, ↓reduceIte, Nat.reduceEqDiff, Nat.reduceLT, Nat.reduceLeDiff, Nat.reduceAdd, Nat.reduceMul, reduceCtorEq, Tryz.f115, run_copyRing hs, sc_copyRing, run_l4Take h1 h2 h3, sc_l4Take, rTake, hgd, hw, hn0, hm, hc, h0, hI, hrow0, hset, tkz, tI_toI, Int.toNat_natCast, tI_len, rowsZ_len, List.length_set]
  repeat' (first
    | ((with_reducible refine sl_i ?_ ?_); focus kernel_rfl)
    | ((with_reducible refine ro_i ?_ ?_); focus kernel_rfl))
  refine finF_i [.frz 4 [.b 1 0 0]] ?_
  simp -dsimp (maxSteps := 1000000) only [go_sem, List.forall_mem_nil, ↓reduceIte, Nat.reduceEqDiff, Nat.reduceLT, Nat.reduceLeDiff, Nat.reduceAdd, Nat.reduceMul, reduceCtorEq, hmp, hgd, tI_len, rowsZ_len, List.length_set]
structure ASl where
  pts : List Pt
  lab : List Int
  c : Int
  z : Pt
  t : isTableF pts lab = true
def oSl (pts : List Pt) (lab : List Int) : Outs := .any (Int × Pt) (fun q => { val := .tup [.agg (modC (mSlicer' pts lab q.1)), .c (.im (.cpx .f32 q.2.1 q.2.2))] })
theorem okR_Mz {m : Mod} {p q : Nat} : OkR false { val := .tup [.agg (modC m), .c (.im (.cpx .f32 p q))] } := by
  refine ⟨.tup _ (fun d hd => ?_), by simp, by simp⟩
  simp only [List.mem_cons, List.not_mem_nil, or_false] at hd
  rcases hd with rfl | rfl
  · refine .inr ⟨_, rfl, fun x hx => ?_⟩
    simp only [modC, List.mem_cons, List.not_mem_nil, or_false] at hx
    rcases hx with rfl | rfl | rfl | rfl | rfl | rfl | rfl | rfl | rfl | rfl | rfl <;> exact .im _ (.inl rfl)
  · exact .inl ⟨_, rfl, .im _ (.inl rfl)⟩
theorem ne_ipt : Nonempty (Int × Pt) = True := by simp only [eq_iff_iff, iff_true]; exact ⟨(0, (0, 0))⟩
noncomputable def ct_l5Slice : Ct := fam false (fun x : ASl => ([.agg (modC (mSlicer' x.pts x.lab x.c)), .c (.im (.cpx .f32 x.z.1 x.z.2))], [])) (fun x => oSl x.pts x.lab)
theorem run_l5Slice {pts : List Pt} {lab : List Int} (h : isTableF pts lab = true) (c : Int) (u v : Nat) : ct_l5Slice.run [.agg [.im (.int .i64 6), .im (.cpx .f32 0 0), .im (.cpx .f32 0 0), .im (.flt .f32 0), .im (.sl 1 []), .im (.int .i64 0), .im (.int .i64 0), .im (.sl 1 (rowsZ pts)), .im (.sl 1 (rowsN lab)), .im (.int .i64 c), .im (.int .i64 0)], .c (.im (.cpx .f32 u v))] [] = some (oSl pts lab) := by
  refine fam_run (args := fun x : ASl => ([D.agg (modC (mSlicer' x.pts x.lab x.c)), .c (.im (.cpx .f32 x.z.1 x.z.2))], [])) ?_ ⟨pts, lab, c, (u, v), h⟩
  rintro ⟨p, l, _, _, _⟩ ⟨p', l', _, _, _⟩ h
  simp [modC, mSlicer', rowsZ_eq, rowsN_eq] at h ⊢
  obtain ⟨⟨rfl, rfl, _⟩, _⟩ := h
  rfl
set_option maxRecDepth 100000 in
set_option maxHeartbeats 4000000 in
theorem law_l5Slice : Law Tryz.prog 116 ct_l5Slice := by
  refine fam_lawF (Env_cons law_l2Nearest Env_nil) hmixA Tryz.func116 rfl rfl (fun ⟨pts, lab, c, ⟨u, v⟩, hT⟩ => ⟨okA (fun o => okR_Mz), by simp [Tryz.f116], ?_⟩)
  obtain ⟨e1, e2⟩ := table_len hT
  have h1 : pts.length ≤ sm := by have : sm = 16777216 := rfl; omega
  have h2 : lab.length ≤ sm := by have : sm = 16777216 := rfl; omega
  simp only [oSl, modC, mSlicer', rowsZ_nil]
  have hlo := nearGo_ge (u, v) pts 0 (-1) 0 (by omega)
  have hhi := nearGo_lt (u, v) pts.length pts 0 (-1) 0 (by omega) (by omega)
  obtain ⟨N, hN⟩ : ∃ n, nearGo (u, v) pts 0 (-1) 0 = n := ⟨_, rfl⟩
  rw [hN] at hlo hhi
  by_cases hneg : N < 0
  · have hn' := eq_true hneg
    try simp -dsimp (maxSteps := 1000000) only [go_sem, List.forall_mem_nil, ↓reduceIte, Nat.reduceEqDiff, Nat.reduceLT, Nat.reduceLeDiff, Nat.reduceAdd, Nat.reduceMul, reduceCtorEq, Tryz.f116, run_l2Nearest h1 h2, hN, hn']
    refine finF_i [] ?_
    simp -dsimp (maxSteps := 1000000) only [go_sem, List.forall_mem_nil, ↓reduceIte, Nat.reduceEqDiff, Nat.reduceLT, Nat.reduceLeDiff, Nat.reduceAdd, Nat.reduceMul, reduceCtorEq]
    exact ⟨(_, (_, _)), rfl, rfl, rfl⟩
  · have hn' := eq_false hneg
    obtain ⟨K, rfl⟩ := Int.eq_ofNat_of_zero_le (show 0 ≤ N by omega)
    obtain ⟨q, hq⟩ : ∃ q, lab[K]? = some q := ⟨_, List.getElem?_eq_getElem (by omega)⟩
    obtain ⟨⟨x, y⟩, hp⟩ : ∃ q, pts[K]? = some q := ⟨_, List.getElem?_eq_getElem (by omega)⟩
    have hrq := rowsN_at hq
    have hrp := rowsZ_at hp
    have h0 : (0 ≤ (K : Int)) = True := by simp
    have hI1 : ((K : Int) < (lab.length : Int)) = True := eq_true (by omega)
    have hI2 : ((K : Int) < (pts.length : Int)) = True := eq_true (by omega)
    try simp -dsimp (maxSteps := 1000000) only [go_sem, List.forall_mem_nil, ↓reduceIte, Nat.reduceEqDiff, Nat.reduceLT, Nat.reduceLeDiff, Nat.reduceAdd, Nat.reduceMul, reduceCtorEq, Tryz.f116, run_l2Nearest h1 h2, hN, hn', hrq, hrp, h0, hI1, hI2, rowsZ_len, rowsN_len, Int.toNat_natCast]
    repeat' (first
      | ((with_reducible refine sl_i ?_ ?_); focus kernel_rfl)
      | ((with_reducible refine ro_i ?_ ?_); focus kernel_rfl))
    refine finF_i [] ?_
    simp -dsimp (maxSteps := 1000000) only [go_sem, List.forall_mem_nil, ↓reduceIte, Nat.reduceEqDiff, Nat.reduceLT, Nat.reduceLeDiff, Nat.reduceAdd, Nat.reduceMul, reduceCtorEq]
    exact ⟨(q, (x, y)), rfl, rfl, rfl⟩
noncomputable def ct_l5Copy : Ct := fam false (fun x : MdA => ([.agg (modC x.1)], [])) (fun x => .one (rM x.1))
theorem run_l5Copy {k : Int} {t1 t2 s1 s2 lv : Nat} {st : List Pt} {ra rc : Int} {pts : List Pt} {lab : List Int} {c l : Int} (hst : st.length ≤ sm) (hp : pts.length ≤ sm) (hl : lab.length ≤ sm) :
    ct_l5Copy.run [.agg [.im (.int .i64 k), .im (.cpx .f32 t1 t2), .im (.cpx .f32 s1 s2), .im (.flt .f32 lv), .im (.sl 1 (rowsZ st)), .im (.int .i64 ra), .im (.int .i64 rc), .im (.sl 1 (rowsZ pts)), .im (.sl 1 (rowsN lab)), .im (.int .i64 c), .im (.int .i64 l)]] [] =
      some (.one (rM ⟨k, (t1, t2), (s1, s2), lv, st, ra, rc, pts, lab, c, l⟩)) := by
  refine fam_run' (args := fun x : MdA => ([D.agg (modC x.1)], [])) ?_ ⟨⟨k, (t1, t2), (s1, s2), lv, st, ra, rc, pts, lab, c, l⟩, ⟨hst, hp, hl⟩⟩
  rintro ⟨a, _⟩ ⟨b, _⟩ h
  simp at h ⊢
  exact modC_inj h
set_option maxRecDepth 100000 in
set_option maxHeartbeats 8000000 in
theorem law_l5Copy : Law Tryz.prog 72 ct_l5Copy := by
  refine fam_lawF (Env_cons law_l4Copy (Env_cons law_l2Copy Env_nil)) hmixA Tryz.func72 rfl rfl (fun ⟨⟨k, ⟨t1, t2⟩, ⟨s1, s2⟩, lv, st, ra, rc, pts, lab, c, l⟩, ⟨q1, q2, q3⟩⟩ => ⟨okO okR_M, by simp [Tryz.f72], ?_⟩)
  simp only at q1 q2 q3
  have hmp : mapO (mapO imT) (tI (rowsZ pts)) = some (rowsZ pts) := tI_imT _
  have hml : mapO (mapO imT) (tI (rowsN lab)) = some (rowsN lab) := tI_imT _
  have hms : mapO (mapO imT) (tI (rowsZ st)) = some (rowsZ st) := tI_imT _
  simp only [modC, rM]
  try simp -dsimp (maxSteps := 1000000) only [go_sem, List.forall_mem_nil, ↓reduceIte, Nat.reduceEqDiff, Nat.reduceLT, Nat.reduceLeDiff, Nat.reduceAdd, Nat.reduceMul, reduceCtorEq, Tryz.f72, run_copyRing q1, run_copyTable q2 q3, rTb, sc_copyRing, sc_copyTable]
  repeat' (first
    | ((with_reducible refine sl_i ?_ ?_); focus kernel_rfl)
    | ((with_reducible refine ro_i ?_ ?_); focus kernel_rfl))
  refine finF_i [.frz 82 [.b 1 0 4], .frz 106 [.b 1 0 7], .frz 107 [.b 1 0 8]] ?_
  simp -dsimp (maxSteps := 1000000) only [go_sem, List.forall_mem_nil, ↓reduceIte, Nat.reduceEqDiff, Nat.reduceLT, Nat.reduceLeDiff, Nat.reduceAdd, Nat.reduceMul, reduceCtorEq, hmp, hml, hms, tI_len, rowsZ_len, rowsN_len]
end Go.SX
set_option linter.unusedVariables false
set_option linter.unusedSimpArgs false
namespace Go.SX
open Go Go.Proofs
structure AStp where
  m : Mod
  z : Pt
  d : Drawn m
  s1 : lvlB (absS z.1) = true
  s2 : lvlB (absS z.2) = true
abbrev QStp := { q : Mod × Pt // Drawn q.1 }
theorem drawn_mixS (t s : Pt) : Drawn ⟨2, t, s, 0, [], 0, 0, [], [], 0, 0⟩ := ⟨⟨by simp [sm], by simp [sm], by simp [sm]⟩, by simp [isModuleF, bareF_iff], by simp⟩
def mz11 : List B := [.t (.im (.int .i64 0)), .t (.im (.cpx .f32 0 0)), .t (.im (.cpx .f32 0 0)), .t (.im (.flt .f32 0)), .t .nil, .t (.im (.int .i64 0)), .t (.im (.int .i64 0)), .t .nil, .t .nil, .t (.im (.int .i64 0)), .t (.im (.int .i64 0))]
def oStp : Outs := .any QStp (fun q => { val := .tup [.agg (modC q.1.1), .c (.im (.cpx .f32 q.1.2.1 q.1.2.2))] })
theorem ne_stp : Nonempty QStp = True := by simp only [eq_iff_iff, iff_true]; exact ⟨⟨(mSum', (0, 0)), drawn_sum⟩⟩
noncomputable def ct_l5Step : Ct := fam false (fun x : AStp => ([.agg (modC x.m), .c (.im (.cpx .f32 x.z.1 x.z.2))], [])) (fun _ => oStp)
theorem run_l5Step {m : Mod} (h : Drawn m) {u v : Nat} (h1 : lvlB (absS u) = true) (h2 : lvlB (absS v) = true) : ct_l5Step.run [.agg (modC m), .c (.im (.cpx .f32 u v))] [] = some oStp :=
  fam_run (args := fun x : AStp => ([D.agg (modC x.m), .c (.im (.cpx .f32 x.z.1 x.z.2))], [])) (fun _ _ _ => rfl) ⟨m, (u, v), h, h1, h2⟩
set_option maxRecDepth 100000 in
set_option maxHeartbeats 16000000 in
theorem law_l5Step : Law Tryz.prog 71 ct_l5Step := by
  refine fam_lawF (Env_cons law_sMul (Env_cons law_sFlush (Env_cons law_l4Push (Env_cons law_l5Slice (Env_cons law_l1Abs Env_nil))))) hmixA Tryz.func71 rfl rfl (fun ⟨m, ⟨u, v⟩, hD, hu, hv⟩ => ⟨okA (fun o => okR_Mz), by simp [Tryz.f71], ?_⟩)
  simp only at hu hv
  simp only [oStp]
  rcases hD.forms with ⟨⟨t1, t2⟩, ⟨s1, s2⟩, rfl⟩ | ⟨⟨t1, t2⟩, ⟨s1, s2⟩, rfl⟩ | ⟨lv, rfl⟩ | ⟨st, a, rfl, q1, q2, q3, q4⟩ | rfl | ⟨pts, lab, c, rfl, hT⟩ | ⟨lv, rfl, hl⟩ | ⟨⟨s1, s2⟩, c, l, rfl, q1, q2, q3, q4⟩
  · simp only [modC, mSrc', rowsZ_nil, rowsN_nil]
    try simp -dsimp (maxSteps := 1000000) only [go_sem, List.forall_mem_nil, ↓reduceIte, Nat.reduceEqDiff, Nat.reduceLT, Nat.reduceLeDiff, Nat.reduceAdd, Nat.reduceMul, reduceCtorEq, Tryz.f71, run_MultiplyPoints, oMul, ne_nn]
    intro o
    try simp -dsimp (maxSteps := 1000000) only [go_sem, List.forall_mem_nil, ↓reduceIte, Nat.reduceEqDiff, Nat.reduceLT, Nat.reduceLeDiff, Nat.reduceAdd, Nat.reduceMul, reduceCtorEq, Tryz.f71]
    refine finF_i [] ?_
    simp -dsimp (maxSteps := 1000000) only [go_sem, List.forall_mem_nil, ↓reduceIte, Nat.reduceEqDiff, Nat.reduceLT, Nat.reduceLeDiff, Nat.reduceAdd, Nat.reduceMul, reduceCtorEq]
    exact ⟨⟨(mSrc' (t1, t2) (mulPt o (s1, s2) (t1, t2)), (s1, s2)), drawn_src _ _⟩, by simp [mSrc', rowsZ, rowsN]⟩
  · simp only [modC, rowsZ_nil, rowsN_nil]
    try simp -dsimp (maxSteps := 1000000) only [go_sem, List.forall_mem_nil, ↓reduceIte, Nat.reduceEqDiff, Nat.reduceLT, Nat.reduceLeDiff, Nat.reduceAdd, Nat.reduceMul, reduceCtorEq, Tryz.f71, Int.reduceEq, run_MultiplyPoints, oMul, ne_nn]
    intro o
    try simp -dsimp (maxSteps := 1000000) only [go_sem, List.forall_mem_nil, ↓reduceIte, Nat.reduceEqDiff, Nat.reduceLT, Nat.reduceLeDiff, Nat.reduceAdd, Nat.reduceMul, reduceCtorEq, Tryz.f71, run_MultiplyPoints, oMul, ne_nn]
    intro o2
    try simp -dsimp (maxSteps := 1000000) only [go_sem, List.forall_mem_nil, ↓reduceIte, Nat.reduceEqDiff, Nat.reduceLT, Nat.reduceLeDiff, Nat.reduceAdd, Nat.reduceMul, reduceCtorEq, Tryz.f71]
    refine finF_i [] ?_
    simp -dsimp (maxSteps := 1000000) only [go_sem, List.forall_mem_nil, ↓reduceIte, Nat.reduceEqDiff, Nat.reduceLT, Nat.reduceLeDiff, Nat.reduceAdd, Nat.reduceMul, reduceCtorEq]
    exact ⟨⟨(⟨2, (t1, t2), mulPt o2 (s1, s2) (t1, t2), 0, [], 0, 0, [], [], 0, 0⟩, mulPt o (u, v) (s1, s2)), drawn_mixS _ _⟩, by simp [rowsZ, rowsN]⟩
  · simp only [modC, mGain', rowsZ_nil, rowsN_nil]
    try simp -dsimp (maxSteps := 1000000) only [go_sem, List.forall_mem_nil, ↓reduceIte, Nat.reduceEqDiff, Nat.reduceLT, Nat.reduceLeDiff, Nat.reduceAdd, Nat.reduceMul, reduceCtorEq, Tryz.f71, Int.reduceEq, run_sFlush]
    repeat' (first
      | ((with_reducible refine sl_i ?_ ?_); focus kernel_rfl)
      | ((with_reducible refine ro_i ?_ ?_); focus kernel_rfl))
    refine finF_i [] ?_
    simp -dsimp (maxSteps := 1000000) only [go_sem, List.forall_mem_nil, ↓reduceIte, Nat.reduceEqDiff, Nat.reduceLT, Nat.reduceLeDiff, Nat.reduceAdd, Nat.reduceMul, reduceCtorEq]
    exact ⟨⟨(mGain' lv, (flushS (fop .mul .f32 u lv), flushS (fop .mul .f32 v lv))), drawn_gain _⟩, by simp [mGain', rowsZ, rowsN]⟩
  · obtain ⟨A, rfl⟩ := Int.eq_ofNat_of_zero_le q3
    have q4' : A < st.length := by omega
    simp only [modC, mDelay', rowsZ_nil, rowsN_nil]
    try simp -dsimp (maxSteps := 1000000) only [go_sem, List.forall_mem_nil, ↓reduceIte, Nat.reduceEqDiff, Nat.reduceLT, Nat.reduceLeDiff, Nat.reduceAdd, Nat.reduceMul, reduceCtorEq, Tryz.f71, Int.reduceEq, run_l4Push q1 q2 q4']
    refine finF_i [] ?_
    simp -dsimp (maxSteps := 1000000) only [go_sem, List.forall_mem_nil, ↓reduceIte, Nat.reduceEqDiff, Nat.reduceLT, Nat.reduceLeDiff, Nat.reduceAdd, Nat.reduceMul, reduceCtorEq]
    exact ⟨⟨(mDelay' (st.set A (u, v)) (((A + 1) % st.length : Nat) : Int), st.getD A (0, 0)), drawn_delay (by simp; omega) (by simp; omega) (by omega) (by have := Nat.mod_lt (A + 1) (show 0 < st.length by omega); simp only [List.length_set]; omega)⟩, by simp [mDelay', rowsZ, rowsN]⟩
  · simp only [modC, mSum', rowsZ_nil, rowsN_nil]
    try simp -dsimp (maxSteps := 1000000) only [go_sem, List.forall_mem_nil, ↓reduceIte, Nat.reduceEqDiff, Nat.reduceLT, Nat.reduceLeDiff, Nat.reduceAdd, Nat.reduceMul, reduceCtorEq, Tryz.f71, Int.reduceEq]
    refine finF_i [] ?_
    simp -dsimp (maxSteps := 1000000) only [go_sem, List.forall_mem_nil, ↓reduceIte, Nat.reduceEqDiff, Nat.reduceLT, Nat.reduceLeDiff, Nat.reduceAdd, Nat.reduceMul, reduceCtorEq]
    exact ⟨⟨(mSum', (u, v)), drawn_sum⟩, by simp [mSum', rowsZ, rowsN]⟩
  · simp only [modC, mSlicer', rowsZ_nil]
    try simp -dsimp (maxSteps := 1000000) only [go_sem, List.forall_mem_nil, ↓reduceIte, Nat.reduceEqDiff, Nat.reduceLT, Nat.reduceLeDiff, Nat.reduceAdd, Nat.reduceMul, reduceCtorEq, Tryz.f71, Int.reduceEq, run_l5Slice hT, oSl, ne_ipt, modC, mSlicer', rowsZ_nil]
    rintro ⟨c', ⟨x, y⟩⟩
    try simp -dsimp (maxSteps := 1000000) only [go_sem, List.forall_mem_nil, ↓reduceIte, Nat.reduceEqDiff, Nat.reduceLT, Nat.reduceLeDiff, Nat.reduceAdd, Nat.reduceMul, reduceCtorEq, Tryz.f71, modC, mSlicer', rowsZ_nil]
    refine finF_i [] ?_
    simp -dsimp (maxSteps := 1000000) only [go_sem, List.forall_mem_nil, ↓reduceIte, Nat.reduceEqDiff, Nat.reduceLT, Nat.reduceLeDiff, Nat.reduceAdd, Nat.reduceMul, reduceCtorEq]
    exact ⟨⟨(mSlicer' pts lab c', (x, y)), drawn_slicer hT⟩, by simp [mSlicer', rowsZ]⟩
  · simp only [modC, mMeterL, rowsZ_nil, rowsN_nil]
    try simp -dsimp (maxSteps := 1000000) only [go_sem, List.forall_mem_nil, ↓reduceIte, Nat.reduceEqDiff, Nat.reduceLT, Nat.reduceLeDiff, Nat.reduceAdd, Nat.reduceMul, reduceCtorEq, Tryz.f71, Int.reduceEq]
    refine loop_i (ι := { k : Nat // k ≤ 2 } × { l : Nat // lvlB l = true }) (fun x => ⟨[(1, some (.c (.im (.cpx .f32 u v)))), (2, some (.c (.ptr 0 0 0 0))), (4, some (.c (.ptr 1 0 0 0))), (82, some (.c (.view 2 1 0 2))), (83, some (.c (.im (.int .i64 2)))), (84, some (.c (.im (.int .i64 (x.1.1 : Int)))))],
      [(0, some (.box [.t (.im (.int .i64 7)), .t (.im (.cpx .f32 0 0)), .t (.im (.cpx .f32 0 0)), .t (.im (.flt .f32 x.2.1)), .t (.im (.sl 1 [])), .t (.im (.int .i64 0)), .t (.im (.int .i64 0)), .t (.im (.sl 1 [])), .t (.im (.sl 1 [])), .t (.im (.int .i64 0)), .t (.im (.int .i64 0))])),
       (1, some (.box mz11)), (2, some (.arr 1 [[.im (.flt .f32 u)], [.im (.flt .f32 v)]]))], 3⟩) (fun x => 2 - x.1.1) (⟨0, by omega⟩, ⟨lv, hl⟩) ⟨[], [0, 1, 2], by ((simp only [go_sem, eq_self, MvRb, MvRn, MvRt, List.nodup_cons, List.nodup_nil, ↓reduceIte, Nat.reduceEqDiff, Nat.reduceLT, Nat.reduceLeDiff, reduceCtorEq, List.forall_mem_nil, Nat.zero_le, false_implies, List.mem_singleton, mz11]) <;> (try (simp -dsimp only [go_sem, eq_self, MvRb, MvRn, MvRt, List.nodup_cons, List.nodup_nil, ↓reduceIte, Nat.reduceEqDiff, Nat.reduceLT, Nat.reduceLeDiff, reduceCtorEq, List.forall_mem_nil, Nat.zero_le, false_implies, List.mem_singleton, mz11]))) <;> simp [lk, MvB_im, MvRt]⟩ (fun ⟨⟨k, hk⟩, ⟨lv, hl⟩⟩ => ?_)
    have hk3 : k = 0 ∨ k = 1 ∨ k = 2 := by omega
    simp only [mz11]
    have c2 : ((2 : Nat) : Int) = 2 := rfl
    have c1 : ((1 : Nat) : Int) = 1 := rfl
    have c0 : ((0 : Nat) : Int) = 0 := rfl
    have w1 : IntKind.i64.wrap 1 = 1 := rfl
    have w2 : IntKind.i64.wrap 2 = 2 := rfl
    rcases hk3 with rfl | rfl | rfl
    · cases hc : fcmp .gtr .f32 (absS u) lv with
      | true =>
        try simp -dsimp (maxSteps := 1000000) only [go_sem, List.forall_mem_nil, ↓reduceIte, Nat.reduceEqDiff, Nat.reduceLT, Nat.reduceLeDiff, Nat.reduceAdd, Nat.reduceMul, reduceCtorEq, Tryz.f71, c0, c2, w1, hc, run_l1Abs, Int.reduceLT, Int.reduceLE, Int.reduceToNat, Int.reduceAdd, Int.toNat_zero]
        repeat' (first
          | ((with_reducible refine sl_i ?_ ?_); focus kernel_rfl)
          | ((with_reducible refine ro_i ?_ ?_); focus kernel_rfl))
        exact ⟨(⟨1, by omega⟩, ⟨absS u, hu⟩), by simp, [], [0, 1, 2], by ((simp only [go_sem, eq_self, MvRb, MvRn, MvRt, List.nodup_cons, List.nodup_nil, ↓reduceIte, Nat.reduceEqDiff, Nat.reduceLT, Nat.reduceLeDiff, reduceCtorEq, List.forall_mem_nil, Nat.zero_le, false_implies, List.mem_singleton, mz11]) <;> (try (simp -dsimp only [go_sem, eq_self, MvRb, MvRn, MvRt, List.nodup_cons, List.nodup_nil, ↓reduceIte, Nat.reduceEqDiff, Nat.reduceLT, Nat.reduceLeDiff, reduceCtorEq, List.forall_mem_nil, Nat.zero_le, false_implies, List.mem_singleton, mz11]))) <;> simp [lk, MvB_im, MvRt]⟩
      | false =>
        try simp -dsimp (maxSteps := 1000000) only [go_sem, List.forall_mem_nil, ↓reduceIte, Nat.reduceEqDiff, Nat.reduceLT, Nat.reduceLeDiff, Nat.reduceAdd, Nat.reduceMul, reduceCtorEq, Tryz.f71, c0, c2, w1, hc, run_l1Abs, Int.reduceLT, Int.reduceLE, Int.reduceToNat, Int.reduceAdd, Int.toNat_zero]
        repeat' (first
          | ((with_reducible refine sl_i ?_ ?_); focus kernel_rfl)
          | ((with_reducible refine ro_i ?_ ?_); focus kernel_rfl))
        exact ⟨(⟨1, by omega⟩, ⟨lv, hl⟩), by simp, [], [0, 1, 2], by ((simp only [go_sem, eq_self, MvRb, MvRn, MvRt, List.nodup_cons, List.nodup_nil, ↓reduceIte, Nat.reduceEqDiff, Nat.reduceLT, Nat.reduceLeDiff, reduceCtorEq, List.forall_mem_nil, Nat.zero_le, false_implies, List.mem_singleton, mz11]) <;> (try (simp -dsimp only [go_sem, eq_self, MvRb, MvRn, MvRt, List.nodup_cons, List.nodup_nil, ↓reduceIte, Nat.reduceEqDiff, Nat.reduceLT, Nat.reduceLeDiff, reduceCtorEq, List.forall_mem_nil, Nat.zero_le, false_implies, List.mem_singleton, mz11]))) <;> simp [lk, MvB_im, MvRt]⟩
    · cases hc : fcmp .gtr .f32 (absS v) lv with
      | true =>
        try simp -dsimp (maxSteps := 1000000) only [go_sem, List.forall_mem_nil, ↓reduceIte, Nat.reduceEqDiff, Nat.reduceLT, Nat.reduceLeDiff, Nat.reduceAdd, Nat.reduceMul, reduceCtorEq, Tryz.f71, c1, c2, w2, hc, run_l1Abs, Int.reduceLT, Int.reduceLE, Int.reduceToNat, Int.reduceAdd, Int.toNat_zero]
        repeat' (first
          | ((with_reducible refine sl_i ?_ ?_); focus kernel_rfl)
          | ((with_reducible refine ro_i ?_ ?_); focus kernel_rfl))
        exact ⟨(⟨2, by omega⟩, ⟨absS v, hv⟩), by simp, [], [0, 1, 2], by ((simp only [go_sem, eq_self, MvRb, MvRn, MvRt, List.nodup_cons, List.nodup_nil, ↓reduceIte, Nat.reduceEqDiff, Nat.reduceLT, Nat.reduceLeDiff, reduceCtorEq, List.forall_mem_nil, Nat.zero_le, false_implies, List.mem_singleton, mz11]) <;> (try (simp -dsimp only [go_sem, eq_self, MvRb, MvRn, MvRt, List.nodup_cons, List.nodup_nil, ↓reduceIte, Nat.reduceEqDiff, Nat.reduceLT, Nat.reduceLeDiff, reduceCtorEq, List.forall_mem_nil, Nat.zero_le, false_implies, List.mem_singleton, mz11]))) <;> simp [lk, MvB_im, MvRt]⟩
      | false =>
        try simp -dsimp (maxSteps := 1000000) only [go_sem, List.forall_mem_nil, ↓reduceIte, Nat.reduceEqDiff, Nat.reduceLT, Nat.reduceLeDiff, Nat.reduceAdd, Nat.reduceMul, reduceCtorEq, Tryz.f71, c1, c2, w2, hc, run_l1Abs, Int.reduceLT, Int.reduceLE, Int.reduceToNat, Int.reduceAdd, Int.toNat_zero]
        repeat' (first
          | ((with_reducible refine sl_i ?_ ?_); focus kernel_rfl)
          | ((with_reducible refine ro_i ?_ ?_); focus kernel_rfl))
        exact ⟨(⟨2, by omega⟩, ⟨lv, hl⟩), by simp, [], [0, 1, 2], by ((simp only [go_sem, eq_self, MvRb, MvRn, MvRt, List.nodup_cons, List.nodup_nil, ↓reduceIte, Nat.reduceEqDiff, Nat.reduceLT, Nat.reduceLeDiff, reduceCtorEq, List.forall_mem_nil, Nat.zero_le, false_implies, List.mem_singleton, mz11]) <;> (try (simp -dsimp only [go_sem, eq_self, MvRb, MvRn, MvRt, List.nodup_cons, List.nodup_nil, ↓reduceIte, Nat.reduceEqDiff, Nat.reduceLT, Nat.reduceLeDiff, reduceCtorEq, List.forall_mem_nil, Nat.zero_le, false_implies, List.mem_singleton, mz11]))) <;> simp [lk, MvB_im, MvRt]⟩
    · skip
      try simp -dsimp (maxSteps := 1000000) only [go_sem, List.forall_mem_nil, ↓reduceIte, Nat.reduceEqDiff, Nat.reduceLT, Nat.reduceLeDiff, Nat.reduceAdd, Nat.reduceMul, reduceCtorEq, Tryz.f71, c2, Int.reduceLT]
      refine finF_i [] ?_
      simp -dsimp (maxSteps := 1000000) only [go_sem, List.forall_mem_nil, ↓reduceIte, Nat.reduceEqDiff, Nat.reduceLT, Nat.reduceLeDiff, Nat.reduceAdd, Nat.reduceMul, reduceCtorEq]
      exact ⟨⟨(mMeterL lv, (u, v)), drawn_meterL hl⟩, by simp [mMeterL, rowsZ, rowsN]⟩
  · simp only [modC, mHold', rowsZ_nil, rowsN_nil]
    by_cases hl0 : l = 0
    · have hl' := eq_true hl0
      have hw : IntKind.i64.wrap (c - 1) = c - 1 := wrap_id (by omega) (by omega)
      try simp -dsimp (maxSteps := 1000000) only [go_sem, List.forall_mem_nil, ↓reduceIte, Nat.reduceEqDiff, Nat.reduceLT, Nat.reduceLeDiff, Nat.reduceAdd, Nat.reduceMul, reduceCtorEq, Tryz.f71, Int.reduceEq, hl', hw]
      repeat' (first
        | ((with_reducible refine sl_i ?_ ?_); focus kernel_rfl)
        | ((with_reducible refine ro_i ?_ ?_); focus kernel_rfl))
      refine finF_i [] ?_
      simp -dsimp (maxSteps := 1000000) only [go_sem, List.forall_mem_nil, ↓reduceIte, Nat.reduceEqDiff, Nat.reduceLT, Nat.reduceLeDiff, Nat.reduceAdd, Nat.reduceMul, reduceCtorEq]
      exact ⟨⟨(mHold' (u, v) c (c - 1), (u, v)), drawn_hold q1 q2 (by omega) (by omega)⟩, by simp [mHold', rowsZ, rowsN]⟩
    · have hl' := eq_false hl0
      have hw : IntKind.i64.wrap (l - 1) = l - 1 := wrap_id (by omega) (by omega)
      try simp -dsimp (maxSteps := 1000000) only [go_sem, List.forall_mem_nil, ↓reduceIte, Nat.reduceEqDiff, Nat.reduceLT, Nat.reduceLeDiff, Nat.reduceAdd, Nat.reduceMul, reduceCtorEq, Tryz.f71, Int.reduceEq, hl', hw]
      repeat' (first
        | ((with_reducible refine sl_i ?_ ?_); focus kernel_rfl)
        | ((with_reducible refine ro_i ?_ ?_); focus kernel_rfl))
      refine finF_i [] ?_
      simp -dsimp (maxSteps := 1000000) only [go_sem, List.forall_mem_nil, ↓reduceIte, Nat.reduceEqDiff, Nat.reduceLT, Nat.reduceLeDiff, Nat.reduceAdd, Nat.reduceMul, reduceCtorEq]
      exact ⟨⟨(mHold' (s1, s2) c (l - 1), (s1, s2)), drawn_hold q1 q2 (by omega) (by omega)⟩, by simp [mHold', rowsZ, rowsN]⟩
theorem drawn_zrs {X : Nat} (h : X < 5) : Drawn (mDelay' (zrs (X + 1)) 0) := by
  have hl : (zrs (X + 1)).length = X + 1 := by simp
  exact drawn_delay (by omega) (by omega) (by omega) (by omega)
def modIB (m : Mod) : List B := [.t (.im (.int .i64 m.kind)), .t (.im (.cpx .f32 m.turn.1 m.turn.2)), .t (.im (.cpx .f32 m.state.1 m.state.2)), .t (.im (.flt .f32 m.level)), .t (.im (.sl 1 (rowsZ m.store))), .t (.im (.int .i64 m.rat)), .t (.im (.int .i64 m.rcnt)), .t (.im (.sl 1 (rowsZ m.pts))), .t (.im (.sl 1 (rowsN m.lab))), .t (.im (.int .i64 m.count)), .t (.im (.int .i64 m.left))]
abbrev QMod := { m : Mod // Drawn m }
def oMod (l : List Int) : Outs := .any (QMod × SK l) (fun q => { val := .agg (modC q.1.1), places := hsK l q.2.1.1 q.2.1.2 })
theorem ne_mod (l : List Int) : Nonempty (QMod × SK l) = True := by simp only [eq_iff_iff, iff_true]; exact ⟨(⟨mSum', drawn_sum⟩, ⟨(0, 0), by simp⟩)⟩
theorem okD_mod {m : Mod} : OkD false 0 (.agg (modC m)) := .agg _ (fun x hx => by
  simp only [modC, List.mem_cons, List.not_mem_nil, or_false] at hx
  rcases hx with rfl | rfl | rfl | rfl | rfl | rfl | rfl | rfl | rfl | rfl | rfl <;> exact .im _ (.inl rfl))
noncomputable def ct_l5Module : Ct := fam false (fun x : AKn => ([.c (.ptr 0 0 0 0)], hsK x.l x.a x.h)) (fun x => oMod x.l)
theorem run_l5Module {l : List Int} {a h : Int} (h1 : l.length ≤ 1048576) (h2 : ∀ b ∈ l, 0 ≤ b ∧ b < 256) (h3 : 0 ≤ a) (h4 : a ≤ l.length) : ct_l5Module.run [.c (.ptr 0 0 0 0)] [[.t (.im (.sl 1 (rowsB l))), .t (.im (.int .i64 a)), .t (.im (.int .i64 h))]] = some (oMod l) := by
  refine fam_run' (args := fun x : AKn => ([D.c (.ptr 0 0 0 0)], hsK x.l x.a x.h)) (fun x y h => ?_) ⟨l, h1, h2, a, h, h3, h4⟩
  simp only [Prod.mk.injEq, true_and] at h
  exact AKn_ext (hsK_inj h)
theorem cases8 {p : Prop} {v : Int} (h1 : 0 ≤ v) (h2 : v < 8) (h0 : v = 0 → p) (h1' : v = 1 → p) (h2' : v = 2 → p) (h3 : v = 3 → p) (h4 : v = 4 → p) (h5 : v = 5 → p) (h6 : v = 6 → p) (h7 : v = 7 → p) : p := by
  have : v = 0 ∨ v = 1 ∨ v = 2 ∨ v = 3 ∨ v = 4 ∨ v = 5 ∨ v = 6 ∨ v = 7 := by omega
  rcases this with h | h | h | h | h | h | h | h
  · exact h0 h
  · exact h1' h
  · exact h2' h
  · exact h3 h
  · exact h4 h
  · exact h5 h
  · exact h6 h
  · exact h7 h
set_option maxRecDepth 100000 in
set_option maxHeartbeats 32000000 in
theorem law_l5Module : Law Tryz.prog 31 ct_l5Module := by
  refine fam_lawF (Env_cons law_sSum (Env_cons law_l01Below (Env_cons law_l5Turn (Env_cons law_l2Small (Env_cons law_sSource (Env_cons law_sMixer (Env_cons law_l1Any (Env_cons law_sGain (Env_cons law_sDelay (Env_cons law_l2Table (Env_cons law_NewSlicer (Env_cons law_sMeter (Env_cons law_sHold (Env_cons law_l5Copy (Env_cons law_l5Step Env_nil)))))))))))))))
    hmixA Tryz.func31 rfl rfl (fun ⟨l, h1, h2, a, h, h3, h4⟩ => ⟨okA (fun o => okK (n := 0) okD_mod), by simp [Tryz.f31], ?_⟩)
  simp only [oMod, hsK]
  have h8 : ∀ (a h : Int), 0 ≤ a → a ≤ l.length → ct_l01Below.run [.c (.ptr 0 0 0 0), .c (.im (.int .i64 8))] [[.t (.im (.sl 1 (rowsB l))), .t (.im (.int .i64 a)), .t (.im (.int .i64 h))]] = some (oBelow l 8) := fun a h q1 q2 => run_l01Below h1 h2 q1 q2 (n := 8) (by decide) (by decide)
  try simp -dsimp (maxSteps := 1000000) only [go_sem, List.forall_mem_nil, ↓reduceIte, Nat.reduceEqDiff, Nat.reduceLT, Nat.reduceLeDiff, Nat.reduceAdd, Nat.reduceMul, reduceCtorEq, Tryz.f31, run_sSum, rM, modC, mSum', rowsZ_nil, rowsN_nil, h8 a h h3 h4, oBelow, ne_below l (n := 8) (by decide), hsK]
  rintro ⟨⟨v, ⟨⟨a1, k1⟩, b1⟩⟩, v1, v2⟩
  simp only at v1 v2
  refine cases8 v1 v2 ?h0 ?h1 ?h2 ?h3 ?h4 ?h5 ?h6 ?h7 <;> rintro rfl
  case' h0 =>
    try simp -dsimp (maxSteps := 1000000) only [go_sem, List.forall_mem_nil, ↓reduceIte, Nat.reduceEqDiff, Nat.reduceLT, Nat.reduceLeDiff, Nat.reduceAdd, Nat.reduceMul, reduceCtorEq, Tryz.f31, Int.reduceEq, run_l5Turn h1 h2 b1.1 b1.2, oPt, ne_opt, hsK]
    rintro ⟨⟨t1, t2⟩, ⟨⟨a2, k2⟩, b2⟩⟩
    try simp -dsimp (maxSteps := 1000000) only [go_sem, List.forall_mem_nil, ↓reduceIte, Nat.reduceEqDiff, Nat.reduceLT, Nat.reduceLeDiff, Nat.reduceAdd, Nat.reduceMul, reduceCtorEq, Tryz.f31, hsK, run_l2Small h1 h2 b2.1 b2.2, oSmall, ne_small]
    rintro ⟨⟨⟨x, y⟩, ⟨⟨a3, k3⟩, b3⟩⟩, _, _, _, _⟩
    obtain ⟨X, hX⟩ : ∃ q, wI x = q := ⟨_, rfl⟩
    obtain ⟨Y, hY⟩ : ∃ q, wI y = q := ⟨_, rfl⟩
    try simp -dsimp (maxSteps := 1000000) only [go_sem, List.forall_mem_nil, ↓reduceIte, Nat.reduceEqDiff, Nat.reduceLT, Nat.reduceLeDiff, Nat.reduceAdd, Nat.reduceMul, reduceCtorEq, Tryz.f31, hX, hY, run_sSource, rM, modC, mSrc', hsK, h8 a3 k3 b3.1 b3.2, oBelow, ne_below l (n := 8) (by decide)]
    rintro ⟨⟨v9, ⟨⟨a, k⟩, b⟩⟩, r1, r2⟩
    simp only at r1 r2 b
    obtain ⟨N, rfl⟩ := Int.eq_ofNat_of_zero_le r1
    try simp -dsimp (maxSteps := 1000000) only [go_sem, List.forall_mem_nil, ↓reduceIte, Nat.reduceEqDiff, Nat.reduceLT, Nat.reduceLeDiff, Nat.reduceAdd, Nat.reduceMul, reduceCtorEq, Tryz.f31, hsK]
    obtain ⟨i0, hi0⟩ : ∃ w : ({ m : Mod // Drawn m } × SK l) × { n : Nat // n ≤ 8 }, w = ((⟨(mSrc' (t1, t2) (X, Y)), drawn_src _ _⟩, ⟨(a, k), b⟩), ⟨N, by omega⟩) := ⟨_, rfl⟩
    refine loop_i (ι := ({ m : Mod // Drawn m } × SK l) × { n : Nat // n ≤ 8 }) (fun x => ⟨[(0, some (.c (.ptr 0 0 0 0))), (2, some (.c (.ptr 1 0 0 0))), (3, some (.c (.ptr 2 0 0 0))), (4, some (.c (.im (.int .i64 (x.2.1 : Int)))))],
      [(0, some (.box [.t (.im (.sl 1 (rowsB l))), .t (.im (.int .i64 x.1.2.1.1)), .t (.im (.int .i64 x.1.2.1.2))])), (1, some (.box mz11)), (2, some (.box (modIB x.1.1.1)))], 3⟩) (fun x => x.2.1) i0 ⟨[], [0, 1, 2], by subst hi0; (simp only [go_sem, eq_self, MvRb, MvRn, MvRt, List.nodup_cons, List.nodup_nil, ↓reduceIte, Nat.reduceEqDiff, Nat.reduceLT, Nat.reduceLeDiff, reduceCtorEq, List.forall_mem_nil, Nat.zero_le, false_implies, List.mem_singleton, modIB, mz11, mSrc', mMix', mGain', mDelay', mSlicer', mMeter', mHold', mSum', rowsZ_nil, rowsN_nil]) <;> simp [lk, MvB_im, modIB, mSrc', mMix', mGain', mDelay', mSlicer', mMeter', mHold', mSum', rowsZ_nil, rowsN_nil] <;> (try rfl)⟩ (fun ⟨⟨⟨m, hD⟩, ⟨⟨a, k⟩, b⟩⟩, ⟨n, hn⟩⟩ => ?_)
  case' h1 =>
    try simp -dsimp (maxSteps := 1000000) only [go_sem, List.forall_mem_nil, ↓reduceIte, Nat.reduceEqDiff, Nat.reduceLT, Nat.reduceLeDiff, Nat.reduceAdd, Nat.reduceMul, reduceCtorEq, Tryz.f31, Int.reduceEq, run_l5Turn h1 h2 b1.1 b1.2, oPt, ne_opt, hsK]
    rintro ⟨⟨t1, t2⟩, ⟨⟨a2, k2⟩, b2⟩⟩
    try simp -dsimp (maxSteps := 1000000) only [go_sem, List.forall_mem_nil, ↓reduceIte, Nat.reduceEqDiff, Nat.reduceLT, Nat.reduceLeDiff, Nat.reduceAdd, Nat.reduceMul, reduceCtorEq, Tryz.f31, run_sMixer, rM, modC, mMix', hsK, h8 a2 k2 b2.1 b2.2, oBelow, ne_below l (n := 8) (by decide)]
    rintro ⟨⟨v9, ⟨⟨a, k⟩, b⟩⟩, r1, r2⟩
    simp only at r1 r2 b
    obtain ⟨N, rfl⟩ := Int.eq_ofNat_of_zero_le r1
    try simp -dsimp (maxSteps := 1000000) only [go_sem, List.forall_mem_nil, ↓reduceIte, Nat.reduceEqDiff, Nat.reduceLT, Nat.reduceLeDiff, Nat.reduceAdd, Nat.reduceMul, reduceCtorEq, Tryz.f31, hsK]
    obtain ⟨i0, hi0⟩ : ∃ w : ({ m : Mod // Drawn m } × SK l) × { n : Nat // n ≤ 8 }, w = ((⟨(mMix' (t1, t2)), drawn_mix _⟩, ⟨(a, k), b⟩), ⟨N, by omega⟩) := ⟨_, rfl⟩
    refine loop_i (ι := ({ m : Mod // Drawn m } × SK l) × { n : Nat // n ≤ 8 }) (fun x => ⟨[(0, some (.c (.ptr 0 0 0 0))), (2, some (.c (.ptr 1 0 0 0))), (3, some (.c (.ptr 2 0 0 0))), (4, some (.c (.im (.int .i64 (x.2.1 : Int)))))],
      [(0, some (.box [.t (.im (.sl 1 (rowsB l))), .t (.im (.int .i64 x.1.2.1.1)), .t (.im (.int .i64 x.1.2.1.2))])), (1, some (.box mz11)), (2, some (.box (modIB x.1.1.1)))], 3⟩) (fun x => x.2.1) i0 ⟨[], [0, 1, 2], by subst hi0; (simp only [go_sem, eq_self, MvRb, MvRn, MvRt, List.nodup_cons, List.nodup_nil, ↓reduceIte, Nat.reduceEqDiff, Nat.reduceLT, Nat.reduceLeDiff, reduceCtorEq, List.forall_mem_nil, Nat.zero_le, false_implies, List.mem_singleton, modIB, mz11, mSrc', mMix', mGain', mDelay', mSlicer', mMeter', mHold', mSum', rowsZ_nil, rowsN_nil]) <;> simp [lk, MvB_im, modIB, mSrc', mMix', mGain', mDelay', mSlicer', mMeter', mHold', mSum', rowsZ_nil, rowsN_nil] <;> (try rfl)⟩ (fun ⟨⟨⟨m, hD⟩, ⟨⟨a, k⟩, b⟩⟩, ⟨n, hn⟩⟩ => ?_)
  case' h2 =>
    try simp -dsimp (maxSteps := 1000000) only [go_sem, List.forall_mem_nil, ↓reduceIte, Nat.reduceEqDiff, Nat.reduceLT, Nat.reduceLeDiff, Nat.reduceAdd, Nat.reduceMul, reduceCtorEq, Tryz.f31, Int.reduceEq, runNat h1 h2 b1.1 b1.2, oNat, ne_onat, hsK]
    rintro ⟨x, ⟨⟨a2, k2⟩, b2⟩⟩
    try simp -dsimp (maxSteps := 1000000) only [go_sem, List.forall_mem_nil, ↓reduceIte, Nat.reduceEqDiff, Nat.reduceLT, Nat.reduceLeDiff, Nat.reduceAdd, Nat.reduceMul, reduceCtorEq, Tryz.f31, run_sGain, rM, modC, mGain', hsK, h8 a2 k2 b2.1 b2.2, oBelow, ne_below l (n := 8) (by decide)]
    rintro ⟨⟨v9, ⟨⟨a, k⟩, b⟩⟩, r1, r2⟩
    simp only at r1 r2 b
    obtain ⟨N, rfl⟩ := Int.eq_ofNat_of_zero_le r1
    try simp -dsimp (maxSteps := 1000000) only [go_sem, List.forall_mem_nil, ↓reduceIte, Nat.reduceEqDiff, Nat.reduceLT, Nat.reduceLeDiff, Nat.reduceAdd, Nat.reduceMul, reduceCtorEq, Tryz.f31, hsK]
    obtain ⟨i0, hi0⟩ : ∃ w : ({ m : Mod // Drawn m } × SK l) × { n : Nat // n ≤ 8 }, w = ((⟨(mGain' x), drawn_gain _⟩, ⟨(a, k), b⟩), ⟨N, by omega⟩) := ⟨_, rfl⟩
    refine loop_i (ι := ({ m : Mod // Drawn m } × SK l) × { n : Nat // n ≤ 8 }) (fun x => ⟨[(0, some (.c (.ptr 0 0 0 0))), (2, some (.c (.ptr 1 0 0 0))), (3, some (.c (.ptr 2 0 0 0))), (4, some (.c (.im (.int .i64 (x.2.1 : Int)))))],
      [(0, some (.box [.t (.im (.sl 1 (rowsB l))), .t (.im (.int .i64 x.1.2.1.1)), .t (.im (.int .i64 x.1.2.1.2))])), (1, some (.box mz11)), (2, some (.box (modIB x.1.1.1)))], 3⟩) (fun x => x.2.1) i0 ⟨[], [0, 1, 2], by subst hi0; (simp only [go_sem, eq_self, MvRb, MvRn, MvRt, List.nodup_cons, List.nodup_nil, ↓reduceIte, Nat.reduceEqDiff, Nat.reduceLT, Nat.reduceLeDiff, reduceCtorEq, List.forall_mem_nil, Nat.zero_le, false_implies, List.mem_singleton, modIB, mz11, mSrc', mMix', mGain', mDelay', mSlicer', mMeter', mHold', mSum', rowsZ_nil, rowsN_nil]) <;> simp [lk, MvB_im, modIB, mSrc', mMix', mGain', mDelay', mSlicer', mMeter', mHold', mSum', rowsZ_nil, rowsN_nil] <;> (try rfl)⟩ (fun ⟨⟨⟨m, hD⟩, ⟨⟨a, k⟩, b⟩⟩, ⟨n, hn⟩⟩ => ?_)
  case' h3 =>
    try simp -dsimp (maxSteps := 1000000) only [go_sem, List.forall_mem_nil, ↓reduceIte, Nat.reduceEqDiff, Nat.reduceLT, Nat.reduceLeDiff, Nat.reduceAdd, Nat.reduceMul, reduceCtorEq, Tryz.f31, Int.reduceEq, run_l01Below h1 h2 b1.1 b1.2 (n := 5) (by decide) (by decide), oBelow, ne_below l (n := 5) (by decide), hsK]
    rintro ⟨⟨x, ⟨⟨a2, k2⟩, b2⟩⟩, x1, x2⟩
    simp only at x1 x2
    obtain ⟨X, rfl⟩ := Int.eq_ofNat_of_zero_le x1
    have hw : IntKind.i64.wrap (1 + (X : Int)) = ((X + 1 : Nat) : Int) := by rw [wrap_id (by omega) (by omega)]; omega
    try simp -dsimp (maxSteps := 1000000) only [go_sem, List.forall_mem_nil, ↓reduceIte, Nat.reduceEqDiff, Nat.reduceLT, Nat.reduceLeDiff, Nat.reduceAdd, Nat.reduceMul, reduceCtorEq, Tryz.f31, hw, run_sDelay (n := X + 1) (by omega) (by omega), rMB, rM, modC, mDelay', hsK, h8 a2 k2 b2.1 b2.2, oBelow, ne_below l (n := 8) (by decide)]
    rintro ⟨⟨v9, ⟨⟨a, k⟩, b⟩⟩, r1, r2⟩
    simp only at r1 r2 b
    obtain ⟨N, rfl⟩ := Int.eq_ofNat_of_zero_le r1
    try simp -dsimp (maxSteps := 1000000) only [go_sem, List.forall_mem_nil, ↓reduceIte, Nat.reduceEqDiff, Nat.reduceLT, Nat.reduceLeDiff, Nat.reduceAdd, Nat.reduceMul, reduceCtorEq, Tryz.f31, hsK]
    obtain ⟨i0, hi0⟩ : ∃ w : ({ m : Mod // Drawn m } × SK l) × { n : Nat // n ≤ 8 }, w = ((⟨(mDelay' (zrs (X + 1)) 0), drawn_zrs (by omega)⟩, ⟨(a, k), b⟩), ⟨N, by omega⟩) := ⟨_, rfl⟩
    refine loop_i (ι := ({ m : Mod // Drawn m } × SK l) × { n : Nat // n ≤ 8 }) (fun x => ⟨[(0, some (.c (.ptr 0 0 0 0))), (2, some (.c (.ptr 1 0 0 0))), (3, some (.c (.ptr 2 0 0 0))), (4, some (.c (.im (.int .i64 (x.2.1 : Int)))))],
      [(0, some (.box [.t (.im (.sl 1 (rowsB l))), .t (.im (.int .i64 x.1.2.1.1)), .t (.im (.int .i64 x.1.2.1.2))])), (1, some (.box mz11)), (2, some (.box (modIB x.1.1.1)))], 3⟩) (fun x => x.2.1) i0 ⟨[], [0, 1, 2], by subst hi0; (simp only [go_sem, eq_self, MvRb, MvRn, MvRt, List.nodup_cons, List.nodup_nil, ↓reduceIte, Nat.reduceEqDiff, Nat.reduceLT, Nat.reduceLeDiff, reduceCtorEq, List.forall_mem_nil, Nat.zero_le, false_implies, List.mem_singleton, modIB, mz11, mSrc', mMix', mGain', mDelay', mSlicer', mMeter', mHold', mSum', rowsZ_nil, rowsN_nil]) <;> simp [lk, MvB_im, modIB, mSrc', mMix', mGain', mDelay', mSlicer', mMeter', mHold', mSum', rowsZ_nil, rowsN_nil] <;> (try rfl)⟩ (fun ⟨⟨⟨m, hD⟩, ⟨⟨a, k⟩, b⟩⟩, ⟨n, hn⟩⟩ => ?_)
  case' h4 =>
    try simp -dsimp (maxSteps := 1000000) only [go_sem, List.forall_mem_nil, ↓reduceIte, Nat.reduceEqDiff, Nat.reduceLT, Nat.reduceLeDiff, Nat.reduceAdd, Nat.reduceMul, reduceCtorEq, Tryz.f31, Int.reduceEq, run_l2Table h1 h2 b1.1 b1.2, oTab, ne_tab, hsK]
    rintro ⟨⟨⟨pts, lab⟩, hT⟩, ⟨⟨a2, k2⟩, b2⟩⟩
    try simp -dsimp (maxSteps := 1000000) only [go_sem, List.forall_mem_nil, ↓reduceIte, Nat.reduceEqDiff, Nat.reduceLT, Nat.reduceLeDiff, Nat.reduceAdd, Nat.reduceMul, reduceCtorEq, Tryz.f31, run_NewSlicer hT, rMB, rM, modC, mSlicer', hsK, h8 a2 k2 b2.1 b2.2, oBelow, ne_below l (n := 8) (by decide)]
    rintro ⟨⟨v9, ⟨⟨a, k⟩, b⟩⟩, r1, r2⟩
    simp only at r1 r2 b
    obtain ⟨N, rfl⟩ := Int.eq_ofNat_of_zero_le r1
    try simp -dsimp (maxSteps := 1000000) only [go_sem, List.forall_mem_nil, ↓reduceIte, Nat.reduceEqDiff, Nat.reduceLT, Nat.reduceLeDiff, Nat.reduceAdd, Nat.reduceMul, reduceCtorEq, Tryz.f31, hsK]
    obtain ⟨i0, hi0⟩ : ∃ w : ({ m : Mod // Drawn m } × SK l) × { n : Nat // n ≤ 8 }, w = ((⟨(mSlicer' pts lab 0), drawn_slicer hT⟩, ⟨(a, k), b⟩), ⟨N, by omega⟩) := ⟨_, rfl⟩
    refine loop_i (ι := ({ m : Mod // Drawn m } × SK l) × { n : Nat // n ≤ 8 }) (fun x => ⟨[(0, some (.c (.ptr 0 0 0 0))), (2, some (.c (.ptr 1 0 0 0))), (3, some (.c (.ptr 2 0 0 0))), (4, some (.c (.im (.int .i64 (x.2.1 : Int)))))],
      [(0, some (.box [.t (.im (.sl 1 (rowsB l))), .t (.im (.int .i64 x.1.2.1.1)), .t (.im (.int .i64 x.1.2.1.2))])), (1, some (.box mz11)), (2, some (.box (modIB x.1.1.1)))], 3⟩) (fun x => x.2.1) i0 ⟨[], [0, 1, 2], by subst hi0; (simp only [go_sem, eq_self, MvRb, MvRn, MvRt, List.nodup_cons, List.nodup_nil, ↓reduceIte, Nat.reduceEqDiff, Nat.reduceLT, Nat.reduceLeDiff, reduceCtorEq, List.forall_mem_nil, Nat.zero_le, false_implies, List.mem_singleton, modIB, mz11, mSrc', mMix', mGain', mDelay', mSlicer', mMeter', mHold', mSum', rowsZ_nil, rowsN_nil]) <;> simp [lk, MvB_im, modIB, mSrc', mMix', mGain', mDelay', mSlicer', mMeter', mHold', mSum', rowsZ_nil, rowsN_nil] <;> (try rfl)⟩ (fun ⟨⟨⟨m, hD⟩, ⟨⟨a, k⟩, b⟩⟩, ⟨n, hn⟩⟩ => ?_)
  case' h5 =>
    try simp -dsimp (maxSteps := 1000000) only [go_sem, List.forall_mem_nil, ↓reduceIte, Nat.reduceEqDiff, Nat.reduceLT, Nat.reduceLeDiff, Nat.reduceAdd, Nat.reduceMul, reduceCtorEq, Tryz.f31, Int.reduceEq, run_sMeter, rM, modC, mMeter', hsK, h8 a1 k1 b1.1 b1.2, oBelow, ne_below l (n := 8) (by decide)]
    rintro ⟨⟨v9, ⟨⟨a, k⟩, b⟩⟩, r1, r2⟩
    simp only at r1 r2 b
    obtain ⟨N, rfl⟩ := Int.eq_ofNat_of_zero_le r1
    try simp -dsimp (maxSteps := 1000000) only [go_sem, List.forall_mem_nil, ↓reduceIte, Nat.reduceEqDiff, Nat.reduceLT, Nat.reduceLeDiff, Nat.reduceAdd, Nat.reduceMul, reduceCtorEq, Tryz.f31, hsK]
    obtain ⟨i0, hi0⟩ : ∃ w : ({ m : Mod // Drawn m } × SK l) × { n : Nat // n ≤ 8 }, w = ((⟨mMeter', drawn_meter⟩, ⟨(a, k), b⟩), ⟨N, by omega⟩) := ⟨_, rfl⟩
    refine loop_i (ι := ({ m : Mod // Drawn m } × SK l) × { n : Nat // n ≤ 8 }) (fun x => ⟨[(0, some (.c (.ptr 0 0 0 0))), (2, some (.c (.ptr 1 0 0 0))), (3, some (.c (.ptr 2 0 0 0))), (4, some (.c (.im (.int .i64 (x.2.1 : Int)))))],
      [(0, some (.box [.t (.im (.sl 1 (rowsB l))), .t (.im (.int .i64 x.1.2.1.1)), .t (.im (.int .i64 x.1.2.1.2))])), (1, some (.box mz11)), (2, some (.box (modIB x.1.1.1)))], 3⟩) (fun x => x.2.1) i0 ⟨[], [0, 1, 2], by subst hi0; (simp only [go_sem, eq_self, MvRb, MvRn, MvRt, List.nodup_cons, List.nodup_nil, ↓reduceIte, Nat.reduceEqDiff, Nat.reduceLT, Nat.reduceLeDiff, reduceCtorEq, List.forall_mem_nil, Nat.zero_le, false_implies, List.mem_singleton, modIB, mz11, mSrc', mMix', mGain', mDelay', mSlicer', mMeter', mHold', mSum', rowsZ_nil, rowsN_nil]) <;> simp [lk, MvB_im, modIB, mSrc', mMix', mGain', mDelay', mSlicer', mMeter', mHold', mSum', rowsZ_nil, rowsN_nil] <;> (try rfl)⟩ (fun ⟨⟨⟨m, hD⟩, ⟨⟨a, k⟩, b⟩⟩, ⟨n, hn⟩⟩ => ?_)
  case' h6 =>
    try simp -dsimp (maxSteps := 1000000) only [go_sem, List.forall_mem_nil, ↓reduceIte, Nat.reduceEqDiff, Nat.reduceLT, Nat.reduceLeDiff, Nat.reduceAdd, Nat.reduceMul, reduceCtorEq, Tryz.f31, Int.reduceEq, run_l01Below h1 h2 b1.1 b1.2 (n := 6) (by decide) (by decide), oBelow, ne_below l (n := 6) (by decide), hsK]
    rintro ⟨⟨x, ⟨⟨a2, k2⟩, b2⟩⟩, x1, x2⟩
    simp only at x1 x2
    obtain ⟨X, rfl⟩ := Int.eq_ofNat_of_zero_le x1
    have hw : IntKind.i64.wrap (1 + (X : Int)) = ((X + 1 : Nat) : Int) := by rw [wrap_id (by omega) (by omega)]; omega
    try simp -dsimp (maxSteps := 1000000) only [go_sem, List.forall_mem_nil, ↓reduceIte, Nat.reduceEqDiff, Nat.reduceLT, Nat.reduceLeDiff, Nat.reduceAdd, Nat.reduceMul, reduceCtorEq, Tryz.f31, hw, run_sHold (n := X + 1) (by omega) (by omega), rMB, rM, modC, mHold', hsK, h8 a2 k2 b2.1 b2.2, oBelow, ne_below l (n := 8) (by decide)]
    rintro ⟨⟨v9, ⟨⟨a, k⟩, b⟩⟩, r1, r2⟩
    simp only at r1 r2 b
    obtain ⟨N, rfl⟩ := Int.eq_ofNat_of_zero_le r1
    try simp -dsimp (maxSteps := 1000000) only [go_sem, List.forall_mem_nil, ↓reduceIte, Nat.reduceEqDiff, Nat.reduceLT, Nat.reduceLeDiff, Nat.reduceAdd, Nat.reduceMul, reduceCtorEq, Tryz.f31, hsK]
    obtain ⟨i0, hi0⟩ : ∃ w : ({ m : Mod // Drawn m } × SK l) × { n : Nat // n ≤ 8 }, w = ((⟨(mHold' (0, 0) ((X + 1 : Nat) : Int) 0), drawn_hold (by omega) (by omega) (by omega) (by omega)⟩, ⟨(a, k), b⟩), ⟨N, by omega⟩) := ⟨_, rfl⟩
    refine loop_i (ι := ({ m : Mod // Drawn m } × SK l) × { n : Nat // n ≤ 8 }) (fun x => ⟨[(0, some (.c (.ptr 0 0 0 0))), (2, some (.c (.ptr 1 0 0 0))), (3, some (.c (.ptr 2 0 0 0))), (4, some (.c (.im (.int .i64 (x.2.1 : Int)))))],
      [(0, some (.box [.t (.im (.sl 1 (rowsB l))), .t (.im (.int .i64 x.1.2.1.1)), .t (.im (.int .i64 x.1.2.1.2))])), (1, some (.box mz11)), (2, some (.box (modIB x.1.1.1)))], 3⟩) (fun x => x.2.1) i0 ⟨[], [0, 1, 2], by subst hi0; (simp only [go_sem, eq_self, MvRb, MvRn, MvRt, List.nodup_cons, List.nodup_nil, ↓reduceIte, Nat.reduceEqDiff, Nat.reduceLT, Nat.reduceLeDiff, reduceCtorEq, List.forall_mem_nil, Nat.zero_le, false_implies, List.mem_singleton, modIB, mz11, mSrc', mMix', mGain', mDelay', mSlicer', mMeter', mHold', mSum', rowsZ_nil, rowsN_nil]) <;> simp [lk, MvB_im, modIB, mSrc', mMix', mGain', mDelay', mSlicer', mMeter', mHold', mSum', rowsZ_nil, rowsN_nil] <;> (try rfl)⟩ (fun ⟨⟨⟨m, hD⟩, ⟨⟨a, k⟩, b⟩⟩, ⟨n, hn⟩⟩ => ?_)
  case' h7 =>
    try simp -dsimp (maxSteps := 1000000) only [go_sem, List.forall_mem_nil, ↓reduceIte, Nat.reduceEqDiff, Nat.reduceLT, Nat.reduceLeDiff, Nat.reduceAdd, Nat.reduceMul, reduceCtorEq, Tryz.f31, Int.reduceEq, rM, modC, mSum', hsK, h8 a1 k1 b1.1 b1.2, oBelow, ne_below l (n := 8) (by decide)]
    rintro ⟨⟨v9, ⟨⟨a, k⟩, b⟩⟩, r1, r2⟩
    simp only at r1 r2 b
    obtain ⟨N, rfl⟩ := Int.eq_ofNat_of_zero_le r1
    try simp -dsimp (maxSteps := 1000000) only [go_sem, List.forall_mem_nil, ↓reduceIte, Nat.reduceEqDiff, Nat.reduceLT, Nat.reduceLeDiff, Nat.reduceAdd, Nat.reduceMul, reduceCtorEq, Tryz.f31, hsK]
    obtain ⟨i0, hi0⟩ : ∃ w : ({ m : Mod // Drawn m } × SK l) × { n : Nat // n ≤ 8 }, w = ((⟨mSum', drawn_sum⟩, ⟨(a, k), b⟩), ⟨N, by omega⟩) := ⟨_, rfl⟩
    refine loop_i (ι := ({ m : Mod // Drawn m } × SK l) × { n : Nat // n ≤ 8 }) (fun x => ⟨[(0, some (.c (.ptr 0 0 0 0))), (2, some (.c (.ptr 1 0 0 0))), (3, some (.c (.ptr 2 0 0 0))), (4, some (.c (.im (.int .i64 (x.2.1 : Int)))))],
      [(0, some (.box [.t (.im (.sl 1 (rowsB l))), .t (.im (.int .i64 x.1.2.1.1)), .t (.im (.int .i64 x.1.2.1.2))])), (1, some (.box mz11)), (2, some (.box (modIB x.1.1.1)))], 3⟩) (fun x => x.2.1) i0 ⟨[], [0, 1, 2], by subst hi0; (simp only [go_sem, eq_self, MvRb, MvRn, MvRt, List.nodup_cons, List.nodup_nil, ↓reduceIte, Nat.reduceEqDiff, Nat.reduceLT, Nat.reduceLeDiff, reduceCtorEq, List.forall_mem_nil, Nat.zero_le, false_implies, List.mem_singleton, modIB, mz11, mSrc', mMix', mGain', mDelay', mSlicer', mMeter', mHold', mSum', rowsZ_nil, rowsN_nil]) <;> simp [lk, MvB_im, modIB, mSrc', mMix', mGain', mDelay', mSlicer', mMeter', mHold', mSum', rowsZ_nil, rowsN_nil] <;> (try rfl)⟩ (fun ⟨⟨⟨m, hD⟩, ⟨⟨a, k⟩, b⟩⟩, ⟨n, hn⟩⟩ => ?_)
  all_goals (
    simp only [modIB, mz11] at hD b ⊢
    obtain ⟨kd, ⟨t1, t2⟩, ⟨s1, s2⟩, lv, st, ra, rc, pts, lab, c, le⟩ := m
    match n with
    | 0 =>
      have c0 : ((0 : Nat) : Int) = 0 := rfl
      have d0 : ((0 : Int) < 0) = False := by simp
      try simp -dsimp (maxSteps := 1000000) only [go_sem, List.forall_mem_nil, ↓reduceIte, Nat.reduceEqDiff, Nat.reduceLT, Nat.reduceLeDiff, Nat.reduceAdd, Nat.reduceMul, reduceCtorEq, Tryz.f31, c0, d0]
      refine finF_i [] ?_
      simp -dsimp (maxSteps := 1000000) only [go_sem, List.forall_mem_nil, ↓reduceIte, Nat.reduceEqDiff, Nat.reduceLT, Nat.reduceLeDiff, Nat.reduceAdd, Nat.reduceMul, reduceCtorEq, modC]
      exact ⟨(⟨⟨kd, (t1, t2), (s1, s2), lv, st, ra, rc, pts, lab, c, le⟩, hD⟩, ⟨(a, k), b⟩), rfl, by simp⟩
    | n + 1 =>
      have d0 : ((0 : Int) < ((n + 1 : Nat) : Int)) = True := eq_true (by omega)
      have hk : IntKind.i64.wrap (((n + 1 : Nat) : Int) - 1) = (n : Int) := by rw [wrap_id (by omega) (by omega)]; omega
      obtain ⟨q1, q2, q3⟩ := hD.ok
      simp only at q1 q2 q3
      try simp -dsimp (maxSteps := 1000000) only [go_sem, List.forall_mem_nil, ↓reduceIte, Nat.reduceEqDiff, Nat.reduceLT, Nat.reduceLeDiff, Nat.reduceAdd, Nat.reduceMul, reduceCtorEq, Tryz.f31, d0, run_l5Copy q1 q2 q3, rM, modC, run_l2Small h1 h2 b.1 b.2, oSmall, hsK, ne_small]
      rintro ⟨⟨⟨x, y⟩, ⟨⟨a2, k2⟩, b2⟩⟩, x1, x2, y1, y2⟩
      simp only at x1 x2 y1 y2
      have hx := abs_small x1 x2
      have hy := abs_small y1 y2
      generalize hX : wI x = X at hx
      generalize hY : wI y = Y at hy
      have rs := run_l5Step hD hx hy
      simp only [modC] at rs
      try simp -dsimp (maxSteps := 1000000) only [go_sem, List.forall_mem_nil, ↓reduceIte, Nat.reduceEqDiff, Nat.reduceLT, Nat.reduceLeDiff, Nat.reduceAdd, Nat.reduceMul, reduceCtorEq, Tryz.f31, hX, hY, rs, oStp, ne_stp, modC, hsK]
      rintro ⟨⟨m', z'⟩, hD'⟩
      try simp -dsimp (maxSteps := 1000000) only [go_sem, List.forall_mem_nil, ↓reduceIte, Nat.reduceEqDiff, Nat.reduceLT, Nat.reduceLeDiff, Nat.reduceAdd, Nat.reduceMul, reduceCtorEq, Tryz.f31, hk, modC]
      exact ⟨((⟨m', hD'⟩, ⟨(a2, k2), b2⟩), ⟨n, by omega⟩), by simp only []; omega, [], [0, 1, 2], by (simp only [go_sem, eq_self, MvRb, MvRn, MvRt, List.nodup_cons, List.nodup_nil, ↓reduceIte, Nat.reduceEqDiff, Nat.reduceLT, Nat.reduceLeDiff, reduceCtorEq, List.forall_mem_nil, Nat.zero_le, false_implies, List.mem_singleton, modIB, mz11]) <;> simp [lk, MvB_im]⟩)
end Go.SX
set_option linter.unusedVariables false
set_option linter.unusedSimpArgs false
namespace Go.SX
open Go Go.Proofs
def strL (l : List UInt8) : ByteArray := ⟨l.toArray⟩
theorem strL_app (a b : List UInt8) : strL a ++ strL b = strL (a ++ b) := by
  apply ByteArray.ext
  simp [strL]
theorem strL_size (l : List UInt8) : (strL l).size = l.length := by simp [strL, ByteArray.size]
theorem bytesS_cons (ns : List Int) : bytesS ns = strL (ns.map fun n => UInt8.ofNat n.toNat) := by
  have key : ∀ (ns : List Int) (r : ByteArray), ns.foldl (fun r n => r.push (UInt8.ofNat n.toNat)) r = r ++ strL (ns.map fun n => UInt8.ofNat n.toNat) := by
    intro ns
    induction ns with
    | nil => intro r; simp [strL]; apply ByteArray.ext; simp
    | cons n ns ih =>
      intro r
      simp only [List.foldl_cons, ih, List.map_cons]
      apply ByteArray.ext
      simp [strL]
  have h := key ns ByteArray.empty
  have e : ByteArray.empty ++ strL (ns.map fun n => UInt8.ofNat n.toNat) = strL (ns.map fun n => UInt8.ofNat n.toNat) := by apply ByteArray.ext; simp [strL]
  unfold bytesS
  rw [h, e]
def dig (d : Nat) : UInt8 := UInt8.ofNat (48 + d)
def digF : Nat → Nat → List UInt8
  | 0, _ => []
  | f + 1, n => if n < 10 then [dig n] else digF f (n / 10) ++ [dig (n % 10)]
theorem digF_mono : ∀ (f g n : Nat), n < 10 ^ f → n < 10 ^ g → 0 < f → 0 < g → digF f n = digF g n
  | 0, _, _, _, _, h, _ => by omega
  | _, 0, _, _, _, _, h => by omega
  | f + 1, g + 1, n, h1, h2, _, _ => by
    simp only [digF]
    split
    · rfl
    · rename_i hn
      rw [Nat.pow_succ] at h1 h2
      have a1 : n / 10 < 10 ^ f := Nat.div_lt_of_lt_mul (by omega)
      have a2 : n / 10 < 10 ^ g := Nat.div_lt_of_lt_mul (by omega)
      have b1 : 0 < f := by
        rcases Nat.eq_zero_or_pos f with rfl | h
        · simp at a1; omega
        · exact h
      have b2 : 0 < g := by
        rcases Nat.eq_zero_or_pos g with rfl | h
        · simp at a2; omega
        · exact h
      rw [digF_mono f g (n / 10) a1 a2 b1 b2]
def digs (n : Nat) : List UInt8 := digF 20 n
theorem digs_small {n : Nat} (h : n < 10) : digs n = [dig n] := by simp [digs, digF, h]
theorem digs_step {n : Nat} (h : 10 ≤ n) (h2 : n < 10 ^ 19) : digs n = digs (n / 10) ++ [dig (n % 10)] := by
  have : ¬ n < 10 := by omega
  have e : digs n = digF 19 (n / 10) ++ [dig (n % 10)] := by
    unfold digs
    rw [show (20 : Nat) = 19 + 1 from rfl]
    simp only [digF, this, if_false]
  rw [e, digs, digF_mono 19 20 (n / 10) (by omega) (by omega) (by omega) (by omega)]
theorem digs_len : ∀ (f n : Nat), (digF f n).length ≤ f
  | 0, n => by simp [digF]
  | f + 1, n => by
    simp only [digF]
    split
    · simp
    · have := digs_len f (n / 10); simp; omega
def digR (k : Nat) (cur : List UInt8) : List UInt8 := if k = 0 then cur else digs k ++ cur
theorem digR_step {k : Nat} (h : 0 < k) (h2 : k < 10 ^ 19) (cur : List UInt8) : digR k cur = digR (k / 10) (dig (k % 10) :: cur) := by
  unfold digR
  rw [if_neg (by omega)]
  by_cases h10 : k < 10
  · rw [if_pos (by omega), digs_small h10, Nat.mod_eq_of_lt h10]; rfl
  · rw [if_neg (by omega), digs_step (by omega) h2, List.append_assoc]; rfl
abbrev NNum := { n : Nat // n < 9223372036854775808 }
noncomputable def ct_l1Number : Ct := fam true (fun x : NNum => ([.c (.im (.int .i64 (x.1 : Int)))], [])) (fun x => .one { val := .c (.im (.str (strL (digs x.1)))) })
theorem run_l1Number {n : Nat} (h : n < 9223372036854775808) : ct_l1Number.run [.c (.im (.int .i64 (n : Int)))] [] = some (.one { val := .c (.im (.str (strL (digs n)))) }) := fam_run' (args := fun x : NNum => ([D.c (.im (.int .i64 (x.1 : Int)))], [])) (by
    intro a b h
    simp only [Prod.mk.injEq, List.cons.injEq, D.c.injEq, D.agg.injEq, C.im.injEq, I.cpx.injEq, I.flt.injEq, I.int.injEq, I.sl.injEq, I.bool.injEq, I.str.injEq, Int.natCast_inj, true_and, and_true] at h
    (try simp only [Prod.ext_iff, Subtype.ext_iff])
    (try simp only [rowsZ_eq, rowsN_eq] at h)
    simp_all) (⟨n, h⟩ : NNum)
set_option maxRecDepth 100000 in
set_option maxHeartbeats 8000000 in
theorem law_l1Number : Law Tryz.prog 128 ct_l1Number := by
  refine fam_law Env_nil hmixA Tryz.func128 rfl rfl (fun ⟨n, hn⟩ => ⟨okO_im rfl, by simp [Tryz.f128], ?_⟩)
  simp only
  have hneg : ((n : Int) < 0) = False := eq_false (by omega)
  have h10 : ((10 : Int) = 0) = False := by simp
  have hm : ∀ k : Nat, (k : Int).tmod 10 = ((k % 10 : Nat) : Int) := fun k => by rw [Int.tmod_eq_emod_of_nonneg (by omega)]; omega
  have hd : ∀ k : Nat, k < 9223372036854775808 → IntKind.i64.wrap ((k : Int).tdiv 10) = ((k / 10 : Nat) : Int) := fun k hk => by
    rw [Int.tdiv_eq_ediv_of_nonneg (by omega), wrap_id (by omega) (by omega)]; omega
  have hw : ∀ k : Nat, IntKind.i64.wrap (48 + ((k % 10 : Nat) : Int)) = ((48 + k % 10 : Nat) : Int) := fun k => by rw [wrap_id (by omega) (by omega)]; omega
  have hw8 : ∀ k : Nat, IntKind.u8.wrap ((48 + k % 10 : Nat) : Int) = ((48 + k % 10 : Nat) : Int) := fun k => by
    show (((48 + k % 10 : Nat) : Int) % 256) = _
    omega
  have hbs : ∀ k : Nat, bytesS [((48 + k % 10 : Nat) : Int)] = strL [dig (k % 10)] := fun k => by rw [bytesS_cons]; rfl
  try simp -dsimp (maxSteps := 1000000) only [go_sem, List.forall_mem_nil, ↓reduceIte, Nat.reduceEqDiff, Nat.reduceLT, Nat.reduceLeDiff, Nat.reduceAdd, Nat.reduceMul, reduceCtorEq, Tryz.f128, hneg, h10, hm, hd n hn, hw, hw8, hbs]
  refine loop_i (ι := { x : Nat × List UInt8 // x.1 < 9223372036854775808 ∧ digR x.1 x.2 = digs n }) (fun x => ⟨[(0, some (.c (.im (.int .i64 (x.1.1 : Int))))), (3, some (.c (.im (.str (strL x.1.2)))))], [], 0⟩) (fun x => x.1.1)
    ⟨(n / 10, [dig (n % 10)]), by omega, by
      by_cases h0 : n = 0
      · subst h0; rfl
      · rw [← digR_step (by omega) (by omega) []]; simp [digR, h0]⟩ ⟨[], [], by (simp only [go_sem, eq_self, MvRb, MvRn, MvRt, List.nodup_cons, List.nodup_nil, ↓reduceIte, Nat.reduceEqDiff, Nat.reduceLT, Nat.reduceLeDiff, reduceCtorEq, List.forall_mem_nil, Nat.zero_le, false_implies, List.mem_singleton]) <;> simp⟩ (fun ⟨⟨k, cur⟩, hk, hinv⟩ => ?_)
  simp only at hk hinv ⊢
  by_cases h0 : k = 0
  · subst h0
    have hI : ((0 : Int) < ((0 : Nat) : Int)) = False := by simp
    simp only [digR, if_true] at hinv
    try simp -dsimp (maxSteps := 1000000) only [go_sem, List.forall_mem_nil, ↓reduceIte, Nat.reduceEqDiff, Nat.reduceLT, Nat.reduceLeDiff, Nat.reduceAdd, Nat.reduceMul, reduceCtorEq, Tryz.f128, hI, hinv]
  · have hI : ((0 : Int) < (k : Int)) = True := eq_true (by omega)
    have hlen : cur.length ≤ 20 := by
      have := congrArg List.length hinv
      have h20 := digs_len 20 n
      simp only [digR, h0, if_false, List.length_append] at this
      unfold digs at this
      omega
    have hsz : ((strL [dig (k % 10)]).size + (strL cur).size ≤ 4611686018427387904) = True := eq_true (by rw [strL_size, strL_size]; simp; omega)
    rw [digR_step (by omega) (by omega)] at hinv
    try simp -dsimp (maxSteps := 1000000) only [go_sem, List.forall_mem_nil, ↓reduceIte, Nat.reduceEqDiff, Nat.reduceLT, Nat.reduceLeDiff, Nat.reduceAdd, Nat.reduceMul, reduceCtorEq, Tryz.f128, hI, h10, hm, hd k hk, hw, hw8, hbs, hsz, strL_app]
    exact ⟨⟨(k / 10, dig (k % 10) :: cur), by omega, hinv⟩, by simp only []; omega, [], [], by (simp only [go_sem, eq_self, MvRb, MvRn, MvRt, List.nodup_cons, List.nodup_nil, ↓reduceIte, Nat.reduceEqDiff, Nat.reduceLT, Nat.reduceLeDiff, reduceCtorEq, List.forall_mem_nil, Nat.zero_le, false_implies, List.mem_singleton]) <;> simp⟩
theorem toL (l : List UInt8) : (strL l).toList = l := by rw [ByteArray.toList_eq]; rfl
structure Lvl (x Y : Nat) (M : Nat) : Prop where
  fin : finS x = true
  e0 : fcmp .eql .f32 x 0 = false
  l0 : fcmp .lss .f32 x 0 = false
  y : w64 (absS x) = Y
  g : fcmp .geq .f64 Y 4715268809856909312 = false
  nn : isNaNb .f64 Y = false
  i : (FloatKind.f64.decode Y).toInt .zero = some (M : Int)
  b : fcmp .neq .f64 Y (FloatKind.f64.nearest (M : Int)) = false
  m : 1 ≤ M ∧ M ≤ 3
theorem lvl_parts {x : Nat} (h : lvlB x = true) (h0 : x ≠ 0) : ∃ Y M, Lvl x Y M := by
  rcases lvl_cases h with rfl | rfl | rfl | rfl
  · exact absurd rfl h0
  · exact ⟨w64 1065353216, 1, by decide +kernel, by decide +kernel, by decide +kernel, by decide +kernel, by decide +kernel, by decide +kernel, by decide +kernel, by decide +kernel, by omega⟩
  · exact ⟨w64 1073741824, 2, by decide +kernel, by decide +kernel, by decide +kernel, by decide +kernel, by decide +kernel, by decide +kernel, by decide +kernel, by decide +kernel, by omega⟩
  · exact ⟨w64 1077936128, 3, by decide +kernel, by decide +kernel, by decide +kernel, by decide +kernel, by decide +kernel, by decide +kernel, by decide +kernel, by decide +kernel, by omega⟩
abbrev QNeg := { s : ByteArray // (s.toList == (⟨#[45, 48]⟩ : ByteArray).toList) = false }
def oFmt (x : Nat) : Outs := if x = 0 then .one { val := .c (.im (.str ⟨#[48]⟩)) } else .any QNeg (fun q => { val := .c (.im (.str q.1)) })
theorem ne_qneg : Nonempty QNeg = True := by simp only [eq_iff_iff, iff_true]; exact ⟨⟨strL [], by rw [toL, ByteArray.toList_eq]; rfl⟩⟩
noncomputable def ct_Format : Ct := fam true (fun x : { x : Nat // lvlB x = true } => ([.c (.im (.flt .f32 x.1))], [])) (fun x => oFmt x.1)
theorem run_Format {x : Nat} (h : lvlB x = true) : ct_Format.run [.c (.im (.flt .f32 x))] [] = some (oFmt x) := by
  refine fam_run' (args := fun x : { x : Nat // lvlB x = true } => ([D.c (.im (.flt .f32 x.1))], [])) (fun a b h => ?_) (⟨x, h⟩ : { x : Nat // lvlB x = true })
  simp at h; exact Subtype.ext h
theorem run_Format0 : ct_Format.run [.c (.im (.flt .f32 0))] [] = some (.one { val := .c (.im (.str ⟨#[48]⟩)) }) := run_Format (by decide)
set_option maxRecDepth 100000 in
set_option maxHeartbeats 8000000 in
theorem law_Format : Law Tryz.prog 85 ct_Format := by
  refine fam_law (Env_cons law_l1Finite (Env_cons law_l1Abs (Env_cons law_l1Number Env_nil))) hmixA Tryz.func85 rfl rfl (fun ⟨x, hx⟩ => ⟨?_, by simp [Tryz.f85], ?_⟩)
  · simp only [oFmt]; split
    · exact okO_im rfl
    · exact okA (fun o => okR_im rfl)
  simp only at hx ⊢
  by_cases h0 : x = 0
  · subst h0
    have f1 : finS 0 = true := by decide +kernel
    have f2 : fcmp .eql .f32 0 0 = true := by decide +kernel
    have f3 : fcmp .lss .f32 (fop .quo .f32 1065353216 0) 0 = false := by decide +kernel
    simp only [oFmt, if_true]
    try simp -dsimp (maxSteps := 1000000) only [go_sem, List.forall_mem_nil, ↓reduceIte, Nat.reduceEqDiff, Nat.reduceLT, Nat.reduceLeDiff, Nat.reduceAdd, Nat.reduceMul, reduceCtorEq, Tryz.f85, run_l1Finite, f1, f2, f3]
  · obtain ⟨Y, M, hL⟩ := lvl_parts hx h0
    obtain ⟨p1, p2, p3, p4, p5, p6, p7, p8, p9, p10⟩ := hL
    have h0' := eq_false h0
    clear hx h0
    try simp -dsimp (maxSteps := 1000000) only [go_sem, List.forall_mem_nil, ↓reduceIte, Nat.reduceEqDiff, Nat.reduceLT, Nat.reduceLeDiff, Nat.reduceAdd, Nat.reduceMul, reduceCtorEq, Tryz.f85, run_l1Finite, p1, p2, p3, run_l1Abs, fconv_w, p4]
    refine loop_i (ι := Unit) (fun _ => ⟨[(3, some (.c (.im (.str ⟨#[]⟩)))), (4, some (.c (.im (.flt .f64 Y)))), (5, some (.c (.im (.int .i64 0))))], [], 0⟩) (fun _ => 0) () ⟨[], [], by (simp only [go_sem, eq_self, MvRb, MvRn, MvRt, List.nodup_cons, List.nodup_nil, ↓reduceIte, Nat.reduceEqDiff, Nat.reduceLT, Nat.reduceLeDiff, reduceCtorEq, List.forall_mem_nil, Nat.zero_le, false_implies, List.mem_singleton]) <;> simp⟩ (fun _ => ?_)
    try simp -dsimp (maxSteps := 1000000) only [go_sem, List.forall_mem_nil, ↓reduceIte, Nat.reduceEqDiff, Nat.reduceLT, Nat.reduceLeDiff, Nat.reduceAdd, Nat.reduceMul, reduceCtorEq, Tryz.f85, p5]
    refine loop_i (ι := Unit) (fun _ => ⟨[(3, some (.c (.im (.str ⟨#[]⟩)))), (4, some (.c (.im (.flt .f64 Y)))), (5, some (.c (.im (.int .i64 0))))], [], 0⟩) (fun _ => 0) () ⟨[], [], by (simp only [go_sem, eq_self, MvRb, MvRn, MvRt, List.nodup_cons, List.nodup_nil, ↓reduceIte, Nat.reduceEqDiff, Nat.reduceLT, Nat.reduceLeDiff, reduceCtorEq, List.forall_mem_nil, Nat.zero_le, false_implies, List.mem_singleton]) <;> simp⟩ (fun _ => ?_)
    have r1 : (IntKind.i64.min ≤ (M : Int) ∧ (M : Int) ≤ IntKind.i64.max) = True := eq_true (by
      have e1 : IntKind.i64.min = -9223372036854775808 := by decide
      have e2 : IntKind.i64.max = 9223372036854775807 := by decide
      rw [e1, e2]; omega)
    try simp -dsimp (maxSteps := 1000000) only [go_sem, List.forall_mem_nil, ↓reduceIte, Nat.reduceEqDiff, Nat.reduceLT, Nat.reduceLeDiff, Nat.reduceAdd, Nat.reduceMul, reduceCtorEq, Tryz.f85, p6, p7, p8, r1]
    refine loop_i (ι := { x : Nat × Nat // 1 ≤ x.1 ∧ x.1 + x.2 ≤ 3 }) (fun x => ⟨[(3, some (.c (.im (.str ⟨#[]⟩)))), (5, some (.c (.im (.int .i64 (x.1.2 : Int))))), (6, some (.c (.im (.int .i64 (x.1.1 : Int)))))], [], 0⟩) (fun x => x.1.1) ⟨(M, 0), by omega⟩ ⟨[], [], by ((simp only [go_sem, eq_self, MvRb, MvRn, MvRt, List.nodup_cons, List.nodup_nil, ↓reduceIte, Nat.reduceEqDiff, Nat.reduceLT, Nat.reduceLeDiff, reduceCtorEq, List.forall_mem_nil, Nat.zero_le, false_implies, List.mem_singleton]) <;> (try (simp -dsimp only [go_sem, eq_self, MvRb, MvRn, MvRt, List.nodup_cons, List.nodup_nil, ↓reduceIte, Nat.reduceEqDiff, Nat.reduceLT, Nat.reduceLeDiff, reduceCtorEq, List.forall_mem_nil, Nat.zero_le, false_implies, List.mem_singleton]))) <;> simp⟩ (fun ⟨⟨m, e⟩, q1, q2⟩ => ?_)
    simp only at q1 q2 ⊢
    have n2 : ((2 : Int) = 0) = False := by simp
    have hm : (m : Int).tmod 2 = ((m % 2 : Nat) : Int) := by rw [Int.tmod_eq_emod_of_nonneg (by omega)]; omega
    by_cases hev : m % 2 = 0
    · have h1 : (((m % 2 : Nat) : Int) = 0) = True := eq_true (by omega)
      have hd : IntKind.i64.wrap ((m : Int).tdiv 2) = ((m / 2 : Nat) : Int) := by rw [Int.tdiv_eq_ediv_of_nonneg (by omega), wrap_id (by omega) (by omega)]; omega
      have he : IntKind.i64.wrap ((e : Int) + 1) = ((e + 1 : Nat) : Int) := by rw [wrap_id (by omega) (by omega)]; omega
      try simp -dsimp (maxSteps := 1000000) only [go_sem, List.forall_mem_nil, ↓reduceIte, Nat.reduceEqDiff, Nat.reduceLT, Nat.reduceLeDiff, Nat.reduceAdd, Nat.reduceMul, reduceCtorEq, Tryz.f85, n2, hm, h1, hd, he]
      exact ⟨⟨(m / 2, e + 1), by omega⟩, by simp only []; omega, [], [], by (simp only [go_sem, eq_self, MvRb, MvRn, MvRt, List.nodup_cons, List.nodup_nil, ↓reduceIte, Nat.reduceEqDiff, Nat.reduceLT, Nat.reduceLeDiff, reduceCtorEq, List.forall_mem_nil, Nat.zero_le, false_implies, List.mem_singleton]) <;> simp⟩
    · have h1 : (((m % 2 : Nat) : Int) = 0) = False := eq_false (by omega)
      have e1 : ((⟨#[]⟩ : ByteArray)) = strL [] := rfl
      have e2 : ((⟨#[112]⟩ : ByteArray)) = strL [112] := rfl
      have l1 := digs_len 20 m
      have l2 := digs_len 20 e
      have z1 : ((digs m).length ≤ 4611686018427387904) = True := eq_true (by unfold digs; omega)
      have z2 : ((digs m).length + 1 ≤ 4611686018427387904) = True := eq_true (by unfold digs; omega)
      have z3 : ((digs m ++ [112]).length + (digs e).length ≤ 4611686018427387904) = True := eq_true (by unfold digs; simp; omega)
      try simp -dsimp (maxSteps := 1000000) only [go_sem, List.forall_mem_nil, ↓reduceIte, Nat.reduceEqDiff, Nat.reduceLT, Nat.reduceLeDiff, Nat.reduceAdd, Nat.reduceMul, reduceCtorEq, Tryz.f85, n2, hm, h1, run_l1Number (n := m) (by omega), run_l1Number (n := e) (by omega), e1, e2, strL_app, strL_size, z1, z2, z3, h0', oFmt, List.nil_append]
      refine ⟨⟨strL (digs m ++ [112] ++ digs e), ?_⟩, rfl⟩
      rw [toL, ByteArray.toList_eq]
      have hm3 : m = 1 ∨ m = 2 ∨ m = 3 := by omega
      have he3 : e = 0 ∨ e = 1 ∨ e = 2 := by omega
      rcases hm3 with rfl | rfl | rfl <;> rcases he3 with rfl | rfl | rfl <;> first | omega | decide +kernel
theorem beq48 : ((⟨#[48]⟩ : ByteArray).toList == (⟨#[48]⟩ : ByteArray).toList) = true := beq_self_eq_true _
noncomputable def ct_l4Zero : Ct := fam true (fun _ : Unit => ([.c (.im (.cpx .f32 0 0))], [])) (fun _ => .one { val := .c (.im (.bool true)) })
theorem run_l4Zero : ct_l4Zero.run [.c (.im (.cpx .f32 0 0))] [] = some (.one { val := .c (.im (.bool true)) }) := fam_run' (args := fun _ : Unit => ([D.c (.im (.cpx .f32 0 0))], [])) (fun _ _ _ => rfl) ()
set_option maxRecDepth 100000 in
theorem law_l4Zero : Law Tryz.prog 125 ct_l4Zero := by
  refine fam_law (Env_cons law_Format Env_nil) hmixA Tryz.func125 rfl rfl (fun _ => ⟨okO_im rfl, by simp [Tryz.f125], ?_⟩)
  try simp -dsimp (maxSteps := 1000000) only [go_sem, List.forall_mem_nil, ↓reduceIte, Nat.reduceEqDiff, Nat.reduceLT, Nat.reduceLeDiff, Nat.reduceAdd, Nat.reduceMul, reduceCtorEq, Tryz.f125, run_Format0, beq48]
def usesF (k : Int) : List (List I) :=
  if k = 1 ∨ k = 2 then [[.bool true], [.bool true], [.bool false], [.bool false], [.bool false], [.bool false], [.bool false]]
  else if k = 3 ∨ k = 7 then [[.bool false], [.bool false], [.bool true], [.bool false], [.bool false], [.bool false], [.bool false]]
  else if k = 4 then [[.bool false], [.bool false], [.bool false], [.bool true], [.bool false], [.bool false], [.bool false]]
  else if k = 6 then [[.bool false], [.bool false], [.bool false], [.bool false], [.bool true], [.bool true], [.bool false]]
  else if k = 8 then [[.bool false], [.bool true], [.bool false], [.bool false], [.bool false], [.bool true], [.bool true]]
  else [[.bool false], [.bool false], [.bool false], [.bool false], [.bool false], [.bool false], [.bool false]]
abbrev NKnd := { k : Int // k = 1 ∨ k = 2 ∨ k = 3 ∨ k = 4 ∨ k = 5 ∨ k = 6 ∨ k = 7 ∨ k = 8 }
noncomputable def ct_l5Uses : Ct := fam false (fun x : NKnd => ([.c (.im (.int .i64 x.1))], [])) (fun x => .one { val := .c (.im (.sl 1 (usesF x.1))) })
theorem run_l5Uses {k : Int} (h : k = 1 ∨ k = 2 ∨ k = 3 ∨ k = 4 ∨ k = 5 ∨ k = 6 ∨ k = 7 ∨ k = 8) : ct_l5Uses.run [.c (.im (.int .i64 k))] [] = some (.one { val := .c (.im (.sl 1 (usesF k))) }) := fam_run' (args := fun x : NKnd => ([D.c (.im (.int .i64 x.1))], [])) (by
    intro a b h
    simp only [Prod.mk.injEq, List.cons.injEq, D.c.injEq, D.agg.injEq, C.im.injEq, I.cpx.injEq, I.flt.injEq, I.int.injEq, I.sl.injEq, I.bool.injEq, I.str.injEq, Int.natCast_inj, true_and, and_true] at h
    (try simp only [Prod.ext_iff, Subtype.ext_iff])
    (try simp only [rowsZ_eq, rowsN_eq] at h)
    simp_all) (⟨k, h⟩ : NKnd)
set_option maxRecDepth 100000 in
set_option maxHeartbeats 8000000 in
theorem law_l5Uses : Law Tryz.prog 124 ct_l5Uses := by
  refine fam_lawF Env_nil hmixA Tryz.func124 rfl rfl (fun ⟨k, hk⟩ => ⟨okO ⟨.c _ (.im _ (.inl rfl)), by simp, by simp⟩, by simp [Tryz.f124], ?_⟩)
  simp only at hk ⊢
  have h17 : (((1 : Nat) : Int) * 7 ≤ 281474976710656) = True := by decide
  rcases hk with rfl | rfl | rfl | rfl | rfl | rfl | rfl | rfl
  all_goals (
    try simp -dsimp (maxSteps := 1000000) only [go_sem, List.forall_mem_nil, ↓reduceIte, Nat.reduceEqDiff, Nat.reduceLT, Nat.reduceLeDiff, Nat.reduceAdd, Nat.reduceMul, reduceCtorEq, Tryz.f124, h17, Int.reduceEq, Int.reduceLE, Int.reduceMul, Int.reduceToNat, Int.reduceLT]
    refine finF_i [.frz 0 [.s 2]] ?_
    simp -dsimp (maxSteps := 1000000) only [go_sem, List.forall_mem_nil, ↓reduceIte, Nat.reduceEqDiff, Nat.reduceLT, Nat.reduceLeDiff, Nat.reduceAdd, Nat.reduceMul, reduceCtorEq, usesF, Int.reduceEq])
end Go.SX
set_option linter.unusedVariables false
set_option linter.unusedSimpArgs false
namespace Go.SX
open Go Go.Proofs
noncomputable def ct_l5Unused : Ct := fam true (fun x : QMod => ([.agg (modC x.1)], [])) (fun _ => .one { val := .c (.im (.bool true)) })
theorem run_l5Unused {m : Mod} (h : Drawn m) : ct_l5Unused.run [.agg (modC m)] [] = some (.one { val := .c (.im (.bool true)) }) := fam_run (args := fun x : QMod => ([D.agg (modC x.1)], [])) (fun _ _ _ => rfl) ⟨m, h⟩
set_option maxRecDepth 100000 in
set_option maxHeartbeats 16000000 in
theorem law_l5Unused : Law Tryz.prog 82 ct_l5Unused := by
  refine fam_law (Env_cons law_l5Uses (Env_cons law_l4Zero (Env_cons law_Format Env_nil))) hmixA Tryz.func82 rfl rfl (fun ⟨m, hD⟩ => ⟨okO_im rfl, by simp [Tryz.f82], ?_⟩)
  simp only
  have bn : (!((⟨#[48]⟩ : ByteArray).toList == (⟨#[48]⟩ : ByteArray).toList)) = false := by rw [beq48]; rfl
  have z1 := run_l5Uses (k := 1) (by simp)
  have z2 := run_l5Uses (k := 2) (by simp)
  have z3 := run_l5Uses (k := 3) (by simp)
  have z4 := run_l5Uses (k := 4) (by simp)
  have z5 := run_l5Uses (k := 5) (by simp)
  have z6 := run_l5Uses (k := 6) (by simp)
  have z7 := run_l5Uses (k := 7) (by simp)
  have z8 := run_l5Uses (k := 8) (by simp)
  rcases hD.forms with ⟨⟨t1, t2⟩, ⟨s1, s2⟩, rfl⟩ | ⟨⟨t1, t2⟩, ⟨s1, s2⟩, rfl⟩ | ⟨lv, rfl⟩ | ⟨st, a, rfl, q1, q2, q3, q4⟩ | rfl | ⟨pts, lab, c, rfl, hT⟩ | ⟨lv, rfl, hl⟩ | ⟨⟨s1, s2⟩, c, l, rfl, q1, q2, q3, q4⟩
  all_goals (
    simp only [modC, mSrc', mGain', mDelay', mSum', mSlicer', mMeterL, mHold', rowsZ_nil, rowsN_nil]
    clear hD
    try simp -dsimp (maxSteps := 1000000) only [go_sem, List.forall_mem_nil, ↓reduceIte, Nat.reduceEqDiff, Nat.reduceLT, Nat.reduceLeDiff, Nat.reduceAdd, Nat.reduceMul, reduceCtorEq, Tryz.f82, z1, z2, z3, z4, z5, z6, z7, z8, usesF, Int.reduceEq, Int.reduceLT, Int.reduceLE, Int.reduceToNat, run_l4Zero, run_Format0, bn, beq48, Int.ofNat_zero, Int.natCast_zero])
end Go.SX
set_option linter.unusedVariables false
set_option linter.unusedSimpArgs false
namespace Go.SX
open Go Go.Proofs
noncomputable def ct_sIsRing : Ct := fam true (fun x : ARg => ([.agg [.im (.sl 1 (rowsZ x.st)), .im (.int .i64 (x.a : Int)), .im (.int .i64 (x.st.length : Int))]], [])) (fun _ => .one { val := .c (.im (.bool true)) })
theorem run_sIsRing {st : List Pt} {a : Nat} (h1 : 1 ≤ st.length) (h2 : st.length ≤ 16) (h3 : a < st.length) : ct_sIsRing.run [.agg [.im (.sl 1 (rowsZ st)), .im (.int .i64 (a : Int)), .im (.int .i64 (st.length : Int))]] [] = some (.one { val := .c (.im (.bool true)) }) :=
  fam_run (args := fun x : ARg => ([D.agg [.im (.sl 1 (rowsZ x.st)), .im (.int .i64 (x.a : Int)), .im (.int .i64 (x.st.length : Int))]], [])) (fun _ _ _ => rfl) ⟨st, a, h1, h2, h3⟩
set_option maxRecDepth 100000 in
set_option maxHeartbeats 4000000 in
theorem law_sIsRing : Law Tryz.prog 83 ct_sIsRing := by
  refine fam_law (Env_cons law_l1In Env_nil) hmixA Tryz.func83 rfl rfl (fun ⟨st, a, h1, h2, h3⟩ => ⟨okO_im rfl, by simp [Tryz.f83], ?_⟩)
  simp only
  have c1 : (decide ((1 : Int) ≤ (st.length : Int)) && decide ((st.length : Int) ≤ 16)) = true := by simp; omega
  have w1 : IntKind.i64.wrap ((st.length : Int) - 1) = (st.length : Int) - 1 := wrap_id (by omega) (by omega)
  have c2 : (decide ((0 : Int) ≤ (a : Int)) && decide ((a : Int) ≤ (st.length : Int) - 1)) = true := by simp; omega
  have c3 : (0 ≤ (st.length : Int)) = True := by simp
  try simp -dsimp (maxSteps := 1000000) only [go_sem, List.forall_mem_nil, ↓reduceIte, Nat.reduceEqDiff, Nat.reduceLT, Nat.reduceLeDiff, Nat.reduceAdd, Nat.reduceMul, reduceCtorEq, Tryz.f83, run_l1In, c1, c2, c3, w1, rowsZ_len, Bool.and_self, Bool.and_true, Bool.true_and]
  refine loop_i (ι := Unit) (fun _ => ⟨[(1, some (.c (.ptr 0 0 0 0))), (3, some (.c (.im (.int .i64 (st.length : Int))))), (4, some (.c (.im (.int .i64 (st.length : Int)))))],
    [(0, some (.box [.t (.im (.sl 1 (rowsZ st))), .t (.im (.int .i64 (a : Int))), .t (.im (.int .i64 (st.length : Int)))]))], 1⟩) (fun _ => 0) () ⟨[], [], by (simp only [go_sem, eq_self, MvRb, MvRn, MvRt, List.nodup_cons, List.nodup_nil, ↓reduceIte, Nat.reduceEqDiff, Nat.reduceLT, Nat.reduceLeDiff, reduceCtorEq, List.forall_mem_nil, Nat.zero_le, false_implies, List.mem_singleton]) <;> simp [lk, MvB_im]⟩ (fun _ => ?_)
  have hI : ((st.length : Int) < (st.length : Int)) = False := by simp
  try simp -dsimp (maxSteps := 1000000) only [go_sem, List.forall_mem_nil, ↓reduceIte, Nat.reduceEqDiff, Nat.reduceLT, Nat.reduceLeDiff, Nat.reduceAdd, Nat.reduceMul, reduceCtorEq, Tryz.f83, hI]
noncomputable def ct_sIsModule : Ct := fam true (fun x : QMod => ([.agg (modC x.1)], [])) (fun _ => .one { val := .c (.im (.bool true)) })
theorem run_sIsModule {m : Mod} (h : Drawn m) : ct_sIsModule.run [.agg (modC m)] [] = some (.one { val := .c (.im (.bool true)) }) := fam_run (args := fun x : QMod => ([D.agg (modC x.1)], [])) (fun _ _ _ => rfl) ⟨m, h⟩
theorem lvl_geq {l : Nat} (h : lvlB l = true) : fcmp .geq .f32 l 0 = true := by rcases lvl_cases h with rfl | rfl | rfl | rfl <;> decide +kernel
set_option maxRecDepth 100000 in
set_option maxHeartbeats 16000000 in
theorem law_sIsModule : Law Tryz.prog 39 ct_sIsModule := by
  refine fam_law (Env_cons law_l1In (Env_cons law_l5Unused (Env_cons law_sIsRing (Env_cons law_sIsTable (Env_cons law_Format Env_nil))))) hmixA Tryz.func39 rfl rfl (fun ⟨m, hD⟩ => ⟨okO_im rfl, by simp [Tryz.f39], ?_⟩)
  simp only
  have hu := run_l5Unused hD
  have bn : ((⟨#[48]⟩ : ByteArray).toList == (⟨#[45, 48]⟩ : ByteArray).toList) = false := by rw [ByteArray.toList_eq, ByteArray.toList_eq]; rfl
  rcases hD.forms with ⟨⟨t1, t2⟩, ⟨s1, s2⟩, rfl⟩ | ⟨⟨t1, t2⟩, ⟨s1, s2⟩, rfl⟩ | ⟨lv, rfl⟩ | ⟨st, a, rfl, q1, q2, q3, q4⟩ | rfl | ⟨pts, lab, c, rfl, hT⟩ | ⟨lv, rfl, hl⟩ | ⟨⟨s1, s2⟩, c, l, rfl, q1, q2, q3, q4⟩
  · simp only [modC, mSrc', rowsZ_nil, rowsN_nil] at hu ⊢
    try simp -dsimp (maxSteps := 1000000) only [go_sem, List.forall_mem_nil, ↓reduceIte, Nat.reduceEqDiff, Nat.reduceLT, Nat.reduceLeDiff, Nat.reduceAdd, Nat.reduceMul, reduceCtorEq, Tryz.f39, run_l1In, hu, Int.reduceEq, Int.reduceLE, Bool.and_self, Bool.and_true, Bool.true_and]
  · simp only [modC, rowsZ_nil, rowsN_nil] at hu ⊢
    try simp -dsimp (maxSteps := 1000000) only [go_sem, List.forall_mem_nil, ↓reduceIte, Nat.reduceEqDiff, Nat.reduceLT, Nat.reduceLeDiff, Nat.reduceAdd, Nat.reduceMul, reduceCtorEq, Tryz.f39, run_l1In, hu, Int.reduceEq, Int.reduceLE, Bool.and_self, Bool.and_true, Bool.true_and]
  · simp only [modC, mGain', rowsZ_nil, rowsN_nil] at hu ⊢
    try simp -dsimp (maxSteps := 1000000) only [go_sem, List.forall_mem_nil, ↓reduceIte, Nat.reduceEqDiff, Nat.reduceLT, Nat.reduceLeDiff, Nat.reduceAdd, Nat.reduceMul, reduceCtorEq, Tryz.f39, run_l1In, hu, Int.reduceEq, Int.reduceLE, Bool.and_self, Bool.and_true, Bool.true_and]
  · obtain ⟨A, rfl⟩ := Int.eq_ofNat_of_zero_le q3
    simp only [modC, mDelay', rowsZ_nil, rowsN_nil] at hu ⊢
    try simp -dsimp (maxSteps := 1000000) only [go_sem, List.forall_mem_nil, ↓reduceIte, Nat.reduceEqDiff, Nat.reduceLT, Nat.reduceLeDiff, Nat.reduceAdd, Nat.reduceMul, reduceCtorEq, Tryz.f39, run_l1In, hu, run_sIsRing q1 q2 (show A < st.length by omega), Int.reduceEq, Int.reduceLE, rowsZ_len, Bool.and_self, Bool.and_true, Bool.true_and]
  · simp only [modC, mSum', rowsZ_nil, rowsN_nil] at hu ⊢
    try simp -dsimp (maxSteps := 1000000) only [go_sem, List.forall_mem_nil, ↓reduceIte, Nat.reduceEqDiff, Nat.reduceLT, Nat.reduceLeDiff, Nat.reduceAdd, Nat.reduceMul, reduceCtorEq, Tryz.f39, run_l1In, hu, Int.reduceEq, Int.reduceLE, Bool.and_self, Bool.and_true, Bool.true_and]
  · obtain ⟨e1, e2⟩ := table_len hT
    have h1 : pts.length ≤ sm := by have : sm = 16777216 := rfl; omega
    have h2 : lab.length ≤ sm := by have : sm = 16777216 := rfl; omega
    simp only [modC, mSlicer', rowsZ_nil] at hu ⊢
    try simp -dsimp (maxSteps := 1000000) only [go_sem, List.forall_mem_nil, ↓reduceIte, Nat.reduceEqDiff, Nat.reduceLT, Nat.reduceLeDiff, Nat.reduceAdd, Nat.reduceMul, reduceCtorEq, Tryz.f39, run_l1In, hu, run_IsTable h1 h2, hT, Int.reduceEq, Int.reduceLE, Bool.and_self, Bool.and_true, Bool.true_and]
  · simp only [modC, mMeterL, rowsZ_nil, rowsN_nil] at hu ⊢
    have hg := lvl_geq hl
    by_cases h0 : lv = 0
    · subst h0
      try simp -dsimp (maxSteps := 1000000) only [go_sem, List.forall_mem_nil, ↓reduceIte, Nat.reduceEqDiff, Nat.reduceLT, Nat.reduceLeDiff, Nat.reduceAdd, Nat.reduceMul, reduceCtorEq, Tryz.f39, run_l1In, hu, hg, run_Format0, bn, Int.reduceEq, Int.reduceLE, Bool.and_self, Bool.and_true, Bool.true_and]
    · have h0' := eq_false h0
      clear h0
      try simp -dsimp (maxSteps := 1000000) only [go_sem, List.forall_mem_nil, ↓reduceIte, Nat.reduceEqDiff, Nat.reduceLT, Nat.reduceLeDiff, Nat.reduceAdd, Nat.reduceMul, reduceCtorEq, Tryz.f39, run_l1In, hu, hg, run_Format hl, oFmt, h0', ne_qneg, Int.reduceEq, Int.reduceLE, Bool.and_self, Bool.and_true, Bool.true_and]
      rintro ⟨s, hs⟩
      try simp -dsimp (maxSteps := 1000000) only [go_sem, List.forall_mem_nil, ↓reduceIte, Nat.reduceEqDiff, Nat.reduceLT, Nat.reduceLeDiff, Nat.reduceAdd, Nat.reduceMul, reduceCtorEq, Tryz.f39, hs]
  · have w1 : IntKind.i64.wrap (c - 1) = c - 1 := wrap_id (by omega) (by omega)
    have c1 : (decide ((1 : Int) ≤ c) && decide (c ≤ 100)) = true := by simp; omega
    have c2 : (decide ((0 : Int) ≤ l) && decide (l ≤ c - 1)) = true := by simp; omega
    simp only [modC, mHold', rowsZ_nil, rowsN_nil] at hu ⊢
    try simp -dsimp (maxSteps := 1000000) only [go_sem, List.forall_mem_nil, ↓reduceIte, Nat.reduceEqDiff, Nat.reduceLT, Nat.reduceLeDiff, Nat.reduceAdd, Nat.reduceMul, reduceCtorEq, Tryz.f39, run_l1In, hu, w1, c1, c2, Int.reduceEq, Int.reduceLE, Bool.and_self, Bool.and_true, Bool.true_and]
end Go.SX
set_option linter.unusedVariables false
set_option linter.unusedSimpArgs false
namespace Go.SX
open Go Ieee
theorem idxF_ge {α : Type} {f : α → Bool} : ∀ (l : List α) (k : Nat), (0 ≤ idxF f l k) ↔ ∃ x ∈ l, f x = true
  | [], k => by simp [idxF]
  | x :: l, k => by
    simp only [idxF]
    split
    · rename_i h; simp [h]
    · rename_i h; rw [idxF_ge l (k + 1)]; simp [h]
theorem hasF_iff {l : List Int} {v : Int} : hasF l v = true ↔ v ∈ l := by
  simp only [hasF, decide_eq_true_eq, idxF_ge]
  constructor
  · rintro ⟨x, hx, rfl⟩; exact hx
  · intro h; exact ⟨v, h, rfl⟩
def iL (k : Nat) : List Int := (List.range k).map fun (i : Nat) => (i : Int)
theorem mem_iL {k : Nat} {v : Int} : v ∈ iL k ↔ 0 ≤ v ∧ v < k := by
  simp only [iL, List.mem_map, List.mem_range]
  constructor
  · rintro ⟨i, hi, rfl⟩; omega
  · rintro ⟨h1, h2⟩; exact ⟨v.toNat, by omega, by omega⟩
theorem iL_succ (k : Nat) : iL k ++ [(k : Int)] = iL (k + 1) := by simp [iL, List.range_succ]
theorem ready_fwd {ms : List Mod} {cs : List Cbl} (h : ∀ c ∈ cs, 0 ≤ c.1 ∧ c.1 < c.2) (k i : Nat) (hi : i ≤ k) : readyF ms cs (iL k) (i : Int) = decide (i = k) := by
  unfold readyF
  by_cases hik : i = k
  · subst hik
    have h1 : hasF (iL i) (i : Int) = false := by
      rw [Bool.eq_false_iff]; intro e; rw [hasF_iff, mem_iL] at e; omega
    have h2 : anyF ms (iL i) (i : Int) cs = false := by
      rw [Bool.eq_false_iff]; intro e
      simp only [anyF, decide_eq_true_eq, idxF_ge] at e
      obtain ⟨c, hc, hb⟩ := e
      simp only [blocks, Bool.and_eq_true, decide_eq_true_eq, Bool.not_eq_true'] at hb
      obtain ⟨hb1, hb2, hb3⟩ := hb
      have := h c hc
      have hm : hasF (iL i) c.1 = true := by rw [hasF_iff, mem_iL]; omega
      rw [hm] at hb3; cases hb3
    simp [h1, h2]
  · have h1 : hasF (iL k) (i : Int) = true := by rw [hasF_iff, mem_iL]; omega
    simp [h1, hik]
theorem readyIdx_fwd {ms : List Mod} {cs : List Cbl} (h : ∀ c ∈ cs, 0 ≤ c.1 ∧ c.1 < c.2) (k : Nat) : ∀ f i, i ≤ k → k < i + f → readyIdx ms cs (iL k) f i = k
  | 0, i, h1, h2 => by omega
  | f + 1, i, h1, h2 => by
    simp only [readyIdx, ready_fwd h k i h1, decide_eq_true_eq]
    split
    · rename_i e; exact e
    · exact readyIdx_fwd h k f (i + 1) (by omega) (by omega)
theorem orderGo_fwd {ms : List Mod} {cs : List Cbl} (h : ∀ c ∈ cs, 0 ≤ c.1 ∧ c.1 < c.2) : ∀ f k, k + f = ms.length → orderGo ms cs f (iL k) = some (iL ms.length)
  | 0, k, e => by simp [orderGo]; rw [← e]; rfl
  | f + 1, k, e => by
    have hr := readyIdx_fwd (ms := ms) h k ms.length 0 (by omega) (by omega)
    simp only [orderGo, hr]
    rw [if_neg (by omega), iL_succ]
    exact orderGo_fwd h f (k + 1) (by omega)
theorem order_fwd {ms : List Mod} {cs : List Cbl} (h : ∀ c ∈ cs, 0 ≤ c.1 ∧ c.1 < c.2) : orderF ms cs = some (iL ms.length) := orderGo_fwd (ms := ms) h ms.length 0 (by omega)
end Go.SX
