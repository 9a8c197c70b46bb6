/-
  slices.Clone, copyTable, copyRing.
  No condition.
-/
import Derived.Test.YtbhnlplbfhomcaaRkD
set_option linter.unusedVariables false
set_option linter.unusedSimpArgs false
namespace Go.SX
open Go Go.Proofs

theorem mvR_tI {sc : Bool} {sz : Nat} {rows : List (List I)} (h : ∀ r ∈ rows, ∀ i ∈ r, scI i = true) : MvR sc (.arr sz (tI rows)) := by
  intro r hr t ht
  simp only [tI, List.mem_map] at hr
  obtain ⟨r0, hr0, rfl⟩ := hr
  simp only [List.mem_map] at ht
  obtain ⟨i, hi, rfl⟩ := ht
  exact .im _ (.inr (h r0 hr0 i hi))
theorem sc_rowsZ (l : List Pt) : ∀ r ∈ rowsZ l, ∀ i ∈ r, scI i = true := by
  intro r hr i hi
  simp only [rowsZ, List.mem_map] at hr
  obtain ⟨p, _, rfl⟩ := hr
  simp at hi; subst hi; rfl
theorem sc_rowsN (l : List Int) : ∀ r ∈ rowsN l, ∀ i ∈ r, scI i = true := by
  intro r hr i hi
  simp only [rowsN, List.mem_map] at hr
  obtain ⟨p, _, rfl⟩ := hr
  simp at hi; subst hi; rfl
def rNew (sz : Nat) (rows : List (List I)) : Res := { val := .c (.view 0 sz 0 rows.length), roots := [.arr sz (tI rows)] }
theorem okR_new {sc : Bool} {sz : Nat} {rows : List (List I)} (h : ∀ r ∈ rows, ∀ i ∈ r, scI i = true) : OkR sc (rNew sz rows) :=
  ⟨.c _ (.view _ _ _ _ (by simp [rNew])), by intro r hr; simp [rNew] at hr; subst hr; exact mvR_tI h, by simp [rNew]⟩
theorem map_im_tI (rows : List (List I)) : List.map (fun r => List.map T.im r) rows = tI rows := rfl
theorem bytes_sm {n k : Nat} (h : n ≤ sm) (hk : k ≤ 128) : (n * k ≤ 140737488355328) = True := by
  have : sm = 16777216 := rfl
  simp only [eq_iff_iff, iff_true]
  calc n * k ≤ 16777216 * 128 := Nat.mul_le_mul (by omega) hk
    _ ≤ _ := by decide

noncomputable def ct_Clone_complex64 : Ct := fam true (fun x : { l : List Pt // l.length ≤ sm } => ([.c (.im (.sl 1 (rowsZ x.1)))], [])) (fun x => .one (rNew 1 (rowsZ x.1)))
theorem run_Clone_complex64 {l : List Pt} (hl : l.length ≤ sm) : ct_Clone_complex64.run [.c (.im (.sl 1 (rowsZ l)))] [] = some (.one (rNew 1 (rowsZ l))) := by
  refine fam_run' (args := fun x : { l : List Pt // l.length ≤ sm } => ([D.c (.im (.sl 1 (rowsZ x.1)))], [])) ?_ ⟨l, hl⟩
  rintro ⟨a, _⟩ ⟨b, _⟩ h
  simp [rowsZ_eq] at h ⊢
  exact h
set_option maxRecDepth 100000 in
theorem law_Clone_complex64 : Law Try.prog 98 ct_Clone_complex64 := by
  refine fam_lawF Env_nil hmixA Try.func98 rfl rfl (fun ⟨l, hl⟩ => ⟨okO (okR_new (sc_rowsZ l)), by simp [Try.f98], ?_⟩)
  simp only [rNew]
  try simp -dsimp (maxSteps := 1000000) only [go_sem, List.forall_mem_nil, ↓reduceIte, Nat.reduceEqDiff, Nat.reduceLT, Nat.reduceLeDiff, Nat.reduceAdd, Nat.reduceMul, reduceCtorEq, Try.f98, rowsZ_len, bytes_sm hl (show 8 ≤ 128 by decide), map_im_tI, tI_len, appendH, srcRows]
  repeat' (first
    | ((with_reducible refine sl_i ?_ ?_); focus kernel_rfl)
    | ((with_reducible refine ro_i ?_ ?_); focus kernel_rfl)
    | ((with_reducible refine sl_e ?_); kernel_rfl)
    | ((with_reducible refine ro_e ?_); kernel_rfl)
    | ((first | (with_reducible refine gS_d ?_ ?_) | (with_reducible refine gS_dn ?_ ?_) | (with_reducible refine gS_i ?_ ?_)) <;> intro hg <;> (try simp -dsimp (maxSteps := 1000000) only [go_sem, List.forall_mem_nil, ↓reduceIte, Nat.reduceEqDiff, Nat.reduceLT, Nat.reduceLeDiff, Nat.reduceAdd, Nat.reduceMul, reduceCtorEq, Try.f98, rowsZ_len, bytes_sm hl (show 8 ≤ 128 by decide), map_im_tI, tI_len, appendH, srcRows, *])))
  refine ⟨finF_i [] ?_, fun he => finF_i [.nilS 2 1] ?_⟩
  · simp -dsimp (maxSteps := 1000000) only [go_sem, List.forall_mem_nil, ↓reduceIte, Nat.reduceEqDiff, Nat.reduceLT, Nat.reduceLeDiff, Nat.reduceAdd, Nat.reduceMul, reduceCtorEq]
    exact ⟨[1], by simp, by simp, by simp [rtOk, lk], by simp⟩
  · have hn : l = [] := by cases l with | nil => rfl | cons => simp [rowsZ] at he
    subst hn
    simp -dsimp (maxSteps := 1000000) only [go_sem, List.forall_mem_nil, ↓reduceIte, Nat.reduceEqDiff, Nat.reduceLT, Nat.reduceLeDiff, Nat.reduceAdd, Nat.reduceMul, reduceCtorEq]
    exact ⟨[0], by simp, by simp, by simp [rtOk, lk, tI, rowsZ], by simp⟩
noncomputable def ct_Clone_int : Ct := fam true (fun x : { l : List Int // l.length ≤ sm } => ([.c (.im (.sl 1 (rowsN x.1)))], [])) (fun x => .one (rNew 1 (rowsN x.1)))
theorem run_Clone_int {l : List Int} (hl : l.length ≤ sm) : ct_Clone_int.run [.c (.im (.sl 1 (rowsN l)))] [] = some (.one (rNew 1 (rowsN l))) := by
  refine fam_run' (args := fun x : { l : List Int // l.length ≤ sm } => ([D.c (.im (.sl 1 (rowsN x.1)))], [])) ?_ ⟨l, hl⟩
  rintro ⟨a, _⟩ ⟨b, _⟩ h
  simp [rowsN_eq] at h ⊢
  exact h
set_option maxRecDepth 100000 in
theorem law_Clone_int : Law Try.prog 99 ct_Clone_int := by
  refine fam_lawF Env_nil hmixA Try.func99 rfl rfl (fun ⟨l, hl⟩ => ⟨okO (okR_new (sc_rowsN l)), by simp [Try.f99], ?_⟩)
  simp only [rNew]
  try simp -dsimp (maxSteps := 1000000) only [go_sem, List.forall_mem_nil, ↓reduceIte, Nat.reduceEqDiff, Nat.reduceLT, Nat.reduceLeDiff, Nat.reduceAdd, Nat.reduceMul, reduceCtorEq, Try.f99, rowsN_len, bytes_sm hl (show 8 ≤ 128 by decide), map_im_tI, tI_len, appendH, srcRows]
  repeat' (first
    | ((with_reducible refine sl_i ?_ ?_); focus kernel_rfl)
    | ((with_reducible refine ro_i ?_ ?_); focus kernel_rfl)
    | ((with_reducible refine sl_e ?_); kernel_rfl)
    | ((with_reducible refine ro_e ?_); kernel_rfl)
    | ((first | (with_reducible refine gS_d ?_ ?_) | (with_reducible refine gS_dn ?_ ?_) | (with_reducible refine gS_i ?_ ?_)) <;> intro hg <;> (try simp -dsimp (maxSteps := 1000000) only [go_sem, List.forall_mem_nil, ↓reduceIte, Nat.reduceEqDiff, Nat.reduceLT, Nat.reduceLeDiff, Nat.reduceAdd, Nat.reduceMul, reduceCtorEq, Try.f99, rowsN_len, bytes_sm hl (show 8 ≤ 128 by decide), map_im_tI, tI_len, appendH, srcRows, *])))
  refine ⟨finF_i [] ?_, fun he => finF_i [.nilS 2 1] ?_⟩
  · simp -dsimp (maxSteps := 1000000) only [go_sem, List.forall_mem_nil, ↓reduceIte, Nat.reduceEqDiff, Nat.reduceLT, Nat.reduceLeDiff, Nat.reduceAdd, Nat.reduceMul, reduceCtorEq]
    exact ⟨[1], by simp, by simp, by simp [rtOk, lk], by simp⟩
  · have hn : l = [] := by cases l with | nil => rfl | cons => simp [rowsN] at he
    subst hn
    simp -dsimp (maxSteps := 1000000) only [go_sem, List.forall_mem_nil, ↓reduceIte, Nat.reduceEqDiff, Nat.reduceLT, Nat.reduceLeDiff, Nat.reduceAdd, Nat.reduceMul, reduceCtorEq]
    exact ⟨[0], by simp, by simp, by simp [rtOk, lk, tI, rowsN], by simp⟩

abbrev Cbl := Int × Int
def rowsC (l : List Cbl) : List (List I) := l.map fun c => [.int .i64 c.1, .int .i64 c.2]
theorem rowsC_len (l : List Cbl) : (rowsC l).length = l.length := by simp [rowsC]
theorem rowsC_at {l : List Cbl} {k : Nat} {p : Cbl} (h : l[k]? = some p) : (rowsC l)[k]? = some [.int .i64 p.1, .int .i64 p.2] := by simp [rowsC, h]
theorem rowsC_inj {l m : List Cbl} (h : rowsC l = rowsC m) : l = m := by
  induction l generalizing m with
  | nil => cases m with | nil => rfl | cons => simp [rowsC] at h
  | cons p l ih =>
    cases m with
    | nil => simp [rowsC] at h
    | cons q m =>
      simp only [rowsC, List.map_cons, List.cons.injEq, I.int.injEq, true_and, and_true] at h
      rw [ih h.2, show p = q from Prod.ext h.1.1 h.1.2]
theorem rowsC_eq {l m : List Cbl} : (rowsC l = rowsC m) = (l = m) := propext ⟨rowsC_inj, fun h => by rw [h]⟩
theorem sc_rowsC (l : List Cbl) : ∀ r ∈ rowsC l, ∀ i ∈ r, scI i = true := by
  intro r hr i hi
  simp only [rowsC, List.mem_map] at hr
  obtain ⟨p, _, rfl⟩ := hr
  simp at hi; rcases hi with rfl | rfl <;> rfl
noncomputable def ct_Clone_Cable : Ct := fam true (fun x : { l : List Cbl // l.length ≤ sm } => ([.c (.im (.sl 2 (rowsC x.1)))], [])) (fun x => .one (rNew 2 (rowsC x.1)))
theorem run_Clone_Cable {l : List Cbl} (hl : l.length ≤ sm) : ct_Clone_Cable.run [.c (.im (.sl 2 (rowsC l)))] [] = some (.one (rNew 2 (rowsC l))) := by
  refine fam_run' (args := fun x : { l : List Cbl // l.length ≤ sm } => ([D.c (.im (.sl 2 (rowsC x.1)))], [])) ?_ ⟨l, hl⟩
  rintro ⟨a, _⟩ ⟨b, _⟩ h
  simp [rowsC_eq] at h ⊢
  exact h
set_option maxRecDepth 100000 in
theorem law_Clone_Cable : Law Try.prog 63 ct_Clone_Cable := by
  refine fam_lawF Env_nil hmixA Try.func63 rfl rfl (fun ⟨l, hl⟩ => ⟨okO (okR_new (sc_rowsC l)), by simp [Try.f63], ?_⟩)
  simp only [rNew]
  try simp -dsimp (maxSteps := 1000000) only [go_sem, List.forall_mem_nil, ↓reduceIte, Nat.reduceEqDiff, Nat.reduceLT, Nat.reduceLeDiff, Nat.reduceAdd, Nat.reduceMul, reduceCtorEq, Try.f63, rowsC_len, bytes_sm hl (show 16 ≤ 128 by decide), map_im_tI, tI_len, appendH, srcRows]
  repeat' (first
    | ((with_reducible refine sl_i ?_ ?_); focus kernel_rfl)
    | ((with_reducible refine ro_i ?_ ?_); focus kernel_rfl)
    | ((with_reducible refine sl_e ?_); kernel_rfl)
    | ((with_reducible refine ro_e ?_); kernel_rfl)
    | ((first | (with_reducible refine gS_d ?_ ?_) | (with_reducible refine gS_dn ?_ ?_) | (with_reducible refine gS_i ?_ ?_)) <;> intro hg <;> (try simp -dsimp (maxSteps := 1000000) only [go_sem, List.forall_mem_nil, ↓reduceIte, Nat.reduceEqDiff, Nat.reduceLT, Nat.reduceLeDiff, Nat.reduceAdd, Nat.reduceMul, reduceCtorEq, Try.f63, rowsC_len, bytes_sm hl (show 16 ≤ 128 by decide), map_im_tI, tI_len, appendH, srcRows, *])))
  refine ⟨finF_i [] ?_, fun he => finF_i [.nilS 2 2] ?_⟩
  · simp -dsimp (maxSteps := 1000000) only [go_sem, List.forall_mem_nil, ↓reduceIte, Nat.reduceEqDiff, Nat.reduceLT, Nat.reduceLeDiff, Nat.reduceAdd, Nat.reduceMul, reduceCtorEq]
    exact ⟨[1], by simp, by simp, by simp [rtOk, lk], by simp⟩
  · have hn : l = [] := by cases l with | nil => rfl | cons => simp [rowsC] at he
    subst hn
    simp -dsimp (maxSteps := 1000000) only [go_sem, List.forall_mem_nil, ↓reduceIte, Nat.reduceEqDiff, Nat.reduceLT, Nat.reduceLeDiff, Nat.reduceAdd, Nat.reduceMul, reduceCtorEq]
    exact ⟨[0], by simp, by simp, by simp [rtOk, lk, tI, rowsC], by simp⟩

def rTb (pts : List Pt) (lab : List Int) : Res := { val := .agg [.view 0 1 0 pts.length, .view 1 1 0 lab.length], roots := [.arr 1 (tI (rowsZ pts)), .arr 1 (tI (rowsN lab))] }
theorem okR_tb {sc : Bool} {pts : List Pt} {lab : List Int} : OkR sc (rTb pts lab) := by
  refine ⟨.agg _ (fun x hx => ?_), fun r hr => ?_, by simp [rTb]⟩
  · simp [rTb] at hx ⊢
    rcases hx with rfl | rfl <;> exact .view _ _ _ _ (by simp)
  · simp [rTb] at hr
    rcases hr with rfl | rfl
    · exact mvR_tI (sc_rowsZ _)
    · exact mvR_tI (sc_rowsN _)
noncomputable def ct_copyTable : Ct := fam true (fun x : Tb => ([.agg [.im (.sl 1 (rowsZ x.1.1)), .im (.sl 1 (rowsN x.1.2))]], [])) (fun x => .one (rTb x.1.1 x.1.2))
theorem run_copyTable {pts : List Pt} {lab : List Int} (h1 : pts.length ≤ sm) (h2 : lab.length ≤ sm) : ct_copyTable.run [.agg [.im (.sl 1 (rowsZ pts)), .im (.sl 1 (rowsN lab))]] [] = some (.one (rTb pts lab)) := by
  refine fam_run' (args := fun x : Tb => ([D.agg [.im (.sl 1 (rowsZ x.1.1)), .im (.sl 1 (rowsN x.1.2))]], [])) ?_ ⟨(pts, lab), h1, h2⟩
  rintro ⟨⟨a, b⟩, _⟩ ⟨⟨a', b'⟩, _⟩ h
  simp [rowsZ_eq, rowsN_eq] at h ⊢
  simp [h]
set_option maxRecDepth 100000 in
theorem law_copyTable : Law Try.prog 84 ct_copyTable := by
  refine fam_law (Env_cons law_Clone_complex64 (Env_cons law_Clone_int Env_nil)) hmixA Try.func84 rfl rfl (fun ⟨⟨pts, lab⟩, h1, h2⟩ => ⟨okO okR_tb, by simp [Try.f84], ?_⟩)
  simp only [rTb]
  try simp -dsimp (maxSteps := 1000000) only [go_sem, List.forall_mem_nil, ↓reduceIte, Nat.reduceEqDiff, Nat.reduceLT, Nat.reduceLeDiff, Nat.reduceAdd, Nat.reduceMul, reduceCtorEq, Try.f84, run_Clone_complex64 h1, run_Clone_int h2, rNew, rowsZ_len, rowsN_len]
  repeat' (first
    | ((with_reducible refine sl_i ?_ ?_); focus kernel_rfl)
    | ((with_reducible refine ro_i ?_ ?_); focus kernel_rfl)
    | ((with_reducible refine sl_e ?_); kernel_rfl)
    | ((with_reducible refine ro_e ?_); kernel_rfl)
    | ((first | (with_reducible refine gS_d ?_ ?_) | (with_reducible refine gS_dn ?_ ?_) | (with_reducible refine gS_i ?_ ?_)) <;> intro hg <;> (try simp -dsimp (maxSteps := 1000000) only [go_sem, List.forall_mem_nil, ↓reduceIte, Nat.reduceEqDiff, Nat.reduceLT, Nat.reduceLeDiff, Nat.reduceAdd, Nat.reduceMul, reduceCtorEq, Try.f84, run_Clone_complex64 h1, run_Clone_int h2, rNew, rowsZ_len, rowsN_len, *])))
  refine ⟨[_, _], ?_, ?_, ?_, rfl, rfl⟩ <;> simp [rtOk]
end Go.SX
