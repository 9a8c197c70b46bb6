/-
  Racks and samples are the same as themselves: l5Same, l5SamePoint, l5SameList, MakeSame, SameModules, SameRacks.
  A law over one []byte: what the frame asks, from the law's contract.
  laws.FnMuted: the walk.
  FnMuted: the given statement: the law returns true at every input, which reads behind the call as it did. The frame: the lines of the kit's printed shell for a law over a slice.
  No condition.
-/
import Derived.WalkKit
import Derived.ProofKit
import Derived.Test.YtojcifdnmihebaaGreatRows
import Derived.OpenShut
import Derived.ShutString
import Derived.ChangeOld
import Derived.Below
import Derived.Test.YtojcifdnmihebaaGreatPkH
set_option linter.unusedVariables false
set_option linter.unusedSimpArgs false
namespace Go.SX
open Go Go.Proofs
theorem fcmp_self {a : Nat} (h : fcmp .neq .f32 a a = false) : fcmp .eql .f32 a a = true := by
  simp only [fcmp, bne] at h ⊢
  cases hc : (FloatKind.f32.format.order a a == some Ordering.eq) with
  | true => rfl
  | false => rw [hc] at h; simp at h
noncomputable def ct_l5Same : Ct := fam false (fun x : Nat => ([.c (.im (.flt .f32 x)), .c (.im (.flt .f32 x))], [])) (fun _ => .one { val := .c (.im (.bool true)) })
theorem run_l5Same (x : Nat) : ct_l5Same.run [.c (.im (.flt .f32 x)), .c (.im (.flt .f32 x))] [] = some (.one { val := .c (.im (.bool true)) }) := by
  refine fam_run' (args := fun x : Nat => ([D.c (.im (.flt .f32 x)), .c (.im (.flt .f32 x))], [])) ?_ x
  intro a b h
  simpa using h
set_option maxRecDepth 100000 in
theorem law_l5Same : Law Tryz.prog 77 ct_l5Same := by
  refine fam_law Env_nil hmixA Tryz.func77 rfl rfl (fun a => ⟨okO_im rfl, by simp [Tryz.f77], ?_⟩)
  simp only
  cases hn : fcmp .neq .f32 a a with
  | true =>
    try simp -dsimp (maxSteps := 1000000) only [go_sem, List.forall_mem_nil, ↓reduceIte, Nat.reduceEqDiff, Nat.reduceLT, Nat.reduceLeDiff, Nat.reduceAdd, Nat.reduceMul, reduceCtorEq, Tryz.f77, hn]
  | false =>
    have he := fcmp_self hn
    cases h0 : fcmp .eql .f32 a 0 with
    | true =>
      try simp -dsimp (maxSteps := 1000000) only [go_sem, List.forall_mem_nil, ↓reduceIte, Nat.reduceEqDiff, Nat.reduceLT, Nat.reduceLeDiff, Nat.reduceAdd, Nat.reduceMul, reduceCtorEq, Tryz.f77, hn, h0, beq_self_eq_true]
    | false =>
      try simp -dsimp (maxSteps := 1000000) only [go_sem, List.forall_mem_nil, ↓reduceIte, Nat.reduceEqDiff, Nat.reduceLT, Nat.reduceLeDiff, Nat.reduceAdd, Nat.reduceMul, reduceCtorEq, Tryz.f77, hn, h0, he]
noncomputable def ct_l5SamePoint : Ct := fam false (fun x : Pt => ([.c (.im (.cpx .f32 x.1 x.2)), .c (.im (.cpx .f32 x.1 x.2))], [])) (fun _ => .one { val := .c (.im (.bool true)) })
theorem run_l5SamePoint (x y : Nat) : ct_l5SamePoint.run [.c (.im (.cpx .f32 x y)), .c (.im (.cpx .f32 x y))] [] = some (.one { val := .c (.im (.bool true)) }) := by
  refine fam_run' (args := fun x : Pt => ([D.c (.im (.cpx .f32 x.1 x.2)), .c (.im (.cpx .f32 x.1 x.2))], [])) ?_ (x, y)
  rintro ⟨a, b⟩ ⟨c, d⟩ h
  simp at h
  simp [h]
set_option maxRecDepth 100000 in
theorem law_l5SamePoint : Law Tryz.prog 76 ct_l5SamePoint := by
  refine fam_law (Env_cons law_l5Same Env_nil) hmixA Tryz.func76 rfl rfl (fun ⟨a, b⟩ => ⟨okO_im rfl, by simp [Tryz.f76], ?_⟩)
  simp only
  try simp -dsimp (maxSteps := 1000000) only [go_sem, List.forall_mem_nil, ↓reduceIte, Nat.reduceEqDiff, Nat.reduceLT, Nat.reduceLeDiff, Nat.reduceAdd, Nat.reduceMul, reduceCtorEq, Tryz.f76, run_l5Same a, run_l5Same b]
structure AZl where
  l : List Pt
  len : l.length ≤ sm
noncomputable def ct_l5SameList : Ct := fam true (fun x : AZl => ([.c (.im (.sl 1 (rowsZ x.l))), .c (.im (.sl 1 (rowsZ x.l)))], [])) (fun _ => .one { val := .c (.im (.bool true)) })
theorem run_l5SameList {l : List Pt} (h : l.length ≤ sm) : ct_l5SameList.run [.c (.im (.sl 1 (rowsZ l))), .c (.im (.sl 1 (rowsZ l)))] [] = some (.one { val := .c (.im (.bool true)) }) := by
  refine fam_run' (args := fun x : AZl => ([D.c (.im (.sl 1 (rowsZ x.l))), .c (.im (.sl 1 (rowsZ x.l)))], [])) ?_ ⟨l, h⟩
  rintro ⟨a, _⟩ ⟨b, _⟩ h
  simp [rowsZ_eq] at h
  subst h; rfl
set_option maxRecDepth 100000 in
theorem law_l5SameList : Law Tryz.prog 49 ct_l5SameList := by
  refine fam_law (Env_cons law_l5SamePoint Env_nil) hmixA Tryz.func49 rfl rfl (fun ⟨l, hl⟩ => ⟨okO_im rfl, by simp [Tryz.f49], ?_⟩)
  simp only
  try simp -dsimp (maxSteps := 1000000) only [go_sem, List.forall_mem_nil, ↓reduceIte, Nat.reduceEqDiff, Nat.reduceLT, Nat.reduceLeDiff, Nat.reduceAdd, Nat.reduceMul, reduceCtorEq, Tryz.f49, rowsZ_len]
  refine loop_i (ι := { k : Nat // k ≤ l.length }) (fun k => ⟨[(0, some (.c (.im (.sl 1 (rowsZ l))))), (1, some (.c (.im (.sl 1 (rowsZ l))))), (12, some (.c (.im (.int .i64 (l.length : Int))))), (13, some (.c (.im (.int .i64 (k.1 : Int)))))], [], 0⟩) (fun k => l.length - k.1) ⟨0, by simp⟩ ⟨[], [], by ((simp only [go_sem, eq_self, MvRb, MvRn, MvRt, List.nodup_cons, List.nodup_nil, ↓reduceIte, Nat.reduceEqDiff, Nat.reduceLT, Nat.reduceLeDiff, reduceCtorEq, List.forall_mem_nil, Nat.zero_le, false_implies, List.mem_singleton]) <;> (try (simp -dsimp only [go_sem, eq_self, MvRb, MvRn, MvRt, List.nodup_cons, List.nodup_nil, ↓reduceIte, Nat.reduceEqDiff, Nat.reduceLT, Nat.reduceLeDiff, reduceCtorEq, List.forall_mem_nil, Nat.zero_le, false_implies, List.mem_singleton]))) <;> simp⟩ (fun ⟨k, hk⟩ => ?_)
  simp only
  by_cases hlt : k < l.length
  · obtain ⟨p, hp⟩ : ∃ p, l[k]? = some p := ⟨_, List.getElem?_eq_getElem hlt⟩
    have hrow := rowsZ_at hp
    have hI : ((k : Int) < (l.length : Int)) = True := by simp; omega
    have h0 : (0 ≤ (k : Int)) = True := by simp
    have hwr := lt_sm hl hlt
    try simp -dsimp (maxSteps := 1000000) only [go_sem, List.forall_mem_nil, ↓reduceIte, Nat.reduceEqDiff, Nat.reduceLT, Nat.reduceLeDiff, Nat.reduceAdd, Nat.reduceMul, reduceCtorEq, Tryz.f49, hI, h0, Int.toNat_natCast, hrow, hwr, run_l5SamePoint, rowsZ_len]
    repeat' (first
      | ((with_reducible refine sl_i ?_ ?_); focus kernel_rfl)
      | ((with_reducible refine ro_i ?_ ?_); focus kernel_rfl))
    exact ⟨⟨k + 1, by omega⟩, by simp only []; omega, [], [], by (simp only [go_sem, eq_self, MvRb, MvRn, MvRt, List.nodup_cons, List.nodup_nil, ↓reduceIte, Nat.reduceEqDiff, Nat.reduceLT, Nat.reduceLeDiff, reduceCtorEq, List.forall_mem_nil, Nat.zero_le, false_implies, List.mem_singleton]) <;> simp⟩
  · have hI : ((k : Int) < (l.length : Int)) = False := by simp; omega
    try simp -dsimp (maxSteps := 1000000) only [go_sem, List.forall_mem_nil, ↓reduceIte, Nat.reduceEqDiff, Nat.reduceLT, Nat.reduceLeDiff, Nat.reduceAdd, Nat.reduceMul, reduceCtorEq, Tryz.f49, hI, rowsZ_len]
noncomputable def ct_MakeSame : Ct := fam true (fun x : AZl => ([.c (.im (.sl 1 (rowsZ x.l))), .c (.im (.sl 1 (rowsZ x.l)))], [])) (fun _ => .one { val := .c (.im (.bool true)) })
theorem run_MakeSame {l : List Pt} (h : l.length ≤ sm) : ct_MakeSame.run [.c (.im (.sl 1 (rowsZ l))), .c (.im (.sl 1 (rowsZ l)))] [] = some (.one { val := .c (.im (.bool true)) }) := run_l5SameList h
theorem sc_MakeSame : (ct_MakeSame.sc = true) = True := by simp [ct_MakeSame, fam]
set_option maxRecDepth 100000 in
theorem law_MakeSame : Law Tryz.prog 20 ct_MakeSame := by
  refine fam_law (Env_cons law_l5SameList Env_nil) hmixA Tryz.func20 rfl rfl (fun ⟨l, hl⟩ => ⟨okO_im rfl, by simp [Tryz.f20], ?_⟩)
  simp only
  try simp -dsimp (maxSteps := 1000000) only [go_sem, List.forall_mem_nil, ↓reduceIte, Nat.reduceEqDiff, Nat.reduceLT, Nat.reduceLeDiff, Nat.reduceAdd, Nat.reduceMul, reduceCtorEq, Tryz.f20, run_l5SameList hl]
structure ARk2 where
  ms : List Mod
  cs : List Cbl
  ml : ms.length ≤ sm
  cl : cs.length ≤ sm
  ok : ∀ m ∈ ms, OkM m
end Go.SX
set_option linter.unusedVariables false
set_option linter.unusedSimpArgs false
namespace Go.SX
open Go Go.Proofs Go.RowKit
theorem run_law {l : List Int} (h : ∀ b ∈ l, 0 ≤ b ∧ b < 256) : ctLaw.run [.c (.im (.sl 1 (rowsB l)))] [] = some (.one { val := .c (.im (.bool true)) }) := by
  refine fam_run' (args := fun x : LB => ([D.c (.im (.sl 1 (rowsB x.1)))], [])) ?_ ⟨l, h⟩
  rintro ⟨a, _⟩ ⟨b, _⟩ h
  simp only [Prod.mk.injEq, List.cons.injEq, D.c.injEq, C.im.injEq, I.sl.injEq, true_and, and_true] at h
  exact Subtype.ext (rowsB_inj h)
theorem wf_u8 {n : Int} (h : (Lit.int .u8 n).wf = true) : 0 ≤ n ∧ n < 256 := by
  simp only [Lit.wf, Bool.and_eq_true, decide_eq_true_eq] at h
  obtain ⟨h1, h2⟩ := h
  have e1 : IntKind.u8.min = 0 := by decide
  have e2 : IntKind.u8.max = 255 := by decide
  omega
theorem row_IR {w : World} {a : Option Addr} {len cap : Nat} {zs : List Int}
    (h : (a = none ∧ len = 0 ∧ cap = 0 ∧ zs = []) ∨
      ∃ x, a = some x ∧ len ≤ cap ∧ cap ≤ maxLen ∧ zs.length = cap ∧ (∀ i, i < zs.length → w.cell? (x.add i) = some (.int .u8 (zs.getD i 0))) ∧ ∀ n ∈ zs, (Lit.int .u8 n).wf = true) :
    ∃ l : List Int, (∀ b ∈ l, 0 ≤ b ∧ b < 256) ∧ IR (stayG w).fz (.sl 1 (rowsB l)) (.slice a len cap) := by
  rcases h with ⟨rfl, rfl, rfl, rfl⟩ | ⟨x, rfl, hl, hm, hz, hx, hw⟩
  · exact ⟨[], by simp, .sl0 _ _ _⟩
  · by_cases h0 : len = 0
    · subst h0; exact ⟨[], by simp, .sl0 _ _ _⟩
    · have hlen : (zs.take len).length = len := by rw [List.length_take]; omega
      refine ⟨zs.take len, fun b hb => wf_u8 (hw b (List.mem_of_mem_take hb)), ?_⟩
      have hspot : x.spot = none := by
        have := hx 0 (by omega)
        simp only [Addr.add, if_true] at this
        unfold World.cell? at this
        split at this
        · split at this
          · cases this
          · rename_i hs; simpa using hs
        · cases this
      obtain ⟨b, o, s⟩ := x
      simp only at hspot
      subst hspot
      have key : ∀ (i : Nat) (r : List I) (j : Nat) (y : I), (rowsB (zs.take len))[i]? = some r → r[j]? = some y → ∃ v, (stayG w).fz b (o + i * 1 + j) = some v ∧ IR (stayG w).fz y v := by
        intro i r j y hr hy
        simp only [rowsB, List.getElem?_map, Option.map_eq_some_iff] at hr
        obtain ⟨p, hp, rfl⟩ := hr
        have hi : i < len := by have := (List.getElem?_eq_some_iff.1 hp).1; omega
        have h1 := hx i (by omega)
        rw [Go.SX.add_plain] at h1
        rw [List.getElem?_take_of_lt hi] at hp
        have hg : zs.getD i 0 = p := by rw [List.getD_eq_getElem?_getD, hp]; rfl
        rw [hg] at h1
        match j, hy with
        | 0, hy => simp at hy; subst hy; exact ⟨_, by rw [Nat.mul_one, Nat.add_zero]; exact h1, .int _ _⟩
        | j + 1, hy => simp at hy
      obtain ⟨vs, hvs⟩ := rows_choose key
      have := IR.sl (fz := (stayG w).fz) 1 (rowsB (zs.take len)) b o cap vs (by rw [rowsB_len, hlen]; exact hl) (fun i r hr => by
        simp only [rowsB, List.getElem?_map, Option.map_eq_some_iff] at hr
        obtain ⟨p, _, rfl⟩ := hr; rfl) (fun i r j y h1 h2 => (hvs i r j y h1 h2).1) (fun i r j y h1 h2 => (hvs i r j y h1 h2).2)
      rw [rowsB_len, hlen] at this
      exact this
theorem law_walk {P : Program} {f : FuncId} (hL : Law P f ctLaw) {w : World} {a : Option Addr} {len cap : Nat} {zs : List Int}
    (h : (a = none ∧ len = 0 ∧ cap = 0 ∧ zs = []) ∨
      ∃ x, a = some x ∧ len ≤ cap ∧ cap ≤ maxLen ∧ zs.length = cap ∧ (∀ i, i < zs.length → w.cell? (x.add i) = some (.int .u8 (zs.getD i 0))) ∧ ∀ n ∈ zs, (Lit.int .u8 n).wf = true) :
    Calls P f #[.slice a len cap] w fun e w' => e = .returned (.bool true) ∧ Below w.heap.size w w' := by
  obtain ⟨l, hl, hir⟩ := row_IR h
  refine (law_calls hL (ds := [.c (.im (.sl 1 (rowsB l)))]) (args := [.slice a len cap]) (i := .bool true) rfl w (run_law hl) rfl (fun t d v hd hv => ?_)).mono fun e w' ⟨v, he, hv, hb⟩ => ?_
  · cases t with
    | zero => simp at hd hv; subst hd; subst hv; exact .c _ _ (.im _ _ hir)
    | succ t => simp at hd
  · rw [hv.bool_inv] at he; exact ⟨he, hb⟩
end Go.SX
set_option linter.unusedVariables false
set_option linter.unusedSimpArgs false
namespace Go.SX
open Go Go.Proofs
theorem sc_MakeSamples : (ct_MakeSamples.sc = true) = True := by simp [ct_MakeSamples, fam]
set_option maxRecDepth 100000 in
set_option maxHeartbeats 40000000 in
theorem law_FnMuted : Law Tryz.prog 4 ctLaw := by
  refine fam_law (Env_cons law_MakeRack (Env_cons law_at (Env_cons law_fresh (Env_cons law_MakeSamples (Env_cons law_RunFaults (Env_cons law_MakeSame (Env_cons law_sSubn Env_nil))))))) hmixA Tryz.func4 rfl rfl (fun ⟨l, hb⟩ => ⟨okO_im rfl, by simp [Tryz.f4], ?_⟩)
  simp only
  by_cases hbig : 1048576 < l.length
  · have hI : ((1048576 : Int) < (l.length : Int)) = True := eq_true (by omega)
    clear hbig
    try simp -dsimp (maxSteps := 1000000) only [go_sem, List.forall_mem_nil, ↓reduceIte, Nat.reduceEqDiff, Nat.reduceLT, Nat.reduceLeDiff, Nat.reduceAdd, Nat.reduceMul, reduceCtorEq, Tryz.f4, rowsB_len, hI]
  have hlen : l.length ≤ 1048576 := by omega
  have hI : ((1048576 : Int) < (l.length : Int)) = False := eq_false (by omega)
  have hsm : sm = 16777216 := rfl
  have rk : ct_MakeRack.run [.c (.im (.sl 1 (rowsB l))), .c (.im (.int .i64 5))] [] = some (oMk 5) := run_MakeRack hlen hb (n := 5) (by omega)
  try simp -dsimp (maxSteps := 1000000) only [go_sem, List.forall_mem_nil, ↓reduceIte, Nat.reduceEqDiff, Nat.reduceLT, Nat.reduceLeDiff, Nat.reduceAdd, Nat.reduceMul, reduceCtorEq, Tryz.f4, rowsB_len, hI, rk, oMk, ne_omk]
  rintro ⟨⟨ms, cs⟩, hG, l1, l2⟩
  simp only at hG l1 l2
  have h5 : ms.length ≤ 5 := by omega
  obtain ⟨q1, h1, m1⟩ := at_mod hb 1 (ms.length + 1) (by omega)
  obtain ⟨q2, h2, m2⟩ := at_mod hb 2 ms.length (by omega)
  obtain ⟨q3, h3, m3⟩ := at_mod hb 3 10 (by omega)
  obtain ⟨q4, h4, m4⟩ := at_mod hb 4 8 (by omega)
  have h1 : (atF l 1).tmod ((ms.length : Int) + 1) = (q1 : Int) := h1
  have h3 : (atF l 3).tmod 10 = (q3 : Int) := h3
  have h4 : (atF l 4).tmod 8 = (q4 : Int) := h4
  have n10 : ((10 : Int) = 0) = False := by simp
  have n8 : ((8 : Int) = 0) = False := by simp
  have nl : ((ms.length : Int) = 0) = False := eq_false (by omega)
  have nl1 : ((ms.length : Int) + 1 = 0) = False := eq_false (by omega)
  have r1 : ct_at.run [.c (.im (.sl 1 (rowsB l))), .c (.im (.int .i64 1))] [] = some (.one { val := .c (.im (.int .i64 (atF l 1))) }) := run_at hlen hb (i := 1) (by omega)
  have r2 : ct_at.run [.c (.im (.sl 1 (rowsB l))), .c (.im (.int .i64 2))] [] = some (.one { val := .c (.im (.int .i64 (atF l 2))) }) := run_at hlen hb (i := 2) (by omega)
  have r3 : ct_at.run [.c (.im (.sl 1 (rowsB l))), .c (.im (.int .i64 3))] [] = some (.one { val := .c (.im (.int .i64 (atF l 3))) }) := run_at hlen hb (i := 3) (by omega)
  have r4 : ct_at.run [.c (.im (.sl 1 (rowsB l))), .c (.im (.int .i64 4))] [] = some (.one { val := .c (.im (.int .i64 (atF l 4))) }) := run_at hlen hb (i := 4) (by omega)
  have w1 : IntKind.i64.wrap ((ms.length : Int) + 1) = (ms.length : Int) + 1 := wrap_id (by omega) (by omega)
  have w2 : IntKind.i64.wrap ((q1 : Int) - 1) = (q1 : Int) - 1 := wrap_id (by omega) (by omega)
  have w3 : IntKind.i64.wrap ((q3 : Int) + (q4 : Int)) = (q3 : Int) + (q4 : Int) := wrap_id (by omega) (by omega)
  have rf : ct_fresh.run [.c (.im (.sl 1 (rowsB l))), .c (.im (.int .i64 3))] [] = some oFresh := run_fresh hlen hb (s := 3) (by omega) (by omega)
  try simp -dsimp (maxSteps := 1000000) only [go_sem, List.forall_mem_nil, ↓reduceIte, Nat.reduceEqDiff, Nat.reduceLT, Nat.reduceLeDiff, Nat.reduceAdd, Nat.reduceMul, reduceCtorEq, Tryz.f4, rowsM_len, r1, r2, r3, r4, h1, h2, h3, h4, n10, n8, nl, nl1, w1, w2, w3, rf, oFresh, ne_fresh, rNew]
  repeat' (first
    | ((with_reducible refine sl_i ?_ ?_); focus kernel_rfl)
    | ((with_reducible refine ro_i ?_ ?_); focus kernel_rfl))
  rintro ⟨bs, lb, hbs⟩
  have hbl : List.take bs.length (tI (rowsB bs)) = tI (rowsB bs) := List.take_of_length_le (by simp [tI_len, rowsB_len])
  have rs : ct_MakeSamples.run [.c (.im (.sl 1 (rowsB bs))), .c (.im (.int .i64 20))] [] = some (oSams 20) := run_MakeSamples (by omega) hbs (n := 20) (by omega)
  try simp -dsimp (maxSteps := 1000000) only [go_sem, List.forall_mem_nil, ↓reduceIte, Nat.reduceEqDiff, Nat.reduceLT, Nat.reduceLeDiff, Nat.reduceAdd, Nat.reduceMul, reduceCtorEq, Tryz.f4, rowsB_len, rs, oSams, ne_qlist, rNew, sc_MakeSamples, tI_len, hbl, tI_toI, rowsM_len, r3, r4, h3, h4, n10, n8, w3]
  rintro ⟨X, lX⟩
  try simp -dsimp (maxSteps := 1000000) only [go_sem, List.forall_mem_nil, ↓reduceIte, Nat.reduceEqDiff, Nat.reduceLT, Nat.reduceLeDiff, Nat.reduceAdd, Nat.reduceMul, reduceCtorEq, Tryz.f4, rowsB_len, rowsM_len, r3, r4, h3, h4, n10, n8, w3]
  refine loop_i (ι := { k : Nat // 1 ≤ k ∧ k ≤ 4 }) (fun k => ⟨[(3, some (.c (.ptr 0 0 0 0))), (4, some (.c (.im (.int .i64 (q2 : Int))))), (5, some (.c (.ptr 1 0 0 0))), (6, some (.c (.view 2 1 0 X.length))), (7, some (.c (.im (.int .i64 (q3 : Int))))), (8, some (.c (.im (.int .i64 ((q3 : Int) + (q4 : Int)))))), (9, some (.c (.im (.int .i64 (k.1 : Int)))))],
    [(0, some (.box [.t (.im (.sl 11 (rowsM ms))), .t (.im (.sl 2 (rowsC cs)))])), (1, some (.box [.t (.im (.int .i64 ((q1 : Int) - 1))), .t (.im (.int .i64 (q2 : Int)))])), (2, some (.arr 1 (tI (rowsZ X))))], 3⟩) (fun k => 4 - k.1) ⟨1, by omega⟩ ⟨[], [0, 137, 154], by ((simp only [go_sem, eq_self, MvRb, MvRn, MvRt, List.nodup_cons, List.nodup_nil, ↓reduceIte, Nat.reduceEqDiff, Nat.reduceLT, Nat.reduceLeDiff, reduceCtorEq, List.forall_mem_nil, Nat.zero_le, false_implies, List.mem_singleton, MvR_Z, rowsZ_len]) <;> (try (simp -dsimp only [go_sem, eq_self, MvRb, MvRn, MvRt, List.nodup_cons, List.nodup_nil, ↓reduceIte, Nat.reduceEqDiff, Nat.reduceLT, Nat.reduceLeDiff, reduceCtorEq, List.forall_mem_nil, Nat.zero_le, false_implies, List.mem_singleton, MvR_Z, rowsZ_len]))) <;> simp [lk, MvB_im]⟩ (fun ⟨k, k1, k4⟩ => ?_)
  simp only at k1 k4 ⊢
  by_cases hk : k = 4
  · have hK : ((k : Int) ≤ 3) = False := eq_false (by omega)
    try simp -dsimp (maxSteps := 1000000) only [go_sem, List.forall_mem_nil, ↓reduceIte, Nat.reduceEqDiff, Nat.reduceLT, Nat.reduceLeDiff, Nat.reduceAdd, Nat.reduceMul, reduceCtorEq, Tryz.f4, hK]
  have hK : ((k : Int) ≤ 3) = True := eq_true (by omega)
  have hwk : IntKind.i64.wrap ((k : Int) + 1) = ((k + 1 : Nat) : Int) := by rw [wrap_id (by omega) (by omega)]; omega
  have hokm : ∀ m ∈ ms, OkM m := fun m hm => (hG.dr m hm).ok
  have rr : ct_RunFaults.run [.agg [.im (.sl 11 (rowsM ms)), .im (.sl 2 (rowsC cs))], .agg [.im (.int .i64 ((q1 : Int) - 1)), .im (.int .i64 (q2 : Int))], .c (.im (.sl 1 (rowsZ X))), .c (.im (.sl 4 [[.int .i64 (k : Int), .int .i64 (q2 : Int), .int .i64 (q3 : Int), .int .i64 ((q3 : Int) + (q4 : Int))]])), .c (.im (.int .i64 20))] [] = some (oRf ms cs ((q1 : Int) - 1) (q2 : Int) X [⟨(k : Int), (q2 : Int), (q3 : Int), (q3 : Int) + (q4 : Int)⟩] 20) := run_RunFaults (fs := [⟨(k : Int), (q2 : Int), (q3 : Int), (q3 : Int) + (q4 : Int)⟩]) (by omega) (by have := hG.len; omega) (by omega) (by simp; omega) hokm ((q1 : Int) - 1) (q2 : Int) 20
  have kx : List.take X.length (tI (rowsZ X)) = tI (rowsZ X) := List.take_of_length_le (by rw [tI_len, rowsZ_len]; omega)
  have hcan : canRfF ms cs [⟨(k : Int), (q2 : Int), (q3 : Int), (q3 : Int) + (q4 : Int)⟩] ((q1 : Int) - 1) (q2 : Int) 20 = true := by
    have hbad : badF ms.length ⟨(k : Int), (q2 : Int), (q3 : Int), (q3 : Int) + (q4 : Int)⟩ = false := by
      simp [badF]; omega
    have hrk := hG.rk
    simp [canRfF, areF, canRunF, plugF, hrk, idxF, hbad]
    omega
  try simp -dsimp (maxSteps := 1000000) only [go_sem, List.forall_mem_nil, ↓reduceIte, Nat.reduceEqDiff, Nat.reduceLT, Nat.reduceLeDiff, Nat.reduceAdd, Nat.reduceMul, reduceCtorEq, Tryz.f4, hK, rr, sc_RunFaults, kx, tI_toI, tI_len, rowsZ_len, takeZ, List.take_succ_cons, List.take_zero, oRf, ne_run]
  intro O
  obtain ⟨M, Y, e1, e2, lM, lY, hY⟩ : ∃ (M : List Mod) (Y : List Pt), (runG O cs ((q1 : Int) - 1) (q2 : Int) X [⟨(k : Int), (q2 : Int), (q3 : Int), (q3 : Int) + (q4 : Int)⟩] ms 20).1.1 = M ∧ (runG O cs ((q1 : Int) - 1) (q2 : Int) X [⟨(k : Int), (q2 : Int), (q3 : Int), (q3 : Int) + (q4 : Int)⟩] ms 20).2 = Y ∧ M.length = ms.length ∧ Y.length = 20 ∧
      ∀ i : Nat, q3 ≤ i → i < q3 + q4 → (k = 1 → Y.getD i (0, 0) = (0, 0)) ∧ (k = 2 → Y.getD i (0, 0) = if 0 < i then Y.getD (i - 1) (0, 0) else (0, 0)) ∧ (k = 3 → subnS (Y.getD i (0, 0)).1 = false ∧ subnS (Y.getD i (0, 0)).2 = false) := by
    refine ⟨_, _, rfl, rfl, (runG_kinds 20).1, runG_len2 20, fun i i1 i2 => ?_⟩
    obtain ⟨g1, g2, g3⟩ := muted (O := O) (cs := cs) (a := (q1 : Int) - 1) (b := q2) (xs := X) (f := ⟨(k : Int), (q2 : Int), (q3 : Int), (q3 : Int) + (q4 : Int)⟩) (ms := ms) m2 hG.ord rfl (i := i) (k := 20) (by omega) (by simp only []; omega) (by simp only []; omega)
    exact ⟨fun e => g1 (by simp only []; omega), fun e => g2 (by simp only []; omega), fun e => g3 (by simp only []; omega)⟩
  have i20 : Int.toNat 20 = 20 := rfl
  have c20 : ((20 : Nat) : Int) = 20 := rfl
  try simp -dsimp (maxSteps := 1000000) only [go_sem, List.forall_mem_nil, ↓reduceIte, Nat.reduceEqDiff, Nat.reduceLT, Nat.reduceLeDiff, Nat.reduceAdd, Nat.reduceMul, reduceCtorEq, Tryz.f4, hcan, i20, e1, e2, lM, lY, c20, rRun, rowsZ_len]
  have hget : ∀ i : Nat, i < 20 → ∃ u v, (tI (rowsZ Y))[i]? = some [T.im (.cpx .f32 u v)] ∧ Y.getD i (0, 0) = (u, v) := fun i hi => by
    refine ⟨Y[i].1, Y[i].2, by simp [tI, rowsZ, List.getElem?_eq_getElem (show i < Y.length by omega)], ?_⟩
    rw [List.getD_eq_getElem?_getD, List.getElem?_eq_getElem (by omega)]; rfl
  clear e1 e2 hcan rr
  refine loop_i (ι := { i : Nat // q3 ≤ i ∧ i ≤ q3 + q4 }) (fun i => ⟨[(3, some (.c (.ptr 0 0 0 0))), (4, some (.c (.im (.int .i64 (q2 : Int))))), (5, some (.c (.ptr 1 0 0 0))), (6, some (.c (.view 2 1 0 X.length))), (7, some (.c (.im (.int .i64 (q3 : Int))))), (8, some (.c (.im (.int .i64 ((q3 : Int) + (q4 : Int)))))), (9, some (.c (.im (.int .i64 (k : Int))))), (11, some (.c (.view 3 1 0 20))), (13, some (.c (.im (.int .i64 (i.1 : Int)))))],
    [(0, some (.box [.t (.im (.sl 11 (rowsM ms))), .t (.im (.sl 2 (rowsC cs)))])), (1, some (.box [.t (.im (.int .i64 ((q1 : Int) - 1))), .t (.im (.int .i64 (q2 : Int)))])), (2, some (.arr 1 (tI (rowsZ X)))), (3, some (.arr 1 (tI (rowsZ Y))))], 4⟩) (fun i => q3 + q4 - i.1) ⟨q3, by omega⟩ ⟨[], [0, 1, 2, 6], by (simp only [go_sem, eq_self, MvRb, MvRn, MvRt, List.nodup_cons, List.nodup_nil, ↓reduceIte, Nat.reduceEqDiff, Nat.reduceLT, Nat.reduceLeDiff, reduceCtorEq, List.forall_mem_nil, Nat.zero_le, false_implies, List.mem_singleton, MvR_Z, rowsZ_len]) <;> simp [lk, MvB_im]⟩ (fun ⟨i, i1, i2⟩ => ?_)
  simp only at i1 i2 ⊢
  by_cases hi : i < q3 + q4
  case neg =>
    have hJ : ((i : Int) < (q3 : Int) + (q4 : Int)) = False := eq_false (by omega)
    try simp -dsimp (maxSteps := 1000000) only [go_sem, List.forall_mem_nil, ↓reduceIte, Nat.reduceEqDiff, Nat.reduceLT, Nat.reduceLeDiff, Nat.reduceAdd, Nat.reduceMul, reduceCtorEq, Tryz.f4, hJ, hwk]
    exact ⟨⟨k + 1, by omega⟩, by simp only []; omega, [], [0, 1, 2], by (simp only [go_sem, eq_self, MvRb, MvRn, MvRt, List.nodup_cons, List.nodup_nil, ↓reduceIte, Nat.reduceEqDiff, Nat.reduceLT, Nat.reduceLeDiff, reduceCtorEq, List.forall_mem_nil, Nat.zero_le, false_implies, List.mem_singleton, MvR_Z]) <;> simp [lk, MvB_im]⟩
  have hJ : ((i : Int) < (q3 : Int) + (q4 : Int)) = True := eq_true (by omega)
  have hwr : IntKind.i64.wrap ((i : Int) + 1) = ((i + 1 : Nat) : Int) := by rw [wrap_id (by omega) (by omega)]; omega
  have b1 : (0 ≤ (i : Int)) = True := eq_true (by omega)
  have b2 : ((i : Int) < 20) = True := eq_true (by omega)
  obtain ⟨u, v, hu, hv⟩ := hget i (by omega)
  obtain ⟨g1, g2, g3⟩ := hY i i1 hi
  rw [hv] at g1 g2 g3
  have hk3 : k = 1 ∨ k = 2 ∨ k = 3 := by omega
  by_cases h0 : 0 < i
  · have hp : (0 < (i : Int)) = True := eq_true (by omega)
    have hwp : IntKind.i64.wrap ((i : Int) - 1) = ((i - 1 : Nat) : Int) := by rw [wrap_id (by omega) (by omega)]; omega
    have b3 : (0 ≤ ((i - 1 : Nat) : Int)) = True := eq_true (by omega)
    have b4 : (((i - 1 : Nat) : Int) < 20) = True := eq_true (by omega)
    obtain ⟨u', v', hu', hv'⟩ := hget (i - 1) (by omega)
    rcases hk3 with rfl | rfl | rfl
    · obtain ⟨rfl, rfl⟩ : u = 0 ∧ v = 0 := by simpa using g1 rfl
      have hc : (((1 : Nat) : Int) = 1) = True := by simp
      have c0 : fcmp .eql .f32 0 0 = true := by decide
      have c1 : fcmp .neq .f32 0 0 = false := by decide
      try simp -dsimp (maxSteps := 1000000) only [go_sem, List.forall_mem_nil, ↓reduceIte, Nat.reduceEqDiff, Nat.reduceLT, Nat.reduceLeDiff, Nat.reduceAdd, Nat.reduceMul, reduceCtorEq, Tryz.f4, hJ, hwr, c20, b1, b2, hp, hwp, hu', b3, b4, hu, hc, c0, c1, Int.toNat_natCast, Bool.and_self, Bool.not_true, Bool.or_self]
      exact ⟨⟨i + 1, by omega⟩, by simp only []; omega, [], [0, 1, 2, 3], by (simp only [go_sem, eq_self, MvRb, MvRn, MvRt, List.nodup_cons, List.nodup_nil, ↓reduceIte, Nat.reduceEqDiff, Nat.reduceLT, Nat.reduceLeDiff, reduceCtorEq, List.forall_mem_nil, Nat.zero_le, false_implies, List.mem_singleton, MvR_Z]) <;> simp [lk, MvB_im]⟩
    · have hc : (((2 : Nat) : Int) = 1) = False := by simp
      have hc2 : (((2 : Nat) : Int) = 2) = True := by simp
      have e2 := g2 rfl
      rw [if_pos (by omega), hv'] at e2
      obtain ⟨rfl, rfl⟩ : u = u' ∧ v = v' := by simpa using e2
      have rm : ct_MakeSame.run [.c (.im (.sl 1 [[.cpx .f32 u v]])), .c (.im (.sl 1 [[.cpx .f32 u v]]))] [] = some (.one { val := .c (.im (.bool true)) }) := run_MakeSame (l := [(u, v)]) (by simp only [List.length_cons, List.length_nil]; omega)
      try simp -dsimp (maxSteps := 1000000) only [go_sem, List.forall_mem_nil, ↓reduceIte, Nat.reduceEqDiff, Nat.reduceLT, Nat.reduceLeDiff, Nat.reduceAdd, Nat.reduceMul, reduceCtorEq, Tryz.f4, hJ, hwr, c20, b1, b2, hp, hwp, hu', b3, b4, hu, hc, hc2, rm, sc_MakeSame, Int.toNat_natCast, List.take_succ_cons, List.take_zero, Bool.not_true]
      exact ⟨⟨i + 1, by omega⟩, by simp only []; omega, [], [0, 1, 2, 3], by (simp only [go_sem, eq_self, MvRb, MvRn, MvRt, List.nodup_cons, List.nodup_nil, ↓reduceIte, Nat.reduceEqDiff, Nat.reduceLT, Nat.reduceLeDiff, reduceCtorEq, List.forall_mem_nil, Nat.zero_le, false_implies, List.mem_singleton, MvR_Z]) <;> simp [lk, MvB_im]⟩
    · obtain ⟨s1, s2⟩ := g3 rfl
      simp only at s1 s2
      have hc : (((3 : Nat) : Int) = 1) = False := by simp
      have hc2 : (((3 : Nat) : Int) = 2) = False := by simp
      try simp -dsimp (maxSteps := 1000000) only [go_sem, List.forall_mem_nil, ↓reduceIte, Nat.reduceEqDiff, Nat.reduceLT, Nat.reduceLeDiff, Nat.reduceAdd, Nat.reduceMul, reduceCtorEq, Tryz.f4, hJ, hwr, c20, b1, b2, hp, hwp, hu', b3, b4, hu, hc, hc2, run_sSubn, s1, s2, Int.toNat_natCast, Bool.or_self, Bool.not_false]
      exact ⟨⟨i + 1, by omega⟩, by simp only []; omega, [], [0, 1, 2, 3], by (simp only [go_sem, eq_self, MvRb, MvRn, MvRt, List.nodup_cons, List.nodup_nil, ↓reduceIte, Nat.reduceEqDiff, Nat.reduceLT, Nat.reduceLeDiff, reduceCtorEq, List.forall_mem_nil, Nat.zero_le, false_implies, List.mem_singleton, MvR_Z]) <;> simp [lk, MvB_im]⟩
  · have hp : (0 < (i : Int)) = False := eq_false (by omega)
    rcases hk3 with rfl | rfl | rfl
    · obtain ⟨rfl, rfl⟩ : u = 0 ∧ v = 0 := by simpa using g1 rfl
      have hc : (((1 : Nat) : Int) = 1) = True := by simp
      have c0 : fcmp .eql .f32 0 0 = true := by decide
      have c1 : fcmp .neq .f32 0 0 = false := by decide
      try simp -dsimp (maxSteps := 1000000) only [go_sem, List.forall_mem_nil, ↓reduceIte, Nat.reduceEqDiff, Nat.reduceLT, Nat.reduceLeDiff, Nat.reduceAdd, Nat.reduceMul, reduceCtorEq, Tryz.f4, hJ, hwr, c20, b1, b2, hp, hu, hc, c0, c1, Int.toNat_natCast, Bool.and_self, Bool.not_true, Bool.or_self]
      exact ⟨⟨i + 1, by omega⟩, by simp only []; omega, [], [0, 1, 2, 3], by (simp only [go_sem, eq_self, MvRb, MvRn, MvRt, List.nodup_cons, List.nodup_nil, ↓reduceIte, Nat.reduceEqDiff, Nat.reduceLT, Nat.reduceLeDiff, reduceCtorEq, List.forall_mem_nil, Nat.zero_le, false_implies, List.mem_singleton, MvR_Z]) <;> simp [lk, MvB_im]⟩
    · have hc : (((2 : Nat) : Int) = 1) = False := by simp
      have hc2 : (((2 : Nat) : Int) = 2) = True := by simp
      have e2 := g2 rfl
      rw [if_neg (by omega)] at e2
      obtain ⟨rfl, rfl⟩ : u = 0 ∧ v = 0 := by simpa using e2
      have rm : ct_MakeSame.run [.c (.im (.sl 1 [[.cpx .f32 0 0]])), .c (.im (.sl 1 [[.cpx .f32 0 0]]))] [] = some (.one { val := .c (.im (.bool true)) }) := run_MakeSame (l := [(0, 0)]) (by simp only [List.length_cons, List.length_nil]; omega)
      try simp -dsimp (maxSteps := 1000000) only [go_sem, List.forall_mem_nil, ↓reduceIte, Nat.reduceEqDiff, Nat.reduceLT, Nat.reduceLeDiff, Nat.reduceAdd, Nat.reduceMul, reduceCtorEq, Tryz.f4, hJ, hwr, c20, b1, b2, hp, hu, hc, hc2, rm, sc_MakeSame, Int.toNat_natCast, List.take_succ_cons, List.take_zero, Bool.not_true]
      exact ⟨⟨i + 1, by omega⟩, by simp only []; omega, [], [0, 1, 2, 3], by (simp only [go_sem, eq_self, MvRb, MvRn, MvRt, List.nodup_cons, List.nodup_nil, ↓reduceIte, Nat.reduceEqDiff, Nat.reduceLT, Nat.reduceLeDiff, reduceCtorEq, List.forall_mem_nil, Nat.zero_le, false_implies, List.mem_singleton, MvR_Z]) <;> simp [lk, MvB_im]⟩
    · obtain ⟨s1, s2⟩ := g3 rfl
      simp only at s1 s2
      have hc : (((3 : Nat) : Int) = 1) = False := by simp
      have hc2 : (((3 : Nat) : Int) = 2) = False := by simp
      try simp -dsimp (maxSteps := 1000000) only [go_sem, List.forall_mem_nil, ↓reduceIte, Nat.reduceEqDiff, Nat.reduceLT, Nat.reduceLeDiff, Nat.reduceAdd, Nat.reduceMul, reduceCtorEq, Tryz.f4, hJ, hwr, c20, b1, b2, hp, hu, hc, hc2, run_sSubn, s1, s2, Int.toNat_natCast, Bool.or_self, Bool.not_false]
      exact ⟨⟨i + 1, by omega⟩, by simp only []; omega, [], [0, 1, 2, 3], by (simp only [go_sem, eq_self, MvRb, MvRn, MvRt, List.nodup_cons, List.nodup_nil, ↓reduceIte, Nat.reduceEqDiff, Nat.reduceLT, Nat.reduceLeDiff, reduceCtorEq, List.forall_mem_nil, Nat.zero_le, false_implies, List.mem_singleton, MvR_Z]) <;> simp [lk, MvB_im]⟩
end Go.SX
namespace Go.Proofs.YtojcifdnmihebaaGreat.fnMuted
open Go.ChangeShapes Go.WideShapes Go.ChangeAt Go.RowKit
open Go.ChangeMaps (open_string shut_string)
set_option linter.unusedVariables false
theorem own : ownKnob Tryz.prog.godebug = none := by kernel_rfl
theorem laidOut : laidOutB Tryz.prog = true := by kernel_rfl
def IsRow (k : IntKind) (w : World) (a : Option Addr) (len cap : Nat) (zs : List Int) : Prop :=
  (a = none ∧ len = 0 ∧ cap = 0 ∧ zs = []) ∨
  ∃ x, a = some x ∧ len ≤ cap ∧ cap ≤ maxLen ∧ zs.length = cap ∧ (∀ i, i < zs.length → w.cell? (x.add i) = some (.int k (zs.getD i 0))) ∧ ∀ n ∈ zs, (Lit.int k n).wf = true
theorem walk (a0 : Option Addr) (len0 cap0 : Nat) (z0 : List Int) (w : World) (w0 : IsRow .u8 w a0 len0 cap0 z0) :
    Calls Tryz.prog 4 #[.slice a0 len0 cap0] w fun e w' => e = .returned (.bool true) ∧ Below w.heap.size w w' := by
  exact Go.SX.law_walk Go.SX.law_FnMuted w0
set_option maxRecDepth 100000 in
theorem lifted (os : Os) (started : os.Started) (H : Type) (enc : TypeId × Value → H) :
    ReturnsInHanded {} Tryz.checked os 4 .any (Rows.fnMutedSpec.pre6 enc Tryz.prog Tryz.f4 Rows.fnMutedRow.domain false) (Rows.fnMutedSpec.post enc Tryz.prog Tryz.f4 false true false false) := by
  refine returnsInHanded_of_change (C := Tryz.checked) own started (by kernel_rfl) Tryz.func4
    (ChangeSpec.witness6 (enc := enc) (C := Tryz.checked) false ⟨#[], #[.slice none 0 0], []⟩ 8 (by kernel_rfl) (by kernel_rfl) (by kernel_rfl) (by kernel_rfl)) ?_
  intro W base args ds gs before hval0 hW hcnd _
  have hval : ∀ (j : Nat) t v, Tryz.f4.params[j]? = some t → args[j]? = some v → Value.okWide Tryz.prog W .any base t v := hval0
  have hW' := hW
  obtain ⟨p, q, hA0, hV, rfl, hfz, hnd⟩ := hW
  have hA : DataW.TrodAll enc Tryz.prog W 0 (fun _ => true) true Tryz.f4.params.toList args.toList ds p := hA0
  rw [Tryz.params4] at hA hval
  obtain ⟨v0, vs0, d0, ds0, p0, q0, hargs, rfl, rfl, h0, r0⟩ := trodAll_cons hA
  obtain ⟨rfl, rfl, rfl⟩ := trodAll_nil r0
  obtain rfl : args = #[v0] := by cases args; simp_all
  obtain ⟨rfl, rfl⟩ := trodVars_none hV
  obtain ⟨a0, len0, cap0, rfl⟩ := okWide_slice Tryz.underlying22 (hval 0 22 v0 rfl rfl)
  have k0 := h0
  have lt0 : ∀ x ∈ p0, x.block < W.heap.size := by obtain ⟨m, hm⟩ := k0; exact DataW.trod_lt m _ _ _ hm
  obtain ⟨z0, w0⟩ : ∃ zs, IsRow .u8 W a0 len0 cap0 zs := by
    obtain ⟨fuel, hf⟩ := h0
    rcases open_ints Tryz.underlying22 Tryz.underlying5 (by kernel_rfl) hf with ⟨hcs, _⟩ | ⟨x, l, c, zs, hcs, _, hl, hm, hz, _, hcell, hwz⟩
    · simp [Value.cells] at hcs
      obtain ⟨rfl, rfl, rfl⟩ := hcs
      exact ⟨[], .inl ⟨rfl, rfl, rfl, rfl⟩⟩
    · simp [Value.cells] at hcs
      obtain ⟨rfl, rfl, rfl⟩ := hcs
      exact ⟨zs, .inr ⟨_, rfl, hl, hm, by simpa using hz, hcell, hwz⟩⟩
  clear hA0 hval0
  refine (walk a0 len0 cap0 z0 W w0).mono fun e W' ⟨he, bel⟩ => ?_
  subst he
  exact ⟨_, rfl, _, _, _, [], _, [], hW', trodAll_mk1 (shut_bool Tryz.underlying4 _), (trodAll_cons_mk (Below.trod laidOut (by kernel_rfl) (of_decide_eq_true (by kernel_rfl)) k0 bel lt0) trodAll_mk0), rfl, bel.frame _, fun h => by cases h⟩
theorem over : Rows.fnMutedRow.holds Tryz.pinned (OpenSpec.ofChange Rows.fnMutedSpec) :=
  OpenClaim.holds_of_wide 4 Tryz.f4 rfl rfl rfl rfl rfl rfl rfl ⟨rfl, rfl, rfl, rfl, rfl⟩ rfl rfl rfl rfl rfl (by kernel_rfl) Tryz.func4 (by kernel_rfl)
    (of_decide_eq_true (by kernel_rfl)) (by unfold Func.isWrapper; first | (rw [if_pos (by decide +kernel)]; kernel_rfl) | (rw [if_neg (by decide +kernel)]; exact ⟨rfl, rfl⟩))
    (fun os started H enc _ => lifted os started H enc)
theorem proved : Rows.FnMutedSaid := over
#print axioms proved
end Go.Proofs.YtojcifdnmihebaaGreat.fnMuted
