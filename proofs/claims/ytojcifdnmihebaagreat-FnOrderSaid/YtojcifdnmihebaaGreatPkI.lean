/-
  spec: l6Has, l6Ready, l6Order: the order is the program's.
  spec: IsRack, l6Copy, AddCable: of racks whose modules are drawn.
  spec: l6Rack, MakeRack: a rack whose modules are drawn, and which is one.
  RunFaults$1: what an output becomes while faults last.
  A rack's step where outputs become others (by 'bec'): the plain words.
  AreFaults.
  RunFaults.
  FnMuted: what the outputs of a rack are under one fault.
  FnBuilt: when an order of the modules exists: plain words.
  FnOrder: laws.place, laws.ints, slices.Equal at ints, OrderOf, FeedsOf.
  FnOrder: JacksOf.
  FnOrder: ReachOf: plain words.
  No condition.
-/
import Derived.Test.YtojcifdnmihebaaGreatPkH
set_option linter.unusedVariables false
set_option linter.unusedSimpArgs false
namespace Go.SX
open Go Go.Proofs
def hasR (n : Nat) (i : Int) : Bool := decide (0 ≤ i) && decide (i < (n : Int))
noncomputable def ct_l6Has : Ct := fam true (fun x : (List Mod × List Cbl) × Int => ([.agg [.im (.sl 11 (rowsM x.1.1)), .im (.sl 2 (rowsC x.1.2))], .c (.im (.int .i64 x.2))], [])) (fun x => .one { val := .c (.im (.bool (hasR x.1.1.length x.2))) })
theorem run_l6Has (ms : List Mod) (cs : List Cbl) (i : Int) : ct_l6Has.run [.agg [.im (.sl 11 (rowsM ms)), .im (.sl 2 (rowsC cs))], .c (.im (.int .i64 i))] [] = some (.one { val := .c (.im (.bool (hasR ms.length i))) }) := by
  refine fam_run' (args := fun x : (List Mod × List Cbl) × Int => ([D.agg [.im (.sl 11 (rowsM x.1.1)), .im (.sl 2 (rowsC x.1.2))], .c (.im (.int .i64 x.2))], [])) ?_ ((ms, cs), i)
  rintro ⟨⟨a, b⟩, c⟩ ⟨⟨a', b'⟩, c'⟩ h
  simp [rowsM_eq, rowsC_eq] at h ⊢
  simp [h]
set_option maxRecDepth 100000 in
theorem law_l6Has : Law Tryz.prog 40 ct_l6Has := by
  refine fam_law Env_nil hmixA Tryz.func40 rfl rfl (fun ⟨⟨ms, cs⟩, i⟩ => ⟨okO_im rfl, by simp [Tryz.f40], ?_⟩)
  simp only [hasR]
  by_cases h1 : 0 ≤ i
  · have h1' := eq_true h1
    clear h1
    try simp -dsimp (maxSteps := 1000000) only [go_sem, List.forall_mem_nil, ↓reduceIte, Nat.reduceEqDiff, Nat.reduceLT, Nat.reduceLeDiff, Nat.reduceAdd, Nat.reduceMul, reduceCtorEq, Tryz.f40, rowsM_len, h1', Bool.true_and]
  · have h1' := eq_false h1
    clear h1
    try simp -dsimp (maxSteps := 1000000) only [go_sem, List.forall_mem_nil, ↓reduceIte, Nat.reduceEqDiff, Nat.reduceLT, Nat.reduceLeDiff, Nat.reduceAdd, Nat.reduceMul, reduceCtorEq, Tryz.f40, rowsM_len, h1', Bool.false_and]
def rowsBo (l : List Bool) : List (List I) := l.map fun b => [.bool b]
theorem rowsBo_len (l : List Bool) : (rowsBo l).length = l.length := by simp [rowsBo]
theorem rowsBo_at {l : List Bool} {k : Nat} {p : Bool} (h : l[k]? = some p) : (rowsBo l)[k]? = some [.bool p] := by simp [rowsBo, h]
theorem rowsBo_inj {l m : List Bool} (h : rowsBo l = rowsBo m) : l = m := by
  induction l generalizing m with
  | nil => cases m with | nil => rfl | cons => simp [rowsBo] at h
  | cons p l ih =>
    cases m with
    | nil => simp [rowsBo] at h
    | cons q m =>
      simp only [rowsBo, List.map_cons, List.cons.injEq, I.bool.injEq, true_and, and_true] at h
      rw [ih h.2, h.1]
theorem rowsBo_eq {l m : List Bool} : (rowsBo l = rowsBo m) = (l = m) := propext ⟨rowsBo_inj, fun h => by rw [h]⟩
def blkS (ms : List Mod) (L : List Bool) (i : Int) (c : Cbl) : Bool := decide (c.2 = i) && (!(L.getD c.1.toNat false) && !(decide (kindOf ms c.1 = 4)))
def rdyS (ms : List Mod) (cs : List Cbl) (L : List Bool) (i : Nat) : Bool := !(L.getD i false) && !(cs.any (blkS ms L (i : Int)))
structure ARy where
  ms : List Mod
  cs : List Cbl
  L : List Bool
  i : Nat
  cl : cs.length ≤ sm
  ll : L.length = ms.length
  il : i < ms.length
  ok : ∀ c ∈ cs, 0 ≤ c.1 ∧ c.1 < ms.length
noncomputable def ct_l6Ready : Ct := fam true (fun x : ARy => ([.agg [.im (.sl 11 (rowsM x.ms)), .im (.sl 2 (rowsC x.cs))], .c (.im (.sl 1 (rowsBo x.L))), .c (.im (.int .i64 (x.i : Int)))], [])) (fun x => .one { val := .c (.im (.bool (rdyS x.ms x.cs x.L x.i))) })
theorem run_l6Ready {ms : List Mod} {cs : List Cbl} {L : List Bool} {i : Nat} (h1 : cs.length ≤ sm) (h2 : L.length = ms.length) (h3 : i < ms.length) (h4 : ∀ c ∈ cs, 0 ≤ c.1 ∧ c.1 < ms.length) :
    ct_l6Ready.run [.agg [.im (.sl 11 (rowsM ms)), .im (.sl 2 (rowsC cs))], .c (.im (.sl 1 (rowsBo L))), .c (.im (.int .i64 (i : Int)))] [] = some (.one { val := .c (.im (.bool (rdyS ms cs L i))) }) := by
  refine fam_run' (args := fun x : ARy => ([D.agg [.im (.sl 11 (rowsM x.ms)), .im (.sl 2 (rowsC x.cs))], .c (.im (.sl 1 (rowsBo x.L))), .c (.im (.int .i64 (x.i : Int)))], [])) ?_ ⟨ms, cs, L, i, h1, h2, h3, h4⟩
  rintro ⟨a, b, c, d, _, _, _, _⟩ ⟨a', b', c', d', _, _, _, _⟩ h
  simp [rowsM_eq, rowsC_eq, rowsBo_eq] at h ⊢
  exact ⟨h.1.1, h.1.2, h.2.1, by omega⟩
theorem sc_l6Ready : (ct_l6Ready.sc = true) = True := by simp [ct_l6Ready, fam]
theorem any_drop {α : Type} {f : α → Bool} {l : List α} {k : Nat} {p : α} (h : l[k]? = some p) : (l.drop k).any f = (f p || (l.drop (k + 1)).any f) := by
  have hlt : k < l.length := (List.getElem?_eq_some_iff.1 h).1
  have hp : l[k] = p := by rw [List.getElem?_eq_getElem hlt] at h; injection h
  rw [List.drop_eq_getElem_cons hlt, hp, List.any_cons]
set_option maxRecDepth 100000 in
set_option maxHeartbeats 8000000 in
theorem law_l6Ready : Law Tryz.prog 86 ct_l6Ready := by
  refine fam_law Env_nil hmixA Tryz.func86 rfl rfl (fun ⟨ms, cs, L, i, h1, h2, h3, h4⟩ => ⟨okO_im rfl, by simp [Tryz.f86], ?_⟩)
  simp only [rdyS]
  obtain ⟨b, hb⟩ : ∃ b, L[i]? = some b := ⟨_, List.getElem?_eq_getElem (by omega)⟩
  have hbd : L.getD i false = b := by rw [List.getD_eq_getElem?_getD, hb]; rfl
  have hrb := rowsBo_at hb
  have i0 : (0 ≤ (i : Int)) = True := by simp
  have i1 : ((i : Int) < (L.length : Int)) = True := eq_true (by omega)
  rw [hbd]
  cases b with
  | true =>
    try simp -dsimp (maxSteps := 1000000) only [go_sem, List.forall_mem_nil, ↓reduceIte, Nat.reduceEqDiff, Nat.reduceLT, Nat.reduceLeDiff, Nat.reduceAdd, Nat.reduceMul, reduceCtorEq, Tryz.f86, rowsBo_len, hrb, i0, i1, Int.toNat_natCast, Bool.not_true, Bool.false_and]
  | false =>
    try simp -dsimp (maxSteps := 1000000) only [go_sem, List.forall_mem_nil, ↓reduceIte, Nat.reduceEqDiff, Nat.reduceLT, Nat.reduceLeDiff, Nat.reduceAdd, Nat.reduceMul, reduceCtorEq, Tryz.f86, rowsBo_len, rowsC_len, hrb, i0, i1, Int.toNat_natCast]
    refine loop_i (ι := { k : Nat // k ≤ cs.length ∧ cs.any (blkS ms L (i : Int)) = (cs.drop k).any (blkS ms L (i : Int)) }) (fun k => ⟨[(1, some (.c (.im (.sl 1 (rowsBo L))))), (2, some (.c (.im (.int .i64 (i : Int))))), (3, some (.c (.ptr 0 0 0 0))), (14, some (.c (.im (.sl 2 (rowsC cs))))), (15, some (.c (.im (.int .i64 (cs.length : Int))))), (16, some (.c (.im (.int .i64 (k.1 : Int)))))],
      [(0, some (.box [.t (.im (.sl 11 (rowsM ms))), .t (.im (.sl 2 (rowsC cs)))]))], 1⟩) (fun k => cs.length - k.1) ⟨0, by simp⟩ ⟨[], [], by ((simp only [go_sem, eq_self, MvRb, MvRn, MvRt, List.nodup_cons, List.nodup_nil, ↓reduceIte, Nat.reduceEqDiff, Nat.reduceLT, Nat.reduceLeDiff, reduceCtorEq, List.forall_mem_nil, Nat.zero_le, false_implies, List.mem_singleton]) <;> (try (simp -dsimp only [go_sem, eq_self, MvRb, MvRn, MvRt, List.nodup_cons, List.nodup_nil, ↓reduceIte, Nat.reduceEqDiff, Nat.reduceLT, Nat.reduceLeDiff, reduceCtorEq, List.forall_mem_nil, Nat.zero_le, false_implies, List.mem_singleton]))) <;> simp [lk, MvB_im]⟩ (fun ⟨k, hk, hinv⟩ => ?_)
    simp only
    by_cases hlt : k < cs.length
    rotate_left
    · have hI : ((k : Int) < (cs.length : Int)) = False := eq_false (by omega)
      obtain rfl : k = cs.length := by omega
      rw [List.drop_length, List.any_nil] at hinv
      try simp -dsimp (maxSteps := 1000000) only [go_sem, List.forall_mem_nil, ↓reduceIte, Nat.reduceEqDiff, Nat.reduceLT, Nat.reduceLeDiff, Nat.reduceAdd, Nat.reduceMul, reduceCtorEq, Tryz.f86, hI, hinv, Bool.not_false, Bool.true_and]
    obtain ⟨⟨f, t⟩, hp⟩ : ∃ p, cs[k]? = some p := ⟨_, List.getElem?_eq_getElem hlt⟩
    have hrow := rowsC_at hp
    have hI : ((k : Int) < (cs.length : Int)) = True := eq_true (by omega)
    have k0 : (0 ≤ (k : Int)) = True := by simp
    have hwr := lt_sm h1 hlt
    have hidx := any_drop (f := blkS ms L (i : Int)) hp
    rw [hidx] at hinv
    clear hidx
    obtain ⟨f1, f2⟩ := h4 _ (List.mem_of_getElem? hp)
    simp only at f1 f2
    obtain ⟨F, rfl⟩ := Int.eq_ofNat_of_zero_le f1
    obtain ⟨lb, hlb⟩ : ∃ b, L[F]? = some b := ⟨_, List.getElem?_eq_getElem (by omega)⟩
    obtain ⟨m, hm⟩ : ∃ m, ms[F]? = some m := ⟨_, List.getElem?_eq_getElem (by omega)⟩
    have hrl := rowsBo_at hlb
    have hrm := rowsM_at hm
    have hld : L.getD F false = lb := by rw [List.getD_eq_getElem?_getD, hlb]; rfl
    have hkd : kindOf ms (F : Int) = m.kind := by simp [kindOf, hm]
    have F0 : (0 ≤ (F : Int)) = True := by simp
    have F1 : ((F : Int) < (L.length : Int)) = True := eq_true (by omega)
    have F2 : ((F : Int) < (ms.length : Int)) = True := eq_true (by omega)
    simp only [blkS, Int.toNat_natCast, hld, hkd] at hinv
    by_cases ht : t = (i : Int)
    rotate_left
    · have ht' := eq_false ht
      simp only [ht', decide_false, Bool.false_and, Bool.false_or] at hinv
      clear ht
      try simp -dsimp (maxSteps := 1000000) only [go_sem, List.forall_mem_nil, ↓reduceIte, Nat.reduceEqDiff, Nat.reduceLT, Nat.reduceLeDiff, Nat.reduceAdd, Nat.reduceMul, reduceCtorEq, Tryz.f86, hI, k0, hrow, hwr, ht', Int.toNat_natCast]
      exact ⟨⟨k + 1, by omega, hinv⟩, by simp only []; omega, [], [0], by (simp only [go_sem, eq_self, MvRb, MvRn, MvRt, List.nodup_cons, List.nodup_nil, ↓reduceIte, Nat.reduceEqDiff, Nat.reduceLT, Nat.reduceLeDiff, reduceCtorEq, List.forall_mem_nil, Nat.zero_le, false_implies, List.mem_singleton]) <;> simp [lk, MvB_im]⟩
    have ht' := eq_true ht
    cases lb with
    | true =>
      simp only [ht', decide_true, Bool.not_true, Bool.false_and, Bool.true_and, Bool.false_or] at hinv
      clear ht
      try simp -dsimp (maxSteps := 1000000) only [go_sem, List.forall_mem_nil, ↓reduceIte, Nat.reduceEqDiff, Nat.reduceLT, Nat.reduceLeDiff, Nat.reduceAdd, Nat.reduceMul, reduceCtorEq, Tryz.f86, hI, k0, hrow, hwr, ht', hrl, F0, F1, rowsBo_len, Int.toNat_natCast, Bool.not_true]
      exact ⟨⟨k + 1, by omega, hinv⟩, by simp only []; omega, [], [0], by (simp only [go_sem, eq_self, MvRb, MvRn, MvRt, List.nodup_cons, List.nodup_nil, ↓reduceIte, Nat.reduceEqDiff, Nat.reduceLT, Nat.reduceLeDiff, reduceCtorEq, List.forall_mem_nil, Nat.zero_le, false_implies, List.mem_singleton]) <;> simp [lk, MvB_im]⟩
    | false =>
      by_cases hd : m.kind = 4
      · have hd' := eq_true hd
        simp only [ht', hd', decide_true, Bool.not_true, Bool.not_false, Bool.and_false, Bool.true_and, Bool.false_or] at hinv
        clear ht hd
        try simp -dsimp (maxSteps := 1000000) only [go_sem, List.forall_mem_nil, ↓reduceIte, Nat.reduceEqDiff, Nat.reduceLT, Nat.reduceLeDiff, Nat.reduceAdd, Nat.reduceMul, reduceCtorEq, Tryz.f86, hI, k0, hrow, hwr, ht', hd', hrl, hrm, F0, F1, F2, rowsBo_len, rowsM_len, Int.toNat_natCast, Bool.not_true, Bool.not_false]
        exact ⟨⟨k + 1, by omega, hinv⟩, by simp only []; omega, [], [0], by (simp only [go_sem, eq_self, MvRb, MvRn, MvRt, List.nodup_cons, List.nodup_nil, ↓reduceIte, Nat.reduceEqDiff, Nat.reduceLT, Nat.reduceLeDiff, reduceCtorEq, List.forall_mem_nil, Nat.zero_le, false_implies, List.mem_singleton]) <;> simp [lk, MvB_im]⟩
      · have hd' := eq_false hd
        simp only [ht', hd', decide_true, decide_false, Bool.not_false, Bool.and_self, Bool.true_or] at hinv
        clear ht hd
        try simp -dsimp (maxSteps := 1000000) only [go_sem, List.forall_mem_nil, ↓reduceIte, Nat.reduceEqDiff, Nat.reduceLT, Nat.reduceLeDiff, Nat.reduceAdd, Nat.reduceMul, reduceCtorEq, Tryz.f86, hI, k0, hrow, hwr, ht', hd', hrl, hrm, F0, F1, F2, hinv, rowsBo_len, rowsM_len, Int.toNat_natCast, Bool.not_true, Bool.not_false, Bool.true_and]
def lsF (n : Nat) (out : List Int) : List Bool := (List.range n).map fun (i : Nat) => hasF out (i : Int)
theorem lsF_len (n : Nat) (out : List Int) : (lsF n out).length = n := by simp [lsF]
theorem lsF_at {n : Nat} {out : List Int} {i : Nat} (h : i < n) : (lsF n out).getD i false = hasF out (i : Int) := by
  rw [List.getD_eq_getElem?_getD]; simp [lsF, h]
theorem rdy_eq {ms : List Mod} {cs : List Cbl} {out : List Int} {i : Nat} (h : i < ms.length) (h4 : ∀ c ∈ cs, 0 ≤ c.1 ∧ c.1 < ms.length) : rdyS ms cs (lsF ms.length out) i = readyF ms cs out (i : Int) := by
  unfold rdyS readyF
  rw [lsF_at h]
  congr 2
  unfold anyF
  rw [Bool.eq_iff_iff, List.any_eq_true, decide_eq_true_eq, idxF_ge]
  constructor
  · rintro ⟨c, hc, hb⟩
    refine ⟨c, hc, ?_⟩
    obtain ⟨q1, q2⟩ := h4 c hc
    simp only [blkS, blocks] at hb ⊢
    rw [lsF_at (show c.1.toNat < ms.length by omega), show ((c.1.toNat : Nat) : Int) = c.1 by omega] at hb
    revert hb
    cases decide (c.2 = (i : Int)) <;> cases hasF out c.1 <;> cases decide (kindOf ms c.1 = 4) <;> simp
  · rintro ⟨c, hc, hb⟩
    refine ⟨c, hc, ?_⟩
    obtain ⟨q1, q2⟩ := h4 c hc
    simp only [blkS, blocks] at hb ⊢
    rw [lsF_at (show c.1.toNat < ms.length by omega), show ((c.1.toNat : Nat) : Int) = c.1 by omega]
    revert hb
    cases decide (c.2 = (i : Int)) <;> cases hasF out c.1 <;> cases decide (kindOf ms c.1 = 4) <;> simp
theorem lsF_set {n : Nat} {out : List Int} {i : Nat} (h : i < n) : (lsF n out).set i true = lsF n (out ++ [(i : Int)]) := by
  apply List.ext_getElem?
  intro j
  rw [List.getElem?_set]
  simp only [lsF_len]
  by_cases hj : j < n
  · have e1 : ∀ o : List Int, (lsF n o)[j]? = some (hasF o (j : Int)) := fun o => by simp [lsF, hj]
    rw [e1, e1]
    by_cases e : i = j
    · subst e
      rw [if_pos rfl, if_pos h]
      have : hasF (out ++ [(i : Int)]) (i : Int) = true := by rw [hasF_iff]; simp
      rw [this]
    · rw [if_neg e]
      congr 1
      rw [Bool.eq_iff_iff, hasF_iff, hasF_iff]
      simp
      omega
  · have e1 : ∀ o : List Int, (lsF n o)[j]? = none := fun o => by simp [lsF]; omega
    rw [e1, e1]
    by_cases e : i = j
    · omega
    · rw [if_neg e]
theorem MvR_Bo (l : List Bool) : MvR false (.arr 1 (tI (rowsBo l))) = True := eq_true (sc_false _ _)
theorem MvR_Nn (l : List Int) : MvR false (.arr 1 (tI (rowsN l))) = True := eq_true (sc_false _ _)
theorem setBo (l : List Bool) (i : Nat) (b : Bool) : (tI (rowsBo l)).set i [T.im (.bool b)] = tI (rowsBo (l.set i b)) := by simp [tI, rowsBo, List.map_set]
theorem lsF_nil (n : Nat) : List.replicate n [T.im (.bool false)] = tI (rowsBo (lsF n [])) := by
  have : lsF n [] = List.replicate n false := by
    apply List.ext_getElem?
    intro j
    by_cases hj : j < n
    · simp [lsF, hj, hasF, idxF]
    · simp [lsF, hj]
  rw [this]; simp [tI, rowsBo]
def nxF (ms : List Mod) (cs : List Cbl) (out : List Int) (j : Nat) : Int := if readyIdx ms cs out (ms.length - j) j = ms.length then -1 else (readyIdx ms cs out (ms.length - j) j : Int)
theorem nxF_end (ms : List Mod) (cs : List Cbl) (out : List Int) : nxF ms cs out ms.length = -1 := by simp [nxF, readyIdx]
theorem nxF_step {ms : List Mod} {cs : List Cbl} {out : List Int} {j : Nat} (h : j < ms.length) : nxF ms cs out j = if readyF ms cs out (j : Int) = true then (j : Int) else nxF ms cs out (j + 1) := by
  unfold nxF
  rw [show ms.length - j = (ms.length - (j + 1)) + 1 by omega]
  simp only [readyIdx]
  split
  · rw [if_neg (by omega)]
  · rfl
set_option maxRecDepth 100000 in
set_option maxHeartbeats 8000000 in
theorem law_l6Order : Law Tryz.prog 41 ct_order := by
  refine fam_lawF (Env_cons law_l6Ready Env_nil) hmixA Tryz.func41 rfl rfl (fun ⟨ms, cs, h1, h2, h5⟩ => ⟨okO_order _, by simp [Tryz.f41], ?_⟩)
  have hsm : sm = 16777216 := rfl
  simp only [orderF]
  have k1 : (0 ≤ (ms.length : Int)) = True := by simp
  have k2 : ((ms.length : Int) ≤ 9223372036854775807) = True := eq_true (by omega)
  have k3 : (((1 : Nat) : Int) * (ms.length : Int) ≤ 281474976710656) = True := eq_true (by omega)
  try simp -dsimp (maxSteps := 1000000) only [go_sem, List.forall_mem_nil, ↓reduceIte, Nat.reduceEqDiff, Nat.reduceLT, Nat.reduceLeDiff, Nat.reduceAdd, Nat.reduceMul, reduceCtorEq, Tryz.f41, rowsM_len, rowsC_len, k1, k2, k3, lsF_nil, Int.toNat_natCast, List.length_replicate]
  refine loop_i (ι := { x : List Int // x.length ≤ ms.length ∧ orderGo ms cs ms.length [] = orderGo ms cs (ms.length - x.length) x }) (fun x => ⟨[(1, some (.c (.ptr 0 0 0 0))), (4, some (.c (.view 1 1 0 ms.length))), (5, some (.c (.view 2 1 0 x.1.length)))],
    [(0, some (.box [.t (.im (.sl 11 (rowsM ms))), .t (.im (.sl 2 (rowsC cs)))])), (1, some (.arr 1 (tI (rowsBo (lsF ms.length x.1))))), (2, some (.arr 1 (tI (rowsN x.1))))], 3⟩) (fun x => ms.length - x.1.length) ⟨[], by simp⟩ ⟨[], [0, 1, 2], by ((simp only [go_sem, eq_self, MvRb, MvRn, MvRt, List.nodup_cons, List.nodup_nil, ↓reduceIte, Nat.reduceEqDiff, Nat.reduceLT, Nat.reduceLeDiff, reduceCtorEq, List.forall_mem_nil, Nat.zero_le, false_implies, List.mem_singleton, MvR_Bo]) <;> (try (simp -dsimp only [go_sem, eq_self, MvRb, MvRn, MvRt, List.nodup_cons, List.nodup_nil, ↓reduceIte, Nat.reduceEqDiff, Nat.reduceLT, Nat.reduceLeDiff, reduceCtorEq, List.forall_mem_nil, Nat.zero_le, false_implies, List.mem_singleton, MvR_Bo]))) <;> simp [lk, MvB_im, tI, rowsN, MvRt]⟩ (fun ⟨out, hk, hinv⟩ => ?_)
  simp only
  have hol : (rowsN out).length = out.length := rowsN_len _
  by_cases hlt : out.length < ms.length
  rotate_left
  · have hI : ((out.length : Int) < (ms.length : Int)) = False := eq_false (by omega)
    rw [show ms.length - out.length = 0 by omega] at hinv
    simp only [orderGo] at hinv
    try simp -dsimp (maxSteps := 1000000) only [go_sem, List.forall_mem_nil, ↓reduceIte, Nat.reduceEqDiff, Nat.reduceLT, Nat.reduceLeDiff, Nat.reduceAdd, Nat.reduceMul, reduceCtorEq, Tryz.f41, hI, rowsM_len, hinv, oOrder]
    refine finF_i [] ?_
    simp -dsimp (maxSteps := 1000000) only [go_sem, List.forall_mem_nil, ↓reduceIte, Nat.reduceEqDiff, Nat.reduceLT, Nat.reduceLeDiff, Nat.reduceAdd, Nat.reduceMul, reduceCtorEq, hinv, oOrder]
    refine ⟨[2], ?_, ?_, ?_, rfl⟩ <;> simp [rtOk]
  have hI : ((out.length : Int) < (ms.length : Int)) = True := eq_true (by omega)
  have hwn : IntKind.i64.wrap ((ms.length : Int) - 1) = (ms.length : Int) - 1 := wrap_id (by omega) (by omega)
  try simp -dsimp (maxSteps := 1000000) only [go_sem, List.forall_mem_nil, ↓reduceIte, Nat.reduceEqDiff, Nat.reduceLT, Nat.reduceLeDiff, Nat.reduceAdd, Nat.reduceMul, reduceCtorEq, Tryz.f41, hI, hwn, rowsM_len]
  refine loop_i (ι := { j : Nat // j ≤ ms.length }) (fun j => ⟨[(1, some (.c (.ptr 0 0 0 0))), (4, some (.c (.view 1 1 0 ms.length))), (5, some (.c (.view 2 1 0 out.length))), (6, some (.c (.im (.int .i64 (nxF ms cs out j.1))))), (7, some (.c (.im (.int .i64 ((j.1 : Int) - 1)))))],
    [(0, some (.box [.t (.im (.sl 11 (rowsM ms))), .t (.im (.sl 2 (rowsC cs)))])), (1, some (.arr 1 (tI (rowsBo (lsF ms.length out))))), (2, some (.arr 1 (tI (rowsN out))))], 3⟩) (fun j => j.1) ⟨ms.length, by omega⟩ ⟨[], [0, 1, 2], by (simp only [go_sem, eq_self, MvRb, MvRn, MvRt, List.nodup_cons, List.nodup_nil, ↓reduceIte, Nat.reduceEqDiff, Nat.reduceLT, Nat.reduceLeDiff, reduceCtorEq, List.forall_mem_nil, Nat.zero_le, false_implies, List.mem_singleton, MvR_Bo, MvR_Nn, nxF_end]) <;> simp [lk, MvB_im]⟩ (fun ⟨j, hj⟩ => ?_)
  simp only
  have lL : (lsF ms.length out).length = ms.length := lsF_len _ _
  match j, hj with
  | j + 1, hj =>
    have hJ : (0 ≤ ((j + 1 : Nat) : Int) - 1) = True := eq_true (by omega)
    have hj1 : ((j + 1 : Nat) : Int) - 1 = (j : Int) := by omega
    have j0 : (0 ≤ (j : Int)) = True := by simp
    have hwj : IntKind.i64.wrap ((j : Int) - 1) = (j : Int) - 1 := wrap_id (by omega) (by omega)
    have tkB : List.take ms.length (tI (rowsBo (lsF ms.length out))) = tI (rowsBo (lsF ms.length out)) := List.take_of_length_le (by rw [tI_len, rowsBo_len, lL]; omega)
    have hst := nxF_step (ms := ms) (cs := cs) (out := out) (j := j) (by omega)
    have hrd := rdy_eq (out := out) (i := j) (by omega) h5
    cases hr : readyF ms cs out (j : Int) with
    | true =>
      rw [hr, if_pos rfl] at hst
      rw [hr] at hrd
      try simp -dsimp (maxSteps := 1000000) only [go_sem, List.forall_mem_nil, ↓reduceIte, Nat.reduceEqDiff, Nat.reduceLT, Nat.reduceLeDiff, Nat.reduceAdd, Nat.reduceMul, reduceCtorEq, Tryz.f41, hj1, j0, hwj, tkB, run_l6Ready h2 lL (show j < ms.length by omega) h5, hrd, sc_l6Ready, tI_toI, tI_len, rowsBo_len, lL]
      exact ⟨⟨j, by omega⟩, by simp only []; omega, [], [0, 1, 2], by (simp only [go_sem, eq_self, MvRb, MvRn, MvRt, List.nodup_cons, List.nodup_nil, ↓reduceIte, Nat.reduceEqDiff, Nat.reduceLT, Nat.reduceLeDiff, reduceCtorEq, List.forall_mem_nil, Nat.zero_le, false_implies, List.mem_singleton, MvR_Bo, MvR_Nn, hst]) <;> simp [lk, MvB_im]⟩
    | false =>
      rw [hr, if_neg (by simp)] at hst
      rw [hr] at hrd
      try simp -dsimp (maxSteps := 1000000) only [go_sem, List.forall_mem_nil, ↓reduceIte, Nat.reduceEqDiff, Nat.reduceLT, Nat.reduceLeDiff, Nat.reduceAdd, Nat.reduceMul, reduceCtorEq, Tryz.f41, hj1, j0, hwj, tkB, run_l6Ready h2 lL (show j < ms.length by omega) h5, hrd, sc_l6Ready, tI_toI, tI_len, rowsBo_len, lL]
      exact ⟨⟨j, by omega⟩, by simp only []; omega, [], [0, 1, 2], by (simp only [go_sem, eq_self, MvRb, MvRn, MvRt, List.nodup_cons, List.nodup_nil, ↓reduceIte, Nat.reduceEqDiff, Nat.reduceLT, Nat.reduceLeDiff, reduceCtorEq, List.forall_mem_nil, Nat.zero_le, false_implies, List.mem_singleton, MvR_Bo, MvR_Nn, hst]) <;> simp [lk, MvB_im]⟩
  | 0, hj =>
    have hJ : (0 ≤ ((0 : Nat) : Int) - 1) = False := by simp
    rw [show ms.length - out.length = (ms.length - (out.length + 1)) + 1 by omega] at hinv
    simp only [orderGo] at hinv
    have hnx : nxF ms cs out 0 = if readyIdx ms cs out ms.length 0 = ms.length then -1 else (readyIdx ms cs out ms.length 0 : Int) := rfl
    have hle := readyIdx_le ms cs out ms.length 0
    by_cases hnone : readyIdx ms cs out ms.length 0 = ms.length
    · rw [if_pos hnone] at hnx hinv
      try simp -dsimp (maxSteps := 1000000) only [go_sem, List.forall_mem_nil, ↓reduceIte, Nat.reduceEqDiff, Nat.reduceLT, Nat.reduceLeDiff, Nat.reduceAdd, Nat.reduceMul, reduceCtorEq, Tryz.f41, hJ, hnx, hinv, oOrder, Int.reduceLT]
      refine finF_i [] ?_
      simp -dsimp (maxSteps := 1000000) only [go_sem, List.forall_mem_nil, ↓reduceIte, Nat.reduceEqDiff, Nat.reduceLT, Nat.reduceLeDiff, Nat.reduceAdd, Nat.reduceMul, reduceCtorEq, hinv, oOrder]
    · rw [if_neg hnone] at hnx hinv
      generalize readyIdx ms cs out ms.length 0 = R at *
      have hR : ((R : Int) < 0) = False := eq_false (by omega)
      have R0 : (0 ≤ (R : Int)) = True := by simp
      have R1 : ((R : Int) < (ms.length : Int)) = True := eq_true (by omega)
      obtain ⟨b, hb⟩ : ∃ b, (lsF ms.length out)[R]? = some b := ⟨_, List.getElem?_eq_getElem (by rw [lL]; omega)⟩
      have hrow : (tI (rowsBo (lsF ms.length out)))[R]? = some [T.im (.bool b)] := tI_at (rowsBo_at hb)
      have hby : ((out.length + 1) * 8 ≤ 140737488355328) = True := eq_true (by omega)
      have hset : (tI (rowsBo (lsF ms.length out))).set R [T.im (.bool true)] = tI (rowsBo (lsF ms.length (out ++ [(R : Int)]))) := by rw [setBo, lsF_set (by omega)]
      try simp -dsimp (maxSteps := 1000000) only [go_sem, List.forall_mem_nil, ↓reduceIte, Nat.reduceEqDiff, Nat.reduceLT, Nat.reduceLeDiff, Nat.reduceAdd, Nat.reduceMul, reduceCtorEq, Tryz.f41, hJ, hnx, hR, R0, R1, hrow, hset, hby, lL, tIN_app, appendH, srcRows, List.take_succ_cons, List.take_zero, List.all_cons, List.all_nil, okT, Bool.and_true, List.length_append, tI_len, rowsN_len, rowsBo_len, Int.toNat_natCast]
      exact ⟨⟨out ++ [(R : Int)], by simp; omega, by rw [List.length_append]; exact hinv⟩, by simp only [List.length_append, List.length_cons, List.length_nil]; omega, [], [0, 1, 4], by (simp only [go_sem, eq_self, MvRb, MvRn, MvRt, List.nodup_cons, List.nodup_nil, ↓reduceIte, Nat.reduceEqDiff, Nat.reduceLT, Nat.reduceLeDiff, reduceCtorEq, List.forall_mem_nil, Nat.zero_le, false_implies, List.mem_singleton, MvR_Bo, MvR_Nn, List.length_append]) <;> simp [lk, MvB_im]⟩
end Go.SX
set_option linter.unusedVariables false
set_option linter.unusedSimpArgs false
namespace Go.SX
open Go Go.Proofs
structure ADr where
  ms : List Mod
  cs : List Cbl
  ml : ms.length ≤ sm
  cl : cs.length ≤ sm
  dr : ∀ m ∈ ms, Drawn m
theorem ADr_ext {x y : ADr} (h : x.ms = y.ms ∧ x.cs = y.cs) : x = y := by
  obtain ⟨a, b, _, _, _⟩ := x
  obtain ⟨c, d, _, _, _⟩ := y
  obtain ⟨rfl, rfl⟩ := h
  rfl
noncomputable def ct_sIsRack : Ct := fam true (fun x : ADr => ([.agg [.im (.sl 11 (rowsM x.ms)), .im (.sl 2 (rowsC x.cs))]], [])) (fun x => .one { val := .c (.im (.bool (isRackF x.ms x.cs))) })
theorem run_sIsRack {ms : List Mod} {cs : List Cbl} (h1 : ms.length ≤ sm) (h2 : cs.length ≤ sm) (h5 : ∀ m ∈ ms, Drawn m) : ct_sIsRack.run [.agg [.im (.sl 11 (rowsM ms)), .im (.sl 2 (rowsC cs))]] [] = some (.one { val := .c (.im (.bool (isRackF ms cs))) }) := by
  refine fam_run' (args := fun x : ADr => ([D.agg [.im (.sl 11 (rowsM x.ms)), .im (.sl 2 (rowsC x.cs))]], [])) (fun x y h => ?_) ⟨ms, cs, h1, h2, h5⟩
  simp [rowsM_eq, rowsC_eq] at h
  exact ADr_ext h
theorem sc_sIsRack : (ct_sIsRack.sc = true) = True := by simp [ct_sIsRack, fam]
theorem cab_has (n : Nat) (c : Cbl) : cabF n c = (hasR n c.1 && hasR n c.2) := by
  simp only [cabF, hasR]
  rw [Bool.eq_iff_iff]
  simp
  omega
set_option maxRecDepth 100000 in
set_option maxHeartbeats 8000000 in
theorem law_sIsRack : Law Tryz.prog 17 ct_sIsRack := by
  refine fam_law (Env_cons law_sIsModule (Env_cons law_l6Has (Env_cons law_l6Order Env_nil))) hmixA Tryz.func17 rfl rfl (fun ⟨ms, cs, h1, h2, h5⟩ => ⟨okO_im rfl, by simp [Tryz.f17], ?_⟩)
  by_cases hm : ms.length ≤ 16
  rotate_left
  · have e1 : ((16 : Int) < (ms.length : Int)) = True := eq_true (by omega)
    have hF : isRackF ms cs = false := by simp only [isRackF, decide_eq_false hm, Bool.false_and]
    clear hm
    try simp -dsimp (maxSteps := 1000000) only [go_sem, List.forall_mem_nil, ↓reduceIte, Nat.reduceEqDiff, Nat.reduceLT, Nat.reduceLeDiff, Nat.reduceAdd, Nat.reduceMul, reduceCtorEq, Tryz.f17, rowsM_len, rowsC_len, e1, hF]
  have e1 : ((16 : Int) < (ms.length : Int)) = False := eq_false (by omega)
  by_cases hc : cs.length ≤ 40
  rotate_left
  · have e2 : ((40 : Int) < (cs.length : Int)) = True := eq_true (by omega)
    have hF : isRackF ms cs = false := by simp only [isRackF, decide_eq_false hc, Bool.false_and, Bool.and_false]
    clear hc
    try simp -dsimp (maxSteps := 1000000) only [go_sem, List.forall_mem_nil, ↓reduceIte, Nat.reduceEqDiff, Nat.reduceLT, Nat.reduceLeDiff, Nat.reduceAdd, Nat.reduceMul, reduceCtorEq, Tryz.f17, rowsM_len, rowsC_len, e1, e2, hF]
  have e2 : ((40 : Int) < (cs.length : Int)) = False := eq_false (by omega)
  have hall : ms.all isModuleF = true := List.all_eq_true.2 fun m hm => (h5 m hm).mod
  have hF : isRackF ms cs = (cs.all (cabF ms.length) && (orderF ms cs).isSome) := by simp only [isRackF, decide_eq_true hm, decide_eq_true hc, hall, Bool.true_and]
  rw [hF]
  clear hF
  try simp -dsimp (maxSteps := 1000000) only [go_sem, List.forall_mem_nil, ↓reduceIte, Nat.reduceEqDiff, Nat.reduceLT, Nat.reduceLeDiff, Nat.reduceAdd, Nat.reduceMul, reduceCtorEq, Tryz.f17, rowsM_len, rowsC_len, e1, e2]
  refine loop_i (ι := { k : Nat // k ≤ ms.length }) (fun k => ⟨[(1, some (.c (.ptr 0 0 0 0))), (20, some (.c (.im (.sl 11 (rowsM ms))))), (21, some (.c (.im (.int .i64 (ms.length : Int))))), (22, some (.c (.im (.int .i64 (k.1 : Int)))))],
    [(0, some (.box [.t (.im (.sl 11 (rowsM ms))), .t (.im (.sl 2 (rowsC cs)))]))], 1⟩) (fun k => ms.length - k.1) ⟨0, by simp⟩ ⟨[], [], by ((simp only [go_sem, eq_self, MvRb, MvRn, MvRt, List.nodup_cons, List.nodup_nil, ↓reduceIte, Nat.reduceEqDiff, Nat.reduceLT, Nat.reduceLeDiff, reduceCtorEq, List.forall_mem_nil, Nat.zero_le, false_implies, List.mem_singleton]) <;> (try (simp -dsimp only [go_sem, eq_self, MvRb, MvRn, MvRt, List.nodup_cons, List.nodup_nil, ↓reduceIte, Nat.reduceEqDiff, Nat.reduceLT, Nat.reduceLeDiff, reduceCtorEq, List.forall_mem_nil, Nat.zero_le, false_implies, List.mem_singleton]))) <;> simp [lk, MvB_im]⟩ (fun ⟨k, hk⟩ => ?_)
  simp only
  by_cases hlt : k < ms.length
  · obtain ⟨m, hp⟩ : ∃ p, ms[k]? = some p := ⟨_, List.getElem?_eq_getElem hlt⟩
    have hrow := rowsM_at hp
    have hI : ((k : Int) < (ms.length : Int)) = True := eq_true (by omega)
    have h0 : (0 ≤ (k : Int)) = True := by simp
    have hwr := lt_sm h1 hlt
    have rm := run_sIsModule (h5 m (List.mem_of_getElem? hp))
    simp only [modC] at rm
    try simp -dsimp (maxSteps := 1000000) only [go_sem, List.forall_mem_nil, ↓reduceIte, Nat.reduceEqDiff, Nat.reduceLT, Nat.reduceLeDiff, Nat.reduceAdd, Nat.reduceMul, reduceCtorEq, Tryz.f17, hI, h0, Int.toNat_natCast, hrow, rm, hwr]
    exact ⟨⟨k + 1, by omega⟩, by simp only []; omega, [], [0], by (simp only [go_sem, eq_self, MvRb, MvRn, MvRt, List.nodup_cons, List.nodup_nil, ↓reduceIte, Nat.reduceEqDiff, Nat.reduceLT, Nat.reduceLeDiff, reduceCtorEq, List.forall_mem_nil, Nat.zero_le, false_implies, List.mem_singleton]) <;> simp [lk, MvB_im]⟩
  have hI : ((k : Int) < (ms.length : Int)) = False := eq_false (by omega)
  clear hlt
  try simp -dsimp (maxSteps := 1000000) only [go_sem, List.forall_mem_nil, ↓reduceIte, Nat.reduceEqDiff, Nat.reduceLT, Nat.reduceLeDiff, Nat.reduceAdd, Nat.reduceMul, reduceCtorEq, Tryz.f17, hI, rowsM_len, rowsC_len]
  refine loop_i (ι := { k : Nat // k ≤ cs.length ∧ cs.all (cabF ms.length) = (cs.drop k).all (cabF ms.length) ∧ (cs.take k).all (cabF ms.length) = true }) (fun k => ⟨[(1, some (.c (.ptr 0 0 0 0))), (31, some (.c (.im (.sl 2 (rowsC cs))))), (32, some (.c (.im (.int .i64 (cs.length : Int))))), (33, some (.c (.im (.int .i64 (k.1 : Int)))))],
    [(0, some (.box [.t (.im (.sl 11 (rowsM ms))), .t (.im (.sl 2 (rowsC cs)))]))], 1⟩) (fun k => cs.length - k.1) ⟨0, by simp⟩ ⟨[], [], by ((simp only [go_sem, eq_self, MvRb, MvRn, MvRt, List.nodup_cons, List.nodup_nil, ↓reduceIte, Nat.reduceEqDiff, Nat.reduceLT, Nat.reduceLeDiff, reduceCtorEq, List.forall_mem_nil, Nat.zero_le, false_implies, List.mem_singleton]) <;> (try (simp -dsimp only [go_sem, eq_self, MvRb, MvRn, MvRt, List.nodup_cons, List.nodup_nil, ↓reduceIte, Nat.reduceEqDiff, Nat.reduceLT, Nat.reduceLeDiff, reduceCtorEq, List.forall_mem_nil, Nat.zero_le, false_implies, List.mem_singleton]))) <;> simp [lk, MvB_im]⟩ (fun ⟨k, hk, hinv2, hinv3⟩ => ?_)
  simp only
  by_cases hlt : k < cs.length
  · obtain ⟨⟨f, t⟩, hp⟩ : ∃ p, cs[k]? = some p := ⟨_, List.getElem?_eq_getElem hlt⟩
    have hrow := rowsC_at hp
    have hI : ((k : Int) < (cs.length : Int)) = True := eq_true (by omega)
    have h0 : (0 ≤ (k : Int)) = True := by simp
    have hwr := lt_sm h2 hlt
    have hidx := all_drop (f := cabF ms.length) hp
    rw [hidx, cab_has] at hinv2
    clear hidx
    simp only at hinv2
    cases q1 : hasR ms.length f with
    | false =>
      simp only [q1, Bool.false_and] at hinv2
      try simp -dsimp (maxSteps := 1000000) only [go_sem, List.forall_mem_nil, ↓reduceIte, Nat.reduceEqDiff, Nat.reduceLT, Nat.reduceLeDiff, Nat.reduceAdd, Nat.reduceMul, reduceCtorEq, Tryz.f17, hI, h0, Int.toNat_natCast, hrow, run_l6Has, q1, hinv2, Bool.false_and]
    | true =>
      cases q2 : hasR ms.length t with
      | false =>
        simp only [q1, q2, Bool.false_and, Bool.and_false] at hinv2
        try simp -dsimp (maxSteps := 1000000) only [go_sem, List.forall_mem_nil, ↓reduceIte, Nat.reduceEqDiff, Nat.reduceLT, Nat.reduceLeDiff, Nat.reduceAdd, Nat.reduceMul, reduceCtorEq, Tryz.f17, hI, h0, Int.toNat_natCast, hrow, run_l6Has, q1, q2, hinv2, Bool.false_and]
      | true =>
        simp only [q1, q2, Bool.true_and] at hinv2
        have h3' : (cs.take (k + 1)).all (cabF ms.length) = true := by
          rw [take_snoc hp, List.all_append, hinv3]
          simp [cab_has, q1, q2]
        try simp -dsimp (maxSteps := 1000000) only [go_sem, List.forall_mem_nil, ↓reduceIte, Nat.reduceEqDiff, Nat.reduceLT, Nat.reduceLeDiff, Nat.reduceAdd, Nat.reduceMul, reduceCtorEq, Tryz.f17, hI, h0, Int.toNat_natCast, hrow, run_l6Has, q1, q2, hwr]
        exact ⟨⟨k + 1, by omega, hinv2, h3'⟩, by simp only []; omega, [], [0], by (simp only [go_sem, eq_self, MvRb, MvRn, MvRt, List.nodup_cons, List.nodup_nil, ↓reduceIte, Nat.reduceEqDiff, Nat.reduceLT, Nat.reduceLeDiff, reduceCtorEq, List.forall_mem_nil, Nat.zero_le, false_implies, List.mem_singleton]) <;> simp [lk, MvB_im]⟩
  have hI : ((k : Int) < (cs.length : Int)) = False := eq_false (by omega)
  obtain rfl : k = cs.length := by omega
  rw [List.drop_length, List.all_nil] at hinv2
  rw [List.take_length] at hinv3
  have hcab : ∀ c ∈ cs, 0 ≤ c.1 ∧ c.1 < ms.length := fun c hc => by
    have := List.all_eq_true.1 hinv3 c hc
    rw [cab_has, Bool.and_eq_true] at this
    simpa [hasR] using this.1
  cases ho : orderF ms cs with
  | none =>
    try simp -dsimp (maxSteps := 1000000) only [go_sem, List.forall_mem_nil, ↓reduceIte, Nat.reduceEqDiff, Nat.reduceLT, Nat.reduceLeDiff, Nat.reduceAdd, Nat.reduceMul, reduceCtorEq, Tryz.f17, hI, run_order hm h2 hcab, ho, oOrder, hinv2, Option.isSome_none, Bool.true_and]
  | some ord =>
    try simp -dsimp (maxSteps := 1000000) only [go_sem, List.forall_mem_nil, ↓reduceIte, Nat.reduceEqDiff, Nat.reduceLT, Nat.reduceLeDiff, Nat.reduceAdd, Nat.reduceMul, reduceCtorEq, Tryz.f17, hI, run_order hm h2 hcab, ho, oOrder, hinv2, Option.isSome_some, Bool.true_and]
def rRk (ms : List Mod) (cs : List Cbl) : Res := { val := .agg [.view 0 11 0 ms.length, .view 1 2 0 cs.length], roots := [.arr 11 (tI (rowsM ms)), .arr 2 (tI (rowsC cs))] }
theorem okR_Rk {ms : List Mod} {cs : List Cbl} : OkR false (rRk ms cs) := by
  refine ⟨.agg _ (fun x hx => ?_), fun r hr => ?_, by simp [rRk]⟩
  · simp [rRk] at hx ⊢
    rcases hx with rfl | rfl <;> exact .view _ _ _ _ (by simp)
  · simp [rRk] at hr
    rcases hr with rfl | rfl <;> exact sc_false _ _
noncomputable def ct_l6Copy : Ct := fam false (fun x : ADr => ([.agg [.im (.sl 11 (rowsM x.ms)), .im (.sl 2 (rowsC x.cs))]], [])) (fun x => .one (rRk x.ms x.cs))
theorem run_l6Copy {ms : List Mod} {cs : List Cbl} (h1 : ms.length ≤ sm) (h2 : cs.length ≤ sm) (h5 : ∀ m ∈ ms, Drawn m) : ct_l6Copy.run [.agg [.im (.sl 11 (rowsM ms)), .im (.sl 2 (rowsC cs))]] [] = some (.one (rRk ms cs)) := by
  refine fam_run' (args := fun x : ADr => ([D.agg [.im (.sl 11 (rowsM x.ms)), .im (.sl 2 (rowsC x.cs))]], [])) (fun x y h => ?_) ⟨ms, cs, h1, h2, h5⟩
  simp [rowsM_eq, rowsC_eq] at h
  exact ADr_ext h
theorem MvR_Mi (ms : List Mod) : MvR false (.arr 11 (tI (rowsM ms))) = True := eq_true (sc_false _ _)
theorem MvR_Ci (l : List Cbl) : MvR false (.arr 2 (tI (rowsC l))) = True := eq_true (sc_false _ _)
theorem tIM_app (ms : List Mod) (m : Mod) : tI (rowsM ms) ++ [[T.im (.int .i64 m.kind), .im (.cpx .f32 m.turn.1 m.turn.2), .im (.cpx .f32 m.state.1 m.state.2), .im (.flt .f32 m.level), .im (.sl 1 (rowsZ m.store)), .im (.int .i64 m.rat), .im (.int .i64 m.rcnt), .im (.sl 1 (rowsZ m.pts)), .im (.sl 1 (rowsN m.lab)), .im (.int .i64 m.count), .im (.int .i64 m.left)]] = tI (rowsM (ms ++ [m])) := by
  simp [tI, rowsM, modI]
set_option maxRecDepth 100000 in
set_option maxHeartbeats 8000000 in
theorem law_l6Copy : Law Tryz.prog 104 ct_l6Copy := by
  refine fam_lawF (Env_cons law_l5Copy Env_nil) hmixA Tryz.func104 rfl rfl (fun ⟨ms, cs, h1, h2, h5⟩ => ⟨okO okR_Rk, by simp [Tryz.f104], ?_⟩)
  simp only [rRk]
  have hbc : (cs.length * 16 ≤ 140737488355328) = True := bytes_sm h2 (by decide)
  try simp -dsimp (maxSteps := 1000000) only [go_sem, List.forall_mem_nil, ↓reduceIte, Nat.reduceEqDiff, Nat.reduceLT, Nat.reduceLeDiff, Nat.reduceAdd, Nat.reduceMul, reduceCtorEq, Tryz.f104, rowsM_len, rowsC_len, hbc, map_im_tI, tI_len, appendH, srcRows]
  refine loop_i (ι := { k : Nat // k ≤ ms.length }) (fun k => ⟨[(2, some (.c (.ptr 1 0 0 0))), (3, some (.c (.ptr 3 0 0 0))), (12, some (.c (.im (.sl 11 (rowsM ms))))), (13, some (.c (.im (.int .i64 (ms.length : Int))))), (14, some (.c (.im (.int .i64 (k.1 : Int)))))],
    [(1, some (.box [.t .nil, .t .nil])), (2, some (.arr 2 (tI (rowsC cs)))), (3, some (.box [.t (.lent 4 11 k.1), .t (.lent 2 2 cs.length)])), (4, some (.arr 11 (tI (rowsM (ms.take k.1)))))], 5⟩) (fun k => ms.length - k.1) ⟨0, by simp⟩ ⟨[.nilT 4 0 0 11, .unf 4 0 0], [1, 3, 4, 5], by ((simp only [go_sem, eq_self, MvRb, MvRn, MvRt, List.nodup_cons, List.nodup_nil, ↓reduceIte, Nat.reduceEqDiff, Nat.reduceLT, Nat.reduceLeDiff, reduceCtorEq, List.forall_mem_nil, Nat.zero_le, false_implies, List.mem_singleton, Option.map_some, List.take_zero, MvR_Ci, MvR_Mi]) <;> (try (simp -dsimp only [go_sem, eq_self, MvRb, MvRn, MvRt, List.nodup_cons, List.nodup_nil, ↓reduceIte, Nat.reduceEqDiff, Nat.reduceLT, Nat.reduceLeDiff, reduceCtorEq, List.forall_mem_nil, Nat.zero_le, false_implies, List.mem_singleton, Option.map_some, List.take_zero, MvR_Ci, MvR_Mi]))) <;> simp [lk, MvB_im, tI, rowsM, MvRt]⟩ (fun ⟨k, hk⟩ => ?_)
  simp only
  have lk1 : (ms.take k).length = k := by rw [List.length_take]; omega
  by_cases hlt : k < ms.length
  rotate_left
  · have hI : ((k : Int) < (ms.length : Int)) = False := eq_false (by omega)
    obtain rfl : k = ms.length := by omega
    rw [List.take_length]
    try simp -dsimp (maxSteps := 1000000) only [go_sem, List.forall_mem_nil, ↓reduceIte, Nat.reduceEqDiff, Nat.reduceLT, Nat.reduceLeDiff, Nat.reduceAdd, Nat.reduceMul, reduceCtorEq, Tryz.f104, hI, tI_len, rowsM_len, rowsC_len]
    refine finF_i [] ?_
    simp -dsimp (maxSteps := 1000000) only [go_sem, List.forall_mem_nil, ↓reduceIte, Nat.reduceEqDiff, Nat.reduceLT, Nat.reduceLeDiff, Nat.reduceAdd, Nat.reduceMul, reduceCtorEq]
    refine ⟨[4, 2], ?_, ?_, ?_, rfl, rfl⟩ <;> simp [rtOk]
  obtain ⟨m, hp⟩ : ∃ p, ms[k]? = some p := ⟨_, List.getElem?_eq_getElem hlt⟩
  have hrow := rowsM_at hp
  have hI : ((k : Int) < (ms.length : Int)) = True := eq_true (by omega)
  have h0 : (0 ≤ (k : Int)) = True := by simp
  have hwr := lt_sm h1 hlt
  obtain ⟨q1, q2, q3⟩ := (h5 m (List.mem_of_getElem? hp)).ok
  have hby : ((k + 1) * 136 ≤ 140737488355328) = True := bytes_big (by omega) (by decide)
  have happ := tIM_app (ms.take k) m
  rw [← take_snoc hp] at happ
  have ll : (tI (rowsM (ms.take k))).length = k := by rw [tI_len, rowsM_len, lk1]
  have ll2 : (tI (rowsM (ms.take (k + 1)))).length = k + 1 := by rw [tI_len, rowsM_len, List.length_take]; omega
  try simp -dsimp (maxSteps := 1000000) only [go_sem, List.forall_mem_nil, ↓reduceIte, Nat.reduceEqDiff, Nat.reduceLT, Nat.reduceLeDiff, Nat.reduceAdd, Nat.reduceMul, reduceCtorEq, Tryz.f104, hI, h0, hwr, hrow, Int.toNat_natCast, run_l5Copy q1 q2 q3, Mod_eta, rM, modC, hby, happ, ll, ll2, appendH, srcRows, List.take_succ_cons, List.take_zero, List.all_cons, List.all_nil, okT, Bool.and_true]
  repeat' (first
    | ((with_reducible refine sl_i ?_ ?_); focus kernel_rfl)
    | ((with_reducible refine ro_i ?_ ?_); focus kernel_rfl))
  exact ⟨⟨k + 1, by omega⟩, by simp only []; omega, [], [1, 2, 3, 46], by (simp only [go_sem, eq_self, MvRb, MvRn, MvRt, List.nodup_cons, List.nodup_nil, ↓reduceIte, Nat.reduceEqDiff, Nat.reduceLT, Nat.reduceLeDiff, reduceCtorEq, List.forall_mem_nil, Nat.zero_le, false_implies, List.mem_singleton, MvR_Ci, MvR_Mi]) <;> simp [lk, MvB_im]⟩
theorem rowsM_nil : rowsM [] = [] := rfl
theorem rowsC_nil : rowsC [] = [] := rfl
def rRO (ms : List Mod) (cs : List Cbl) (b : Bool) : Res := { val := .tup [.agg [.im (.sl 11 (rowsM ms)), .im (.sl 2 (rowsC cs))], .c (.im (.bool b))] }
theorem okR_RO {ms : List Mod} {cs : List Cbl} {b : Bool} : OkR false (rRO ms cs b) := by
  refine ⟨.tup _ (fun d hd => ?_), by simp [rRO], by simp [rRO]⟩
  simp only [List.mem_cons, List.not_mem_nil, or_false] at hd
  rcases hd with rfl | rfl
  · refine .inr ⟨_, rfl, fun x hx => ?_⟩
    simp only [List.mem_cons, List.not_mem_nil, or_false] at hx
    rcases hx with rfl | rfl <;> exact .im _ (.inl rfl)
  · exact .inl ⟨_, rfl, .im _ (.inl rfl)⟩
def addR' (ms : List Mod) (cs : List Cbl) (f t : Int) : Res := if isRackF ms (cs ++ [(f, t)]) = true then rRO ms (cs ++ [(f, t)]) true else rRO [] [] false
structure GoodRk (ms : List Mod) (cs : List Cbl) : Prop where
  dr : ∀ m ∈ ms, Drawn m
  rk : isRackF ms cs = true
theorem GoodRk.len {ms : List Mod} {cs : List Cbl} (h : GoodRk ms cs) : ms.length ≤ 16 ∧ cs.length ≤ 40 := by
  have := h.rk
  simp only [isRackF, Bool.and_eq_true, decide_eq_true_eq] at this
  exact ⟨this.1, this.2.1⟩
structure AAc where
  ms : List Mod
  cs : List Cbl
  f : Int
  t : Int
  g : GoodRk ms cs
noncomputable def ct_sAddCable : Ct := fam false (fun x : AAc => ([.agg [.im (.sl 11 (rowsM x.ms)), .im (.sl 2 (rowsC x.cs))], .c (.im (.int .i64 x.f)), .c (.im (.int .i64 x.t))], [])) (fun x => .one (addR' x.ms x.cs x.f x.t))
theorem run_sAddCable {ms : List Mod} {cs : List Cbl} (h : GoodRk ms cs) (f t : Int) : ct_sAddCable.run [.agg [.im (.sl 11 (rowsM ms)), .im (.sl 2 (rowsC cs))], .c (.im (.int .i64 f)), .c (.im (.int .i64 t))] [] = some (.one (addR' ms cs f t)) := by
  refine fam_run' (args := fun x : AAc => ([D.agg [.im (.sl 11 (rowsM x.ms)), .im (.sl 2 (rowsC x.cs))], .c (.im (.int .i64 x.f)), .c (.im (.int .i64 x.t))], [])) ?_ ⟨ms, cs, f, t, h⟩
  rintro ⟨a, b, c, d, _⟩ ⟨a', b', c', d', _⟩ h
  simp [rowsM_eq, rowsC_eq] at h ⊢
  simp [h]
theorem sc_sAddCable : (ct_sAddCable.sc = true) = False := by simp [ct_sAddCable, fam]
theorem tIC_app1 (cs : List Cbl) (f t : Int) : tI (rowsC cs) ++ [[T.im (.int .i64 f), T.im (.int .i64 t)]] = tI (rowsC (cs ++ [(f, t)])) := by simp [tI, rowsC]
set_option maxRecDepth 100000 in
set_option maxHeartbeats 8000000 in
theorem law_sAddCable : Law Tryz.prog 59 ct_sAddCable := by
  refine fam_lawF (Env_cons law_sIsRack (Env_cons law_l6Copy Env_nil)) hmixA Tryz.func59 rfl rfl (fun ⟨ms, cs, f, t, hG⟩ => ⟨?_, by simp [Tryz.f59], ?_⟩)
  · simp only [addR']; split <;> exact okO okR_RO
  obtain ⟨l1, l2⟩ := hG.len
  have hsm : sm = 16777216 := rfl
  have h1 : ms.length ≤ sm := by omega
  have h2 : cs.length ≤ sm := by omega
  have h2' : (cs ++ [(f, t)]).length ≤ sm := by simp; omega
  have hrk := hG.rk
  have hD := hG.dr
  have hby : ((cs.length + 1) * 16 ≤ 140737488355328) = True := eq_true (by omega)
  have lm : (tI (rowsM ms)).length = ms.length := by rw [tI_len, rowsM_len]
  have lc : (tI (rowsC (cs ++ [(f, t)]))).length = cs.length + 1 := by rw [tI_len, rowsC_len]; simp
  have tkm : List.take ms.length (tI (rowsM ms)) = tI (rowsM ms) := List.take_of_length_le (by omega)
  have tkc : List.take (cs.length + 1) (tI (rowsC (cs ++ [(f, t)]))) = tI (rowsC (cs ++ [(f, t)])) := List.take_of_length_le (by omega)
  have hmm : mapO (mapO imT) (tI (rowsM ms)) = some (rowsM ms) := tI_imT _
  have hmc : mapO (mapO imT) (tI (rowsC (cs ++ [(f, t)]))) = some (rowsC (cs ++ [(f, t)])) := tI_imT _
  simp only [addR']
  cases hr : isRackF ms (cs ++ [(f, t)]) with
  | true =>
    try simp -dsimp (maxSteps := 1000000) only [go_sem, List.forall_mem_nil, ↓reduceIte, Nat.reduceEqDiff, Nat.reduceLT, Nat.reduceLeDiff, Nat.reduceAdd, Nat.reduceMul, reduceCtorEq, Tryz.f59, run_sIsRack h1 h2 hD, hrk, run_l6Copy h1 h2 hD, rRk, tIC_app1, hby, lm, lc, tkm, tkc, run_sIsRack h1 h2' hD, hr, sc_sIsRack, tI_toI, appendH, srcRows, List.take_succ_cons, List.take_zero, List.all_cons, List.all_nil, okT, Bool.and_true, List.length_append, tI_len, rowsM_len, rowsC_len]
    refine finF_i [.frz 2 [.b 1 0 0], .frz 6 [.b 1 0 1]] ?_
    simp -dsimp (maxSteps := 1000000) only [go_sem, List.forall_mem_nil, ↓reduceIte, Nat.reduceEqDiff, Nat.reduceLT, Nat.reduceLeDiff, Nat.reduceAdd, Nat.reduceMul, reduceCtorEq, hr, rRO, hmm, hmc, lm, lc]
  | false =>
    try simp -dsimp (maxSteps := 1000000) only [go_sem, List.forall_mem_nil, ↓reduceIte, Nat.reduceEqDiff, Nat.reduceLT, Nat.reduceLeDiff, Nat.reduceAdd, Nat.reduceMul, reduceCtorEq, Tryz.f59, run_sIsRack h1 h2 hD, hrk, run_l6Copy h1 h2 hD, rRk, tIC_app1, hby, lm, lc, tkm, tkc, run_sIsRack h1 h2' hD, hr, sc_sIsRack, tI_toI, appendH, srcRows, List.take_succ_cons, List.take_zero, List.all_cons, List.all_nil, okT, Bool.and_true, List.length_append, tI_len, rowsM_len, rowsC_len]
    refine finF_i [.nilI 11 [.b 1 0 0], .nilI 2 [.b 1 0 1]] ?_
    simp -dsimp (maxSteps := 1000000) only [go_sem, List.forall_mem_nil, ↓reduceIte, Nat.reduceEqDiff, Nat.reduceLT, Nat.reduceLeDiff, Nat.reduceAdd, Nat.reduceMul, reduceCtorEq, hr, rRO, rowsM_nil, rowsC_nil]
end Go.SX
set_option linter.unusedVariables false
set_option linter.unusedSimpArgs false
namespace Go.SX
open Go Go.Proofs
theorem good_nil {ms : List Mod} (h : ∀ m ∈ ms, Drawn m) (hl : ms.length ≤ 16) : GoodRk ms [] := by
  refine ⟨h, ?_⟩
  have ho : orderF ms [] = some (iL ms.length) := order_fwd (by simp)
  simp only [isRackF, ho, Option.isSome_some, List.all_nil, Bool.true_and, Bool.and_true, Bool.and_eq_true, decide_eq_true_eq, List.all_eq_true, List.length_nil]
  exact ⟨hl, by omega, fun m hm => (h m hm).mod⟩
abbrev QRk (n : Nat) := { r : List Mod × List Cbl // GoodRk r.1 r.2 ∧ r.1.length ≤ n }
def oDRk (l : List Int) (n : Nat) : Outs := .any (QRk n × SK l) (fun q => { val := .agg [.im (.sl 11 (rowsM q.1.1.1)), .im (.sl 2 (rowsC q.1.1.2))], places := hsK l q.2.1.1 q.2.1.2 })
theorem ne_ork (l : List Int) (n : Nat) : Nonempty (QRk n × SK l) = True := by simp only [eq_iff_iff, iff_true]; exact ⟨(⟨([], []), good_nil (by simp) (by simp), by simp⟩, ⟨(0, 0), by simp⟩)⟩
abbrev N10 := { n : Nat // n ≤ 10 }
noncomputable def ct_l6Rack : Ct := fam false (fun x : AKn × N10 => ([.c (.ptr 0 0 0 0), .c (.im (.int .i64 (x.2.1 : Int)))], hsK x.1.l x.1.a x.1.h)) (fun x => oDRk x.1.l x.2.1)
theorem run_l6Rack {l : List Int} {a h : Int} {n : Nat} (h1 : l.length ≤ 1048576) (h2 : ∀ b ∈ l, 0 ≤ b ∧ b < 256) (h3 : 0 ≤ a) (h4 : a ≤ l.length) (h5 : n ≤ 10) : ct_l6Rack.run [.c (.ptr 0 0 0 0), .c (.im (.int .i64 (n : Int)))] [[.t (.im (.sl 1 (rowsB l))), .t (.im (.int .i64 a)), .t (.im (.int .i64 h))]] = some (oDRk l n) := by
  refine fam_run' (args := fun x : AKn × N10 => ([D.c (.ptr 0 0 0 0), .c (.im (.int .i64 (x.2.1 : Int)))], hsK x.1.l x.1.a x.1.h)) (fun x y h => ?_) (⟨l, h1, h2, a, h, h3, h4⟩, ⟨n, h5⟩)
  simp only [Prod.mk.injEq, List.cons.injEq, D.c.injEq, C.im.injEq, I.int.injEq, true_and, and_true] at h
  exact Prod.ext (AKn_ext (hsK_inj h.2)) (Subtype.ext (by omega))
set_option maxRecDepth 100000 in
set_option maxHeartbeats 8000000 in
theorem law_l6Rack : Law Tryz.prog 28 ct_l6Rack := by
  refine fam_lawF (Env_cons law_l01Below (Env_cons law_l5Module (Env_cons law_sAddCable Env_nil))) hmixA Tryz.func28 rfl rfl (fun ⟨⟨l, h1, h2, a, h, h3, h4⟩, ⟨n, h5⟩⟩ => ⟨okA (fun o => okK (n := 0) okAgg2), by simp [Tryz.f28], ?_⟩)
  simp only [oDRk, hsK]
  have hn : IntKind.i64.wrap ((n : Int) + 1) = (n : Int) + 1 := wrap_id (by omega) (by omega)
  try simp -dsimp (maxSteps := 1000000) only [go_sem, List.forall_mem_nil, ↓reduceIte, Nat.reduceEqDiff, Nat.reduceLT, Nat.reduceLeDiff, Nat.reduceAdd, Nat.reduceMul, reduceCtorEq, Tryz.f28, hn, run_l01Below h1 h2 h3 h4 (n := (n : Int) + 1) (by omega) (by omega), oBelow, hsK, ne_below l (n := (n : Int) + 1) (by omega)]
  rintro ⟨⟨k0, ⟨⟨a0, g0⟩, b0⟩⟩, r1, r2⟩
  simp only at r1 r2 b0
  obtain ⟨K, rfl⟩ := Int.eq_ofNat_of_zero_le r1
  try simp -dsimp (maxSteps := 1000000) only [go_sem, List.forall_mem_nil, ↓reduceIte, Nat.reduceEqDiff, Nat.reduceLT, Nat.reduceLeDiff, Nat.reduceAdd, Nat.reduceMul, reduceCtorEq, Tryz.f28, hsK]
  refine loop_i (ι := { x : (List Mod × SK l) × Nat // (∀ m ∈ x.1.1, Drawn m) ∧ x.1.1.length + x.2 ≤ n }) (fun x => ⟨[(0, some (.c (.ptr 0 0 0 0))), (4, some (.c (.ptr 1 0 0 0))), (5, some (.c (.ptr 2 0 0 0))), (6, some (.c (.im (.int .i64 (x.1.2 : Int)))))],
    [(0, some (.box [.t (.im (.sl 1 (rowsB l))), .t (.im (.int .i64 x.1.1.2.1.1)), .t (.im (.int .i64 x.1.1.2.1.2))])), (1, some (.box [.t .nil, .t .nil])), (2, some (.box [.t (.lent 3 11 x.1.1.1.length), .t .nil])), (3, some (.arr 11 (tI (rowsM x.1.1.1))))], 4⟩) (fun x => x.1.2) ⟨(([], ⟨(a0, g0), b0⟩), K), by simp, by simp; omega⟩ ⟨[.nilT 2 0 0 11, .unf 2 0 0], [0, 1, 2, 3], by ((simp only [go_sem, eq_self, MvRb, MvRn, MvRt, List.nodup_cons, List.nodup_nil, ↓reduceIte, Nat.reduceEqDiff, Nat.reduceLT, Nat.reduceLeDiff, reduceCtorEq, List.forall_mem_nil, Nat.zero_le, false_implies, List.mem_singleton, Option.map_some, MvR_Mi]) <;> (try (simp -dsimp only [go_sem, eq_self, MvRb, MvRn, MvRt, List.nodup_cons, List.nodup_nil, ↓reduceIte, Nat.reduceEqDiff, Nat.reduceLT, Nat.reduceLeDiff, reduceCtorEq, List.forall_mem_nil, Nat.zero_le, false_implies, List.mem_singleton, Option.map_some, MvR_Mi]))) <;> simp [lk, MvB_im, tI, rowsM, MvRt]⟩ (fun ⟨⟨⟨ms, ⟨⟨a, g⟩, b⟩⟩, k⟩, hD, hl⟩ => ?_)
  simp only at hD hl b ⊢
  match k with
  | k + 1 =>
    have d0 : ((0 : Int) < ((k + 1 : Nat) : Int)) = True := eq_true (by omega)
    have hk : IntKind.i64.wrap (((k + 1 : Nat) : Int) - 1) = (k : Int) := by rw [wrap_id (by omega) (by omega)]; omega
    have hby : ((ms.length + 1) * 136 ≤ 140737488355328) = True := eq_true (by omega)
    have ll : (tI (rowsM ms)).length = ms.length := by rw [tI_len, rowsM_len]
    try simp -dsimp (maxSteps := 1000000) only [go_sem, List.forall_mem_nil, ↓reduceIte, Nat.reduceEqDiff, Nat.reduceLT, Nat.reduceLeDiff, Nat.reduceAdd, Nat.reduceMul, reduceCtorEq, Tryz.f28, d0, hk, run_l5Module h1 h2 b.1 b.2, oMod, ne_mod, hsK]
    repeat' ((with_reducible refine sl_i ?_ ?_); focus kernel_rfl)
    rintro ⟨⟨m, hm⟩, ⟨⟨a2, g2⟩, b2⟩⟩
    have happ := tIM_app ms m
    have ll2 : (tI (rowsM (ms ++ [m]))).length = ms.length + 1 := by rw [tI_len, rowsM_len]; simp
    try simp -dsimp (maxSteps := 1000000) only [go_sem, List.forall_mem_nil, ↓reduceIte, Nat.reduceEqDiff, Nat.reduceLT, Nat.reduceLeDiff, Nat.reduceAdd, Nat.reduceMul, reduceCtorEq, Tryz.f28, d0, hk, hsK, modC, hby, happ, ll, ll2, appendH, srcRows, List.take_succ_cons, List.take_zero, List.all_cons, List.all_nil, okT, Bool.and_true]
    repeat' ((with_reducible refine ro_i ?_ ?_); focus kernel_rfl)
    exact ⟨⟨((ms ++ [m], ⟨(a2, g2), b2⟩), k), by
      intro x hx
      rcases List.mem_append.1 hx with hx | hx
      · exact hD x hx
      · simp at hx; subst hx; exact hm, by simp; omega⟩, by simp, [], [0, 1, 2, 44], by (simp only [go_sem, eq_self, MvRb, MvRn, MvRt, List.nodup_cons, List.nodup_nil, ↓reduceIte, Nat.reduceEqDiff, Nat.reduceLT, Nat.reduceLeDiff, reduceCtorEq, List.forall_mem_nil, Nat.zero_le, false_implies, List.mem_singleton, MvR_Mi, List.length_append]) <;> simp [lk, MvB_im]⟩
  | 0 =>
    have c0 : ((0 : Nat) : Int) = 0 := rfl
    have d0 : ((0 : Int) < 0) = False := by simp
    have w1 : IntKind.i64.wrap (3 * (ms.length : Int)) = 3 * (ms.length : Int) := wrap_id (by omega) (by omega)
    have w2 : IntKind.i64.wrap (3 * (ms.length : Int) + 1) = 3 * (ms.length : Int) + 1 := wrap_id (by omega) (by omega)
    try simp -dsimp (maxSteps := 1000000) only [go_sem, List.forall_mem_nil, ↓reduceIte, Nat.reduceEqDiff, Nat.reduceLT, Nat.reduceLeDiff, Nat.reduceAdd, Nat.reduceMul, reduceCtorEq, Tryz.f28, c0, d0, w1, w2, run_l01Below h1 h2 b.1 b.2 (n := 3 * (ms.length : Int) + 1) (by omega) (by omega), oBelow, hsK, ne_below l (n := 3 * (ms.length : Int) + 1) (by omega)]
    rintro ⟨⟨k2, ⟨⟨a0, g0⟩, b0⟩⟩, r1, r2⟩
    simp only at r1 r2 b0
    obtain ⟨K2, rfl⟩ := Int.eq_ofNat_of_zero_le r1
    try simp -dsimp (maxSteps := 1000000) only [go_sem, List.forall_mem_nil, ↓reduceIte, Nat.reduceEqDiff, Nat.reduceLT, Nat.reduceLeDiff, Nat.reduceAdd, Nat.reduceMul, reduceCtorEq, Tryz.f28, hsK]
    have hG0 : GoodRk ms [] := good_nil hD (by omega)
    have hl0 : ms.length ≤ n := by omega
    have hk20 : K2 = 0 ∨ 1 ≤ ms.length := by omega
    have hk30 : K2 ≤ 30 := by omega
    have hmm : mapO (mapO imT) (tI (rowsM ms)) = some (rowsM ms) := tI_imT _
    have ll : (tI (rowsM ms)).length = ms.length := by rw [tI_len, rowsM_len]
    refine loop_i (ι := { x : (QRk n × SK l) × Nat // (x.2 = 0 ∨ 1 ≤ x.1.1.1.1.length) ∧ x.2 ≤ 30 }) (fun x => ⟨[(0, some (.c (.ptr 0 0 0 0))), (4, some (.c (.ptr 1 0 0 0))), (5, some (.c (.ptr 2 0 0 0))), (7, some (.c (.im (.int .i64 (x.1.2 : Int)))))],
      [(0, some (.box [.t (.im (.sl 1 (rowsB l))), .t (.im (.int .i64 x.1.1.2.1.1)), .t (.im (.int .i64 x.1.1.2.1.2))])), (1, some (.box [.t .nil, .t .nil])), (2, some (.box [.t (.im (.sl 11 (rowsM x.1.1.1.1.1))), .t (.im (.sl 2 (rowsC x.1.1.1.1.2)))]))], 3⟩) (fun x => x.1.2) ⟨((⟨(ms, []), hG0, hl0⟩, ⟨(a0, g0), b0⟩), K2), hk20, hk30⟩ ⟨[.frz 3 [.b 2 0 0], .nilI 2 [.b 2 0 1]], [0, 1, 2], by (simp only [go_sem, eq_self, MvRb, MvRn, MvRt, List.nodup_cons, List.nodup_nil, ↓reduceIte, Nat.reduceEqDiff, Nat.reduceLT, Nat.reduceLeDiff, reduceCtorEq, List.forall_mem_nil, Nat.zero_le, false_implies, List.mem_singleton, frzLs, frT, hmm, ll, rowsC_nil]) <;> simp [lk, MvB_im]⟩ (fun ⟨⟨⟨⟨⟨ms, cs⟩, hG, hl⟩, ⟨⟨a, g⟩, b⟩⟩, k⟩, hk0, hk3⟩ => ?_)
    simp only at hG hl b hk0 hk3 ⊢
    match k with
    | 0 =>
      have c0 : ((0 : Nat) : Int) = 0 := rfl
      have d0 : ((0 : Int) < 0) = False := by simp
      try simp -dsimp (maxSteps := 1000000) only [go_sem, List.forall_mem_nil, ↓reduceIte, Nat.reduceEqDiff, Nat.reduceLT, Nat.reduceLeDiff, Nat.reduceAdd, Nat.reduceMul, reduceCtorEq, Tryz.f28, c0, d0]
      refine finF_i [] ?_
      simp -dsimp (maxSteps := 1000000) only [go_sem, List.forall_mem_nil, ↓reduceIte, Nat.reduceEqDiff, Nat.reduceLT, Nat.reduceLeDiff, Nat.reduceAdd, Nat.reduceMul, reduceCtorEq]
      exact ⟨(⟨(ms, cs), hG, hl⟩, ⟨(a, g), b⟩), rfl, rfl, rfl⟩
    | k + 1 =>
      have d0 : ((0 : Int) < ((k + 1 : Nat) : Int)) = True := eq_true (by omega)
      have hk : IntKind.i64.wrap (((k + 1 : Nat) : Int) - 1) = (k : Int) := by rw [wrap_id (by omega) (by omega)]; omega
      have hl1 : 1 ≤ ms.length := by omega
      have rb : ∀ (a h : Int), 0 ≤ a → a ≤ l.length → ct_l01Below.run [.c (.ptr 0 0 0 0), .c (.im (.int .i64 (ms.length : Int)))] [[.t (.im (.sl 1 (rowsB l))), .t (.im (.int .i64 a)), .t (.im (.int .i64 h))]] = some (oBelow l (ms.length : Int)) := fun a h q1 q2 => run_l01Below h1 h2 q1 q2 (n := (ms.length : Int)) (by omega) (by omega)
      have nb := ne_below l (n := (ms.length : Int)) (by omega)
      try simp -dsimp (maxSteps := 1000000) only [go_sem, List.forall_mem_nil, ↓reduceIte, Nat.reduceEqDiff, Nat.reduceLT, Nat.reduceLeDiff, Nat.reduceAdd, Nat.reduceMul, reduceCtorEq, Tryz.f28, d0, rowsM_len, rb a g b.1 b.2, oBelow, nb, hsK]
      repeat' ((with_reducible refine sl_i ?_ ?_); focus kernel_rfl)
      rintro ⟨⟨f, ⟨⟨a2, g2⟩, b2⟩⟩, f1, f2⟩
      try simp -dsimp (maxSteps := 1000000) only [go_sem, List.forall_mem_nil, ↓reduceIte, Nat.reduceEqDiff, Nat.reduceLT, Nat.reduceLeDiff, Nat.reduceAdd, Nat.reduceMul, reduceCtorEq, Tryz.f28, rowsM_len, rb a2 g2 b2.1 b2.2, oBelow, nb, hsK]
      rintro ⟨⟨t, ⟨⟨a3, g3⟩, b3⟩⟩, t1, t2⟩
      cases hr : isRackF ms (cs ++ [(f, t)]) with
      | true =>
        try simp -dsimp (maxSteps := 1000000) only [go_sem, List.forall_mem_nil, ↓reduceIte, Nat.reduceEqDiff, Nat.reduceLT, Nat.reduceLeDiff, Nat.reduceAdd, Nat.reduceMul, reduceCtorEq, Tryz.f28, run_sAddCable hG, sc_sAddCable, addR', hr, rRO, hk, hsK]
        repeat' ((with_reducible refine ro_i ?_ ?_); focus kernel_rfl)
        exact ⟨⟨((⟨(ms, cs ++ [(f, t)]), ⟨hG.dr, hr⟩, hl⟩, ⟨(a3, g3), b3⟩), k), .inr hl1, by simp only []; omega⟩, by simp, [], [0, 1, 2], by (simp only [go_sem, eq_self, MvRb, MvRn, MvRt, List.nodup_cons, List.nodup_nil, ↓reduceIte, Nat.reduceEqDiff, Nat.reduceLT, Nat.reduceLeDiff, reduceCtorEq, List.forall_mem_nil, Nat.zero_le, false_implies, List.mem_singleton]) <;> simp [lk, MvB_im]⟩
      | false =>
        try simp -dsimp (maxSteps := 1000000) only [go_sem, List.forall_mem_nil, ↓reduceIte, Nat.reduceEqDiff, Nat.reduceLT, Nat.reduceLeDiff, Nat.reduceAdd, Nat.reduceMul, reduceCtorEq, Tryz.f28, run_sAddCable hG, sc_sAddCable, addR', hr, rRO, hk, hsK, rowsM_nil, rowsC_nil]
        repeat' ((with_reducible refine ro_i ?_ ?_); focus kernel_rfl)
        exact ⟨⟨((⟨(ms, cs), hG, hl⟩, ⟨(a3, g3), b3⟩), k), .inr hl1, by simp only []; omega⟩, by simp, [], [0, 1, 2], by (simp only [go_sem, eq_self, MvRb, MvRn, MvRt, List.nodup_cons, List.nodup_nil, ↓reduceIte, Nat.reduceEqDiff, Nat.reduceLT, Nat.reduceLeDiff, reduceCtorEq, List.forall_mem_nil, Nat.zero_le, false_implies, List.mem_singleton]) <;> simp [lk, MvB_im]⟩
abbrev QRk1 (n : Nat) := { r : List Mod × List Cbl // GoodRk r.1 r.2 ∧ 1 ≤ r.1.length ∧ r.1.length ≤ max n 1 }
def oMk (n : Nat) : Outs := .any (QRk1 n) (fun q => { val := .agg [.im (.sl 11 (rowsM q.1.1)), .im (.sl 2 (rowsC q.1.2))] })
theorem ne_omk (n : Nat) : Nonempty (QRk1 n) = True := by simp only [eq_iff_iff, iff_true]; exact ⟨⟨([mSum'], []), good_nil (by simp [drawn_sum]) (by simp), by simp; omega⟩⟩
noncomputable def ct_MakeRack : Ct := fam false (fun x : ABw × N10 => ([.c (.im (.sl 1 (rowsB x.1.l))), .c (.im (.int .i64 (x.2.1 : Int)))], [])) (fun x => oMk x.2.1)
theorem run_MakeRack {l : List Int} (h1 : l.length ≤ 1048576) (h2 : ∀ b ∈ l, 0 ≤ b ∧ b < 256) {n : Nat} (h3 : n ≤ 10) : ct_MakeRack.run [.c (.im (.sl 1 (rowsB l))), .c (.im (.int .i64 (n : Int)))] [] = some (oMk n) := by
  refine fam_run' (args := fun x : ABw × N10 => ([D.c (.im (.sl 1 (rowsB x.1.l))), .c (.im (.int .i64 (x.2.1 : Int)))], [])) (fun x y h => ?_) (⟨l, h1, h2⟩, ⟨n, h3⟩)
  simp only [Prod.mk.injEq, List.cons.injEq, D.c.injEq, C.im.injEq, I.sl.injEq, I.int.injEq, true_and, and_true] at h
  exact Prod.ext (ABw_ext (rowsB_inj h.1)) (Subtype.ext (by omega))
set_option maxRecDepth 100000 in
set_option maxHeartbeats 8000000 in
theorem law_MakeRack : Law Tryz.prog 6 ct_MakeRack := by
  refine fam_lawF (Env_cons law_l01New (Env_cons law_l6Rack (Env_cons law_sSource Env_nil))) hmixA Tryz.func6 rfl rfl (fun ⟨⟨l, h1, h2⟩, ⟨n, h3⟩⟩ => ⟨okA (fun o => ⟨okAgg2, by simp, by simp⟩), by simp [Tryz.f6], ?_⟩)
  simp only [oMk]
  have m1 : ((10 : Int) < (n : Int)) = False := eq_false (by omega)
  have m2 : (if (n : Int) > 0 then (n : Int) else 0) = (n : Int) := by split <;> omega
  try simp -dsimp (maxSteps := 1000000) only [go_sem, List.forall_mem_nil, ↓reduceIte, Nat.reduceEqDiff, Nat.reduceLT, Nat.reduceLeDiff, Nat.reduceAdd, Nat.reduceMul, reduceCtorEq, Tryz.f6, run_l01New h1 h2, oKNew, ne_int]
  intro h
  try simp -dsimp (maxSteps := 1000000) only [go_sem, List.forall_mem_nil, ↓reduceIte, Nat.reduceEqDiff, Nat.reduceLT, Nat.reduceLeDiff, Nat.reduceAdd, Nat.reduceMul, reduceCtorEq, Tryz.f6, m1, m2, run_l6Rack h1 h2 (a := 0) (h := h) (n := n) (by omega) (by omega) h3, oDRk, ne_ork, hsK]
  rintro ⟨⟨⟨ms, cs⟩, hG, hl⟩, ⟨⟨a1, g1⟩, b1⟩⟩
  simp only at hG hl
  by_cases h0 : ms.length = 0
  rotate_left
  · have h0' : ((ms.length : Int) = 0) = False := eq_false (by omega)
    try simp -dsimp (maxSteps := 1000000) only [go_sem, List.forall_mem_nil, ↓reduceIte, Nat.reduceEqDiff, Nat.reduceLT, Nat.reduceLeDiff, Nat.reduceAdd, Nat.reduceMul, reduceCtorEq, Tryz.f6, hsK, rowsM_len, h0']
    refine finF_i [] ?_
    simp -dsimp (maxSteps := 1000000) only [go_sem, List.forall_mem_nil, ↓reduceIte, Nat.reduceEqDiff, Nat.reduceLT, Nat.reduceLeDiff, Nat.reduceAdd, Nat.reduceMul, reduceCtorEq]
    exact ⟨⟨(ms, cs), hG, by simp only []; omega, by simp only []; omega⟩, rfl, rfl⟩
  have h0' : ((ms.length : Int) = 0) = True := eq_true (by omega)
  have hms : ms = [] := List.eq_nil_of_length_eq_zero h0
  have hcs : cs = [] := by
    have := hG.rk
    subst hms
    simp only [isRackF, Bool.and_eq_true, List.all_eq_true] at this
    obtain ⟨_, _, _, hc, _⟩ := this
    cases cs with
    | nil => rfl
    | cons c cs =>
      have := hc c (by simp)
      rw [cab_has] at this
      simp [hasR] at this
      omega
  subst hcs
  try simp -dsimp (maxSteps := 1000000) only [go_sem, List.forall_mem_nil, ↓reduceIte, Nat.reduceEqDiff, Nat.reduceLT, Nat.reduceLeDiff, Nat.reduceAdd, Nat.reduceMul, reduceCtorEq, Tryz.f6, hsK, rowsM_len, h0', run_sSource, rM, modC, mSrc']
  refine finF_i [.frz 3 [.b 0 0 0]] ?_
  simp -dsimp (maxSteps := 1000000) only [go_sem, List.forall_mem_nil, ↓reduceIte, Nat.reduceEqDiff, Nat.reduceLT, Nat.reduceLeDiff, Nat.reduceAdd, Nat.reduceMul, reduceCtorEq]
  exact ⟨⟨([mSrc' (0, 1065353216) (1065353216, 0)], []), good_nil (by intro m hm; simp at hm; subst hm; exact drawn_src _ _) (by simp), by simp, by simp; omega⟩, rfl, rfl⟩
end Go.SX
set_option linter.unusedVariables false
set_option linter.unusedSimpArgs false
namespace Go.SX
open Go Go.Proofs
structure Fa where
  kind : Int
  md : Int
  fr : Int
  to_ : Int
structure ABec where
  fs : List Fa
  i : Int
  last : List Pt
  n : Int
  p : Pt
  fl : fs.length ≤ sm
  n0 : 0 ≤ n
  n1 : n < last.length
end Go.SX
set_option linter.unusedVariables false
set_option linter.unusedSimpArgs false
namespace Go.SX
open Go Go.Proofs
structure AStG where
  ms : List Mod
  cs : List Cbl
  inn : Int
  z : Pt
  fs : List Fa
  i : Int
  last : List Pt
  ml : ms.length ≤ 16
  cl : cs.length ≤ sm
  ok : ∀ m ∈ ms, OkS m
  cr : ∀ c ∈ cs, 0 ≤ c.1 ∧ c.1 < ms.length
  fl : fs.length ≤ sm
  ll : last.length = ms.length
end Go.SX
set_option linter.unusedVariables false
set_option linter.unusedSimpArgs false
namespace Go.SX
open Go Go.Proofs
structure ABad where
  ms : List Mod
  cs : List Cbl
  f : Fa
structure AIf where
  ms : List Mod
  cs : List Cbl
  l : List Fa
  ll : l.length ≤ sm
structure AAf where
  ms : List Mod
  cs : List Cbl
  l : List Fa
  ml : ms.length ≤ sm
  cl : cs.length ≤ sm
  ok : ∀ m ∈ ms, OkM m
  ll : l.length ≤ sm
end Go.SX
set_option linter.unusedVariables false
set_option linter.unusedSimpArgs false
namespace Go.SX
open Go Go.Proofs
structure ARf where
  ms : List Mod
  cs : List Cbl
  a : Int
  b : Int
  xs : List Pt
  fs : List Fa
  n : Int
  ml : ms.length ≤ sm
  cl : cs.length ≤ sm
  xl : xs.length ≤ sm
  fl : fs.length ≤ sm
  ok : ∀ m ∈ ms, OkM m
end Go.SX
set_option linter.unusedVariables false
set_option linter.unusedSimpArgs false
namespace Go.SX
open Go Go.Proofs
theorem pigeon : ∀ (N : Nat) (L : List Int), L.Nodup → (∀ i ∈ L, 0 ≤ i ∧ i < (N : Int)) → L.length ≤ N
  | 0, L, _, h => by
    cases L with
    | nil => simp
    | cons a L => have := h a (by simp); omega
  | N + 1, L, hn, h => by
    by_cases hm : (N : Int) ∈ L
    · have h1 := pigeon N (L.erase (N : Int)) (hn.erase _) (fun i hi => by
        have h2 := h i (List.mem_of_mem_erase hi)
        have h3 : i ≠ (N : Int) := fun e => by subst e; exact hn.not_mem_erase hi
        omega)
      rw [List.length_erase_of_mem hm] at h1
      omega
    · have := pigeon N L hn (fun i hi => by
        have h2 := h i hi
        have h3 : i ≠ (N : Int) := fun e => by subst e; exact hm hi
        omega)
      omega
theorem covers {N : Nat} {L : List Int} (h1 : L.Nodup) (h2 : ∀ i ∈ L, 0 ≤ i ∧ i < (N : Int)) (h3 : L.length = N) {n : Nat} (hn : n < N) : (n : Int) ∈ L := by
  by_cases hm : (n : Int) ∈ L
  · exact hm
  · have := pigeon N ((n : Int) :: L) (List.nodup_cons.2 ⟨hm, h1⟩) (fun i hi => by
      rcases List.mem_cons.1 hi with rfl | hi
      · omega
      · exact h2 i hi)
    simp at this; omega
theorem readyIdx_ready {ms : List Mod} {cs : List Cbl} {out : List Int} : ∀ f i, readyIdx ms cs out f i = i + f ∨ readyF ms cs out (readyIdx ms cs out f i : Int) = true
  | 0, i => .inl rfl
  | f + 1, i => by
    simp only [readyIdx]
    by_cases h : readyF ms cs out (i : Int) = true
    · rw [if_pos h]; exact .inr h
    · rw [if_neg h]
      rcases readyIdx_ready (ms := ms) (cs := cs) (out := out) f (i + 1) with h | h
      · exact .inl (by omega)
      · exact .inr h
theorem orderGo_nodup {ms : List Mod} {cs : List Cbl} : ∀ (f : Nat) (out l : List Int), out.Nodup → orderGo ms cs f out = some l → l.Nodup
  | 0, out, l, ho, h => by simp only [orderGo, Option.some.injEq] at h; subst h; exact ho
  | f + 1, out, l, ho, h => by
    simp only [orderGo] at h
    split at h
    · cases h
    · rename_i hn
      refine orderGo_nodup f _ l ?_ h
      rcases readyIdx_ready (ms := ms) (cs := cs) (out := out) ms.length 0 with h1 | h1
      · omega
      · simp only [readyF, Bool.and_eq_true, Bool.not_eq_true', ] at h1
        have h2 : ((readyIdx ms cs out ms.length 0 : Nat) : Int) ∉ out := fun e => by
          rw [hasF_iff.2 e] at h1; simp at h1
        rw [List.nodup_append]
        refine ⟨ho, by simp, fun a ha b hb => ?_⟩
        simp at hb; subst hb
        intro e; subst e; exact h2 ha
theorem ord_all {ms : List Mod} {cs : List Cbl} (h : (orderF ms cs).isSome = true) {n : Nat} (hn : n < ms.length) : (n : Int) ∈ ordL ms cs := by
  obtain ⟨L, hL⟩ := Option.isSome_iff_exists.1 h
  have e : ordL ms cs = L := by simp [ordL, hL]
  have h1 := orderGo_nodup _ [] L (by simp) hL
  have h2 := orderGo_len _ [] L hL
  have h3 := orderGo_lt _ [] L (by simp) hL
  rw [e]
  exact covers h1 h3 (by simpa using h2) hn
theorem GoodRk.ord {ms : List Mod} {cs : List Cbl} (h : GoodRk ms cs) : (orderF ms cs).isSome = true := by
  have := h.rk
  simp only [isRackF, Bool.and_eq_true] at this
  exact this.2.2.2.2
end Go.SX
set_option linter.unusedVariables false
set_option linter.unusedSimpArgs false
namespace Go.SX
open Go Go.Proofs
def Topo (ms : List Mod) (cs : List Cbl) (out : List Int) : Prop := ∀ i ∈ out, ∀ c ∈ cs, c.2 = i → ¬ kindOf ms c.1 = 4 → c.1 ∈ out ∧ out.idxOf c.1 < out.idxOf i
theorem ready_spec {ms : List Mod} {cs : List Cbl} {out : List Int} {i : Int} (h : readyF ms cs out i = true) : i ∉ out ∧ ∀ c ∈ cs, c.2 = i → ¬ kindOf ms c.1 = 4 → c.1 ∈ out := by
  simp only [readyF, Bool.and_eq_true, Bool.not_eq_true'] at h
  refine ⟨fun hm => ?_, fun c hc h2 h4 => ?_⟩
  · have := h.1; rw [hasF_iff.2 hm] at this; cases this
  · apply Classical.byContradiction
    intro hno
    have hb : blocks ms out i c = true := by
      simp only [blocks, Bool.and_eq_true, decide_eq_true_eq, Bool.not_eq_true', decide_eq_false_iff_not]
      refine ⟨h2, h4, ?_⟩
      cases hh : hasF out c.1 with
      | false => rfl
      | true => exact absurd (hasF_iff.1 hh) hno
    have : anyF ms out i cs = true := by
      simp only [anyF, decide_eq_true_eq]
      exact (idxF_ge cs 0).2 ⟨c, hc, hb⟩
    rw [this] at h
    exact absurd h.2 (by simp)
theorem orderGo_topo {ms : List Mod} {cs : List Cbl} : ∀ (f : Nat) (out l : List Int), Topo ms cs out → orderGo ms cs f out = some l → Topo ms cs l
  | 0, out, l, ht, h => by simp only [orderGo, Option.some.injEq] at h; subst h; exact ht
  | f + 1, out, l, ht, h => by
    simp only [orderGo] at h
    split at h
    · cases h
    · rename_i hn
      refine orderGo_topo f _ l ?_ h
      rcases readyIdx_ready (ms := ms) (cs := cs) (out := out) ms.length 0 with h1 | h1
      · omega
      · obtain ⟨s1, s2⟩ := ready_spec h1
        generalize ((readyIdx ms cs out ms.length 0 : Nat) : Int) = q at s1 s2
        intro i hi c hc h2 h4
        rcases List.mem_append.1 hi with hi | hi
        · obtain ⟨t1, t2⟩ := ht i hi c hc h2 h4
          refine ⟨List.mem_append_left _ t1, ?_⟩
          rw [List.idxOf_append, List.idxOf_append, if_pos t1, if_pos hi]
          exact t2
        · simp only [List.mem_singleton] at hi
          subst hi
          have t1 := s2 c hc h2 h4
          refine ⟨List.mem_append_left _ t1, ?_⟩
          rw [List.idxOf_append, List.idxOf_append, if_pos t1, if_neg s1]
          have := List.idxOf_lt_length_of_mem t1
          omega
theorem isRack_parts {ms : List Mod} {cs : List Cbl} : isRackF ms cs = true ↔ ms.length ≤ 16 ∧ cs.length ≤ 40 ∧ (∀ m ∈ ms, isModuleF m = true) ∧ (∀ c ∈ cs, 0 ≤ c.1 ∧ c.1 < ms.length ∧ 0 ≤ c.2 ∧ c.2 < ms.length) ∧ (orderF ms cs).isSome = true := by
  simp only [isRackF, Bool.and_eq_true, decide_eq_true_eq, List.all_eq_true, cabF]
end Go.SX
set_option linter.unusedVariables false
set_option linter.unusedSimpArgs false
namespace Go.SX
open Go Go.Proofs
def plcF (l : List Int) (v : Int) : Int := idxF (fun y => decide (y = v)) l 0
noncomputable def ct_lplace : Ct := fam true (fun x : { l : List Int // l.length ≤ sm } × Int => ([.c (.im (.sl 1 (rowsN x.1.1))), .c (.im (.int .i64 x.2))], [])) (fun x => .one { val := .c (.im (.int .i64 (plcF x.1.1 x.2))) })
theorem run_lplace {l : List Int} (hl : l.length ≤ sm) (v : Int) : ct_lplace.run [.c (.im (.sl 1 (rowsN l))), .c (.im (.int .i64 v))] [] = some (.one { val := .c (.im (.int .i64 (plcF l v))) }) := by
  refine fam_run' (args := fun x : { l : List Int // l.length ≤ sm } × Int => ([D.c (.im (.sl 1 (rowsN x.1.1))), .c (.im (.int .i64 x.2))], [])) ?_ (⟨l, hl⟩, v)
  rintro ⟨⟨a, b⟩, c⟩ ⟨⟨a', b'⟩, c'⟩ h
  simp [rowsN_eq] at h ⊢
  simp [h]
theorem sc_lplace : (ct_lplace.sc = true) = True := by simp [ct_lplace, fam]
set_option maxRecDepth 100000 in
theorem law_lplace : Law Tryz.prog 23 ct_lplace := by
  refine fam_law Env_nil hmixA Tryz.func23 rfl rfl (fun ⟨⟨l, hl⟩, v⟩ => ⟨okO_im rfl, by simp [Tryz.f23], ?_⟩)
  simp only [plcF]
  try simp -dsimp (maxSteps := 1000000) only [go_sem, List.forall_mem_nil, ↓reduceIte, Nat.reduceEqDiff, Nat.reduceLT, Nat.reduceLeDiff, Nat.reduceAdd, Nat.reduceMul, reduceCtorEq, Tryz.f23, rowsN_len]
  refine loop_i (ι := { k : Nat // k ≤ l.length ∧ idxF (fun y => decide (y = v)) l 0 = idxF (fun y => decide (y = v)) (l.drop k) k }) (fun k => ⟨[(1, some (.c (.im (.int .i64 v)))), (7, some (.c (.im (.sl 1 (rowsN l))))), (8, some (.c (.im (.int .i64 (l.length : Int))))), (9, some (.c (.im (.int .i64 (k.1 : Int)))))],
    [], 0⟩) (fun k => l.length - k.1) ⟨0, by simp⟩ ⟨[], [], by ((simp only [go_sem, eq_self, MvRb, MvRn, MvRt, List.nodup_cons, List.nodup_nil, ↓reduceIte, Nat.reduceEqDiff, Nat.reduceLT, Nat.reduceLeDiff, reduceCtorEq, List.forall_mem_nil, Nat.zero_le, false_implies, List.mem_singleton]) <;> (try (simp -dsimp only [go_sem, eq_self, MvRb, MvRn, MvRt, List.nodup_cons, List.nodup_nil, ↓reduceIte, Nat.reduceEqDiff, Nat.reduceLT, Nat.reduceLeDiff, reduceCtorEq, List.forall_mem_nil, Nat.zero_le, false_implies, List.mem_singleton]))) <;> simp⟩ (fun ⟨k, hk, hinv⟩ => ?_)
  simp only
  by_cases hlt : k < l.length
  · obtain ⟨p, hp⟩ : ∃ p, l[k]? = some p := ⟨_, List.getElem?_eq_getElem hlt⟩
    have hrow := rowsN_at hp
    have hI : ((k : Int) < (l.length : Int)) = True := by simp; omega
    have h0 : (0 ≤ (k : Int)) = True := by simp
    have hidx := idxF_drop (f := (fun y => decide (y = v))) hp
    have hwr := lt_sm hl hlt
    by_cases hq : p = v
    · have hq' := eq_true hq
      simp only [hq', decide_true, if_true] at hidx
      rw [hidx] at hinv
      clear hidx hq
      try simp -dsimp (maxSteps := 1000000) only [go_sem, List.forall_mem_nil, ↓reduceIte, Nat.reduceEqDiff, Nat.reduceLT, Nat.reduceLeDiff, Nat.reduceAdd, Nat.reduceMul, reduceCtorEq, Tryz.f23, hI, h0, Int.toNat_natCast, hrow, hq', hinv, rowsN_len]
    · have hq' := eq_false hq
      simp only [hq', decide_false, if_false, Bool.false_eq_true] at hidx
      rw [hidx] at hinv
      clear hidx hq
      try simp -dsimp (maxSteps := 1000000) only [go_sem, List.forall_mem_nil, ↓reduceIte, Nat.reduceEqDiff, Nat.reduceLT, Nat.reduceLeDiff, Nat.reduceAdd, Nat.reduceMul, reduceCtorEq, Tryz.f23, hI, h0, Int.toNat_natCast, hrow, hq', hwr, rowsN_len]
      exact ⟨⟨k + 1, by omega, hinv⟩, by simp only []; omega, [], [], by (simp only [go_sem, eq_self, MvRb, MvRn, MvRt, List.nodup_cons, List.nodup_nil, ↓reduceIte, Nat.reduceEqDiff, Nat.reduceLT, Nat.reduceLeDiff, reduceCtorEq, List.forall_mem_nil, Nat.zero_le, false_implies, List.mem_singleton]) <;> simp⟩
  · have hI : ((k : Int) < (l.length : Int)) = False := by simp; omega
    have hkl : k = l.length := by omega
    subst hkl
    rw [List.drop_length] at hinv
    try simp -dsimp (maxSteps := 1000000) only [go_sem, List.forall_mem_nil, ↓reduceIte, Nat.reduceEqDiff, Nat.reduceLT, Nat.reduceLeDiff, Nat.reduceAdd, Nat.reduceMul, reduceCtorEq, Tryz.f23, hI, hinv, idxF, rowsN_len]
noncomputable def ct_ints : Ct := fam true (fun x : { l : List Int // l.length ≤ sm } => ([.c (.im (.sl 1 (rowsN x.1))), .c (.im (.sl 1 (rowsN x.1)))], [])) (fun x => .one { val := .c (.im (.bool true)) })
theorem run_ints {l : List Int} (hl : l.length ≤ sm) : ct_ints.run [.c (.im (.sl 1 (rowsN l))), .c (.im (.sl 1 (rowsN l)))] [] = some (.one { val := .c (.im (.bool true)) }) :=
  fam_run (args := fun x : { l : List Int // l.length ≤ sm } => ([D.c (.im (.sl 1 (rowsN x.1))), .c (.im (.sl 1 (rowsN x.1)))], [])) (fun _ _ _ => rfl) ⟨l, hl⟩
theorem sc_ints : (ct_ints.sc = true) = True := by simp [ct_ints, fam]
set_option maxRecDepth 100000 in
theorem law_ints : Law Tryz.prog 26 ct_ints := by
  refine fam_law Env_nil hmixA Tryz.func26 rfl rfl (fun ⟨l, hl⟩ => ⟨okO_im rfl, by simp [Tryz.f26], ?_⟩)
  simp only
  try simp -dsimp (maxSteps := 1000000) only [go_sem, List.forall_mem_nil, ↓reduceIte, Nat.reduceEqDiff, Nat.reduceLT, Nat.reduceLeDiff, Nat.reduceAdd, Nat.reduceMul, reduceCtorEq, Tryz.f26, rowsN_len]
  refine loop_i (ι := { k : Nat // k ≤ l.length }) (fun k => ⟨[(0, some (.c (.im (.sl 1 (rowsN l))))), (1, some (.c (.im (.sl 1 (rowsN l))))), (12, some (.c (.im (.int .i64 (l.length : Int))))), (13, some (.c (.im (.int .i64 (k.1 : Int)))))],
    [], 0⟩) (fun k => l.length - k.1) ⟨0, by simp⟩ ⟨[], [], by ((simp only [go_sem, eq_self, MvRb, MvRn, MvRt, List.nodup_cons, List.nodup_nil, ↓reduceIte, Nat.reduceEqDiff, Nat.reduceLT, Nat.reduceLeDiff, reduceCtorEq, List.forall_mem_nil, Nat.zero_le, false_implies, List.mem_singleton]) <;> (try (simp -dsimp only [go_sem, eq_self, MvRb, MvRn, MvRt, List.nodup_cons, List.nodup_nil, ↓reduceIte, Nat.reduceEqDiff, Nat.reduceLT, Nat.reduceLeDiff, reduceCtorEq, List.forall_mem_nil, Nat.zero_le, false_implies, List.mem_singleton]))) <;> simp⟩ (fun ⟨k, hk⟩ => ?_)
  simp only
  by_cases hlt : k < l.length
  · obtain ⟨p, hp⟩ : ∃ p, l[k]? = some p := ⟨_, List.getElem?_eq_getElem hlt⟩
    have hrow := rowsN_at hp
    have hI : ((k : Int) < (l.length : Int)) = True := by simp; omega
    have h0 : (0 ≤ (k : Int)) = True := by simp
    have hwr := lt_sm hl hlt
    try simp -dsimp (maxSteps := 1000000) only [go_sem, List.forall_mem_nil, ↓reduceIte, Nat.reduceEqDiff, Nat.reduceLT, Nat.reduceLeDiff, Nat.reduceAdd, Nat.reduceMul, reduceCtorEq, Tryz.f26, hI, h0, Int.toNat_natCast, hrow, hwr, rowsN_len]
    repeat' (first
      | ((with_reducible refine sl_i ?_ ?_); focus kernel_rfl)
      | ((with_reducible refine ro_i ?_ ?_); focus kernel_rfl))
    exact ⟨⟨k + 1, by omega⟩, by simp only []; omega, [], [], by (simp only [go_sem, eq_self, MvRb, MvRn, MvRt, List.nodup_cons, List.nodup_nil, ↓reduceIte, Nat.reduceEqDiff, Nat.reduceLT, Nat.reduceLeDiff, reduceCtorEq, List.forall_mem_nil, Nat.zero_le, false_implies, List.mem_singleton]) <;> simp⟩
  · have hI : ((k : Int) < (l.length : Int)) = False := by simp; omega
    try simp -dsimp (maxSteps := 1000000) only [go_sem, List.forall_mem_nil, ↓reduceIte, Nat.reduceEqDiff, Nat.reduceLT, Nat.reduceLeDiff, Nat.reduceAdd, Nat.reduceMul, reduceCtorEq, Tryz.f26, hI, rowsN_len]
noncomputable def ct_Equal_int : Ct := fam true (fun x : { l : List Int // l.length ≤ sm } × { l : List Int // l.length ≤ sm } => ([.c (.im (.sl 1 (rowsN x.1.1))), .c (.im (.sl 1 (rowsN x.2.1)))], [])) (fun x => .one { val := .c (.im (.bool (decide (x.1.1 = x.2.1)))) })
theorem run_Equal_int {a b : List Int} (ha : a.length ≤ sm) (hb : b.length ≤ sm) : ct_Equal_int.run [.c (.im (.sl 1 (rowsN a))), .c (.im (.sl 1 (rowsN b)))] [] = some (.one { val := .c (.im (.bool (decide (a = b)))) }) := by
  refine fam_run' (args := fun x : { l : List Int // l.length ≤ sm } × { l : List Int // l.length ≤ sm } => ([D.c (.im (.sl 1 (rowsN x.1.1))), .c (.im (.sl 1 (rowsN x.2.1)))], [])) ?_ (⟨a, ha⟩, ⟨b, hb⟩)
  rintro ⟨⟨a, _⟩, ⟨b, _⟩⟩ ⟨⟨a', _⟩, ⟨b', _⟩⟩ h
  simp [rowsN_eq] at h ⊢
  exact h
theorem sc_Equal_int : (ct_Equal_int.sc = true) = True := by simp [ct_Equal_int, fam]
theorem drop_eq {a b : List Int} {k : Nat} {p q : Int} (ha : a[k]? = some p) (hb : b[k]? = some q) : (a.drop k = b.drop k) = (p = q ∧ a.drop (k + 1) = b.drop (k + 1)) := by
  have h1 : k < a.length := (List.getElem?_eq_some_iff.1 ha).1
  have h2 : k < b.length := (List.getElem?_eq_some_iff.1 hb).1
  have e1 : a[k] = p := by rw [List.getElem?_eq_getElem h1] at ha; injection ha
  have e2 : b[k] = q := by rw [List.getElem?_eq_getElem h2] at hb; injection hb
  rw [List.drop_eq_getElem_cons h1, List.drop_eq_getElem_cons h2, e1, e2, List.cons.injEq]
set_option maxRecDepth 100000 in
theorem law_Equal_int : Law Tryz.prog 54 ct_Equal_int := by
  refine fam_law Env_nil hmixA Tryz.func54 rfl rfl (fun ⟨⟨a, ha⟩, ⟨b, hb⟩⟩ => ⟨okO_im rfl, by simp [Tryz.f54], ?_⟩)
  simp only
  by_cases hl : a.length = b.length
  rotate_left
  · have h1 : ((a.length : Int) = (b.length : Int)) = False := eq_false (by omega)
    have h2 : (a = b) = False := eq_false (fun e => hl (by rw [e]))
    try simp -dsimp (maxSteps := 1000000) only [go_sem, List.forall_mem_nil, ↓reduceIte, Nat.reduceEqDiff, Nat.reduceLT, Nat.reduceLeDiff, Nat.reduceAdd, Nat.reduceMul, reduceCtorEq, Tryz.f54, h1, h2, rowsN_len]
  have h1 : ((a.length : Int) = (b.length : Int)) = True := eq_true (by omega)
  try simp -dsimp (maxSteps := 1000000) only [go_sem, List.forall_mem_nil, ↓reduceIte, Nat.reduceEqDiff, Nat.reduceLT, Nat.reduceLeDiff, Nat.reduceAdd, Nat.reduceMul, reduceCtorEq, Tryz.f54, h1, rowsN_len]
  refine loop_i (ι := { k : Nat // k ≤ a.length ∧ (a = b) = (a.drop k = b.drop k) }) (fun k => ⟨[(0, some (.c (.im (.sl 1 (rowsN a))))), (1, some (.c (.im (.sl 1 (rowsN b))))), (12, some (.c (.im (.int .i64 (a.length : Int))))), (13, some (.c (.im (.int .i64 (k.1 : Int)))))],
    [], 0⟩) (fun k => a.length - k.1) ⟨0, by simp⟩ ⟨[], [], by ((simp only [go_sem, eq_self, MvRb, MvRn, MvRt, List.nodup_cons, List.nodup_nil, ↓reduceIte, Nat.reduceEqDiff, Nat.reduceLT, Nat.reduceLeDiff, reduceCtorEq, List.forall_mem_nil, Nat.zero_le, false_implies, List.mem_singleton]) <;> (try (simp -dsimp only [go_sem, eq_self, MvRb, MvRn, MvRt, List.nodup_cons, List.nodup_nil, ↓reduceIte, Nat.reduceEqDiff, Nat.reduceLT, Nat.reduceLeDiff, reduceCtorEq, List.forall_mem_nil, Nat.zero_le, false_implies, List.mem_singleton]))) <;> simp⟩ (fun ⟨k, hk, hinv⟩ => ?_)
  simp only
  by_cases hlt : k < a.length
  · obtain ⟨p, hp⟩ : ∃ p, a[k]? = some p := ⟨_, List.getElem?_eq_getElem hlt⟩
    obtain ⟨q, hq⟩ : ∃ q, b[k]? = some q := ⟨_, List.getElem?_eq_getElem (by omega)⟩
    have hrow := rowsN_at hp
    have hrow2 := rowsN_at hq
    have hI : ((k : Int) < (a.length : Int)) = True := by simp; omega
    have h0 : (0 ≤ (k : Int)) = True := by simp
    have hI2 : ((k : Int) < (b.length : Int)) = True := by simp; omega
    have hwr := lt_sm ha hlt
    rw [drop_eq hp hq] at hinv
    by_cases e : p = q
    · have e' := eq_true e
      rw [e', true_and] at hinv
      try simp -dsimp (maxSteps := 1000000) only [go_sem, List.forall_mem_nil, ↓reduceIte, Nat.reduceEqDiff, Nat.reduceLT, Nat.reduceLeDiff, Nat.reduceAdd, Nat.reduceMul, reduceCtorEq, Tryz.f54, hI, hI2, h0, Int.toNat_natCast, hrow, hrow2, e', hwr, rowsN_len]
      repeat' (first
        | ((with_reducible refine sl_i ?_ ?_); focus kernel_rfl)
        | ((with_reducible refine ro_i ?_ ?_); focus kernel_rfl))
      exact ⟨⟨k + 1, by omega, hinv⟩, by simp only []; omega, [], [], by (simp only [go_sem, eq_self, MvRb, MvRn, MvRt, List.nodup_cons, List.nodup_nil, ↓reduceIte, Nat.reduceEqDiff, Nat.reduceLT, Nat.reduceLeDiff, reduceCtorEq, List.forall_mem_nil, Nat.zero_le, false_implies, List.mem_singleton]) <;> simp⟩
    · have e' := eq_false e
      rw [e', false_and] at hinv
      try simp -dsimp (maxSteps := 1000000) only [go_sem, List.forall_mem_nil, ↓reduceIte, Nat.reduceEqDiff, Nat.reduceLT, Nat.reduceLeDiff, Nat.reduceAdd, Nat.reduceMul, reduceCtorEq, Tryz.f54, hI, hI2, h0, Int.toNat_natCast, hrow, hrow2, e', hinv, rowsN_len]
      repeat' (first
        | ((with_reducible refine sl_i ?_ ?_); focus kernel_rfl)
        | ((with_reducible refine ro_e ?_); kernel_rfl))
  · have hI : ((k : Int) < (a.length : Int)) = False := by simp; omega
    have hi : (a = b) = True := by
      rw [hinv, List.drop_of_length_le (by omega), List.drop_of_length_le (by omega)]; simp
    try simp -dsimp (maxSteps := 1000000) only [go_sem, List.forall_mem_nil, ↓reduceIte, Nat.reduceEqDiff, Nat.reduceLT, Nat.reduceLeDiff, Nat.reduceAdd, Nat.reduceMul, reduceCtorEq, Tryz.f54, hI, hi, rowsN_len]
structure AGr where
  ms : List Mod
  cs : List Cbl
  ok : ∀ m ∈ ms, OkM m
  r : isRackF ms cs = true
noncomputable def ct_OrderOf : Ct := fam true (fun x : AGr => ([.agg [.im (.sl 11 (rowsM x.ms)), .im (.sl 2 (rowsC x.cs))]], [])) (fun x => oOrder (orderF x.ms x.cs))
theorem run_OrderOf {ms : List Mod} {cs : List Cbl} (h5 : ∀ m ∈ ms, OkM m) (r : isRackF ms cs = true) : ct_OrderOf.run [.agg [.im (.sl 11 (rowsM ms)), .im (.sl 2 (rowsC cs))]] [] = some (oOrder (orderF ms cs)) := by
  refine fam_run' (args := fun x : AGr => ([D.agg [.im (.sl 11 (rowsM x.ms)), .im (.sl 2 (rowsC x.cs))]], [])) ?_ ⟨ms, cs, h5, r⟩
  rintro ⟨a, b, _, _⟩ ⟨a', b', _, _⟩ h
  simp [rowsM_eq, rowsC_eq] at h ⊢
  exact h
set_option maxRecDepth 100000 in
set_option maxHeartbeats 4000000 in
theorem law_OrderOf : Law Tryz.prog 22 ct_OrderOf := by
  refine fam_law (Env_cons law_IsRack (Env_cons law_order Env_nil)) hmixA Tryz.func22 rfl rfl (fun ⟨ms, cs, h5, r⟩ => ⟨okO_order _, by simp [Tryz.f22], ?_⟩)
  simp only
  have hsm : sm = 16777216 := rfl
  obtain ⟨p1, p2, pm, pc, po⟩ := isRack_parts.1 r
  obtain ⟨L, hL⟩ := Option.isSome_iff_exists.1 po
  have ro := run_order p1 (show cs.length ≤ sm by omega) (fun c hc => ⟨(pc c hc).1, (pc c hc).2.1⟩)
  rw [hL] at ro ⊢
  simp only [oOrder] at ro ⊢
  try simp -dsimp (maxSteps := 1000000) only [go_sem, List.forall_mem_nil, ↓reduceIte, Nat.reduceEqDiff, Nat.reduceLT, Nat.reduceLeDiff, Nat.reduceAdd, Nat.reduceMul, reduceCtorEq, Tryz.f22, run_IsRack (show ms.length ≤ sm by omega) (show cs.length ≤ sm by omega) h5, r, ro, Bool.not_true]
  exact ⟨[1], by simp, by simp, by simp [rtOk], by simp⟩
structure AFe where
  ms : List Mod
  cs : List Cbl
  i : Nat
  ok : ∀ m ∈ ms, OkM m
  r : isRackF ms cs = true
  hi : i < ms.length
def rFe (cs : List Cbl) (i : Nat) : Res := { val := .tup [.c (.view 0 1 0 (feedsF cs i).length), .c (.im (.bool true))], roots := [.arr 1 (tI (rowsN (feedsF cs i)))] }
theorem okR_fe {sc : Bool} {cs : List Cbl} {i : Nat} : OkR sc (rFe cs i) :=
  ⟨.tup _ (by intro d hd; simp at hd; rcases hd with rfl | rfl; exact .inl ⟨_, rfl, .view _ _ _ _ (by simp [rFe])⟩; exact .inl ⟨_, rfl, okC_sc rfl⟩), by intro r hr; simp [rFe] at hr; subst hr; exact mvR_tI (sc_rowsN _), by simp [rFe]⟩
noncomputable def ct_FeedsOf : Ct := fam true (fun x : AFe => ([.agg [.im (.sl 11 (rowsM x.ms)), .im (.sl 2 (rowsC x.cs))], .c (.im (.int .i64 (x.i : Int)))], [])) (fun x => .one (rFe x.cs x.i))
theorem run_FeedsOf {ms : List Mod} {cs : List Cbl} {i : Nat} (h5 : ∀ m ∈ ms, OkM m) (r : isRackF ms cs = true) (hi : i < ms.length) : ct_FeedsOf.run [.agg [.im (.sl 11 (rowsM ms)), .im (.sl 2 (rowsC cs))], .c (.im (.int .i64 (i : Int)))] [] = some (.one (rFe cs i)) := by
  refine fam_run' (args := fun x : AFe => ([D.agg [.im (.sl 11 (rowsM x.ms)), .im (.sl 2 (rowsC x.cs))], .c (.im (.int .i64 (x.i : Int)))], [])) ?_ ⟨ms, cs, i, h5, r, hi⟩
  rintro ⟨a, b, c, _, _, _⟩ ⟨a', b', c', _, _, _⟩ h
  simp only [Prod.mk.injEq, List.cons.injEq, D.agg.injEq, D.c.injEq, C.im.injEq, I.sl.injEq, I.int.injEq, true_and, and_true, rowsM_eq, rowsC_eq, Int.natCast_inj] at h
  obtain ⟨⟨rfl, rfl⟩, rfl⟩ := h
  rfl
set_option maxRecDepth 100000 in
set_option maxHeartbeats 4000000 in
theorem law_FeedsOf : Law Tryz.prog 25 ct_FeedsOf := by
  refine fam_law (Env_cons law_IsRack (Env_cons law_feeds Env_nil)) hmixA Tryz.func25 rfl rfl (fun ⟨ms, cs, i, h5, r, hi⟩ => ⟨okO okR_fe, by simp [Tryz.f25], ?_⟩)
  simp only [rFe]
  have hsm : sm = 16777216 := rfl
  obtain ⟨p1, p2, pm, pc, po⟩ := isRack_parts.1 r
  have c1 : ((i : Int) < 0) = False := eq_false (by omega)
  have c2 : ((ms.length : Int) ≤ (i : Int)) = False := eq_false (by omega)
  try simp -dsimp (maxSteps := 1000000) only [go_sem, List.forall_mem_nil, ↓reduceIte, Nat.reduceEqDiff, Nat.reduceLT, Nat.reduceLeDiff, Nat.reduceAdd, Nat.reduceMul, reduceCtorEq, Tryz.f25, run_IsRack (show ms.length ≤ sm by omega) (show cs.length ≤ sm by omega) h5, r, c1, c2, run_feeds (show cs.length ≤ sm by omega), rNew, rowsM_len, rowsN_len, Bool.not_true, Bool.or_self]
  exact ⟨[1], by simp, by simp, by simp [rtOk], by simp⟩
end Go.SX
set_option linter.unusedVariables false
set_option linter.unusedSimpArgs false
namespace Go.SX
open Go Go.Proofs
def sameF (cs : List Cbl) (i : Int) (g : List Int) : Bool := decide (feedsF cs (g.getD 0 0) = feedsF cs i)
def rowR (ms : List Mod) (cs : List Cbl) : List I := [.sl 11 (rowsM ms), .sl 2 (rowsC cs)]
def hsI (i : Int) : List (List B) := [[.t (.im (.int .i64 i))]]
theorem hsI_inj {i j : Int} (h : hsI i = hsI j) : i = j := by simpa [hsI] using h
theorem okR_hsI {v : D} {i : Int} (hv : OkD true 0 v) : OkR true { val := v, places := hsI i } := by
  refine ⟨hv, by simp, fun c hc x hx => ?_⟩
  simp only [hsI, List.mem_cons, List.not_mem_nil, or_false] at hc
  subst hc
  simp only [List.mem_cons, List.not_mem_nil, or_false] at hx
  subst hx
  exact .t _ (.im _ (.inr rfl))
structure AJk where
  ms : List Mod
  cs : List Cbl
  i : Int
  g : List Int
  cl : cs.length ≤ sm
  gl : g.length ≤ sm
  gp : 1 ≤ g.length
noncomputable def ct_jk1 : Ct := fam true (fun x : AJk => ([.c (.im (.sl 1 (rowsN x.g))), .c (.iptr (rowR x.ms x.cs) 0), .c (.ptr 0 0 0 0)], hsI x.i)) (fun x => .one { val := .c (.im (.bool (sameF x.cs x.i x.g))), places := hsI x.i })
theorem run_jk1 {ms : List Mod} {cs : List Cbl} {i : Int} {g : List Int} (h1 : cs.length ≤ sm) (h2 : g.length ≤ sm) (h3 : 1 ≤ g.length) : ct_jk1.run [.c (.im (.sl 1 (rowsN g))), .c (.iptr [.sl 11 (rowsM ms), .sl 2 (rowsC cs)] 0), .c (.ptr 0 0 0 0)] [[.t (.im (.int .i64 i))]] = some (.one { val := .c (.im (.bool (sameF cs i g))), places := hsI i }) := by
  refine fam_run' (args := fun x : AJk => ([D.c (.im (.sl 1 (rowsN x.g))), .c (.iptr (rowR x.ms x.cs) 0), .c (.ptr 0 0 0 0)], hsI x.i)) ?_ ⟨ms, cs, i, g, h1, h2, h3⟩
  rintro ⟨a, b, c, d, _, _, _⟩ ⟨a', b', c', d', _, _, _⟩ h
  simp only [rowR, Prod.mk.injEq, List.cons.injEq, D.c.injEq, C.im.injEq, C.iptr.injEq, I.sl.injEq, true_and, and_true, rowsM_eq, rowsC_eq, rowsN_eq] at h
  obtain ⟨⟨rfl, rfl, rfl⟩, h⟩ := h
  have := hsI_inj h
  subst this; rfl
set_option maxRecDepth 100000 in
set_option maxHeartbeats 4000000 in
theorem law_jk1 : Law Tryz.prog 53 ct_jk1 := by
  refine fam_law (Env_cons law_feeds (Env_cons law_Equal_int Env_nil)) hmixA Tryz.func53 rfl rfl (fun ⟨ms, cs, i, g, h1, h2, h3⟩ => ⟨okO (okR_hsI (okD_im rfl)), by simp [Tryz.f53], ?_⟩)
  simp only [rowR, hsI, sameF]
  have hsm : sm = 16777216 := rfl
  obtain ⟨p, tl, rfl⟩ : ∃ p tl, g = p :: tl := by
    cases g with
    | nil => simp at h3
    | cons p tl => exact ⟨p, tl, rfl⟩
  have hrow : (rowsN (p :: tl))[0]? = some [.int .i64 p] := rfl
  have hl1 : ((0 : Int) < ((p :: tl).length : Int)) = True := eq_true (by omega)
  have f1 := feeds_le cs p
  have f2 := feeds_le cs i
  have tk : ∀ l : List Int, List.take l.length (tI (rowsN l)) = tI (rowsN l) := fun l => List.take_of_length_le (by rw [tI_len, rowsN_len]; omega)
  have re := run_Equal_int (a := feedsF cs p) (b := feedsF cs i) (by omega) (by omega)
  try simp -dsimp (maxSteps := 1000000) only [go_sem, List.forall_mem_nil, ↓reduceIte, Nat.reduceEqDiff, Nat.reduceLT, Nat.reduceLeDiff, Nat.reduceAdd, Nat.reduceMul, reduceCtorEq, Tryz.f53, rowsN_len, hrow, hl1, run_feeds h1, rNew, tk, tI_toI, tI_len, sc_Equal_int, re, Int.toNat_zero]
  repeat' (first
    | ((with_reducible refine sl_i ?_ ?_); focus kernel_rfl)
    | ((with_reducible refine ro_e ?_); kernel_rfl))
def rowsG (gs : List (List Int)) : List (List I) := gs.map fun g => [.sl 1 (rowsN g)]
theorem rowsG_len (gs : List (List Int)) : (rowsG gs).length = gs.length := by simp [rowsG]
theorem rowsG_at {gs : List (List Int)} {k : Nat} {g : List Int} (h : gs[k]? = some g) : (rowsG gs)[k]? = some [.sl 1 (rowsN g)] := by simp [rowsG, h]
theorem rowsG_inj {a b : List (List Int)} (h : rowsG a = rowsG b) : a = b := by
  induction a generalizing b with
  | nil => cases b with
    | nil => rfl
    | cons y b => simp [rowsG] at h
  | cons x a ih => cases b with
    | nil => simp [rowsG] at h
    | cons y b =>
      simp only [rowsG, List.map_cons, List.cons.injEq, I.sl.injEq, true_and, and_true, rowsN_eq] at h
      rw [h.1, ih h.2]
structure AIg where
  ms : List Mod
  cs : List Cbl
  i : Int
  gs : List (List Int)
  cl : cs.length ≤ sm
  gl : gs.length ≤ sm
  gg : ∀ g ∈ gs, 1 ≤ g.length ∧ g.length ≤ sm
noncomputable def ct_IndexFuncS : Ct := fam true (fun x : AIg => ([.c (.im (.sl 1 (rowsG x.gs))), .c (.fn (.func 53) [.iptr (rowR x.ms x.cs) 0, .ptr 0 0 0 0])], hsI x.i)) (fun x => .one { val := .c (.im (.int .i64 (idxF (sameF x.cs x.i) x.gs 0))), places := hsI x.i })
theorem run_IndexFuncS {ms : List Mod} {cs : List Cbl} {i : Int} {gs : List (List Int)} (h1 : cs.length ≤ sm) (h2 : gs.length ≤ sm) (h3 : ∀ g ∈ gs, 1 ≤ g.length ∧ g.length ≤ sm) : ct_IndexFuncS.run [.c (.im (.sl 1 (rowsG gs))), .c (.fn (.func 53) [.iptr [.sl 11 (rowsM ms), .sl 2 (rowsC cs)] 0, .ptr 0 0 0 0])] [[.t (.im (.int .i64 i))]] = some (.one { val := .c (.im (.int .i64 (idxF (sameF cs i) gs 0))), places := hsI i }) := by
  refine fam_run' (args := fun x : AIg => ([D.c (.im (.sl 1 (rowsG x.gs))), .c (.fn (.func 53) [.iptr (rowR x.ms x.cs) 0, .ptr 0 0 0 0])], hsI x.i)) ?_ ⟨ms, cs, i, gs, h1, h2, h3⟩
  rintro ⟨a, b, c, d, _, _, _⟩ ⟨a', b', c', d', _, _, _⟩ h
  simp only [rowR, Prod.mk.injEq, List.cons.injEq, D.c.injEq, C.im.injEq, C.fn.injEq, C.iptr.injEq, I.sl.injEq, true_and, and_true, rowsM_eq, rowsC_eq] at h
  obtain ⟨⟨h1, rfl, rfl⟩, h⟩ := h
  have e1 := rowsG_inj h1
  have e2 := hsI_inj h
  subst e1 e2; rfl
theorem sc_IndexFuncS : (ct_IndexFuncS.sc = true) = True := by simp [ct_IndexFuncS, fam]
set_option maxRecDepth 100000 in
set_option maxHeartbeats 4000000 in
theorem law_IndexFuncS : Law Tryz.prog 52 ct_IndexFuncS := by
  refine fam_law (Env_cons law_jk1 Env_nil) hmixA Tryz.func52 rfl rfl (fun ⟨ms, cs, i, gs, h1, h2, h3⟩ => ⟨okO (okR_hsI (okD_im rfl)), by simp [Tryz.f52], ?_⟩)
  simp only [hsI, rowR]
  try simp -dsimp (maxSteps := 1000000) only [go_sem, List.forall_mem_nil, ↓reduceIte, Nat.reduceEqDiff, Nat.reduceLT, Nat.reduceLeDiff, Nat.reduceAdd, Nat.reduceMul, reduceCtorEq, Tryz.f52, rowsG_len]
  refine loop_i (ι := { k : Nat // k ≤ gs.length ∧ idxF (sameF cs i) gs 0 = idxF (sameF cs i) (gs.drop k) k }) (fun k => ⟨[(0, some (.c (.im (.sl 1 (rowsG gs))))), (1, some (.c (.fn (.func 53) [.iptr [.sl 11 (rowsM ms), .sl 2 (rowsC cs)] 0, .ptr 0 0 0 0]))), (7, some (.c (.im (.int .i64 (gs.length : Int))))), (8, some (.c (.im (.int .i64 (k.1 : Int)))))],
    [(0, some (.box [.t (.im (.int .i64 i))]))], 1⟩) (fun k => gs.length - k.1) ⟨0, by simp⟩ ⟨[], [], by ((simp only [go_sem, eq_self, MvRb, MvRn, MvRt, List.nodup_cons, List.nodup_nil, ↓reduceIte, Nat.reduceEqDiff, Nat.reduceLT, Nat.reduceLeDiff, reduceCtorEq, List.forall_mem_nil, Nat.zero_le, false_implies, List.mem_singleton]) <;> (try (simp -dsimp only [go_sem, eq_self, MvRb, MvRn, MvRt, List.nodup_cons, List.nodup_nil, ↓reduceIte, Nat.reduceEqDiff, Nat.reduceLT, Nat.reduceLeDiff, reduceCtorEq, List.forall_mem_nil, Nat.zero_le, false_implies, List.mem_singleton]))) <;> simp⟩ (fun ⟨k, hk, hinv⟩ => ?_)
  simp only
  by_cases hlt : k < gs.length
  · obtain ⟨g, hp⟩ : ∃ p, gs[k]? = some p := ⟨_, List.getElem?_eq_getElem hlt⟩
    have hrow := rowsG_at hp
    have hI : ((k : Int) < (gs.length : Int)) = True := by simp; omega
    have h0 : (0 ≤ (k : Int)) = True := by simp
    have hidx := idxF_drop (f := sameF cs i) hp
    have hwr := lt_sm h2 hlt
    obtain ⟨g1, g2⟩ := h3 g (List.mem_of_getElem? hp)
    have rj := run_jk1 (ms := ms) (i := i) h1 g2 g1
    cases hq : sameF cs i g with
    | true =>
      rw [hq] at rj
      simp only [hq, if_true] at hidx
      rw [hidx] at hinv
      clear hidx
      try simp -dsimp (maxSteps := 1000000) only [go_sem, List.forall_mem_nil, ↓reduceIte, Nat.reduceEqDiff, Nat.reduceLT, Nat.reduceLeDiff, Nat.reduceAdd, Nat.reduceMul, reduceCtorEq, Tryz.f52, hI, h0, Int.toNat_natCast, hrow, rj, hinv, hsI, rowsG_len]
    | false =>
      rw [hq] at rj
      simp only [hq, if_false, Bool.false_eq_true] at hidx
      rw [hidx] at hinv
      clear hidx
      try simp -dsimp (maxSteps := 1000000) only [go_sem, List.forall_mem_nil, ↓reduceIte, Nat.reduceEqDiff, Nat.reduceLT, Nat.reduceLeDiff, Nat.reduceAdd, Nat.reduceMul, reduceCtorEq, Tryz.f52, hI, h0, Int.toNat_natCast, hrow, rj, hwr, hsI, rowsG_len]
      exact ⟨⟨k + 1, by omega, hinv⟩, by simp only []; omega, [], [], by (simp only [go_sem, eq_self, MvRb, MvRn, MvRt, List.nodup_cons, List.nodup_nil, ↓reduceIte, Nat.reduceEqDiff, Nat.reduceLT, Nat.reduceLeDiff, reduceCtorEq, List.forall_mem_nil, Nat.zero_le, false_implies, List.mem_singleton]) <;> simp⟩
  · have hI : ((k : Int) < (gs.length : Int)) = False := by simp; omega
    have hkl : k = gs.length := by omega
    subst hkl
    rw [List.drop_length] at hinv
    try simp -dsimp (maxSteps := 1000000) only [go_sem, List.forall_mem_nil, ↓reduceIte, Nat.reduceEqDiff, Nat.reduceLT, Nat.reduceLeDiff, Nat.reduceAdd, Nat.reduceMul, reduceCtorEq, Tryz.f52, hI, hinv, idxF, rowsG_len]
theorem idxF_from {α : Type} {f : α → Bool} : ∀ (l : List α) (j : Nat), 0 ≤ idxF f l j → ∃ k g, idxF f l j = ((j + k : Nat) : Int) ∧ l[k]? = some g ∧ f g = true
  | [], j, h => by simp [idxF] at h
  | a :: l, j, h => by
    simp only [idxF] at h ⊢
    by_cases ha : f a = true
    · rw [if_pos ha]; exact ⟨0, a, by simp, rfl, ha⟩
    · rw [if_neg ha] at h ⊢
      obtain ⟨k, g, h1, h2, h3⟩ := idxF_from l (j + 1) h
      exact ⟨k + 1, g, by rw [h1]; congr 1; omega, by simpa using h2, h3⟩
theorem idxF_spec {α : Type} {f : α → Bool} {l : List α} (h : 0 ≤ idxF f l 0) : ∃ (k : Nat) (g : α), idxF f l 0 = (k : Int) ∧ l[k]? = some g ∧ f g = true := by
  obtain ⟨k, g, h1, h2, h3⟩ := idxF_from l 0 h
  exact ⟨k, g, by simpa using h1, h2, h3⟩
def tG (gs : List (List Int)) : List (List T) := gs.map fun g => [.own 1 (tI (rowsN g))]
theorem tG_len (gs : List (List Int)) : (tG gs).length = gs.length := by simp [tG]
theorem tG_toI (ex : List Nat) (H : Nat → Option Root) (gs : List (List Int)) (k : Nat) : mapO (mapO (toI ex H (k + 1))) (tG gs) = some (rowsG gs) := by
  induction gs with
  | nil => rfl
  | cons g gs ih =>
    have e : tG (g :: gs) = [.own 1 (tI (rowsN g))] :: tG gs := rfl
    have e2 : rowsG (g :: gs) = [.sl 1 (rowsN g)] :: rowsG gs := rfl
    rw [e, e2]
    simp only [mapO, ih]
    simp only [mapO, toI, tI_toI]
theorem mvR_tG {sc : Bool} {sz : Nat} (gs : List (List Int)) : MvR sc (.arr sz (tG gs)) := by
  intro r hr t ht
  simp only [tG, List.mem_map] at hr
  obtain ⟨g, _, rfl⟩ := hr
  simp only [List.mem_singleton] at ht
  subst ht
  exact mv_own (sc_rowsN _)
theorem MvR_G (gs : List (List Int)) : MvR false (.arr 1 (tG gs)) = True := eq_true (mvR_tG _)
structure Jk (cs : List Cbl) (n : Nat) (gs : List (List Int)) (i : Nat) : Prop where
  le : gs.length ≤ i
  gr : ∀ g ∈ gs, 1 ≤ g.length ∧ g.length ≤ i ∧ ∀ m ∈ g, 0 ≤ m ∧ m < n ∧ feedsF cs m = feedsF cs (g.getD 0 0)
  sum : (gs.map List.length).sum = i
theorem Jk.nil {cs : List Cbl} {n : Nat} : Jk cs n [] 0 := ⟨by simp, by simp, by simp⟩
theorem Jk.new {cs : List Cbl} {n : Nat} {gs : List (List Int)} {i : Nat} (h : Jk cs n gs i) (hi : i < n) : Jk cs n (gs ++ [[(i : Int)]]) (i + 1) := by
  refine ⟨by have := h.le; simp; omega, fun g hg => ?_, by simp [h.sum]⟩
  rcases List.mem_append.1 hg with hg | hg
  · obtain ⟨h1, h2, h3⟩ := h.gr g hg
    exact ⟨h1, by omega, h3⟩
  · simp only [List.mem_singleton] at hg
    subst hg
    refine ⟨by simp, by simp, fun m hm => ?_⟩
    simp only [List.mem_singleton] at hm
    subst hm
    exact ⟨by omega, by omega, rfl⟩
theorem sum_set : ∀ (l : List Nat) (k : Nat) (x : Nat), l[k]? = some x → (l.set k (x + 1)).sum = l.sum + 1
  | [], k, x, h => by simp at h
  | a :: l, 0, x, h => by simp at h; subst h; simp; omega
  | a :: l, k + 1, x, h => by
    have := sum_set l k x (by simpa using h)
    simp only [List.set_cons_succ, List.sum_cons, this]; omega
theorem Jk.more {cs : List Cbl} {n : Nat} {gs : List (List Int)} {i k : Nat} {g : List Int} (h : Jk cs n gs i) (hi : i < n) (hk : gs[k]? = some g) (hs : sameF cs (i : Int) g = true) : Jk cs n (gs.set k (g ++ [(i : Int)])) (i + 1) := by
  obtain ⟨g1, g2, g3⟩ := h.gr g (List.mem_of_getElem? hk)
  refine ⟨by have := h.le; simp; omega, fun g' hg => ?_, ?_⟩
  · rcases List.mem_or_eq_of_mem_set hg with hg | rfl
    · obtain ⟨h1, h2, h3⟩ := h.gr g' hg
      exact ⟨h1, by omega, h3⟩
    · have e0 : (g ++ [(i : Int)]).getD 0 0 = g.getD 0 0 := by
        cases g with
        | nil => simp at g1
        | cons a g => rfl
      refine ⟨by simp, by simp; omega, fun m hm => ?_⟩
      rw [e0]
      rcases List.mem_append.1 hm with hm | hm
      · exact g3 m hm
      · simp only [List.mem_singleton] at hm
        subst hm
        refine ⟨by omega, by omega, ?_⟩
        simp only [sameF, decide_eq_true_eq] at hs
        exact hs.symm
  · have : (gs.set k (g ++ [(i : Int)])).map List.length = (gs.map List.length).set k (g.length + 1) := by rw [List.map_set]; simp
    rw [this, sum_set _ _ _ (by rw [List.getElem?_map, hk]; rfl), h.sum]
def oJk (cs : List Cbl) (n : Nat) : Outs := .any { gs : List (List Int) // Jk cs n gs n } (fun q => { val := .c (.view 0 1 0 q.1.length), roots := [.arr 1 (tG q.1)] })
theorem okR_jk {sc : Bool} {gs : List (List Int)} : OkR sc { val := .c (.view 0 1 0 gs.length), roots := [.arr 1 (tG gs)] } := by
  refine ⟨.c _ (.view _ _ _ _ (by simp)), fun r hr => ?_, by simp⟩
  simp only [List.mem_singleton] at hr
  subst hr
  exact mvR_tG _
theorem jk_ex (cs : List Cbl) (n : Nat) : ∀ i, i ≤ n → ∃ gs, Jk cs n gs i
  | 0, _ => ⟨[], Jk.nil⟩
  | i + 1, h => by
    obtain ⟨gs, hg⟩ := jk_ex cs n i (by omega)
    exact ⟨_, hg.new (by omega)⟩
theorem ne_jk (cs : List Cbl) (n : Nat) : Nonempty { gs : List (List Int) // Jk cs n gs n } = True := by
  simp only [eq_iff_iff, iff_true]
  obtain ⟨gs, h⟩ := jk_ex cs n n (Nat.le_refl _)
  exact ⟨⟨gs, h⟩⟩
noncomputable def ct_JacksOf : Ct := fam true (fun x : AGr => ([.agg [.im (.sl 11 (rowsM x.ms)), .im (.sl 2 (rowsC x.cs))]], [])) (fun x => oJk x.cs x.ms.length)
theorem run_JacksOf {ms : List Mod} {cs : List Cbl} (h5 : ∀ m ∈ ms, OkM m) (r : isRackF ms cs = true) : ct_JacksOf.run [.agg [.im (.sl 11 (rowsM ms)), .im (.sl 2 (rowsC cs))]] [] = some (oJk cs ms.length) := by
  refine fam_run' (args := fun x : AGr => ([D.agg [.im (.sl 11 (rowsM x.ms)), .im (.sl 2 (rowsC x.cs))]], [])) ?_ ⟨ms, cs, h5, r⟩
  rintro ⟨a, b, _, _⟩ ⟨a', b', _, _⟩ h
  simp [rowsM_eq, rowsC_eq] at h ⊢
  exact h
set_option maxRecDepth 100000 in
set_option maxHeartbeats 16000000 in
theorem law_JacksOf : Law Tryz.prog 24 ct_JacksOf := by
  refine fam_law (Env_cons law_IsRack (Env_cons law_IndexFuncS Env_nil)) hmixA Tryz.func24 rfl rfl (fun ⟨ms, cs, h5, r⟩ => ⟨okA (fun o => okR_jk), by simp [Tryz.f24], ?_⟩)
  simp only [oJk]
  have hsm : sm = 16777216 := rfl
  obtain ⟨p1, p2, pm, pc, po⟩ := isRack_parts.1 r
  have h1 : ms.length ≤ sm := by omega
  have h2 : cs.length ≤ sm := by omega
  try simp -dsimp (maxSteps := 1000000) only [go_sem, List.forall_mem_nil, ↓reduceIte, Nat.reduceEqDiff, Nat.reduceLT, Nat.reduceLeDiff, Nat.reduceAdd, Nat.reduceMul, reduceCtorEq, Tryz.f24, run_IsRack h1 h2 h5, r, rowsM_len, Bool.not_true]
  refine loop_i (ι := { x : List (List Int) × Nat // x.2 ≤ ms.length ∧ Jk cs ms.length x.1 x.2 }) (fun x => ⟨[(1, some (.c (.iptr [.sl 11 (rowsM ms), .sl 2 (rowsC cs)] 0))), (3, some (.c (.view 0 1 0 x.1.1.length))), (12, some (.c (.im (.int .i64 (ms.length : Int))))), (13, some (.c (.im (.int .i64 (x.1.2 : Int)))))],
    [(0, some (.arr 1 (tG x.1.1)))], 1⟩) (fun x => ms.length - x.1.2) ⟨([], 0), by simp, Jk.nil⟩ ⟨[.frzB 0 [1]], [1], by ((simp only [go_sem, eq_self, MvRb, MvRn, MvRt, List.nodup_cons, List.nodup_nil, ↓reduceIte, Nat.reduceEqDiff, Nat.reduceLT, Nat.reduceLeDiff, reduceCtorEq, List.forall_mem_nil, Nat.zero_le, false_implies, List.mem_singleton, mapO, MvR_G]) <;> (try (simp -dsimp only [go_sem, eq_self, MvRb, MvRn, MvRt, List.nodup_cons, List.nodup_nil, ↓reduceIte, Nat.reduceEqDiff, Nat.reduceLT, Nat.reduceLeDiff, reduceCtorEq, List.forall_mem_nil, Nat.zero_le, false_implies, List.mem_singleton, mapO, MvR_G]))) <;> simp [lk, MvB_im, tG, MvRt]⟩ (fun ⟨⟨gs, i⟩, hi, hJ⟩ => ?_)
  simp only at hi hJ ⊢
  by_cases hlt : i < ms.length
  case neg =>
    have hI : ((i : Int) < (ms.length : Int)) = False := eq_false (by omega)
    obtain rfl : i = ms.length := by omega
    try simp -dsimp (maxSteps := 1000000) only [go_sem, List.forall_mem_nil, ↓reduceIte, Nat.reduceEqDiff, Nat.reduceLT, Nat.reduceLeDiff, Nat.reduceAdd, Nat.reduceMul, reduceCtorEq, Tryz.f24, hI]
    exact ⟨⟨gs, hJ⟩, [0], by simp, by simp, by simp [rtOk], by simp⟩
  have hI : ((i : Int) < (ms.length : Int)) = True := eq_true (by omega)
  have hwr : IntKind.i64.wrap ((i : Int) + 1) = ((i + 1 : Nat) : Int) := by rw [wrap_id (by omega) (by omega)]; omega
  have hle := hJ.le
  have tk : List.take gs.length (tG gs) = tG gs := List.take_of_length_le (by rw [tG_len]; omega)
  have rx := run_IndexFuncS (ms := ms) (cs := cs) (i := (i : Int)) (gs := gs) h2 (by omega) (fun g hg => ⟨(hJ.gr g hg).1, by have := (hJ.gr g hg).2.1; omega⟩)
  by_cases hneg : idxF (sameF cs (i : Int)) gs 0 < 0
  · have hn := eq_true hneg
    have hby : ((gs.length + 1) * 24 ≤ 140737488355328) = True := eq_true (by omega)
    have hg : ∀ r, (tG gs ++ [r])[gs.length]? = some r := fun r => by rw [List.getElem?_append_right (by rw [tG_len]; omega), tG_len, Nat.sub_self]; rfl
    have hs : ∀ r x, (tG gs ++ [r]).set gs.length x = tG gs ++ [x] := fun r x => by rw [List.set_append_right _ _ (by rw [tG_len]; omega), tG_len, Nat.sub_self]; rfl
    have hfin : tG gs ++ [[T.own 1 [[T.im (.int .i64 (i : Int))]]]] = tG (gs ++ [[(i : Int)]]) := by simp [tG, tI, rowsN]
    try simp -dsimp (maxSteps := 1000000) only [go_sem, List.forall_mem_nil, ↓reduceIte, Nat.reduceEqDiff, Nat.reduceLT, Nat.reduceLeDiff, Nat.reduceAdd, Nat.reduceMul, reduceCtorEq, Tryz.f24, hI, hwr, tk, tG_toI, tG_len, sc_IndexFuncS, rx, hsI, hn, hby, appendH, srcRows, List.take_succ_cons, List.take_zero, List.all_cons, List.all_nil, okT, Bool.and_true, List.length_append, Int.toNat_natCast]
    refine ⟨⟨(gs ++ [[(i : Int)]], i + 1), by simp only []; omega, hJ.new hlt⟩, by simp only []; omega, [.fold 4 gs.length 0], [4], ?_⟩
    (simp only [go_sem, eq_self, MvRb, MvRn, MvRt, List.nodup_cons, List.nodup_nil, ↓reduceIte, Nat.reduceEqDiff, Nat.reduceLT, Nat.reduceLeDiff, reduceCtorEq, List.forall_mem_nil, Nat.zero_le, false_implies, List.mem_singleton, Option.map_some, hg, hs, hfin, MvR_G, List.length_append, tG_len])
    all_goals simp [lk, MvB_im]
  · have hn := eq_false hneg
    obtain ⟨k, g, hk, hgk, hsm2⟩ := idxF_spec (f := sameF cs (i : Int)) (l := gs) (by omega)
    rw [hk] at rx hn
    have hkl : k < gs.length := (List.getElem?_eq_some_iff.1 hgk).1
    have b0 : (0 ≤ (k : Int)) = True := eq_true (by omega)
    have b1 : ((k : Int) < (gs.length : Int)) = True := eq_true (by omega)
    have hg : (tG gs)[k]? = some [T.own 1 (tI (rowsN g))] := by simp [tG, hgk]
    have hgs : ∀ x, ((tG gs).set k x)[k]? = some x := fun x => List.getElem?_set_self (by rw [tG_len]; exact hkl)
    have hss : ∀ x y, ((tG gs).set k x).set k y = (tG gs).set k y := fun x y => by rw [List.set_set]
    have hfin : (tG gs).set k [T.own 1 (tI (rowsN (g ++ [(i : Int)])))] = tG (gs.set k (g ++ [(i : Int)])) := by simp [tG, List.map_set]
    have hgl := (hJ.gr g (List.mem_of_getElem? hgk)).2.1
    have hby : ((g.length + 1) * 8 ≤ 140737488355328) = True := eq_true (by omega)
    try simp -dsimp (maxSteps := 1000000) only [go_sem, List.forall_mem_nil, ↓reduceIte, Nat.reduceEqDiff, Nat.reduceLT, Nat.reduceLeDiff, Nat.reduceAdd, Nat.reduceMul, reduceCtorEq, Tryz.f24, hI, hwr, tk, tG_toI, tG_len, sc_IndexFuncS, rx, hsI, hn, b0, b1, hg, hgs, hss, hby, tI_len, rowsN_len, tIN_app, appendH, srcRows, List.take_succ_cons, List.take_zero, List.all_cons, List.all_nil, okT, Bool.and_true, List.length_append, List.length_set, Int.toNat_natCast]
    repeat' (first
      | ((with_reducible refine sl_i ?_ ?_); focus kernel_rfl)
      | ((with_reducible refine ro_i ?_ ?_); focus kernel_rfl))
    refine ⟨⟨(gs.set k (g ++ [(i : Int)]), i + 1), by simp only []; omega, hJ.more hlt hgk hsm2⟩, by simp only []; omega, [.fold 0 k 0], [0], ?_⟩
    (simp only [go_sem, eq_self, MvRb, MvRn, MvRt, List.nodup_cons, List.nodup_nil, ↓reduceIte, Nat.reduceEqDiff, Nat.reduceLT, Nat.reduceLeDiff, reduceCtorEq, List.forall_mem_nil, Nat.zero_le, false_implies, List.mem_singleton, Option.map_some, hgs, hss, hfin, MvR_G, List.length_append, List.length_set, tG_len, tI_len, rowsN_len])
    all_goals simp [lk, MvB_im]
end Go.SX
set_option linter.unusedVariables false
set_option linter.unusedSimpArgs false
namespace Go.SX
open Go Go.Proofs
structure Rc (cs : List Cbl) (n : Nat) (i : Int) (out row : List Int) : Prop where
  nd : out.Nodup
  rg : ∀ x ∈ out, 0 ≤ x ∧ x < (n : Int)
  rw : ∀ x ∈ row, x = i ∨ x ∈ out
  fd : ∀ k ∈ out, ∃ c ∈ cs, c.2 = k ∧ (c.1 = i ∨ c.1 ∈ out)
def Cl (cs : List Cbl) (i : Int) (out row : List Int) : Prop := ∀ p, (p = i ∨ p ∈ out) → p ∈ row ∨ ∀ c ∈ cs, c.1 = p → c.2 ∈ out
theorem Rc.start {cs : List Cbl} {n : Nat} {i : Int} : Rc cs n i [] [i] := ⟨by simp, by simp, fun x hx => by simp at hx; exact .inl hx, by simp⟩
theorem Cl.start {cs : List Cbl} {i : Int} : Cl cs i [] [i] := fun p hp => by
  rcases hp with rfl | hp
  · exact .inl (by simp)
  · cases hp
theorem Rc.len {cs : List Cbl} {n : Nat} {i : Int} {out row : List Int} (h : Rc cs n i out row) : out.length ≤ n := pigeon n out h.nd h.rg
theorem Rc.add {cs : List Cbl} {n : Nat} {i : Int} {out row : List Int} {c : Cbl} (h : Rc cs n i out row) (hc : c ∈ cs) (hr : 0 ≤ c.2 ∧ c.2 < (n : Int)) (hf : c.1 = i ∨ c.1 ∈ out) (hn : c.2 ∉ out) : Rc cs n i (out ++ [c.2]) (row ++ [c.2]) := by
  refine ⟨?_, fun x hx => ?_, fun x hx => ?_, fun k hk => ?_⟩
  · rw [List.nodup_append]
    exact ⟨h.nd, by simp, fun a ha b hb => by simp at hb; subst hb; intro e; subst e; exact hn ha⟩
  · rcases List.mem_append.1 hx with hx | hx
    · exact h.rg x hx
    · simp at hx; subst hx; exact hr
  · rcases List.mem_append.1 hx with hx | hx
    · rcases h.rw x hx with e | e
      · exact .inl e
      · exact .inr (List.mem_append_left _ e)
    · exact .inr (List.mem_append_right _ hx)
  · rcases List.mem_append.1 hk with hk | hk
    · obtain ⟨d, h1, h2, h3⟩ := h.fd k hk
      exact ⟨d, h1, h2, h3.imp id (List.mem_append_left _)⟩
    · simp at hk; subst hk
      exact ⟨c, hc, rfl, hf.imp id (List.mem_append_left _)⟩
theorem Cl.add {cs : List Cbl} {i : Int} {out row : List Int} {k : Int} (h : Cl cs i out row) : Cl cs i (out ++ [k]) (row ++ [k]) := fun p hp => by
  rcases hp with hp | hp
  · rcases h p (.inl hp) with e | e
    · exact .inl (List.mem_append_left _ e)
    · exact .inr fun c hc h1 => List.mem_append_left _ (e c hc h1)
  · rcases List.mem_append.1 hp with hp | hp
    · rcases h p (.inr hp) with e | e
      · exact .inl (List.mem_append_left _ e)
      · exact .inr fun c hc h1 => List.mem_append_left _ (e c hc h1)
    · exact .inl (List.mem_append_right _ hp)
theorem Cl.tail {cs : List Cbl} {i x : Int} {out row : List Int} (h : Cl cs i out (x :: row)) (hx : ∀ c ∈ cs, c.1 = x → c.2 ∈ out) : Cl cs i out row := fun p hp => by
  rcases h p hp with e | e
  · rcases List.mem_cons.1 e with rfl | e
    · exact .inr hx
    · exact .inl e
  · exact .inr e
theorem Rc.tail {cs : List Cbl} {n : Nat} {i x : Int} {out row : List Int} (h : Rc cs n i out (x :: row)) : Rc cs n i out row := ⟨h.nd, h.rg, fun y hy => h.rw y (.tail _ hy), h.fd⟩
structure Rch (cs : List Cbl) (n : Nat) (i : Int) (L : List Int) : Prop where
  len : L.length ≤ n
  rg : ∀ x ∈ L, 0 ≤ x ∧ x < (n : Int)
  cl : ∀ c ∈ cs, (c.1 = i ∨ c.1 ∈ L) → c.2 ∈ L
  fd : ∀ k ∈ L, ∃ c ∈ cs, c.2 = k ∧ (c.1 = i ∨ c.1 ∈ L)
theorem srtZ_mem {l : List Int} {x : Int} : x ∈ srtZ l ↔ x ∈ l := by
  simp only [srtZ, List.mem_mergeSort]
theorem Rch.of {cs : List Cbl} {n : Nat} {i : Int} {out : List Int} (h : Rc cs n i out []) (hc : Cl cs i out []) : Rch cs n i (srtZ out) := by
  refine ⟨by rw [srtZ_len]; exact h.len, fun x hx => h.rg x (srtZ_mem.1 hx), fun c hcs hp => ?_, fun k hk => ?_⟩
  · rw [srtZ_mem] at hp ⊢
    rcases hc c.1 hp with e | e
    · cases e
    · exact e c hcs rfl
  · obtain ⟨d, h1, h2, h3⟩ := h.fd k (srtZ_mem.1 hk)
    exact ⟨d, h1, h2, h3.imp id srtZ_mem.2⟩
theorem srtR_N (l : List Int) : srtR (tI (rowsN l)) = some (tI (rowsN (srtZ l))) := by
  have : intsT (tI (rowsN l)) = some l := by
    have : tI (rowsN l) = l.map fun z => [T.im (.int .i64 z)] := by simp [tI, rowsN]
    rw [intsT, this]
    exact mapO_im (f := intT) (k := fun z => [T.im (.int .i64 z)]) (fun z => rfl) l
  simp only [srtR, this]
  simp [tI, rowsN]
end Go.SX
