/-
  stepRack.
  No condition.
-/
import Derived.Test.YtbhnlplbfhomcaaRkQ
set_option linter.unusedVariables false
set_option linter.unusedSimpArgs false
namespace Go.SX
open Go Go.Proofs

/-! ### The plain words -/
theorem sweep1_len {o : Or} {cs : List Cbl} {inn : Int} {z : Pt} {i : Int} {s : List Mod × List Pt} : (sweep1 o cs inn z i s).1.length = s.1.length ∧ (sweep1 o cs inn z i s).2.length = s.2.length := by
  simp only [sweep1, List.length_set, true_and]
  split <;> simp
theorem sweep_len {o : Nat → Or} {cs : List Cbl} {inn : Int} {z : Pt} : ∀ (l : List Int) (j : Nat) (s : List Mod × List Pt), (sweep o cs inn z l j s).1.length = s.1.length ∧ (sweep o cs inn z l j s).2.length = s.2.length
  | [], _, _ => ⟨rfl, rfl⟩
  | i :: l, j, s => by
    simp only [sweep]
    have h1 := sweep_len (o := o) (cs := cs) (inn := inn) (z := z) l (j + 1) (sweep1 (o j) cs inn z i s)
    have h2 := sweep1_len (o := o j) (cs := cs) (inn := inn) (z := z) (i := i) (s := s)
    exact ⟨h1.1.trans h2.1, h1.2.trans h2.2⟩
theorem sweep_ok {o : Nat → Or} {cs : List Cbl} {inn : Int} {z : Pt} : ∀ (l : List Int) (j : Nat) (s : List Mod × List Pt), (∀ i ∈ l, 0 ≤ i ∧ i < s.1.length) → (∀ m ∈ s.1, OkS m) → ∀ m ∈ (sweep o cs inn z l j s).1, OkS m
  | [], _, _, _, h => h
  | i :: l, j, s, hl, h => by
    simp only [sweep]
    refine sweep_ok l (j + 1) _ (fun k hk => ?_) (fun m hm => ?_)
    · rw [sweep1_len.1]; exact hl k (.tail _ hk)
    · simp only [sweep1] at hm
      obtain ⟨h0, h1⟩ := hl i (.head _)
      have hi : i.toNat < s.1.length := by omega
      rcases List.mem_or_eq_of_mem_set hm with hm | rfl
      · exact h m hm
      · refine stepF_ok (h _ ?_)
        rw [List.getD_eq_getElem?_getD, List.getElem?_eq_getElem hi]
        exact List.getElem_mem _
theorem sweep_next {o : Nat → Or} {cs : List Cbl} {inn : Int} {z : Pt} {L : List Int} {j : Nat} {s0 : List Mod × List Pt} {i : Int} (h : L[j]? = some i) (q : Or) :
    sweep (fun n => if n = j then q else o n) cs inn z (L.take (j + 1)) 0 s0 = sweep1 q cs inn z i (sweep o cs inn z (L.take j) 0 s0) := by
  have hlt : j < L.length := (List.getElem?_eq_some_iff.1 h).1
  have hl : (L.take j).length = j := by rw [List.length_take]; omega
  rw [take_snoc h, sweep_app, hl]
  simp only [Nat.zero_add, if_true]
  rw [sweep_congr (o' := o) (L.take j) 0 s0 (fun n _ h2 => by rw [hl] at h2; simp; omega)]
def outF (m : Mod) : Pt := if m.kind = 4 then m.store.getD m.rat.toNat (0, 0) else (0, 0)
def outsK (ms : List Mod) (k : Nat) : List Pt := (ms.take k).map outF ++ List.replicate (ms.length - k) (0, 0)
theorem outsK_0 (ms : List Mod) : outsK ms 0 = List.replicate ms.length (0, 0) := by simp [outsK]
theorem outsK_n (ms : List Mod) : outsK ms ms.length = outs0 ms := by simp [outsK, outs0, outF]
theorem outsK_len {ms : List Mod} {k : Nat} (h : k ≤ ms.length) : (outsK ms k).length = ms.length := by simp [outsK]; omega
theorem outsK_set {ms : List Mod} {k : Nat} {m : Mod} (h : ms[k]? = some m) : (outsK ms k).set k (outF m) = outsK ms (k + 1) := by
  have hlt : k < ms.length := (List.getElem?_eq_some_iff.1 h).1
  have e : ms.length - k = (ms.length - (k + 1)) + 1 := by omega
  have hl : ((ms.take k).map outF).length = k := by simp; omega
  rw [outsK, outsK, take_snoc h, e, List.replicate_succ, List.map_append, List.append_assoc]
  rw [List.set_append_right _ _ (by omega), hl, Nat.sub_self]
  rfl
theorem outsK_at {ms : List Mod} {k : Nat} (h : k < ms.length) : (outsK ms k)[k]? = some (0, 0) := by
  have e : ms.length - k = (ms.length - (k + 1)) + 1 := by omega
  have hl : ((ms.take k).map outF).length = k := by simp; omega
  rw [outsK, e, List.replicate_succ, List.getElem?_append_right (by omega), hl, Nat.sub_self]
  rfl
theorem outsK_no {ms : List Mod} {k : Nat} {m : Mod} (h : ms[k]? = some m) (h4 : ¬ m.kind = 4) : outsK ms (k + 1) = outsK ms k := by
  rw [← outsK_set h]
  have : outF m = (0, 0) := by simp [outF, h4]
  rw [this]
  have hlt : k < ms.length := (List.getElem?_eq_some_iff.1 h).1
  exact List.ext_getElem? (fun n => by
    by_cases e : k = n
    · subst e; rw [List.getElem?_set_self (by rw [outsK_len (by omega)]; exact hlt), outsK_at hlt]
    · rw [List.getElem?_set_ne e])
def inSumK (cs : List Cbl) (i inn : Int) (z : Pt) (outs : List Pt) (k : Nat) : Pt := ((feedsF cs i).take k).foldl (fun s f => addPt s (outs.getD f.toNat (0, 0))) (if i = inn then addPt (0, 0) z else (0, 0))
theorem inSumK_s {cs : List Cbl} {i inn : Int} {z : Pt} {outs : List Pt} {k : Nat} {f : Int} (h : (feedsF cs i)[k]? = some f) : inSumK cs i inn z outs (k + 1) = addPt (inSumK cs i inn z outs k) (outs.getD f.toNat (0, 0)) := by
  simp only [inSumK]
  rw [take_snoc h, List.foldl_append]; rfl
theorem inSumK_n {cs : List Cbl} {i inn : Int} {z : Pt} {outs : List Pt} : inSumK cs i inn z outs (feedsF cs i).length = inSum cs i inn z outs := by simp only [inSumK, List.take_length, inSum]
theorem feeds_mem {cs : List Cbl} {i : Int} {n : Nat} (h : ∀ c ∈ cs, 0 ≤ c.1 ∧ c.1 < n) : ∀ f ∈ feedsF cs i, 0 ≤ f ∧ f < n := by
  intro f hf
  simp only [feedsF, List.mem_map, List.mem_filter] at hf
  obtain ⟨c, ⟨hc, _⟩, rfl⟩ := hf
  exact h c hc
theorem modT_inj {a b : Mod} (h : modT a = modT b) : a = b := modB_inj (by have := congrArg (List.map B.t) h; simpa [modT, modB] using this)
theorem tM_inj {a b : List Mod} (h : tM a = tM b) : a = b := by
  induction a generalizing b with
  | nil => cases b with
    | nil => rfl
    | cons y b => simp [tM] at h
  | cons x a ih => cases b with
    | nil => simp [tM] at h
    | cons y b =>
      simp only [tM, List.map_cons, List.cons.injEq] at h
      rw [modT_inj h.1, ih h.2]
theorem tM_at {ms : List Mod} {k : Nat} {m : Mod} (h : ms[k]? = some m) : (tM ms)[k]? = some (modT m) := by simp [tM, h]
theorem tM_set (ms : List Mod) (k : Nat) (m : Mod) : (tM ms).set k (modT m) = tM (ms.set k m) := by simp [tM, List.map_set]
theorem set_self {α : Type} {l : List α} {k : Nat} {a : α} (h : l[k]? = some a) : l.set k a = l := by
  refine List.ext_getElem? (fun n => ?_)
  by_cases e : k = n
  · subst e; rw [List.getElem?_set_self (List.getElem?_eq_some_iff.1 h).1, h]
  · rw [List.getElem?_set_ne e]
theorem tM_toI (ex : List Nat) (H : Nat → Option Root) (ms : List Mod) (k : Nat) : mapO (mapO (toI ex H (k + 1))) (tM ms) = some (rowsM ms) := by
  induction ms with
  | nil => rfl
  | cons m ms ih =>
    have e : tM (m :: ms) = modT m :: tM ms := rfl
    have e2 : rowsM (m :: ms) = modI m :: rowsM ms := rfl
    rw [e, e2]
    simp only [mapO, ih]
    simp only [modT, modI, mapO, toI, tI_toI]
theorem take_M (ms : List Mod) : (tM ms).take ms.length = tM ms := by rw [List.take_of_length_le]; simp [tM_len]

/-! ### The contract -/
structure ASt where
  ms : List Mod
  cs : List Cbl
  inn : Int
  z : Pt
  ml : ms.length ≤ 16
  cl : cs.length ≤ sm
  ok : ∀ m ∈ ms, OkS m
  cr : ∀ c ∈ cs, 0 ≤ c.1 ∧ c.1 < ms.length
def hsS (ms : List Mod) (cs : List Cbl) : List (List B) := [[.t (.own 11 (tM ms)), .t (.own 2 (tI (rowsC cs)))]]
def oRk (ms : List Mod) (cs : List Cbl) (inn : Int) (z : Pt) : Outs := .any (Nat → Or) (fun o => { val := .c (.view 0 1 0 ms.length), roots := [.arr 1 (tI (rowsZ (stepRackF o cs inn z ms).2))], places := hsS (stepRackF o cs inn z ms).1 cs })
noncomputable def ct_stepRack : Ct := fam true (fun x : ASt => ([.c (.ptr 0 0 0 0), .c (.im (.int .i64 x.inn)), .c (.im (.cpx .f32 x.z.1 x.z.2)), .c (.fn (.func 45) [])], hsS x.ms x.cs)) (fun x => oRk x.ms x.cs x.inn x.z)
theorem run_stepRack {ms : List Mod} {cs : List Cbl} (h1 : ms.length ≤ 16) (h2 : cs.length ≤ sm) (h3 : ∀ m ∈ ms, OkS m) (h4 : ∀ c ∈ cs, 0 ≤ c.1 ∧ c.1 < ms.length) (inn : Int) (u v : Nat) :
    ct_stepRack.run [.c (.ptr 0 0 0 0), .c (.im (.int .i64 inn)), .c (.im (.cpx .f32 u v)), .c (.fn (.func 45) [])] (hsS ms cs) = some (oRk ms cs inn (u, v)) := by
  refine fam_run' (args := fun x : ASt => ([D.c (.ptr 0 0 0 0), .c (.im (.int .i64 x.inn)), .c (.im (.cpx .f32 x.z.1 x.z.2)), .c (.fn (.func 45) [])], hsS x.ms x.cs)) ?_ ⟨ms, cs, inn, (u, v), h1, h2, h3, h4⟩
  rintro ⟨ms, cs, i, z, _, _, _, _⟩ ⟨ms', cs', i', z', _, _, _, _⟩ h
  simp only [hsS, Prod.mk.injEq, List.cons.injEq, D.c.injEq, C.im.injEq, I.cpx.injEq, I.int.injEq, B.t.injEq, T.own.injEq, true_and, and_true] at h
  obtain ⟨⟨rfl, hz1, hz2⟩, hm, hc⟩ := h
  have e1 := tM_inj hm
  have e2 := tI_inj hc
  simp only [rowsC_eq] at e2
  subst e1 e2
  have : z = z' := Prod.ext hz1 hz2
  subst this
  rfl
theorem ne_orN : Nonempty (Nat → Or) = True := by simp only [eq_iff_iff, iff_true]; exact ⟨fun _ => ((0, 0), (0, 0))⟩
end Go.SX
