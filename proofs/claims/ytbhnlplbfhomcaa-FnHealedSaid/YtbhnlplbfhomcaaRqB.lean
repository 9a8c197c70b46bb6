/-
  A rack's step where outputs become others (by 'bec'): the plain words.
  No condition.
-/
import Derived.Test.YtbhnlplbfhomcaaRkS
import Derived.Test.YtbhnlplbfhomcaaRqA
set_option linter.unusedVariables false
set_option linter.unusedSimpArgs false
namespace Go.SX
open Go Go.Proofs

def outG (bec : Int → Pt → Pt) (i : Nat) (m : Mod) : Pt := if m.kind = 4 then bec (i : Int) (m.store.getD m.rat.toNat (0, 0)) else (0, 0)
def outsG (bec : Int → Pt → Pt) (ms : List Mod) (k : Nat) : List Pt := (List.range k).map (fun i => outG bec i (ms.getD i dMod)) ++ List.replicate (ms.length - k) (0, 0)
def outs0G (bec : Int → Pt → Pt) (ms : List Mod) : List Pt := outsG bec ms ms.length
theorem outsG_0 (bec : Int → Pt → Pt) (ms : List Mod) : outsG bec ms 0 = List.replicate ms.length (0, 0) := by simp [outsG]
theorem outsG_len {bec : Int → Pt → Pt} {ms : List Mod} {k : Nat} (h : k ≤ ms.length) : (outsG bec ms k).length = ms.length := by simp [outsG]; omega
theorem outsG_set {bec : Int → Pt → Pt} {ms : List Mod} {k : Nat} {m : Mod} (h : ms[k]? = some m) : (outsG bec ms k).set k (outG bec k m) = outsG bec ms (k + 1) := by
  have hlt : k < ms.length := (List.getElem?_eq_some_iff.1 h).1
  have e : ms.length - k = (ms.length - (k + 1)) + 1 := by omega
  have hl : ((List.range k).map (fun i => outG bec i (ms.getD i dMod))).length = k := by simp
  have hm : ms.getD k dMod = m := by rw [List.getD_eq_getElem?_getD, h]; rfl
  rw [outsG, outsG, e, List.replicate_succ, List.range_succ, List.map_append, List.append_assoc]
  rw [List.set_append_right _ _ (by omega), hl, Nat.sub_self]
  simp only [List.map_cons, List.map_nil, hm]
  rfl
theorem outsG_at {bec : Int → Pt → Pt} {ms : List Mod} {k : Nat} (h : k < ms.length) : (outsG bec ms k)[k]? = some (0, 0) := by
  have e : ms.length - k = (ms.length - (k + 1)) + 1 := by omega
  have hl : ((List.range k).map (fun i => outG bec i (ms.getD i dMod))).length = k := by simp
  rw [outsG, e, List.replicate_succ, List.getElem?_append_right (by omega), hl, Nat.sub_self]
  rfl
theorem outsG_no {bec : Int → Pt → Pt} {ms : List Mod} {k : Nat} {m : Mod} (h : ms[k]? = some m) (h4 : ¬ m.kind = 4) : outsG bec ms (k + 1) = outsG bec ms k := by
  rw [← outsG_set h]
  have : outG bec k m = (0, 0) := by simp [outG, h4]
  rw [this]
  have hlt : k < ms.length := (List.getElem?_eq_some_iff.1 h).1
  exact List.ext_getElem? (fun n => by
    by_cases e : k = n
    · subst e; rw [List.getElem?_set_self (by rw [outsG_len (by omega)]; exact hlt), outsG_at hlt]
    · rw [List.getElem?_set_ne e])
def sweepG1 (bec : Int → Pt → Pt) (o : Or) (cs : List Cbl) (inn : Int) (z : Pt) (i : Int) (s : List Mod × List Pt) : List Mod × List Pt :=
  (s.1.set i.toNat (stepF o (s.1.getD i.toNat dMod) (inSum cs i inn z s.2)).1, if (s.1.getD i.toNat dMod).kind = 4 then s.2 else s.2.set i.toNat (bec i (stepF o (s.1.getD i.toNat dMod) (inSum cs i inn z s.2)).2))
def sweepG (bec : Int → Pt → Pt) (o : Nat → Or) (cs : List Cbl) (inn : Int) (z : Pt) : List Int → Nat → List Mod × List Pt → List Mod × List Pt
  | [], _, s => s
  | i :: l, j, s => sweepG bec o cs inn z l (j + 1) (sweepG1 bec (o j) cs inn z i s)
def stepRackG (bec : Int → Pt → Pt) (o : Nat → Or) (cs : List Cbl) (inn : Int) (z : Pt) (ms : List Mod) : List Mod × List Pt := sweepG bec o cs inn z (ordL ms cs) 0 (ms, outs0G bec ms)
theorem sweepG_congr {bec : Int → Pt → Pt} {o o' : Nat → Or} {cs : List Cbl} {inn : Int} {z : Pt} : ∀ (l : List Int) (j : Nat) (s : List Mod × List Pt), (∀ n, j ≤ n → n < j + l.length → o n = o' n) → sweepG bec o cs inn z l j s = sweepG bec o' cs inn z l j s
  | [], _, _, _ => rfl
  | i :: l, j, s, h => by
    simp only [sweepG]
    rw [h j (Nat.le_refl _) (by simp)]
    exact sweepG_congr l (j + 1) _ (fun n h1 h2 => h n (by omega) (by simp; omega))
theorem sweepG_app {bec : Int → Pt → Pt} {o : Nat → Or} {cs : List Cbl} {inn : Int} {z : Pt} : ∀ (l : List Int) (j : Nat) (s : List Mod × List Pt) (i : Int), sweepG bec o cs inn z (l ++ [i]) j s = sweepG1 bec (o (j + l.length)) cs inn z i (sweepG bec o cs inn z l j s)
  | [], j, s, i => by simp [sweepG]
  | k :: l, j, s, i => by
    simp only [List.cons_append, sweepG]
    rw [sweepG_app l (j + 1)]
    simp [Nat.add_assoc, Nat.add_comm 1]
theorem sweepG1_len {bec : Int → Pt → Pt} {o : Or} {cs : List Cbl} {inn : Int} {z : Pt} {i : Int} {s : List Mod × List Pt} : (sweepG1 bec o cs inn z i s).1.length = s.1.length ∧ (sweepG1 bec o cs inn z i s).2.length = s.2.length := by
  simp only [sweepG1, List.length_set, true_and]
  split <;> simp
theorem sweepG_len {bec : Int → Pt → Pt} {o : Nat → Or} {cs : List Cbl} {inn : Int} {z : Pt} : ∀ (l : List Int) (j : Nat) (s : List Mod × List Pt), (sweepG bec o cs inn z l j s).1.length = s.1.length ∧ (sweepG bec o cs inn z l j s).2.length = s.2.length
  | [], _, _ => ⟨rfl, rfl⟩
  | i :: l, j, s => by
    simp only [sweepG]
    have h1 := sweepG_len (bec := bec) (o := o) (cs := cs) (inn := inn) (z := z) l (j + 1) (sweepG1 bec (o j) cs inn z i s)
    have h2 := sweepG1_len (bec := bec) (o := o j) (cs := cs) (inn := inn) (z := z) (i := i) (s := s)
    exact ⟨h1.1.trans h2.1, h1.2.trans h2.2⟩
theorem sweepG_ok {bec : Int → Pt → Pt} {o : Nat → Or} {cs : List Cbl} {inn : Int} {z : Pt} : ∀ (l : List Int) (j : Nat) (s : List Mod × List Pt), (∀ i ∈ l, 0 ≤ i ∧ i < s.1.length) → (∀ m ∈ s.1, OkS m) → ∀ m ∈ (sweepG bec o cs inn z l j s).1, OkS m
  | [], _, _, _, h => h
  | i :: l, j, s, hl, h => by
    simp only [sweepG]
    refine sweepG_ok l (j + 1) _ (fun k hk => ?_) (fun m hm => ?_)
    · rw [sweepG1_len.1]; exact hl k (.tail _ hk)
    · simp only [sweepG1] at hm
      obtain ⟨h0, h1⟩ := hl i (.head _)
      have hi : i.toNat < s.1.length := by omega
      rcases List.mem_or_eq_of_mem_set hm with hm | rfl
      · exact h m hm
      · refine stepF_ok (h _ ?_)
        rw [List.getD_eq_getElem?_getD, List.getElem?_eq_getElem hi]
        exact List.getElem_mem _
theorem sweepG_next {bec : Int → Pt → Pt} {o : Nat → Or} {cs : List Cbl} {inn : Int} {z : Pt} {L : List Int} {j : Nat} {s0 : List Mod × List Pt} {i : Int} (h : L[j]? = some i) (q : Or) :
    sweepG bec (fun n => if n = j then q else o n) cs inn z (L.take (j + 1)) 0 s0 = sweepG1 bec q cs inn z i (sweepG bec o cs inn z (L.take j) 0 s0) := by
  have hlt : j < L.length := (List.getElem?_eq_some_iff.1 h).1
  have hl : (L.take j).length = j := by rw [List.length_take]; omega
  rw [take_snoc h, sweepG_app, hl]
  simp only [Nat.zero_add, if_true]
  rw [sweepG_congr (o' := o) (L.take j) 0 s0 (fun n _ h2 => by rw [hl] at h2; simp; omega)]
theorem stepRackG_len {bec : Int → Pt → Pt} {o : Nat → Or} {cs : List Cbl} {inn : Int} {z : Pt} {ms : List Mod} : (stepRackG bec o cs inn z ms).1.length = ms.length ∧ (stepRackG bec o cs inn z ms).2.length = ms.length := by
  have h := sweepG_len (bec := bec) (o := o) (cs := cs) (inn := inn) (z := z) (ordL ms cs) 0 (ms, outs0G bec ms)
  exact ⟨h.1, h.2.trans (outsG_len (Nat.le_refl _))⟩
theorem stepRackG_ok {bec : Int → Pt → Pt} {o : Nat → Or} {cs : List Cbl} {inn : Int} {z : Pt} {ms : List Mod} (h : ∀ m ∈ ms, OkS m) : ∀ m ∈ (stepRackG bec o cs inn z ms).1, OkS m :=
  sweepG_ok (ordL ms cs) 0 (ms, outs0G bec ms) (fun i hi => ordL_lt i hi) h
structure AStG where
  ms : List Mod
  cs : List Cbl
  inn : Int
  z : Pt
  fs : List Fa
  i : Int
  last : List Pt
  ml : ms.length ≤ 16
  cl : cs.length ≤ sm
  ok : ∀ m ∈ ms, OkS m
  cr : ∀ c ∈ cs, 0 ≤ c.1 ∧ c.1 < ms.length
  fl : fs.length ≤ sm
  ll : last.length = ms.length
def hsG (ms : List Mod) (cs : List Cbl) (fs : List Fa) (i : Int) (last : List Pt) : List (List B) := [[.t (.own 11 (tM ms)), .t (.own 2 (tI (rowsC cs)))], [.t (.im (.sl 4 (rowsFa fs)))], [.t (.im (.int .i64 i))], [.t (.own 1 (tI (rowsZ last)))]]
def oRkG (ms : List Mod) (cs : List Cbl) (inn : Int) (z : Pt) (fs : List Fa) (i : Int) (last : List Pt) : Outs := .any (Nat → Or) (fun o => { val := .c (.view 0 1 0 ms.length), roots := [.arr 1 (tI (rowsZ (stepRackG (becF fs i last) o cs inn z ms).2))], places := hsG (stepRackG (becF fs i last) o cs inn z ms).1 cs fs i last })
noncomputable def ct_stepRackG : Ct := fam false (fun x : AStG => ([.c (.ptr 0 0 0 0), .c (.im (.int .i64 x.inn)), .c (.im (.cpx .f32 x.z.1 x.z.2)), .c (.fn (.func 52) [.ptr 1 0 0 0, .ptr 2 0 0 0, .ptr 3 0 0 0])], hsG x.ms x.cs x.fs x.i x.last)) (fun x => oRkG x.ms x.cs x.inn x.z x.fs x.i x.last)
theorem run_stepRackG {ms : List Mod} {cs : List Cbl} {fs : List Fa} {i : Int} {last : List Pt} (h1 : ms.length ≤ 16) (h2 : cs.length ≤ sm) (h3 : ∀ m ∈ ms, OkS m) (h4 : ∀ c ∈ cs, 0 ≤ c.1 ∧ c.1 < ms.length) (h5 : fs.length ≤ sm) (h6 : last.length = ms.length) (inn : Int) (u v : Nat) :
    ct_stepRackG.run [.c (.ptr 0 0 0 0), .c (.im (.int .i64 inn)), .c (.im (.cpx .f32 u v)), .c (.fn (.func 52) [.ptr 1 0 0 0, .ptr 2 0 0 0, .ptr 3 0 0 0])] (hsG ms cs fs i last) = some (oRkG ms cs inn (u, v) fs i last) := by
  refine fam_run' (args := fun x : AStG => ([D.c (.ptr 0 0 0 0), .c (.im (.int .i64 x.inn)), .c (.im (.cpx .f32 x.z.1 x.z.2)), .c (.fn (.func 52) [.ptr 1 0 0 0, .ptr 2 0 0 0, .ptr 3 0 0 0])], hsG x.ms x.cs x.fs x.i x.last)) ?_ ⟨ms, cs, inn, (u, v), fs, i, last, h1, h2, h3, h4, h5, h6⟩
  rintro ⟨ms, cs, i, z, fs, j, l, _, _, _, _, _, _⟩ ⟨ms', cs', i', z', fs', j', l', _, _, _, _, _, _⟩ h
  simp only [hsG, Prod.mk.injEq, List.cons.injEq, D.c.injEq, C.im.injEq, I.cpx.injEq, I.int.injEq, B.t.injEq, T.own.injEq, T.im.injEq, I.sl.injEq, true_and, and_true] at h
  obtain ⟨⟨rfl, hz1, hz2⟩, ⟨hm, hc⟩, hfs, rfl, hl⟩ := h
  have e1 := tM_inj hm
  have e2 := tI_inj hc
  simp only [rowsC_eq] at e2
  have e3 := rowsFa_inj hfs
  have e4 := rowsZ_inj (tI_inj hl)
  subst e1 e2 e3 e4
  have : z = z' := Prod.ext hz1 hz2
  subst this
  rfl
theorem okR_rkG {ms : List Mod} {cs : List Cbl} {fs : List Fa} {i : Int} {last : List Pt} {n : Nat} {zs : List Pt} : OkR false { val := .c (.view 0 1 0 n), roots := [.arr 1 (tI (rowsZ zs))], places := hsG ms cs fs i last } := by
  refine ⟨.c _ (.view _ _ _ _ (by simp)), fun r hr => ?_, fun c hc x hx => ?_⟩
  · simp only [List.mem_cons, List.not_mem_nil, or_false] at hr
    subst hr
    exact sc_false _ _
  · simp only [hsG, List.mem_cons, List.not_mem_nil, or_false] at hc
    rcases hc with rfl | rfl | rfl | rfl <;> simp only [List.mem_cons, List.not_mem_nil, or_false] at hx
    · rcases hx with rfl | rfl
      · exact of_eq_true (MvB_M ms)
      · exact of_eq_true (MvB_C cs)
    · subst hx; exact .t _ (.im _ (.inl rfl))
    · subst hx; exact .t _ (.im _ (.inl rfl))
    · subst hx; exact .t _ (mv_own (sc_rowsZ _))
end Go.SX
