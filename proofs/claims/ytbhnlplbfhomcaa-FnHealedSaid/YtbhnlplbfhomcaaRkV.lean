/-
  TraceRack.
  No condition.
-/
import Derived.Test.YtbhnlplbfhomcaaRkU
set_option linter.unusedVariables false
set_option linter.unusedSimpArgs false
namespace Go.SX
open Go Go.Proofs

/-! ### The plain words -/
/-- The rack's states and the rows of outs, k rounds on. -/
def trS (O : Nat → Nat → Or) (cs : List Cbl) (ms : List Mod) : Nat → List Mod × List (List Pt)
  | 0 => (ms, ms.map fun _ => [])
  | k + 1 => ((stepRackF (O k) cs (-1) (0, 0) (trS O cs ms k).1).1, List.zipWith (fun r z => r ++ [z]) (trS O cs ms k).2 (stepRackF (O k) cs (-1) (0, 0) (trS O cs ms k).1).2)
theorem trS_congr {O O' : Nat → Nat → Or} {cs : List Cbl} {ms : List Mod} : ∀ k, (∀ i, i < k → O i = O' i) → trS O cs ms k = trS O' cs ms k
  | 0, _ => rfl
  | k + 1, h => by simp only [trS, trS_congr k (fun i hi => h i (by omega)), h k (by omega)]
theorem trS_ok {O : Nat → Nat → Or} {cs : List Cbl} {ms : List Mod} (h : ∀ m ∈ ms, OkS m) : ∀ k, (trS O cs ms k).1.length = ms.length ∧ (trS O cs ms k).2.length = ms.length ∧ (∀ m ∈ (trS O cs ms k).1, OkS m) ∧ ∀ r ∈ (trS O cs ms k).2, r.length = k
  | 0 => ⟨rfl, by simp [trS], h, by simp [trS]⟩
  | k + 1 => by
    obtain ⟨h1, h2, h3, h4⟩ := trS_ok (O := O) (cs := cs) h k
    refine ⟨?_, ?_, ?_, ?_⟩
    · simp only [trS]; rw [stepRackF_len.1]; exact h1
    · simp only [trS, List.length_zipWith, stepRackF_len.2, h1, h2, Nat.min_self]
    · simp only [trS]; exact stepRackF_ok h3
    · simp only [trS]
      intro r hr
      obtain ⟨i, hi, rfl⟩ := List.getElem_of_mem hr
      rw [List.getElem_zipWith]
      simp only [List.length_append, List.length_cons, List.length_nil, Nat.zero_add]
      rw [h4 _ (List.getElem_mem _)]
theorem trS_next {O : Nat → Nat → Or} {cs : List Cbl} {ms : List Mod} {k : Nat} (o : Nat → Or) : trS (fun i => if i = k then o else O i) cs ms (k + 1) =
    ((stepRackF o cs (-1) (0, 0) (trS O cs ms k).1).1, List.zipWith (fun r z => r ++ [z]) (trS O cs ms k).2 (stepRackF o cs (-1) (0, 0) (trS O cs ms k).1).2) := by
  simp only [trS, if_true]
  rw [trS_congr (O' := O) k (fun i hi => by simp; omega)]
/-- The inner loop: the first j rows have got their new value. -/
def zipK (rows : List (List Pt)) (zs : List Pt) (j : Nat) : List (List Pt) := List.zipWith (fun r z => r ++ [z]) (rows.take j) (zs.take j) ++ rows.drop j
theorem zipK_0 (rows : List (List Pt)) (zs : List Pt) : zipK rows zs 0 = rows := by simp [zipK]
theorem zipK_n {rows : List (List Pt)} {zs : List Pt} (h : rows.length = zs.length) : zipK rows zs zs.length = List.zipWith (fun r z => r ++ [z]) rows zs := by
  have h1 : rows.take zs.length = rows := by rw [← h]; exact List.take_length
  have h2 : rows.drop zs.length = [] := by rw [← h]; exact List.drop_length
  simp only [zipK, h1, h2, List.take_length, List.append_nil]
theorem zipK_len {rows : List (List Pt)} {zs : List Pt} {j : Nat} (h : rows.length = zs.length) : (zipK rows zs j).length = rows.length := by
  simp only [zipK, List.length_append, List.length_zipWith, List.length_take, List.length_drop]; omega
theorem zipK_at {rows : List (List Pt)} {zs : List Pt} {j : Nat} {r : List Pt} (h : rows.length = zs.length) (hr : rows[j]? = some r) : (zipK rows zs j)[j]? = some r := by
  have hlt : j < rows.length := (List.getElem?_eq_some_iff.1 hr).1
  have hl : (List.zipWith (fun r z => r ++ [z]) (rows.take j) (zs.take j)).length = j := by simp only [List.length_zipWith, List.length_take]; omega
  rw [zipK, List.getElem?_append_right (by omega), hl, Nat.sub_self, List.getElem?_drop]
  simpa using hr
theorem zipK_set {rows : List (List Pt)} {zs : List Pt} {j : Nat} {r : List Pt} {z : Pt} (h : rows.length = zs.length) (hr : rows[j]? = some r) (hz : zs[j]? = some z) : (zipK rows zs j).set j (r ++ [z]) = zipK rows zs (j + 1) := by
  have hlt : j < rows.length := (List.getElem?_eq_some_iff.1 hr).1
  have hl : (List.zipWith (fun r z => r ++ [z]) (rows.take j) (zs.take j)).length = j := by simp only [List.length_zipWith, List.length_take]; omega
  have hd : rows.drop j = r :: rows.drop (j + 1) := by
    have hp : rows[j] = r := by rw [List.getElem?_eq_getElem hlt] at hr; injection hr
    rw [List.drop_eq_getElem_cons hlt, hp]
  rw [zipK, zipK, List.set_append_right _ _ (by omega), hl, Nat.sub_self, hd, take_snoc hr, take_snoc hz, List.zipWith_append (by simp only [List.length_take]; omega)]
  simp
/-- A row of outs as a cell: nil at first. -/
def trT (l : List Pt) : T := if l = [] then .nil else .own 1 (tI (rowsZ l))
def trR (rows : List (List Pt)) : List (List T) := rows.map fun r => [trT r]
end Go.SX
