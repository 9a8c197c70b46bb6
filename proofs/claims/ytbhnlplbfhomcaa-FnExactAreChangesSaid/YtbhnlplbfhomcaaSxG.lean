/-
  SX, part G: operations that make memory or write it: variables, literals, stores, append.
  No condition. Plain definitions and theorems over any program.
-/
import Derived.Test.YtbhnlplbfhomcaaSxF
import Derived.Laws.MakeOwn
set_option linter.unusedVariables false
set_option linter.unusedSimpArgs false
namespace Go.SX
open Go Go.RowKit
variable {en : En} {g : Gh} {S : Nat → Option D} {H : Nat → Option Root} {a : Act} {w : World} {P : Program}

def toT : C → Option T
  | .im i => some (.im i)
  | .nil => some .nil
  | .view n sz 0 len => some (.lent n sz len)
  | _ => none
def toB (c : C) : B := match toT c with
  | some t => .t t
  | none => .v c
theorem toT_sound {c : C} {t : T} {v : Value} (h : CV g c v) (ht : toT c = some t) (w : World) (n : Nat) (q : Pth) : TR w g n q t v := by
  unfold toT at ht
  split at ht <;> first
    | (cases ht; done)
    | (injection ht with ht; subst ht)
  · cases h with | im _ _ h => exact .im _ _ _ h
  · cases h; exact .nil _
  · exact .lent _ _ _ _ _ h
theorem toB_sound {c : C} {v : Value} (h : CV g c v) (w : World) (n : Nat) (q : Pth) : BR w g n q (toB c) v := by
  unfold toB
  split
  · rename_i t ht; exact .t _ _ (toT_sound h ht w n q)
  · exact .v _ _ h

/-- What a step that makes a block hands on. -/
structure Made (en : En) (g g' : Gh) (nm : Nat) (S : Nat → Option D) (H' : Nat → Option Root) (a : Act) (w' : World) (d : D) (v : Value) : Prop where
  le : g.le g'
  us : ∀ m, g'.used m → m = nm ∨ g.used m
  rel : Rel en g' S H' a w'
  val : DV g' d v

/-! ### A variable -/
theorem new_box (h : Rel en g S H a w) {nm : Nat} (hn : ¬ g.used nm) {cs : List C} {vs : List Value} (hc : CVs g cs vs) (e : TypeId) :
    Made en g (g.new nm w.heap.size vs.toArray.size) nm S (upd H nm (some (.box (cs.map toB)))) a (w.alloc (.cells vs.toArray e)) (.c (.ptr nm 0 0 0)) (.pointer (some ⟨w.heap.size, 0, none⟩)) := by
  have hle := Gh.new_le (g := g) (nm := nm) (b := w.heap.size) (size := vs.toArray.size) hn
  refine ⟨hle, fun m hm => hm, h.new hn _ _ (.mk _ vs.toArray e ?_ ?_ trivial (fun i j x hx => ?_)), .c _ _ ?_⟩
  · rw [show (g.new nm w.heap.size vs.toArray.size).rb nm = w.heap.size from upd_same _ _ _]; exact heap_alloc_new w _
  · rw [show (g.new nm w.heap.size vs.toArray.size).rb nm = w.heap.size from upd_same _ _ _]; exact upd_same _ _ _
  · cases i with
    | succ i => simp [Root.get] at hx
    | zero =>
      simp only [Root.get, List.getElem?_map, Option.map_eq_some_iff] at hx
      obtain ⟨c, hj, rfl⟩ := hx
      have hlt : j < vs.length := by rw [hc.1]; exact (List.getElem?_eq_some_iff.1 hj).1
      refine ⟨vs[j], ?_, toB_sound ((hc.2 j c _ hj (List.getElem?_eq_getElem hlt)).mono hle) _ _ _⟩
      rw [show (g.new nm w.heap.size vs.toArray.size).base nm = 0 from upd_same _ _ _]
      simp [Root.sz, List.getElem?_eq_getElem hlt]
  · have := CV.ptr (g := g.new nm w.heap.size vs.toArray.size) nm 0 0 0 (.inl rfl)
    rw [show (g.new nm w.heap.size vs.toArray.size).rb nm = w.heap.size from upd_same _ _ _, show (g.new nm w.heap.size vs.toArray.size).base nm = 0 from upd_same _ _ _] at this
    simpa using this

/-! ### An array -/
def mapT : List C → Option (List T)
  | [] => some []
  | c :: cs => match toT c with
    | some t => match mapT cs with
      | some ts => some (t :: ts)
      | none => none
    | none => none
theorem mapT_at : ∀ {cs : List C} {ts : List T}, mapT cs = some ts → ts.length = cs.length ∧ ∀ (j : Nat) (t : T), ts[j]? = some t → ∃ c, cs[j]? = some c ∧ toT c = some t
  | [], ts, h => by simp only [mapT, Option.some.injEq] at h; subst h; exact ⟨rfl, fun j t ht => by simp at ht⟩
  | c :: cs, ts, h => by
    simp only [mapT] at h
    split at h
    · rename_i t ht
      split at h
      · rename_i ts' hts
        injection h with h
        subst h
        obtain ⟨h1, h2⟩ := mapT_at hts
        refine ⟨by simp [h1], fun j u hu => ?_⟩
        cases j with
        | zero => simp at hu; subst hu; exact ⟨c, rfl, ht⟩
        | succ j => simp at hu ⊢; exact h2 j u hu
      · cases h
    · cases h
def mapTs : List (List C) → Option (List (List T))
  | [] => some []
  | r :: rs => match mapT r with
    | some t => match mapTs rs with
      | some ts => some (t :: ts)
      | none => none
    | none => none
theorem mapTs_at : ∀ {cs : List (List C)} {ts : List (List T)}, mapTs cs = some ts → ts.length = cs.length ∧ ∀ (j : Nat) (t : List T), ts[j]? = some t → ∃ c, cs[j]? = some c ∧ mapT c = some t
  | [], ts, h => by simp only [mapTs, Option.some.injEq] at h; subst h; exact ⟨rfl, fun j t ht => by simp at ht⟩
  | c :: cs, ts, h => by
    simp only [mapTs] at h
    split at h
    · rename_i t ht
      split at h
      · rename_i ts' hts
        injection h with h
        subst h
        obtain ⟨h1, h2⟩ := mapTs_at hts
        refine ⟨by simp [h1], fun j u hu => ?_⟩
        cases j with
        | zero => simp at hu; subst hu; exact ⟨c, rfl, ht⟩
        | succ j => simp at hu ⊢; exact h2 j u hu
      · cases h
    · cases h

/-- Cells of memory, row by row. -/
def Flat (g : Gh) (sz : Nat) (rows : List (List C)) (A : Array Value) : Prop :=
  A.size = rows.length * sz ∧ (∀ (i : Nat) (r : List C), rows[i]? = some r → r.length = sz) ∧ ∀ (i : Nat) (r : List C) (j : Nat) (c : C), rows[i]? = some r → r[j]? = some c → ∃ v, A[i * sz + j]? = some v ∧ CV g c v

/-- The same of cells that an array may hold. -/
def TF (g : Gh) (x : T) (v : Value) : Prop := ∃ c, toT c = some x ∧ CV g c v
theorem TF.tr {x : T} {v : Value} (h : TF g x v) (w : World) (n : Nat) (q : Pth) : TR w g n q x v := by obtain ⟨c, h1, h2⟩ := h; exact toT_sound h2 h1 w n q
theorem TF.mono {g' : Gh} (hg : g.le g') {x : T} {v : Value} (h : TF g x v) : TF g' x v := by obtain ⟨c, h1, h2⟩ := h; exact ⟨c, h1, h2.mono hg⟩
theorem TF.one {x : T} {v : Value} (h : TF g x v) : v.oneCell' = true := by obtain ⟨c, h1, h2⟩ := h; exact h2.one

theorem new_arr (h : Rel en g S H a w) {nm : Nat} (hn : ¬ g.used nm) {sz : Nat} {rows : List (List T)} {A : Array Value} (hz : ∀ (i : Nat) (r : List T), rows[i]? = some r → r.length = sz)
    (hr : ∀ (i : Nat) (r : List T) (j : Nat) (x : T), rows[i]? = some r → r[j]? = some x → ∃ v, A[i * sz + j]? = some v ∧ TF g x v) (e : TypeId) (cap : Nat) (hl : rows.length ≤ cap) (hcap : cap * sz ≤ A.size) :
    Made en g (g.new nm w.heap.size A.size) nm S (upd H nm (some (.arr sz rows))) a (w.alloc (.cells A e)) (.c (.view nm sz 0 rows.length)) (.slice (some ⟨w.heap.size, 0, none⟩) rows.length cap) := by
  have hle := Gh.new_le (g := g) (nm := nm) (b := w.heap.size) (size := A.size) hn
  have e1 : (g.new nm w.heap.size A.size).rb nm = w.heap.size := upd_same _ _ _
  have e2 : (g.new nm w.heap.size A.size).base nm = 0 := upd_same _ _ _
  have e3 : (g.new nm w.heap.size A.size).rc nm = A.size := upd_same _ _ _
  have hA : rows.length * sz ≤ A.size := Nat.le_trans (Nat.mul_le_mul_right _ hl) hcap
  refine ⟨hle, fun m hm => hm, h.new hn _ _ (.mk _ A e ?_ ?_ ⟨e2, e3.symm, by rw [e3]; exact hA, hz⟩ (fun i j x hx => ?_)), .c _ _ ?_⟩
  · rw [e1]; exact heap_alloc_new w _
  · rw [e1]; exact upd_same _ _ _
  · simp only [Root.get] at hx
    cases hrow : rows[i]? with
    | none => simp [hrow] at hx
    | some row =>
      simp only [hrow, Option.map_eq_some_iff] at hx
      obtain ⟨y, hy, rfl⟩ := hx
      obtain ⟨v, h1, h2⟩ := hr i row j y hrow hy
      exact ⟨v, by rw [e2, Nat.zero_add]; exact h1, .t _ _ ((h2.mono hle).tr _ _ _)⟩
  · have := CV.view (g := g.new nm w.heap.size A.size) nm sz 0 rows.length cap (.inl rfl) e2 hl (by rw [e3]; simpa using hcap)
    rwa [e1, Nat.zero_mul] at this

/-- From values to what an array holds. -/
theorem flat_T {sz : Nat} {rows : List (List C)} {ts : List (List T)} {A : Array Value} (hf : Flat g sz rows A) (ht : mapTs rows = some ts) :
    ts.length = rows.length ∧ (∀ (i : Nat) (r : List T), ts[i]? = some r → r.length = sz) ∧ ∀ (i : Nat) (r : List T) (j : Nat) (x : T), ts[i]? = some r → r[j]? = some x → ∃ v, A[i * sz + j]? = some v ∧ TF g x v := by
  obtain ⟨h1, h2⟩ := mapTs_at ht
  refine ⟨h1, fun i r hr => ?_, fun i r j x hr hx => ?_⟩
  · obtain ⟨c, hc, hm⟩ := h2 i r hr
    rw [(mapT_at hm).1]; exact hf.2.1 i c hc
  · obtain ⟨c, hc, hm⟩ := h2 i r hr
    obtain ⟨cc, h3, h4⟩ := (mapT_at hm).2 j x hx
    obtain ⟨v, h5, h6⟩ := hf.2.2 i c j cc hc h3
    exact ⟨v, h5, cc, h4, h6⟩

def rowsD (sz : Nat) (S : Nat → Option D) : List (Nat × Operand) → List (List C) → Option (List (List C))
  | [], rs => some rs
  | (i, x) :: r, rs => match ev S x with
    | some d => match dCs d with
      | some xs => if xs.length = sz ∧ i < rs.length then rowsD sz S r (rs.set i xs) else none
      | none => none
    | none => none

theorem foldl_get (l : List Value) : ∀ (k off : Nat) (A : Array Value) (p : Nat), off + k + l.length ≤ A.size →
    ((l.zipIdx k).foldl (fun (cs : Array Value) (p : Value × Nat) => cs.setIfInBounds (off + p.2) p.1) A)[p]? = if off + k ≤ p ∧ p < off + k + l.length then l[p - (off + k)]? else A[p]? := by
  induction l with
  | nil => intro k off A p _; simp; intro h1 h2; omega
  | cons v l ih =>
    intro k off A p hs
    simp only [List.length_cons] at hs
    simp only [List.zipIdx_cons, List.foldl_cons]
    have hs' : off + (k + 1) + l.length ≤ (A.setIfInBounds (off + k) v).size := by simp; omega
    rw [ih (k + 1) off _ p hs']
    by_cases h1 : off + (k + 1) ≤ p ∧ p < off + (k + 1) + l.length
    · have h2 : off + k ≤ p ∧ p < off + k + (v :: l).length := by simp only [List.length_cons]; omega
      rw [if_pos h1, if_pos h2]
      rw [show p - (off + k) = (p - (off + (k + 1))) + 1 by omega]
      simp
    · rw [if_neg h1, Array.getElem?_setIfInBounds]
      by_cases h2 : off + k = p
      · subst h2
        have h3 : off + k ≤ off + k ∧ off + k < off + k + (v :: l).length := by simp only [List.length_cons]; omega
        rw [if_pos rfl, if_pos (show off + k < A.size by omega), if_pos h3]
        simp
      · have h3 : ¬ (off + k ≤ p ∧ p < off + k + (v :: l).length) := by simp only [List.length_cons]; omega
        rw [if_neg h2, if_neg h3]
theorem foldl_size (l : List Value) : ∀ (k off : Nat) (A : Array Value), ((l.zipIdx k).foldl (fun (cs : Array Value) (p : Value × Nat) => cs.setIfInBounds (off + p.2) p.1) A).size = A.size := by
  induction l with
  | nil => intro k off A; rfl
  | cons v l ih => intro k off A; simp only [List.zipIdx_cons, List.foldl_cons]; rw [ih]; simp

theorem block_of {i i' j sz : Nat} (hj : j < sz) : (i * sz ≤ i' * sz + j ∧ i' * sz + j < i * sz + sz) ↔ i = i' := by
  constructor
  · intro ⟨h1, h2⟩
    rcases Nat.lt_trichotomy i i' with h | h | h
    · have := Nat.mul_le_mul_right sz (show i + 1 ≤ i' by omega)
      rw [Nat.add_mul] at this
      omega
    · exact h
    · have := Nat.mul_le_mul_right sz (show i' + 1 ≤ i by omega)
      rw [Nat.add_mul] at this
      omega
  · rintro rfl; omega

theorem rowsD_sound (h : Rel en g S H a w) {sz : Nat} : ∀ (l : List (Nat × Operand)) (rs rs' : List (List C)) (A : Array Value), Flat g sz rs A → rowsD sz S l rs = some rs' →
    ∃ A', Instr.fill (fun i => some (i * sz, sz)) A (l.map fun (p : Nat × Operand) => (p.1, a.eval p.2)) = some A' ∧ Flat g sz rs' A' ∧ rs'.length = rs.length
  | [], rs, rs', A, hA, hd => by simp only [rowsD, Option.some.injEq] at hd; subst hd; exact ⟨A, rfl, hA, rfl⟩
  | (i, x) :: r, rs, rs', A, hA, hd => by
    simp only [rowsD] at hd
    split at hd
    · rename_i d he
      split at hd
      · rename_i xs hxs
        split at hd
        · rename_i hc
          have hcv := dCs_sound (ev_sound h he) hxs
          have hsz : (a.eval x).cells.size = sz := by rw [← hc.1, ← hcv.1]; simp
          have hlen : (a.eval x).cells.toList.length = sz := by rw [← hsz]; simp
          have hfit : i * sz + sz ≤ A.size := by
            rw [hA.1]
            have := Nat.mul_le_mul_right sz (show i + 1 ≤ rs.length by omega)
            rw [Nat.add_mul] at this; omega
          have e1 : (a.eval x).cells.zipIdx.foldl (fun (cs : Array Value) (p : Value × Nat) => cs.setIfInBounds (i * sz + p.2) p.1) A = ((a.eval x).cells.toList.zipIdx 0).foldl (fun (cs : Array Value) (p : Value × Nat) => cs.setIfInBounds (i * sz + p.2) p.1) A := by
            rw [← Array.foldl_toList]; simp
          have hF : Flat g sz (rs.set i xs) (((a.eval x).cells.toList.zipIdx 0).foldl (fun (cs : Array Value) (p : Value × Nat) => cs.setIfInBounds (i * sz + p.2) p.1) A) := by
            refine ⟨by rw [foldl_size, hA.1]; simp, fun i' r' hr' => ?_, fun i' r' j c hr' hj => ?_⟩
            · rw [List.getElem?_set] at hr'
              split at hr'
              · split at hr'
                · injection hr' with hr'; subst hr'; exact hc.1
                · cases hr'
              · exact hA.2.1 i' r' hr'
            · rw [foldl_get _ 0 _ _ _ (by rw [hlen]; omega), hlen]
              have hjs : j < sz := by
                rw [List.getElem?_set] at hr'
                split at hr'
                · split at hr'
                  · injection hr' with hr'; subst hr'; have := (List.getElem?_eq_some_iff.1 hj).1; omega
                  · cases hr'
                · have h1 := hA.2.1 i' r' hr'; have := (List.getElem?_eq_some_iff.1 hj).1; omega
              rw [List.getElem?_set] at hr'
              by_cases e2 : i = i'
              · subst e2
                rw [if_pos rfl, if_pos hc.2] at hr'
                injection hr' with hr'
                subst hr'
                rw [if_pos (by omega), show i * sz + j - (i * sz + 0) = j by omega]
                have hlt : j < (a.eval x).cells.toList.length := by omega
                exact ⟨_, List.getElem?_eq_getElem hlt, hcv.2 j c _ hj (List.getElem?_eq_getElem hlt)⟩
              · rw [if_neg e2] at hr'
                rw [if_neg (by rw [Nat.add_zero]; intro hh; exact e2 ((block_of hjs).1 hh))]
                exact hA.2.2 i' r' j c hr' hj
          obtain ⟨A', h1, h2, h3⟩ := rowsD_sound h r (rs.set i xs) rs' _ hF hd
          refine ⟨A', ?_, h2, by rw [h3]; simp⟩
          simp only [List.map_cons, Instr.fill, hsz]
          rw [if_neg (by simp; omega), e1]
          exact h1
        · cases hd
      · cases hd
    · cases hd

/-- n rows of one zero value. -/
theorem flat_zero {z : Value} {zc : List C} {sz : Nat} (hz : CVs g zc z.cells.toList) (hl : zc.length = sz) (hs : 0 < sz) (n : Nat) : Flat g sz (List.replicate n zc) (madeCells z.cells (n * sz)) := by
  have hsz : z.cells.size = sz := by rw [← hl, ← hz.1]; simp
  refine ⟨by simp [size_madeCells], fun i r hr => ?_, fun i r j c hr hj => ?_⟩
  · rw [List.getElem?_replicate] at hr
    split at hr
    · injection hr with hr; subst hr; exact hl
    · cases hr
  · rw [List.getElem?_replicate] at hr
    split at hr
    · rename_i hi
      injection hr with hr; subst hr
      have hj' : j < sz := by rw [← hl]; exact (List.getElem?_eq_some_iff.1 hj).1
      have hlt : i * sz + j < n * sz := by
        have := Nat.mul_le_mul_right sz (show i + 1 ≤ n by omega)
        rw [Nat.add_mul] at this; omega
      have hzl : j < z.cells.toList.length := by simp; omega
      refine ⟨z.cells.toList[j], ?_, hz.2 j c _ hj (List.getElem?_eq_getElem hzl)⟩
      have hm : (i * sz + j) % sz = j := by rw [Nat.add_comm, Nat.add_mul_mod_self_right, Nat.mod_eq_of_lt hj']
      have hjz : j < z.cells.size := by omega
      simp [madeCells, hlt, hsz, hm, hjz]
      exact getElem!_pos z.cells j hjz
    · cases hr
end Go.SX
