/-
  SX, part H: stores.
  No condition. Plain definitions and theorems over any program.
-/
import Derived.Test.YtbhnlplbfhomcaaSxG
set_option linter.unusedVariables false
set_option linter.unusedSimpArgs false
namespace Go.SX
open Go Go.RowKit
variable {en : En} {g : Gh} {S : Nat → Option D} {H : Nat → Option Root} {a : Act} {w : World} {P : Program}

def Root.setB : Root → Nat → Nat → C → Option Root
  | .box cells, 0, j, c => if j < cells.length then some (.box (cells.set j (toB c))) else none
  | .box _, _ + 1, _, _ => none
  | .arr sz rows, i, j, c => match toT c with
    | some t => match rows[i]? with
      | some r => if j < r.length then some (.arr sz (rows.set i (r.set j t))) else none
      | none => none
    | none => none

theorem Root.setB_spec {r r' : Root} {i j : Nat} {c : C} (h : r.setB i j c = some r') :
    (∃ y, r.get i j = some y) ∧ r'.sz = r.sz ∧ (∀ i' j', r'.get i' j' = if i' = i ∧ j' = j then some (toB c) else r.get i' j') ∧ (∀ base rc size, r.form base rc size → r'.form base rc size) ∧
    (∀ c0, r = .box c0 → ∃ c1, r' = .box c1 ∧ c1.length = c0.length) ∧ (∀ sz rows, r = .arr sz rows → ∃ rows', r' = .arr sz rows') := by
  cases r with
  | box cells =>
    cases i with
    | succ i => simp [Root.setB] at h
    | zero =>
      simp only [Root.setB] at h
      split at h
      · rename_i hj
        injection h with h
        subst h
        have hy : (Root.box cells).get 0 j = some cells[j] := by simp [Root.get, List.getElem?_eq_getElem hj]
        refine ⟨⟨_, hy⟩, rfl, fun i' j' => ?_, fun _ _ _ h => h, fun c0 hc => ?_, fun sz rows hc => (by cases hc)⟩
        · cases i' with
          | zero =>
            simp only [Root.get, List.getElem?_set]
            by_cases e : j = j'
            · subst e; simp [hj]
            · simp [e, Ne.symm e]
          | succ i' => simp [Root.get]
        · cases hc; exact ⟨_, rfl, by simp⟩
      · cases h
  | arr sz rows =>
    simp only [Root.setB] at h
    split at h
    · rename_i t ht
      split at h
      · rename_i r hr
        split at h
        · rename_i hj
          injection h with h
          subst h
          have hi : i < rows.length := (List.getElem?_eq_some_iff.1 hr).1
          have htb : toB c = .t t := by simp [toB, ht]
          refine ⟨⟨.t r[j], by simp [Root.get, hr, List.getElem?_eq_getElem hj]⟩, rfl, fun i' j' => ?_, fun base rc size hf => ?_, fun c0 hc => (by cases hc), fun sz' rows' hc => (by cases hc; exact ⟨_, rfl⟩)⟩
          · simp only [Root.get, List.getElem?_set]
            by_cases e : i = i'
            · subst e
              simp only [if_pos, hi, hr, true_and]
              rw [List.getElem?_set]
              by_cases e' : j = j'
              · subst e'; simp [hj, htb]
              · simp [e', Ne.symm e']
            · simp [e, Ne.symm e]
          · obtain ⟨h1, h2, h3, h4⟩ := hf
            refine ⟨h1, h2, by simpa using h3, fun i' r' hr' => ?_⟩
            rw [List.getElem?_set] at hr'
            split at hr'
            · (try split at hr')
              all_goals first
                | (injection hr' with hr'; subst hr'; simpa using h4 i r hr)
                | cases hr'
            · exact h4 i' r' hr'
        · cases h
      · cases h
    · cases h

theorem Root.get_lt {r : Root} {base rc size : Nat} (hf : r.form base rc size) {i j : Nat} {x : B} (h : r.get i j = some x) : (∃ c0, r = .box c0 ∧ i = 0 ∧ j < c0.length) ∨ (∃ sz rows, r = .arr sz rows ∧ j < sz) := by
  cases r with
  | box cells =>
    cases i with
    | zero => exact .inl ⟨cells, rfl, rfl, by simp only [Root.get] at h; exact (List.getElem?_eq_some_iff.1 h).1⟩
    | succ i => simp [Root.get] at h
  | arr sz rows =>
    refine .inr ⟨sz, rows, rfl, ?_⟩
    simp only [Root.get] at h
    cases hr : rows[i]? with
    | none => simp [hr] at h
    | some row =>
      simp only [hr, Option.map_eq_some_iff] at h
      obtain ⟨y, hy, _⟩ := h
      have := hf.2.2.2 i row hr
      have := (List.getElem?_eq_some_iff.1 hy).1
      omega

theorem Root.get_inj {r : Root} {base rc size : Nat} (hf : r.form base rc size) {i j i' j' : Nat} {x y : B} (h : r.get i j = some x) (h' : r.get i' j' = some y) (he : i * r.sz + j = i' * r.sz + j') : i' = i ∧ j' = j := by
  rcases Root.get_lt hf h with ⟨c0, rfl, rfl, hj⟩ | ⟨sz, rows, rfl, hj⟩
  · rcases Root.get_lt hf h' with ⟨c1, hc, rfl, hj'⟩ | ⟨sz, rows, hc, hj'⟩
    · simp only [Root.sz] at he; omega
    · cases hc
  · rcases Root.get_lt hf h' with ⟨c1, hc, rfl, hj'⟩ | ⟨sz', rows', hc, hj'⟩
    · cases hc
    · cases hc
      simp only [Root.sz] at he
      have : i = i' := (block_of hj').1 (by omega)
      subst this
      omega

def setCs (i : Nat) : Root → Nat → List C → Option Root
  | r, _, [] => some r
  | r, j, c :: cs => match r.setB i j c with
    | some r' => setCs i r' (j + 1) cs
    | none => none

def setsA : Array Value → Nat → List Value → Array Value
  | A, _, [] => A
  | A, k, v :: vs => setsA (A.setIfInBounds k v) (k + 1) vs
theorem setsA_size : ∀ (vs : List Value) (A : Array Value) (k : Nat), (setsA A k vs).size = A.size
  | [], A, k => rfl
  | v :: vs, A, k => by simp [setsA, setsA_size vs]
theorem setsA_out : ∀ (vs : List Value) (A : Array Value) (k o : Nat), (o < k ∨ k + vs.length ≤ o) → (setsA A k vs)[o]? = A[o]?
  | [], A, k, o, _ => rfl
  | v :: vs, A, k, o, h => by
    simp only [List.length_cons] at h
    simp only [setsA]
    rw [setsA_out vs _ (k + 1) o (by omega), Array.getElem?_setIfInBounds, if_neg (by omega)]

theorem run_storeCells_sets (P : Program) (b o : Nat) (e : TypeId) : ∀ (vs : List Value) (i : Nat) (A : Array Value) (w : World), w.heap[b]? = some (.cells A e (0, 0)) → o + i + vs.length ≤ A.size → (∀ v ∈ vs, v.oneCell' = true) →
    (storeCells ⟨b, o, none⟩ vs i).run P w = .ok () (w.setRow b (setsA A (o + i) vs))
  | [], i, A, w, hg, _, _ => by
    simp only [storeCells, setsA]
    rw [setRow_self w b A e (0, 0) hg]
    rfl
  | v :: rest, i, A, w, hg, hl, h1 => by
    have hi : o + i < A.size := by simp at hl; omega
    have hcell : w.cell? ⟨b, o + i, none⟩ = some A[o + i] := by simp [World.cell?, hg, hi]
    have hfro : w.frozen? ⟨b, o + i, none⟩ = false := by simp [World.frozen?, hg]
    have hst : (store ((⟨b, o, none⟩ : Addr).add i) v).run P w = .ok () (w.setRow b (A.setIfInBounds (o + i) v)) := by
      rw [add_plain, run_store P w _ v _ (h1 v (by simp)), hcell]
      simp [hfro, setCell_eq_setRow w b (o + i) A e (0, 0) v hg]
    have ih := run_storeCells_sets P b o e rest (i + 1) (A.setIfInBounds (o + i) v) (w.setRow b (A.setIfInBounds (o + i) v)) (setRow_heap w b A _ e _ hg) (by simp at hl ⊢; omega) (fun x hx => h1 x (by simp [hx]))
    simp only [storeCells, Sem.run_bind, hst, Result.andThen_ok, ih, setRow_setRow, setsA]
    rfl

/-- The cells of one root, for whatever array it holds. -/
structure RowR (w : World) (g : Gh) (n : Nat) (r : Root) (A : Array Value) : Prop where
  form : r.form (g.base n) (g.rc n) A.size
  cells : ∀ (i j : Nat) (x : B), r.get i j = some x → ∃ v, A[g.base n + i * r.sz + j]? = some v ∧ BR w g n [(i, j)] x v

theorem RowR.set {n : Nat} {r r' : Root} {A : Array Value} (h : RowR w g n r A) {i j : Nat} {c : C} (hs : r.setB i j c = some r') {v : Value} (hv : CV g c v) :
    RowR w g n r' (A.setIfInBounds (g.base n + i * r.sz + j) v) := by
  obtain ⟨⟨y, hy⟩, h1, h2, h3, h4, h5⟩ := Root.setB_spec hs
  obtain ⟨u, hu, _⟩ := h.cells i j y hy
  have hlt : g.base n + i * r.sz + j < A.size := (Array.getElem?_eq_some_iff.1 hu).1
  refine ⟨by simpa using h3 _ _ _ h.form, fun i' j' x hx => ?_⟩
  rw [h2] at hx
  rw [h1, Array.getElem?_setIfInBounds]
  split at hx
  · rename_i he
    obtain ⟨rfl, rfl⟩ := he
    injection hx with hx
    subst hx
    rw [if_pos rfl, if_pos hlt]
    exact ⟨v, rfl, toB_sound hv _ _ _⟩
  · rename_i he
    rw [if_neg (fun hc => he (Root.get_inj h.form hy hx (by omega)))]
    exact h.cells i' j' x hx

theorem RowR.sets {n i : Nat} : ∀ (cs : List C) (vs : List Value) (r r' : Root) (j : Nat) (A : Array Value), RowR w g n r A → setCs i r j cs = some r' → CVs g cs vs →
    RowR w g n r' (setsA A (g.base n + i * r.sz + j) vs) ∧ (cs ≠ [] → g.base n + i * r.sz + j + vs.length ≤ A.size) ∧ (∀ c0, r = .box c0 → ∃ c1, r' = .box c1 ∧ c1.length = c0.length ∧ (cs ≠ [] → j + cs.length ≤ c0.length)) ∧ (∀ sz rows, r = .arr sz rows → ∃ rows', r' = .arr sz rows')
  | [], vs, r, r', j, A, h, hs, hc => by
    have : vs = [] := List.eq_nil_of_length_eq_zero hc.1
    subst this
    simp only [setCs, Option.some.injEq] at hs
    subst hs
    exact ⟨h, fun hh => absurd rfl hh, fun c0 hc0 => ⟨c0, hc0, rfl, fun hh => absurd rfl hh⟩, fun sz rows hr => ⟨rows, hr⟩⟩
  | c :: cs, vs, r, r', j, A, h, hs, hc => by
    simp only [setCs] at hs
    split at hs
    · rename_i r1 hr1
      match vs, hc with
      | [], hc => have := hc.1; simp at this
      | v :: vs, hc =>
        have hv : CV g c v := hc.2 0 c v rfl rfl
        have hcs : CVs g cs vs := ⟨by have := hc.1; simpa using this, fun j y u hy hu => hc.2 (j + 1) y u (by simpa using hy) (by simpa using hu)⟩
        obtain ⟨⟨y, hy⟩, h1, h2, h3, h4, h5⟩ := Root.setB_spec hr1
        obtain ⟨u, hu, _⟩ := h.cells i j y hy
        have hlt : g.base n + i * r.sz + j < A.size := (Array.getElem?_eq_some_iff.1 hu).1
        obtain ⟨k1, k2, k3, k4⟩ := RowR.sets cs vs r1 r' (j + 1) _ (h.set hr1 hv) hs hcs
        rw [h1] at k1 k2
        refine ⟨by simpa [setsA, Nat.add_assoc] using k1, fun _ => ?_, fun c0 hc0 => ?_, fun sz rows hr => ?_⟩
        · simp only [List.length_cons]
          by_cases hcn : cs = []
          · subst hcn
            have : vs = [] := List.eq_nil_of_length_eq_zero hcs.1
            subst this
            simp only [List.length_nil]; omega
          · have := k2 hcn
            simp only [Array.size_setIfInBounds] at this
            omega
        · obtain ⟨c1, hc1, hl⟩ := h4 c0 hc0
          obtain ⟨c2, hc2, hl2, hl3⟩ := k3 c1 hc1
          refine ⟨c2, hc2, hl2.trans hl, fun _ => ?_⟩
          simp only [List.length_cons]
          by_cases hcn : cs = []
          · subst hcn
            subst hc0
            rcases Root.get_lt h.form hy with ⟨c3, hc3, _, hj⟩ | ⟨sz, rows, hc3, _⟩
            · cases hc3; simp only [List.length_nil]; omega
            · cases hc3
          · have := hl3 hcn; omega
        · obtain ⟨rows', hr'⟩ := h5 sz rows hr
          exact k4 sz rows' hr'
    · cases hs

def storeH (P : Program) (t : TypeId) (S : Nat → Option D) (H : Nat → Option Root) (x y : Operand) : Option (Nat × Root) :=
  match tsz P t with
  | some k => match evC S x with
    | some (.ptr n sz i off) => match ev S y with
      | some d => match dCs d with
        | some cs => if cs.length = k ∧ 0 < k then match H n with
            | some r => if r.sz = sz then match setCs i r off cs with
                | some r' => some (n, r')
                | none => none
              else none
            | none => none
          else none
        | none => none
      | none => none
    | _ => none
  | none => none

theorem storeH_sound (h : Rel en g S H a w) {t : TypeId} {x y : Operand} {n : Nat} {r' : Root} (hd : storeH P t S H x y = some (n, r')) :
    ∃ w', (Instr.storeAt t (a.eval x) (a.eval y)).run P w = .ok () w' ∧ Rel en g S (upd H n (some r')) a w' := by
  unfold storeH at hd
  split at hd
  · rename_i k hk
    split at hd
    · rename_i m sz i off hx
      split at hd
      · rename_i d hy
        split at hd
        · rename_i cs hcs
          split at hd
          · rename_i hlen
            split at hd
            · rename_i r hr
              split at hd
              · rename_i hsz
                subst hsz
                split at hd
                · rename_i r1 hr1
                  simp only [Option.some.injEq, Prod.mk.injEq] at hd
                  obtain ⟨rfl, rfl⟩ := hd
                  have hcv := dCs_sound (ev_sound h hy) hcs
                  have hne : cs ≠ [] := by intro hc; rw [hc] at hlen; simp at hlen; omega
                  have hp := evC_sound h hx
                  generalize a.eval x = u at hp
                  obtain ⟨hu, hR⟩ := h.roots m r hr
                  cases hp with
                  | ptr _ _ _ _ _ =>
                    cases hR with
                    | arr0 sz' hs h0 =>
                      cases cs with
                      | nil => exact absurd rfl hne
                      | cons c cs =>
                        have h9 : Root.setB (.arr sz' []) i off c = none := by simp only [Root.setB]; split <;> simp
                        simp [setCs, h9] at hr1
                    | mk _ A e hh ho hf hrr =>
                      obtain ⟨k1, k2, k3, k4⟩ := RowR.sets (w := w) (g := g) (n := m) (i := i) cs (a.eval y).cells.toList r r1 off A ⟨hf, hrr⟩ hr1 hcv
                      have hfit := k2 hne
                      have hvl : (a.eval y).cells.toList.length = cs.length := hcv.1
                      have hone : ∀ v ∈ (a.eval y).cells.toList, v.oneCell' = true := fun v hv => by
                        obtain ⟨j, hj, rfl⟩ := List.mem_iff_getElem.1 hv
                        have hjc : j < cs.length := by omega
                        exact (hcv.2 j cs[j] _ (List.getElem?_eq_getElem hjc) (List.getElem?_eq_getElem hj)).one
                      have hrun := run_storeCells_sets P (g.rb m) (g.base m + i * r.sz + off) e (a.eval y).cells.toList 0 A w hh (by simpa using hfit) hone
                      rw [Nat.add_zero] at hrun
                      have hszv : (a.eval y).cells.size = k := by rw [← hlen.1, ← hvl]; simp
                      refine ⟨w.setRow (g.rb m) (setsA A (g.base m + i * r.sz + off) (a.eval y).cells.toList), by simp [Instr.storeAt, Instr.sureAddr, storeVar, run_sizeOf hk, hszv, hrun], h.store hr hh ho (setsA_size _ _ _) (fun b hb o ho' => setsA_out _ _ _ _ ?_) ?_ (fun b hb => ?_)⟩
                      · obtain ⟨c0, rfl, hl⟩ := h.wd m r b hr hb
                        obtain ⟨c1, _, _, hc1⟩ := k3 c0 rfl
                        have := hc1 hne
                        have hbase := h.fr.gle.base m (h.fr.place b m hb).1
                        have hi0 : i = 0 := by
                          cases i with
                          | zero => rfl
                          | succ i =>
                            cases cs with
                            | nil => exact absurd rfl hne
                            | cons c cs => simp [setCs, Root.setB] at hr1
                        subst hi0
                        simp only [Root.sz] at *
                        omega
                      · refine .mk _ (setsA A (g.base m + i * r.sz + off) (a.eval y).cells.toList) e (setRow_heap w _ A _ e _ hh) ho k1.form (fun i' j' x' hx' => ?_)
                        obtain ⟨v, hv, hb⟩ := k1.cells i' j' x' hx'
                        refine ⟨v, hv, ?_⟩
                        cases hb with
                        | t x v ht => exact .t _ _ (ht.keep (Gh.le.refl g) (fun b p hp => ⟨hp, setRow_other w _ _ _ (fun e' => by rw [e', ho] at hp; simp at hp)⟩))
                        | v x v hc => exact .v _ _ hc
                      · obtain ⟨c0, rfl, hl⟩ := h.wd m r b hr hb
                        obtain ⟨c1, h1, h2, _⟩ := k3 c0 rfl
                        exact ⟨c1, h1, by rw [h2]; exact hl⟩
                · cases hd
              · cases hd
            · cases hd
          · cases hd
        · cases hd
      · cases hd
    · cases hd
  · cases hd
end Go.SX
