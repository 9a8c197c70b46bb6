/-
  SX, part M: what is handed to a call: data that is lent becomes data that stays; what comes back moves in.
  No condition. Plain definitions and theorems over any program.
-/
import Derived.Test.YtbhnlplbfhomcaaSxL
set_option linter.unusedVariables false
set_option linter.unusedSimpArgs false
namespace Go.SX
open Go Go.RowKit
variable {en : En} {g : Gh} {S : Nat → Option D} {H : Nat → Option Root} {a : Act} {w : World} {P : Program}

def mapO {α β : Type} (f : α → Option β) : List α → Option (List β)
  | [] => some []
  | x :: xs => match f x with
    | some y => match mapO f xs with
      | some ys => some (y :: ys)
      | none => none
    | none => none
theorem mapO_len {α β : Type} {f : α → Option β} : ∀ {xs : List α} {ys : List β}, mapO f xs = some ys → ys.length = xs.length
  | [], ys, h => by simp only [mapO, Option.some.injEq] at h; subst h; rfl
  | x :: xs, ys, h => by
    simp only [mapO] at h
    split at h
    · split at h
      · rename_i ys' hys; injection h with h; subst h; simp [mapO_len hys]
      · cases h
    · cases h
theorem mapO_at {α β : Type} {f : α → Option β} : ∀ {xs : List α} {ys : List β}, mapO f xs = some ys → ∀ (j : Nat) (y : β), ys[j]? = some y → ∃ x, xs[j]? = some x ∧ f x = some y
  | [], ys, h, j, y, hy => by simp only [mapO, Option.some.injEq] at h; subst h; simp at hy
  | x :: xs, ys, h, j, y, hy => by
    simp only [mapO] at h
    split at h
    · rename_i y0 h0
      split at h
      · rename_i ys' hys
        injection h with h
        subst h
        cases j with
        | zero => simp at hy; subst hy; exact ⟨x, rfl, h0⟩
        | succ j => simp at hy ⊢; exact mapO_at hys j y hy
      · cases h
    · cases h
theorem mapO_map {α β γ : Type} {f : α → Option β} {k : γ → α} {k' : γ → β} (h : ∀ x, f (k x) = some (k' x)) : ∀ xs : List γ, mapO f (xs.map k) = some (xs.map k')
  | [] => rfl
  | x :: xs => by simp [mapO, h, mapO_map h xs]
theorem mapO_im {α β : Type} {f : α → Option β} {k : β → α} (h : ∀ x, f (k x) = some x) (xs : List β) : mapO f (xs.map k) = some xs := by
  have := mapO_map (f := f) (k := k) (k' := id) h xs
  simpa using this

/-- A cell of memory as data that stays. -/
def toI (ex : List Nat) (H : Nat → Option Root) : Nat → T → Option I
  | 0, .im i => some i
  | 0, _ => none
  | _ + 1, .im i => some i
  | _ + 1, .nil => some (.sl 0 [])
  | _ + 1, .dead => none
  | k + 1, .own sz rows => match mapO (mapO (toI ex H k)) rows with
    | some r => some (.sl sz r)
    | none => none
  | k + 1, .lent n sz len => if n ∈ ex then none else match H n with
    | some (.arr sz' rows) => if sz' = sz ∧ len ≤ rows.length then match mapO (mapO (toI ex H k)) ((rows.drop 0).take len) with
        | some r => some (.sl sz r)
        | none => none
      else none
    | _ => none
theorem toI_im (ex : List Nat) (H : Nat → Option Root) (k : Nat) (i : I) : toI ex H k (.im i) = some i := by cases k <;> rfl
theorem toI_rows (ex : List Nat) (H : Nat → Option Root) (k : Nat) (rows : List (List I)) : mapO (mapO (toI ex H k)) (rows.map (fun r => r.map T.im)) = some rows :=
  mapO_im (fun r => mapO_im (toI_im ex H k) r) rows

/-- What is frozen while a call runs. -/
structure Frz (br : Bool) (g : Gh) (w : World) (ex : List Nat) (fz : Nat → Nat → Option Value) : Prop where
  old : ∀ b o v, g.fz b o = some v → fz b o = some v
  own : br = true → ∀ b n p o v, g.own b = some (n, p) → n ∉ ex → w.cell? ⟨b, o, none⟩ = some v → fz b o = some v

theorem view_I {br : Bool} (hbrr : br = true) {fz : Nat → Nat → Option Value} {ex : List Nat} (hF : Frz br g w ex fz) {f : T → Option I} {m sz lo len : Nat} {rows : List (List T)} {r : List (List I)} {v : Value} (hm : m ∉ ex)
    (hv : CV g (.view m sz lo len) v) (hR : RootR w g m (.arr sz rows)) (hl : lo + len ≤ rows.length) (hr : mapO (mapO f) ((rows.drop lo).take len) = some r)
    (hf : ∀ (q : Pth) (t : T) (i : I) (u : Value), TR w g m q t u → f t = some i → IR fz i u) : IR fz (.sl sz r) v := by
  have hlen : r.length = len := by rw [mapO_len hr]; simp; omega
  have h0 : ∀ A c, r.length = 0 → IR fz (.sl sz r) (.slice A 0 c) := fun A c h => by
    have : r = [] := List.eq_nil_of_length_eq_zero h
    subst this; exact .sl0 _ _ _
  cases hv with
  | view0 _ _ _ A hu => exact h0 A 0 hlen
  | view _ _ _ _ cap hu hb hc hcap =>
    cases hR with
    | arr0 _ hs hrc =>
      simp only [List.length_nil] at hl
      have : len = 0 := by omega
      subst this
      exact h0 _ _ hlen
    | mk _ cs e hh ho hform hcell =>
      obtain ⟨hb0, hcs, hrl, hrows⟩ := hform
      have key : ∀ (i : Nat) (r' : List I) (j : Nat) (x : I), r[i]? = some r' → r'[j]? = some x → ∃ v, fz (g.rb m) (lo * sz + i * sz + j) = some v ∧ IR fz x v := by
        intro i r' j x hi hj
        obtain ⟨row, hrow, hmr⟩ := mapO_at hr i r' hi
        obtain ⟨t, ht, hft⟩ := mapO_at hmr j x hj
        have hrow' : rows[lo + i]? = some row := by
          rw [List.getElem?_take] at hrow
          split at hrow
          · rwa [List.getElem?_drop] at hrow
          · cases hrow
        obtain ⟨v, hv, hbr⟩ := hcell (lo + i) j (.t t) (by simp [Root.get, hrow', ht])
        rw [hb0, Nat.zero_add] at hv
        simp only [Root.sz] at hv
        have htr : TR w g m [(lo + i, j)] t v := by cases hbr with | t _ _ h => exact h
        refine ⟨v, ?_, hf _ t x v htr hft⟩
        refine hF.own hbrr (g.rb m) m [] _ v ho hm ?_
        rw [cell_of_row w _ _ cs e _ hh, ← Nat.add_mul]; exact hv
      obtain ⟨vs, hvs⟩ := rows_choose key
      have := IR.sl (fz := fz) sz r (g.rb m) (lo * sz) cap vs (by rw [hlen]; exact hc) (fun i r' hi => by
        obtain ⟨row, hrow, hmr⟩ := mapO_at hr i r' hi
        rw [mapO_len hmr]
        rw [List.getElem?_take] at hrow
        split at hrow
        · rw [List.getElem?_drop] at hrow; exact hrows _ row hrow
        · cases hrow) (fun i r' j x hi hj => (hvs i r' j x hi hj).1) (fun i r' j x hi hj => (hvs i r' j x hi hj).2)
      rw [hlen] at this
      exact this

theorem toI_sound {br : Bool} (hbr : br = true) {fz : Nat → Nat → Option Value} {ex : List Nat} (hF : Frz br g w ex fz) (hroots : ∀ n r, H n = some r → br = true ∧ g.used n ∧ RootR w g n r) :
    ∀ (k : Nat) (n : Nat) (q : Pth) (t : T) (i : I) (v : Value), n ∉ ex → TR w g n q t v → toI ex H k t = some i → IR fz i v
  | 0, n, q, t, i, v, hn, ht, hi => by
    cases t <;> simp only [toI, Option.some.injEq] at hi <;> first
      | (cases hi; done)
      | (subst hi; cases ht with | im _ _ _ h => exact h.mono hF.old)
  | k + 1, n, q, t, i, v, hn, ht, hi => by
    cases ht with
    | im _ i0 _ h => simp only [toI, Option.some.injEq] at hi; subst hi; exact h.mono hF.old
    | nil => simp only [toI, Option.some.injEq] at hi; subst hi; exact .sl0 _ _ _
    | dead => simp [toI] at hi
    | own0 _ sz A =>
      simp only [toI, mapO, Option.some.injEq] at hi
      subst hi; exact .sl0 _ _ _
    | own _ sz rows b cap cs e vs hh ho hl hc hz hx hr =>
      simp only [toI] at hi
      split at hi
      · rename_i r hr'
        injection hi with hi
        subst hi
        have hlen := mapO_len hr'
        have := IR.sl (fz := fz) sz r b 0 cap vs (by rw [hlen]; exact hl) (fun i r' hi => by
            obtain ⟨row, hrow, hmr⟩ := mapO_at hr' i r' hi
            rw [mapO_len hmr]; exact hz i row hrow)
          (fun i r' j x hi hj => by
            obtain ⟨row, hrow, hmr⟩ := mapO_at hr' i r' hi
            obtain ⟨t, ht, _⟩ := mapO_at hmr j x hj
            refine hF.own hbr b n q _ _ ho hn ?_
            rw [cell_of_row w _ _ cs e _ hh, Nat.zero_add]
            exact hx i row j t hrow ht)
          (fun i r' j x hi hj => by
            obtain ⟨row, hrow, hmr⟩ := mapO_at hr' i r' hi
            obtain ⟨t, ht, hti⟩ := mapO_at hmr j x hj
            exact toI_sound hbr hF hroots k n _ t x _ hn (hr i row j t hrow ht) hti)
        rw [hlen] at this
        exact this
      · cases hi
    | lent _ m sz len _ hv =>
      simp only [toI] at hi
      split at hi
      · cases hi
      · rename_i hm
        split at hi
        · rename_i sz' rows hH
          split at hi
          · rename_i hc
            obtain ⟨rfl, hl⟩ := hc
            split at hi
            · rename_i r hr
              injection hi with hi
              subst hi
              exact view_I hbr hF hm hv (hroots m _ hH).2.2 (by omega) hr (fun q t i u h1 h2 => toI_sound hbr hF hroots k m q t i u hm h1 h2)
            · cases hi
          · cases hi
        · cases hi

def pos : List Nat → Nat → Option Nat
  | [], _ => none
  | x :: xs, n => if x = n then some 0 else (pos xs n).map (· + 1)
theorem pos_some : ∀ {xs : List Nat} {n k : Nat}, pos xs n = some k → xs[k]? = some n
  | [], n, k, h => by cases h
  | x :: xs, n, k, h => by
    simp only [pos] at h
    split at h
    · rename_i e; injection h with h; subst h; simp [e]
    · rw [Option.map_eq_some_iff] at h
      obtain ⟨k', hk, rfl⟩ := h
      simpa using pos_some hk
theorem pos_none : ∀ {xs : List Nat} {n : Nat}, pos xs n = none ↔ n ∉ xs
  | [], n => by simp [pos]
  | x :: xs, n => by
    simp only [pos]
    split
    · rename_i e; simp [e]
    · rename_i e
      rw [Option.map_eq_none_iff, pos_none]
      simp [Ne.symm e]
theorem pos_at : ∀ {xs : List Nat} {n k : Nat}, xs.Nodup → xs[k]? = some n → pos xs n = some k
  | [], n, k, _, h => by simp at h
  | x :: xs, n, k, hn, h => by
    cases k with
    | zero => simp at h; simp [pos, h]
    | succ k =>
      simp only [List.getElem?_cons_succ] at h
      have hm : n ∈ xs := List.mem_of_getElem? h
      have hne : x ≠ n := fun e => (List.nodup_cons.1 hn).1 (e ▸ hm)
      simp [pos, hne, pos_at (List.nodup_cons.1 hn).2 h]

/-- A value as the callee sees it: 'ex': the variables that it may write. -/
def loC (ex : List Nat) (H : Nat → Option Root) : Nat → C → Option C
  | _, .im i => some (.im i)
  | _, .nil => some .nil
  | _, .iptr row off => some (.iptr row off)
  | _, .view n sz lo len => if n ∈ ex then none else match H n with
    | some (.arr sz' rows) => if sz' = sz ∧ lo + len ≤ rows.length then match mapO (mapO (toI ex H 4)) ((rows.drop lo).take len) with
        | some r => some (.im (.sl sz r))
        | none => none
      else none
    | _ => none
  | _, .ptr n sz i off => match pos ex n with
    | some k => some (.ptr k sz i off)
    | none => none
  | 0, .fn f caps => match caps with
    | [] => some (.fn f [])
    | _ => none
  | k + 1, .fn f caps => match mapO (loC ex H k) caps with
    | some cs => some (.fn f cs)
    | none => none

theorem loC_sound {br : Bool} {g0 : Gh} {ex : List Nat} (hF : Frz br g w ex g0.fz) (hroots : ∀ n r, H n = some r → br = true ∧ g.used n ∧ RootR w g n r)
    (hp : ∀ k n, ex[k]? = some n → g0.used k ∧ g0.rb k = g.rb n ∧ g0.base k = g.base n) : ∀ (k : Nat) (c c' : C) (v : Value), CV g c v → loC ex H k c = some c' → CV g0 c' v := by
  have base : ∀ (k : Nat) (c c' : C) (v : Value), (∀ f caps, c ≠ .fn f caps) → CV g c v → loC ex H k c = some c' → CV g0 c' v := by
    intro k c c' v hne hc hl
    cases c with
    | im i => simp only [loC, Option.some.injEq] at hl; subst hl; cases hc with | im _ _ h => exact .im _ _ (h.mono hF.old)
    | nil => simp only [loC, Option.some.injEq] at hl; subst hl; cases hc; exact .nil
    | iptr row off =>
      simp only [loC, Option.some.injEq] at hl; subst hl
      cases hc with | iptr _ _ b o vs hx hr => exact .iptr row off b o vs (fun j x hj => hF.old _ _ _ (hx j x hj)) (fun j x hj => (hr j x hj).mono hF.old)
    | view n sz lo len =>
      simp only [loC] at hl
      split at hl
      · cases hl
      · rename_i hm
        split at hl
        · rename_i sz' rows hH
          split at hl
          · rename_i hcc
            obtain ⟨rfl, hle⟩ := hcc
            split at hl
            · rename_i r hr
              injection hl with hl
              subst hl
              have hbr := (hroots n _ hH).1
              exact .im _ _ (view_I hbr hF hm hc (hroots n _ hH).2.2 hle hr (fun q t i u h1 h2 => toI_sound hbr hF hroots 4 n q t i u hm h1 h2))
            · cases hl
          · cases hl
        · cases hl
    | ptr n sz i off =>
      simp only [loC] at hl
      split at hl
      · rename_i k' hk
        injection hl with hl
        subst hl
        obtain ⟨h1, h2, h3⟩ := hp k' n (pos_some hk)
        cases hc with
        | ptr _ _ _ _ hu => rw [← h2, ← h3]; exact .ptr _ _ _ _ h1
      · cases hl
    | fn f caps => exact absurd rfl (hne f caps)
  intro k
  induction k with
  | zero =>
    intro c c' v hc hl
    cases hc with
    | fn f caps vs hs hr =>
      simp only [loC] at hl
      split at hl
      · injection hl with hl; subst hl
        exact .fn f [] vs hs (fun j x v hj => by simp at hj)
      · cases hl
    | im i v h => exact base 0 _ _ _ (by simp) (.im i v h) hl
    | nil => exact base 0 _ _ _ (by simp) .nil hl
    | view0 n sz lo A h => exact base 0 _ _ _ (by simp) (.view0 n sz lo A h) hl
    | view n sz lo len cap h hb hl' hc' => exact base 0 _ _ _ (by simp) (.view n sz lo len cap h hb hl' hc') hl
    | ptr n sz i off h => exact base 0 _ _ _ (by simp) (.ptr n sz i off h) hl
    | iptr row off b o vs hx hr => exact base 0 _ _ _ (by simp) (.iptr row off b o vs hx hr) hl
  | succ k ih =>
    intro c c' v hc hl
    cases hc with
    | fn f caps vs hs hr =>
      simp only [loC] at hl
      split at hl
      · rename_i cs hcs
        injection hl with hl; subst hl
        refine .fn f cs vs (by rw [hs, mapO_len hcs]) (fun j x u hj hu => ?_)
        obtain ⟨c0, h1, h2⟩ := mapO_at hcs j x hj
        exact ih c0 x u (hr j c0 u h1 hu) h2
      · cases hl
    | im i v h => exact base _ _ _ _ (by simp) (.im i v h) hl
    | nil => exact base _ _ _ _ (by simp) .nil hl
    | view0 n sz lo A h => exact base _ _ _ _ (by simp) (.view0 n sz lo A h) hl
    | view n sz lo len cap h hb hl' hc' => exact base _ _ _ _ (by simp) (.view n sz lo len cap h hb hl' hc') hl
    | ptr n sz i off h => exact base _ _ _ _ (by simp) (.ptr n sz i off h) hl
    | iptr row off b o vs hx hr => exact base _ _ _ _ (by simp) (.iptr row off b o vs hx hr) hl

def loD (ex : List Nat) (H : Nat → Option Root) : D → Option D
  | .c x => match loC ex H 2 x with
    | some y => some (.c y)
    | none => none
  | .agg xs => match mapO (loC ex H 2) xs with
    | some ys => some (.agg ys)
    | none => none
  | .tup _ => none
theorem loD_sound {br : Bool} {g0 : Gh} {ex : List Nat} (hF : Frz br g w ex g0.fz) (hroots : ∀ n r, H n = some r → br = true ∧ g.used n ∧ RootR w g n r)
    (hp : ∀ k n, ex[k]? = some n → g0.used k ∧ g0.rb k = g.rb n ∧ g0.base k = g.base n) {d d' : D} {v : Value} (hd : DV g d v) (hl : loD ex H d = some d') : DV g0 d' v := by
  cases hd with
  | c x v h =>
    simp only [loD] at hl
    split at hl
    · rename_i y hy; injection hl with hl; subst hl; exact .c _ _ (loC_sound hF hroots hp 2 x y v h hy)
    · cases hl
  | agg xs vs hs hr =>
    simp only [loD] at hl
    split at hl
    · rename_i ys hys; injection hl with hl; subst hl
      refine .agg _ _ (by rw [hs, mapO_len hys]) (fun j x u hj hu => ?_)
      obtain ⟨c0, h1, h2⟩ := mapO_at hys j x hj
      exact loC_sound hF hroots hp 2 c0 x u (hr j c0 u h1 hu) h2
    · cases hl
  | tup => simp [loD] at hl

/-! ### What may move from one ghost state to another -/
def scI : I → Bool
  | .sl _ _ => false
  | _ => true
inductive Mv (sc : Bool) : T → Prop where
  | im (i : I) (h : sc = false ∨ scI i = true) : Mv sc (.im i)
  | nil : Mv sc .nil
  | dead : Mv sc .dead
  | own (sz : Nat) (rows : List (List T)) (h : ∀ r ∈ rows, ∀ t ∈ r, Mv sc t) : Mv sc (.own sz rows)

theorem IR.sc {fz fz' : Nat → Nat → Option Value} {i : I} {v : Value} (h : IR fz i v) (hs : scI i = true) : IR fz' i v := by
  cases h with
  | bool b => exact .bool b
  | int k n => exact .int k n
  | flt k x y h => exact .flt k x y h
  | cpx k x y x' y' h h' => exact .cpx k x y x' y' h h'
  | str s => exact .str s
  | raw v h => exact .raw v h
  | sl0 => simp [scI] at hs
  | sl => simp [scI] at hs

theorem TR.mv {sc : Bool} {g' : Gh} {n n' : Nat} {t : T} (hm : Mv sc t) (hfz : sc = false → ∀ b o v, g.fz b o = some v → g'.fz b o = some v) :
    ∀ {q q' : Pth} {v : Value}, TR w g n q t v → (∀ (b : Nat) (p : Pth), g.own b = some (n, q ++ p) → g'.own b = some (n', q' ++ p)) → TR w g' n' q' t v := by
  induction hm with
  | im i h =>
    intro q q' v ht _
    cases ht with
    | im _ _ _ hi =>
      refine .im _ _ _ ?_
      rcases h with h | h
      · exact hi.mono (hfz h)
      · exact hi.sc h
  | nil => intro q q' v ht _; cases ht; exact .nil _
  | dead => intro q q' v ht _; exact .dead _ _
  | own sz rows h ih =>
    intro q q' v ht hb
    cases ht with
    | own0 _ _ A => exact .own0 _ _ _
    | own _ _ _ b cap cs e vs hh ho hl hc hz hx hr =>
      refine .own q' sz rows b cap cs e vs hh (by simpa using hb b [] (by simpa using ho)) hl hc hz hx (fun i r j x h1 h2 => ?_)
      refine ih r (List.mem_of_getElem? h1) x (List.mem_of_getElem? h2) (hr i r j x h1 h2) (fun b' p hp => ?_)
      have := hb b' ((i, j) :: p) (by simpa using hp)
      simpa using this

inductive MvB (sc : Bool) : B → Prop where
  | t (x : T) (h : Mv sc x) : MvB sc (.t x)
  | nilfn (f : Fn) : MvB sc (.v (.fn f []))
def MvR (sc : Bool) : Root → Prop
  | .box cells => ∀ x ∈ cells, MvB sc x
  | .arr _ rows => ∀ r ∈ rows, ∀ t ∈ r, Mv sc t
theorem MvR.get {sc : Bool} {r : Root} (h : MvR sc r) {i j : Nat} {x : B} (hx : r.get i j = some x) : MvB sc x := by
  cases r with
  | box cells =>
    cases i with
    | zero => exact h x (List.mem_of_getElem? (by simpa [Root.get] using hx))
    | succ i => simp [Root.get] at hx
  | arr sz rows =>
    simp only [Root.get] at hx
    cases hr : rows[i]? with
    | none => simp [hr] at hx
    | some row =>
      simp only [hr, Option.map_eq_some_iff] at hx
      obtain ⟨y, hy, rfl⟩ := hx
      exact .t _ (h row (List.mem_of_getElem? hr) y (List.mem_of_getElem? hy))

theorem RootR.mv {sc : Bool} {g' : Gh} {n n' : Nat} {r : Root} (hm : MvR sc r) (hfz : sc = false → ∀ b o v, g.fz b o = some v → g'.fz b o = some v)
    (hrb : g'.rb n' = g.rb n) (hbase : g'.base n' = g.base n) (hrc : g'.rc n' = g.rc n) (h : RootR w g n r) (hb0 : g.own (g.rb n) = some (n, []) → g'.own (g.rb n) = some (n', []))
    (hb : ∀ (b : Nat) (x : Nat × Nat) (p : Pth), g.own b = some (n, x :: p) → g'.own b = some (n', x :: p)) : RootR w g' n' r := by
  cases h with
  | mk r cs e hh ho hf hr =>
    refine .mk r cs e (by rw [hrb]; exact hh) (by rw [hrb]; exact hb0 ho) (by rw [hbase, hrc]; exact hf) (fun i j x hx => ?_)
    obtain ⟨v, hv, hbr⟩ := hr i j x hx
    refine ⟨v, by rw [hbase]; exact hv, ?_⟩
    cases hm.get hx with
    | t x hmx =>
      cases hbr with
      | t _ _ ht => exact .t _ _ (ht.mv hmx hfz (fun b p hp => by simpa using hb b (i, j) p (by simpa using hp)))
    | nilfn f =>
      cases hbr with
      | v _ _ hc =>
        cases hc with
        | fn _ _ vs hs _ => exact .v _ _ (.fn f [] vs hs (fun j x v hj => by simp at hj))
  | arr0 sz hs hc => exact .arr0 sz hs (by rw [hrc]; exact hc)
end Go.SX
