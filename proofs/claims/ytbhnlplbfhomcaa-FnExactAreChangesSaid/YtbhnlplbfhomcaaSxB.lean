/-
  SX, part B: the relation between an ideal state and a real one, and how it is kept: a slot is written, a block is made, cells are stored, roots are renamed.
  No condition. Plain definitions and theorems over any program.
-/
import Derived.Test.YtbhnlplbfhomcaaSxA
import Derived.Laws.Tables
import Derived.Laws.CopyRow
import Derived.Laws.Rows
set_option linter.unusedVariables false
set_option linter.unusedSimpArgs false
namespace Go.SX
open Go Go.RowKit

def upd {α : Type} (f : Nat → α) (n : Nat) (x : α) : Nat → α := fun m => if m = n then x else f m
theorem upd_same {α : Type} (f : Nat → α) (n : Nat) (x : α) : upd f n x n = x := by simp [upd]
theorem upd_other {α : Type} (f : Nat → α) {n m : Nat} (x : α) (h : m ≠ n) : upd f n x m = f m := by simp [upd, h]

/-- What holds where the call begins: the places that were handed over are roots of their own. -/
structure En where
  g0 : Gh
  w0 : World
  wid : Nat → Nat

structure Fr (en : En) (g : Gh) (w : World) : Prop where
  os : w.os = en.w0.os
  tape : w.tape = en.w0.tape
  output : w.output = en.w0.output
  size : en.w0.heap.size ≤ w.heap.size
  gle : en.g0.le g
  old : ∀ b, b < en.w0.heap.size → en.g0.own b = none → g.own b = none ∧ w.heap[b]? = en.w0.heap[b]?
  place : ∀ b n, en.g0.own b = some (n, []) → en.g0.used n ∧ g.own b = some (n, []) ∧ ∃ cs cs' e, en.w0.heap[b]? = some (.cells cs e (0, 0)) ∧ w.heap[b]? = some (.cells cs' e (0, 0)) ∧ cs'.size = cs.size ∧
    ∀ o, (o < en.g0.base n ∨ en.g0.base n + en.wid n ≤ o) → cs'[o]? = cs[o]?
  fzn : ∀ b o v, b < en.w0.heap.size → g.fz b o = some v → en.g0.fz b o = some v ∨ en.g0.own b ≠ none

structure Rel (en : En) (g : Gh) (S : Nat → Option D) (H : Nat → Option Root) (a : Act) (w : World) : Prop where
  fr : Fr en g w
  df : a.defers = []
  lt : ∀ b x, g.own b = some x → b < w.heap.size
  fz : ∀ b o v, g.fz b o = some v → w.cell? ⟨b, o, none⟩ = some v ∧ g.own b = none
  slots : ∀ t d, S t = some d → ∃ v, a.tmps[t]? = some v ∧ DV g d v
  roots : ∀ n r, H n = some r → g.used n ∧ RootR w g n r
  wd : ∀ n r b, H n = some r → en.g0.own b = some (n, []) → ∃ cells, r = .box cells ∧ cells.length ≤ en.wid n

variable {en : En} {g : Gh} {S S' : Nat → Option D} {H H' : Nat → Option Root} {a : Act} {w : World}

theorem RootR.keep {w w' : World} {g g' : Gh} {n : Nat} {r : Root} (h : RootR w g n r) (hu : g.used n) (hg : g.le g')
    (hb : ∀ (b : Nat) (p : Pth), g.own b = some (n, p) → g'.own b = some (n, p) ∧ w'.heap[b]? = w.heap[b]?) : RootR w' g' n r := by
  cases h with
  | mk r cs e hh ho hf hr =>
    obtain ⟨h1, h2⟩ := hb _ _ ho
    refine .mk r cs e (by rw [hg.rb n hu, h2]; exact hh) (by rw [hg.rb n hu]; exact h1) (by rw [hg.base n hu, hg.rc n hu]; exact hf) (fun i j x hj => ?_)
    obtain ⟨v, hv, hbr⟩ := hr i j x hj
    refine ⟨v, by rw [hg.base n hu]; exact hv, ?_⟩
    cases hbr with
    | t x v h => exact .t x v (h.keep hg (fun b p hp => hb b _ hp))
    | v x v h => exact .v x v (h.mono hg)
  | arr0 sz hs hc => exact .arr0 sz hs (by rw [hg.rc n hu]; exact hc)

/-- Less is known. -/
theorem Rel.less (h : Rel en g S H a w) (hs : ∀ t d, S' t = some d → S t = some d) (hh : ∀ n r, H' n = some r → H n = some r) : Rel en g S' H' a w :=
  ⟨h.fr, h.df, h.lt, h.fz, fun t d ht => h.slots t d (hs t d ht), fun n r hn => h.roots n r (hh n r hn), fun n r b hn => h.wd n r b (hh _ _ hn)⟩

/-- A draw. -/
theorem Rel.world (h : Rel en g S H a w) {w' : World} (h1 : w'.heap = w.heap) (h2 : w'.os = w.os) (h3 : w'.tape = w.tape) (h4 : w'.output = w.output) : Rel en g S H a w' := by
  have hc : ∀ ad, w'.cell? ad = w.cell? ad := fun ad => by simp [World.cell?, h1]
  refine ⟨⟨h2.trans h.fr.os, h3.trans h.fr.tape, h4.trans h.fr.output, by rw [h1]; exact h.fr.size, h.fr.gle, fun b hb ho => by rw [h1]; exact h.fr.old b hb ho, fun b n ho => by rw [h1]; exact h.fr.place b n ho, h.fr.fzn⟩,
    h.df, fun b x hx => by rw [h1]; exact h.lt b x hx, fun b o v hv => by rw [hc]; exact h.fz b o v hv, h.slots, fun n r hn => ?_, h.wd⟩
  obtain ⟨hu, hr⟩ := h.roots n r hn
  exact ⟨hu, hr.keep hu (Gh.le.refl g) (fun b p hp => ⟨hp, by rw [h1]⟩)⟩

theorem Rel.drew (h : Rel en g S H a w) : Rel en g S H a w.drew := h.world rfl rfl rfl rfl

/-- A slot is written. -/
theorem Rel.put (h : Rel en g S H a w) {t : Nat} {d : D} {v : Value} (ht : t < a.tmps.size) (hd : DV g d v) : Rel en g (upd S t (some d)) H (a.put (some t) v) w := by
  refine ⟨h.fr, h.df, h.lt, h.fz, fun t' d' hs => ?_, h.roots, h.wd⟩
  unfold upd at hs
  by_cases e : t' = t
  · subst e
    rw [if_pos rfl] at hs
    injection hs with hs
    subst hs
    exact ⟨v, by simp [Act.put, Array.getElem?_setIfInBounds, ht], hd⟩
  · rw [if_neg e] at hs
    obtain ⟨v', hv, hd'⟩ := h.slots t' d' hs
    refine ⟨v', ?_, hd'⟩
    simp only [Act.put, Array.getElem?_setIfInBounds]
    rw [if_neg (Ne.symm e)]
    exact hv

/-- A slot is written and nothing is known of it. -/
theorem Rel.putU (h : Rel en g S H a w) (t : Option Nat) (v : Value) : Rel en g (match t with | some t => upd S t none | none => S) H (a.put t v) w := by
  cases t with
  | none => exact h
  | some t =>
    refine ⟨h.fr, h.df, h.lt, h.fz, fun t' d' hs => ?_, h.roots, h.wd⟩
    simp only [upd] at hs
    by_cases e : t' = t
    · rw [if_pos e] at hs; cases hs
    · rw [if_neg e] at hs
      obtain ⟨v', hv, hd'⟩ := h.slots t' d' hs
      refine ⟨v', ?_, hd'⟩
      simp only [Act.put, Array.getElem?_setIfInBounds]
      rw [if_neg (Ne.symm e)]
      exact hv

def Gh.new (g : Gh) (nm b size : Nat) : Gh :=
  { used := fun m => m = nm ∨ g.used m, rb := upd g.rb nm b, base := upd g.base nm 0, rc := upd g.rc nm size, own := upd g.own b (some (nm, [])), fz := g.fz }

theorem Gh.new_le {g : Gh} {nm b size : Nat} (h : ¬ g.used nm) : g.le (g.new nm b size) :=
  ⟨fun n hn => .inr hn, fun n hn => upd_other _ _ (fun e => h (e ▸ hn)), fun n hn => upd_other _ _ (fun e => h (e ▸ hn)), fun n hn => upd_other _ _ (fun e => h (e ▸ hn)), fun _ _ _ hv => hv⟩

/-- A block is made: a root of its own. -/
theorem Rel.new (h : Rel en g S H a w) {nm : Nat} (hn : ¬ g.used nm) (cs : Array Value) (e : TypeId) {r : Root}
    (hr : RootR (w.alloc (.cells cs e)) (g.new nm w.heap.size cs.size) nm r) :
    Rel en (g.new nm w.heap.size cs.size) S (upd H nm (some r)) a (w.alloc (.cells cs e)) := by
  have hle : g.le (g.new nm w.heap.size cs.size) := Gh.new_le hn
  have hold : ∀ b, b < w.heap.size → (g.new nm w.heap.size cs.size).own b = g.own b := fun b hb => upd_other _ _ (by omega)
  have hfree : g.own w.heap.size = none := by
    cases ho : g.own w.heap.size with
    | none => rfl
    | some x => exact absurd (h.lt _ _ ho) (by omega)
  have hblk : ∀ b, b < w.heap.size → (w.alloc (.cells cs e)).heap[b]? = w.heap[b]? := fun b hb => heap_alloc_old _ _ _ hb
  refine ⟨⟨h.fr.os, h.fr.tape, h.fr.output, by simpa using Nat.le_succ_of_le h.fr.size, h.fr.gle.trans hle, fun b hb ho => ?_, fun b n ho => ?_, h.fr.fzn⟩, h.df, fun b x hx => ?_, fun b o v hv => ?_,
    fun t d ht => ?_, fun n r' hn' => ?_, fun n cells b hn' ho => ?_⟩
  · have hb' : b < w.heap.size := Nat.lt_of_lt_of_le hb h.fr.size
    rw [hold b hb', hblk b hb']
    exact h.fr.old b hb ho
  · obtain ⟨h0, h1, cs1, cs2, e1, h2, h3, h4⟩ := h.fr.place b n ho
    have hb' := h.lt _ _ h1
    rw [hold b hb']
    exact ⟨h0, h1, cs1, cs2, e1, h2, (hblk b hb').trans h3, h4⟩
  · by_cases hb : b < w.heap.size
    · simpa using Nat.lt_succ_of_lt hb
    · by_cases e' : b = w.heap.size
      · subst e'; simp
      · have : g.own b = some x := by rw [← hx]; exact (upd_other _ _ e').symm
        exact absurd (h.lt _ _ this) hb
  · obtain ⟨h1, h2⟩ := h.fz b o v hv
    have hb : b < w.heap.size := World.block_lt_of_cell? w _ h1
    exact ⟨(World.cell?_of_block (w := w) (a := ⟨b, o, none⟩) (hblk b hb)).trans h1, (hold b hb).trans h2⟩
  · obtain ⟨v, hv, hd⟩ := h.slots t d ht
    exact ⟨v, hv, hd.mono hle⟩
  · unfold upd at hn'
    by_cases e' : n = nm
    · subst e'
      rw [if_pos rfl] at hn'
      injection hn' with hn'
      subst hn'
      exact ⟨.inl rfl, hr⟩
    · rw [if_neg e'] at hn'
      obtain ⟨hu, hR⟩ := h.roots n r' hn'
      exact ⟨.inr hu, hR.keep hu hle (fun b p hp => by have hb := h.lt _ _ hp; exact ⟨(hold b hb).trans hp, hblk b hb⟩)⟩
  · unfold upd at hn'
    by_cases e' : n = nm
    · subst e'
      exact absurd (h.fr.gle.used n (h.fr.place b n ho).1) hn
    · rw [if_neg e'] at hn'
      exact h.wd n cells b hn' ho

/-- Cells of one root are written. -/
theorem Rel.store (h : Rel en g S H a w) {n : Nat} {r r' : Root} (hn : H n = some r) {cs cs' : Array Value} {e : TypeId}
    (hh : w.heap[g.rb n]? = some (.cells cs e (0, 0))) (ho : g.own (g.rb n) = some (n, [])) (hsz : cs'.size = cs.size)
    (hout : ∀ b, en.g0.own b = some (n, []) → ∀ o, (o < en.g0.base n ∨ en.g0.base n + en.wid n ≤ o) → cs'[o]? = cs[o]?)
    (hr : RootR (w.setRow (g.rb n) cs') g n r') (hw : ∀ b, en.g0.own b = some (n, []) → ∃ cells, r' = .box cells ∧ cells.length ≤ en.wid n) :
    Rel en g S (upd H n (some r')) a (w.setRow (g.rb n) cs') := by
  have hoth : ∀ b, g.own b ≠ some (n, []) → (w.setRow (g.rb n) cs').heap[b]? = w.heap[b]? := fun b hb => setRow_other w _ _ _ (fun e' => hb (e' ▸ ho))
  refine ⟨⟨h.fr.os, h.fr.tape, h.fr.output, by simpa using h.fr.size, h.fr.gle, fun b hb hb0 => ?_, fun b m hb => ?_, h.fr.fzn⟩, h.df, fun b x hx => by simpa using h.lt b x hx, fun b o v hv => ?_, h.slots,
    fun m r1 hm => ?_, fun m cells b hm hb => ?_⟩
  · obtain ⟨h1, h2⟩ := h.fr.old b hb hb0
    exact ⟨h1, (hoth b (by rw [h1]; simp)).trans h2⟩
  · obtain ⟨h0, h1, c1, c2, e1, h2, h3, h4, h5⟩ := h.fr.place b m hb
    by_cases e' : b = g.rb n
    · subst e'
      have hmn : m = n := by rw [ho] at h1; injection h1 with h1; injection h1 with h1; exact h1.symm
      subst hmn
      rw [hh] at h3
      injection h3 with h3
      injection h3 with h3 h3'
      subst h3; subst h3'
      exact ⟨h0, h1, c1, cs', e, h2, setRow_heap w _ cs cs' e _ hh, hsz.trans h4, fun o ho' => (hout _ hb o ho').trans (h5 o ho')⟩
    · exact ⟨h0, h1, c1, c2, e1, h2, (setRow_other w _ _ _ e').trans h3, h4, h5⟩
  · obtain ⟨h1, h2⟩ := h.fz b o v hv
    exact ⟨(World.cell?_of_block (w := w) (a := ⟨b, o, none⟩) (hoth b (by rw [h2]; simp))).trans h1, h2⟩
  · unfold upd at hm
    by_cases e' : m = n
    · subst e'
      rw [if_pos rfl] at hm
      injection hm with hm
      subst hm
      exact ⟨(h.roots m r hn).1, hr⟩
    · rw [if_neg e'] at hm
      obtain ⟨hu, hR⟩ := h.roots m r1 hm
      exact ⟨hu, hR.keep hu (Gh.le.refl g) (fun b p hp => ⟨hp, hoth b (by rw [hp]; intro hc; injection hc with hc; injection hc with hc _; exact e' hc)⟩)⟩
  · unfold upd at hm
    by_cases e' : m = n
    · subst e'
      rw [if_pos rfl] at hm
      injection hm with hm
      subst hm
      exact hw b hb
    · rw [if_neg e'] at hm
      exact h.wd m cells b hm hb

/-- The blocks of root m are booked under root n, path q. -/
def Gh.into (g : Gh) (m n : Nat) (q : Pth) : Gh :=
  { g with own := fun b => match g.own b with
      | some (m', p) => if m' = m then some (n, q ++ p) else some (m', p)
      | none => none }
theorem Gh.into_le (g : Gh) (m n : Nat) (q : Pth) : g.le (g.into m n q) := ⟨fun _ h => h, fun _ _ => rfl, fun _ _ => rfl, fun _ _ => rfl, fun _ _ _ h => h⟩
theorem Gh.into_other {g : Gh} {m n : Nat} {q : Pth} {b m' : Nat} {p : Pth} (h : g.own b = some (m', p)) (hm : m' ≠ m) : (g.into m n q).own b = some (m', p) := by simp [Gh.into, h, hm]
theorem Gh.into_same {g : Gh} {m n : Nat} {q : Pth} {b : Nat} {p : Pth} (h : g.own b = some (m, p)) : (g.into m n q).own b = some (n, q ++ p) := by simp [Gh.into, h]

/-- What a root that holds one array is as a cell of another root. -/
theorem TR.of_arr {m n sz : Nat} {rows : List (List T)} {q : Pth} {v : Value} (hr : RootR w g m (.arr sz rows)) (hv : CV g (.view m sz 0 rows.length) v) (hmn : m ≠ n) :
    TR w (g.into m n q) n q (.own sz rows) v := by
  have hz0 : ∀ v, (∃ a, v = Value.slice a 0 0) → rows = [] → TR w (g.into m n q) n q (.own sz rows) v := by
    rintro v ⟨a, rfl⟩ rfl; exact .own0 q sz a
  cases hr with
  | arr0 _ hsz hrc =>
    cases hv with
    | view0 n sz lo a hu => exact hz0 _ ⟨_, rfl⟩ rfl
    | view n sz lo len cap hu hb hl hc =>
      rw [hrc] at hc
      have : cap = 0 := by
        rcases Nat.eq_zero_or_pos cap with h0 | h0
        · exact h0
        · have := Nat.mul_pos (show 0 < 0 + cap by omega) hsz; omega
      subst this
      exact hz0 _ ⟨_, rfl⟩ rfl
  | mk _ cs e hh ho hf hr =>
    obtain ⟨hb, hc, hm, hz⟩ := hf
    generalize hlen : rows.length = len at hv
    cases hv with
    | view0 n sz lo a hu => exact hz0 _ ⟨_, rfl⟩ (List.eq_nil_of_length_eq_zero hlen)
    | view n sz lo len cap hu hb' hl hc' =>
      subst hlen
      rw [Nat.zero_mul]
      have hgo := Gh.into_same (n := n) (q := q) ho
      have hr' : ∀ (i : Nat) (r : List T) (j : Nat) (x : T), rows[i]? = some r → r[j]? = some x → ∃ v, cs[i * sz + j]? = some v ∧ TR w g m [(i, j)] x v := fun i r j x h1 h2 => by
        obtain ⟨v, h3, h4⟩ := hr i j (.t x) (by simp [Root.get, h1, h2])
        refine ⟨v, by rw [hb, Nat.zero_add] at h3; exact h3, ?_⟩
        cases h4 with
        | t _ _ h => exact h
      obtain ⟨vs, hvs⟩ := rows_choose hr'
      refine .own q sz rows (g.rb m) cap cs e vs hh (by simpa using hgo) hl (by rw [hc]; simpa using hc') hz (fun i r j x h1 h2 => (hvs i r j x h1 h2).1) (fun i r j x h1 h2 => ?_)
      refine (hvs i r j x h1 h2).2.move (Gh.into_le g m n q) (fun b p hp => ⟨?_, rfl⟩)
      have := Gh.into_same (n := n) (q := q) hp
      simpa using this

/-- Cell j of row i is another one. -/
def Root.setT : Root → Nat → Nat → T → Root
  | .box cells, 0, j, x => .box (cells.set j (.t x))
  | .box cells, _ + 1, _, _ => .box cells
  | .arr sz rows, i, j, x => match rows[i]? with
    | some r => .arr sz (rows.set i (r.set j x))
    | none => .arr sz rows

theorem Root.setT_sz (r : Root) (i j : Nat) (x : T) : (r.setT i j x).sz = r.sz := by
  cases r with
  | box cells => cases i <;> rfl
  | arr sz rows => simp only [Root.setT]; split <;> rfl

theorem Root.setT_get {r : Root} {i j : Nat} {y : B} (x : T) (hy : r.get i j = some y) (i' j' : Nat) : (r.setT i j x).get i' j' = if i' = i ∧ j' = j then some (.t x) else r.get i' j' := by
  cases r with
  | box cells =>
    cases i with
    | zero =>
      simp only [Root.get] at hy
      have hj : j < cells.length := (List.getElem?_eq_some_iff.1 hy).1
      cases i' with
      | zero =>
        simp only [Root.setT, Root.get, List.getElem?_set]
        by_cases e : j = j'
        · subst e; simp [hj]
        · simp [e, Ne.symm e]
      | succ i' => simp [Root.setT, Root.get]
    | succ i => simp [Root.get] at hy
  | arr sz rows =>
    simp only [Root.get] at hy
    cases hr : rows[i]? with
    | none => simp [hr] at hy
    | some r =>
      simp only [hr, Option.map_eq_some_iff] at hy
      obtain ⟨z, hz, _⟩ := hy
      have hj : j < r.length := (List.getElem?_eq_some_iff.1 hz).1
      have hi : i < rows.length := (List.getElem?_eq_some_iff.1 hr).1
      simp only [Root.setT, hr, Root.get, List.getElem?_set]
      by_cases e : i = i'
      · subst e
        simp only [if_pos, hi, hr, true_and]
        rw [List.getElem?_set]
        by_cases e' : j = j'
        · subst e'; simp [hj]
        · simp [e', Ne.symm e']
      · simp [e, Ne.symm e]

theorem Root.setT_form {r : Root} (i j : Nat) (x : T) {base rc size : Nat} (h : r.form base rc size) : (r.setT i j x).form base rc size := by
  cases r with
  | box cells => cases i <;> exact h
  | arr sz rows =>
    simp only [Root.setT]
    split
    · rename_i r hr
      obtain ⟨h1, h2, h3, h4⟩ := h
      refine ⟨h1, h2, by simpa using h3, fun i' r' hr' => ?_⟩
      rw [List.getElem?_set] at hr'
      split at hr'
      · split at hr'
        · injection hr' with hr'; subst hr'; simpa using h4 i r hr
        · cases hr'
      · exact h4 i' r' hr'
    · exact h

theorem Root.setT_box (cells : List B) (i j : Nat) (x : T) : ∃ c0, (Root.box cells).setT i j x = .box c0 ∧ c0.length = cells.length := by
  cases i with
  | zero => exact ⟨_, rfl, by simp⟩
  | succ i => exact ⟨_, rfl, rfl⟩

/-- The array that a cell lends is put back into it. -/
theorem Rel.fold (h : Rel en g S H a w) {n m i j sz : Nat} {r : Root} {rows : List (List T)} (hn : H n = some r) (hm : H m = some (.arr sz rows)) (hmn : m ≠ n) (hp : ¬ en.g0.used m)
    (hc : r.get i j = some (.t (.lent m sz rows.length))) : Rel en (g.into m n [(i, j)]) S (upd (upd H m none) n (some (r.setT i j (.own sz rows)))) a w := by
  have hle := Gh.into_le g m n [(i, j)]
  have hoth : ∀ b m' p, g.own b = some (m', p) → m' ≠ m → (g.into m n [(i, j)]).own b = some (m', p) ∧ w.heap[b]? = w.heap[b]? := fun b m' p h1 h2 => ⟨Gh.into_other h1 h2, rfl⟩
  have hnone : ∀ b, g.own b = none → (g.into m n [(i, j)]).own b = none := fun b hb => by simp [Gh.into, hb]
  refine ⟨⟨h.fr.os, h.fr.tape, h.fr.output, h.fr.size, h.fr.gle.trans hle, fun b hb hb0 => ?_, fun b k hb => ?_, h.fr.fzn⟩, h.df, fun b x hx => ?_, fun b o v hv => ?_, fun t d ht => ?_, fun k r1 hk => ?_, fun k cells b hk hb => ?_⟩
  · obtain ⟨h1, h2⟩ := h.fr.old b hb hb0; exact ⟨hnone b h1, h2⟩
  · obtain ⟨h0, h1, h2⟩ := h.fr.place b k hb
    exact ⟨h0, Gh.into_other h1 (fun e => hp (e ▸ h0)), h2⟩
  · cases hb : g.own b with
    | none => rw [hnone b hb] at hx; cases hx
    | some y => exact h.lt b y hb
  · obtain ⟨h1, h2⟩ := h.fz b o v hv; exact ⟨h1, hnone b h2⟩
  · obtain ⟨v, hv, hd⟩ := h.slots t d ht; exact ⟨v, hv, hd.mono hle⟩
  · unfold upd at hk
    by_cases e : k = n
    · subst e
      rw [if_pos rfl] at hk
      injection hk with hk
      subst hk
      obtain ⟨hu, hR⟩ := h.roots k r hn
      refine ⟨hu, ?_⟩
      cases hR with
      | mk r cs e hh ho hf hr =>
        refine .mk _ cs e hh (hoth _ _ _ ho (Ne.symm hmn)).1 (Root.setT_form i j _ hf) (fun i' j' x hx => ?_)
        rw [Root.setT_sz]
        rw [Root.setT_get _ hc] at hx
        split at hx
        · rename_i he
          obtain ⟨rfl, rfl⟩ := he
          injection hx with hx
          subst hx
          obtain ⟨v, hv, hb⟩ := hr i' j' _ hc
          refine ⟨v, hv, .t _ _ ?_⟩
          cases hb with
          | t _ _ ht =>
            cases ht with
            | lent _ _ _ _ _ hl => exact TR.of_arr (h.roots m _ hm).2 hl hmn
        · obtain ⟨v, hv, hb⟩ := hr i' j' x hx
          refine ⟨v, hv, ?_⟩
          cases hb with
          | t x v h => exact .t x v (h.keep hle (fun b p hp => hoth b _ _ hp (Ne.symm hmn)))
          | v x v h => exact .v x v (h.mono hle)
      | arr0 sz hs hc0 => simp [Root.get] at hc
    · rw [if_neg e] at hk
      by_cases e' : k = m
      · rw [if_pos e'] at hk; cases hk
      · rw [if_neg e'] at hk
        obtain ⟨hu, hR⟩ := h.roots k r1 hk
        exact ⟨hu, hR.keep hu hle (fun b p hp => hoth b _ _ hp e')⟩
  · unfold upd at hk
    by_cases e : k = n
    · subst e
      rw [if_pos rfl] at hk
      injection hk with hk
      subst hk
      obtain ⟨c0, rfl, hl⟩ := h.wd k r b hn hb
      obtain ⟨c1, h1, h2⟩ := Root.setT_box c0 i j (.own sz rows)
      exact ⟨c1, h1, by rw [h2]; exact hl⟩
    · rw [if_neg e] at hk
      by_cases e' : k = m
      · rw [if_pos e'] at hk; cases hk
      · rw [if_neg e'] at hk; exact h.wd k cells b hk hb

/-- The blocks of a cell of root n are booked as a root of their own. -/
def Gh.out (g : Gh) (n : Nat) (ij : Nat × Nat) (nm b size : Nat) : Gh :=
  { used := fun m => m = nm ∨ g.used m, rb := upd g.rb nm b, base := upd g.base nm 0, rc := upd g.rc nm size, fz := g.fz,
    own := fun b => match g.own b with
      | some (m, x :: p) => if m = n ∧ x = ij then some (nm, p) else some (m, x :: p)
      | o => o }
theorem Gh.out_le {g : Gh} {n : Nat} {ij : Nat × Nat} {nm b size : Nat} (h : ¬ g.used nm) : g.le (g.out n ij nm b size) :=
  ⟨fun n hn => .inr hn, fun n hn => upd_other _ _ (fun e => h (e ▸ hn)), fun n hn => upd_other _ _ (fun e => h (e ▸ hn)), fun n hn => upd_other _ _ (fun e => h (e ▸ hn)), fun _ _ _ hv => hv⟩
theorem Gh.out_same {g : Gh} {n : Nat} {ij : Nat × Nat} {nm b size b' : Nat} {p : Pth} (h : g.own b' = some (n, ij :: p)) : (g.out n ij nm b size).own b' = some (nm, p) := by simp [Gh.out, h]
theorem Gh.out_other {g : Gh} {n : Nat} {ij : Nat × Nat} {nm b size b' m : Nat} {p : Pth} (h : g.own b' = some (m, p)) (hne : ¬ (m = n ∧ ∃ p', p = ij :: p')) : (g.out n ij nm b size).own b' = some (m, p) := by
  cases p with
  | nil => simp [Gh.out, h]
  | cons x p =>
    have : ¬ (m = n ∧ x = ij) := fun ⟨h1, h2⟩ => hne ⟨h1, p, by rw [h2]⟩
    simp [Gh.out, h, this]

/-- An array in a cell becomes a root of its own: the cell lends it. -/
theorem Rel.hoist (h : Rel en g S H a w) {n nm i j sz : Nat} {r : Root} {rows : List (List T)} (hn : H n = some r) (hnm : ¬ g.used nm) (hsz : 0 < sz) (hc : r.get i j = some (.t (.own sz rows))) :
    ∃ g', g.le g' ∧ g'.used nm ∧ (∀ m, g'.used m → m = nm ∨ g.used m) ∧ Rel en g' S (upd (upd H n (some (r.setT i j (.lent nm sz rows.length)))) nm (some (.arr sz rows))) a w := by
  obtain ⟨hu, hR⟩ := h.roots n r hn
  have hne : nm ≠ n := fun e => hnm (e ▸ hu)
  cases hR with
  | arr0 sz hs hc0 => simp [Root.get] at hc
  | mk _ cs e hh ho hf hr =>
    obtain ⟨v, hv, hb⟩ := hr i j _ hc
    have ht : TR w g n [(i, j)] (.own sz rows) v := by cases hb with | t _ _ h => exact h
    -- what is known of the array itself
    obtain ⟨b, size, hview, hroot⟩ : ∃ b size, CV (g.out n (i, j) nm b size) (.view nm sz 0 rows.length) v ∧ RootR w (g.out n (i, j) nm b size) nm (.arr sz rows) := by
      cases ht with
      | own0 _ _ a => exact ⟨0, 0, .view0 nm sz 0 a (.inl rfl), .arr0 sz hsz (upd_same _ _ _)⟩
      | own _ _ _ b cap cs' e' vs hh' ho' hl hc' hz hx hr' =>
        refine ⟨b, cs'.size, ?_, .mk _ cs' e' (by rw [show (g.out n (i, j) nm b cs'.size).rb nm = b from upd_same _ _ _]; exact hh') (by rw [show (g.out n (i, j) nm b cs'.size).rb nm = b from upd_same _ _ _]; exact Gh.out_same ho')
          ⟨upd_same _ _ _, (upd_same _ _ _).symm, ?_, hz⟩ (fun i' j' x hx' => ?_)⟩
        · have := CV.view (g := g.out n (i, j) nm b cs'.size) nm sz 0 rows.length cap (.inl rfl) (upd_same _ _ _) hl (by rw [show (g.out n (i, j) nm b cs'.size).rc nm = cs'.size from upd_same _ _ _]; simpa using hc')
          rw [show (g.out n (i, j) nm b cs'.size).rb nm = b from upd_same _ _ _, Nat.zero_mul] at this
          exact this
        · rw [show (g.out n (i, j) nm b cs'.size).rc nm = cs'.size from upd_same _ _ _]
          exact Nat.le_trans (Nat.mul_le_mul_right _ hl) hc'
        · simp only [Root.get] at hx'
          cases hrow : rows[i']? with
          | none => simp [hrow] at hx'
          | some row =>
            simp only [hrow, Option.map_eq_some_iff] at hx'
            obtain ⟨y, hy, rfl⟩ := hx'
            refine ⟨vs i' j', by rw [show (g.out n (i, j) nm b cs'.size).base nm = 0 from upd_same _ _ _, Nat.zero_add]; exact hx i' row j' y hrow hy, .t _ _ ?_⟩
            refine (hr' i' row j' y hrow hy).move (Gh.out_le hnm) (fun b' p hp => ⟨?_, rfl⟩)
            exact Gh.out_same (by simpa using hp)
    have hle := Gh.out_le (n := n) (ij := (i, j)) (b := b) (size := size) hnm
    have hoth : ∀ b' m p, g.own b' = some (m, p) → ¬ (m = n ∧ ∃ p', p = (i, j) :: p') → (g.out n (i, j) nm b size).own b' = some (m, p) ∧ w.heap[b']? = w.heap[b']? := fun b' m p h1 h2 => ⟨Gh.out_other h1 h2, rfl⟩
    have hnone : ∀ b', g.own b' = none → (g.out n (i, j) nm b size).own b' = none := fun b' hb => by simp [Gh.out, hb]
    refine ⟨_, hle, .inl rfl, fun m hm => hm, ⟨h.fr.os, h.fr.tape, h.fr.output, h.fr.size, h.fr.gle.trans hle, fun b' hb' hb0 => ?_, fun b' k hb' => ?_, h.fr.fzn⟩, h.df, fun b' x hx => ?_, fun b' o v hv => ?_, fun t d ht => ?_, fun k r1 hk => ?_, fun k cells b' hk hb' => ?_⟩
    · obtain ⟨h1, h2⟩ := h.fr.old b' hb' hb0; exact ⟨hnone b' h1, h2⟩
    · obtain ⟨h0, h1, h2⟩ := h.fr.place b' k hb'
      exact ⟨h0, (hoth _ _ _ h1 (by rintro ⟨_, p', hp'⟩; cases hp')).1, h2⟩
    · cases hb' : g.own b' with
      | none => rw [hnone b' hb'] at hx; cases hx
      | some y => exact h.lt b' y hb'
    · obtain ⟨h1, h2⟩ := h.fz b' o v hv; exact ⟨h1, hnone b' h2⟩
    · obtain ⟨v, hv, hd⟩ := h.slots t d ht; exact ⟨v, hv, hd.mono hle⟩
    · unfold upd at hk
      by_cases e1 : k = nm
      · subst e1
        rw [if_pos rfl] at hk
        injection hk with hk
        subst hk
        exact ⟨.inl rfl, hroot⟩
      · rw [if_neg e1] at hk
        by_cases e2 : k = n
        · subst e2
          rw [if_pos rfl] at hk
          injection hk with hk
          subst hk
          refine ⟨.inr hu, .mk _ cs e (by rw [hle.rb k hu]; exact hh) (by rw [hle.rb k hu]; exact (hoth _ _ _ ho (by rintro ⟨_, p', hp'⟩; cases hp')).1) (by rw [hle.base k hu, hle.rc k hu]; exact Root.setT_form i j _ hf) (fun i' j' x hx => ?_)⟩
          rw [Root.setT_sz, hle.base k hu]
          rw [Root.setT_get _ hc] at hx
          split at hx
          · rename_i he
            obtain ⟨rfl, rfl⟩ := he
            injection hx with hx
            subst hx
            exact ⟨v, hv, .t _ _ (.lent _ _ _ _ _ hview)⟩
          · rename_i he
            obtain ⟨v', hv', hb'⟩ := hr i' j' x hx
            refine ⟨v', hv', ?_⟩
            cases hb' with
            | t _ _ h => exact .t _ _ (h.keep hle (fun b' p hp => hoth b' _ _ hp (by rintro ⟨_, p', hp'⟩; simp at hp'; exact he ⟨hp'.1.1, hp'.1.2⟩)))
            | v _ _ h => exact .v _ _ (h.mono hle)
        · rw [if_neg e2] at hk
          obtain ⟨hu', hR'⟩ := h.roots k r1 hk
          exact ⟨.inr hu', hR'.keep hu' hle (fun b' p hp => hoth b' _ _ hp (fun hh => e2 hh.1))⟩
    · unfold upd at hk
      by_cases e1 : k = nm
      · subst e1; exact absurd (h.fr.gle.used k (h.fr.place b' k hb').1) hnm
      · rw [if_neg e1] at hk
        by_cases e2 : k = n
        · subst e2
          rw [if_pos rfl] at hk
          injection hk with hk
          subst hk
          obtain ⟨c0, rfl, hl⟩ := h.wd k r b' hn hb'
          obtain ⟨c1, h1, h2⟩ := Root.setT_box c0 i j (.lent nm sz rows.length)
          exact ⟨c1, h1, by rw [h2]; exact hl⟩
        · rw [if_neg e2] at hk; exact h.wd k cells b' hk hb'
end Go.SX
