/-
  SX, part J: append, its end.
  No condition. Plain definitions and theorems over any program.
-/
import Derived.Test.YtbhnlplbfhomcaaSxI
import Derived.Laws.AppendOwn
set_option linter.unusedVariables false
set_option linter.unusedSimpArgs false
namespace Go.SX
open Go Go.RowKit
variable {en : En} {g : Gh} {S : Nat → Option D} {H : Nat → Option Root} {a : Act} {w : World} {P : Program}

theorem setsA_in : ∀ (vs : List Value) (A : Array Value) (k p : Nat), k + vs.length ≤ A.size → p < vs.length → (setsA A k vs)[k + p]? = vs[p]?
  | [], A, k, p, _, h => by simp at h
  | v :: vs, A, k, p, hf, hp => by
    simp only [List.length_cons] at hf hp
    simp only [setsA]
    cases p with
    | zero =>
      show (setsA (A.setIfInBounds k v) (k + 1) vs)[k]? = some v
      rw [setsA_out vs _ (k + 1) k (by omega), Array.getElem?_setIfInBounds, if_pos rfl, if_pos (by omega)]
    | succ p =>
      have := setsA_in vs (A.setIfInBounds k v) (k + 1) p (by simp; omega) (by omega)
      rw [show k + (p + 1) = k + 1 + p by omega, this]
      rfl

/-- A root that holds nothing. -/
theorem Rel.new0 (h : Rel en g S H a w) {nm : Nat} (hn : ¬ g.used nm) {sz : Nat} (hs : 0 < sz) (n : Nat) :
    ∃ g', g.le g' ∧ g'.used nm ∧ (∀ m, g'.used m → m = nm ∨ g.used m) ∧ Rel en g' S (upd (upd H n none) nm (some (.arr sz []))) a w := by
  let g' : Gh := { g with used := fun m => m = nm ∨ g.used m, rc := upd g.rc nm 0 }
  have hle : g.le g' := ⟨fun m hm => .inr hm, fun m hm => rfl, fun m hm => rfl, fun m hm => upd_other _ _ (fun e => hn (e ▸ hm)), fun _ _ _ hv => hv⟩
  refine ⟨g', hle, .inl rfl, fun m hm => hm, ⟨h.fr.os, h.fr.tape, h.fr.output, h.fr.size, h.fr.gle.trans hle, h.fr.old, h.fr.place, h.fr.fzn⟩, h.df, h.lt, h.fz, fun t d ht => ?_, fun k r1 hk => ?_, fun k r1 b' hk hb' => ?_⟩
  · obtain ⟨v, hv, hd⟩ := h.slots t d ht; exact ⟨v, hv, hd.mono hle⟩
  · unfold upd at hk
    by_cases e : k = nm
    · subst e
      rw [if_pos rfl] at hk
      injection hk with hk
      subst hk
      exact ⟨.inl rfl, .arr0 sz hs (upd_same _ _ _)⟩
    · rw [if_neg e] at hk
      by_cases e' : k = n
      · rw [if_pos e'] at hk; cases hk
      · rw [if_neg e'] at hk
        obtain ⟨hu, hR⟩ := h.roots k r1 hk
        exact ⟨.inr hu, hR.keep hu hle (fun b p hp => ⟨hp, rfl⟩)⟩
  · unfold upd at hk
    by_cases e : k = nm
    · subst e; exact absurd (h.fr.gle.used k (h.fr.place b' k hb').1) hn
    · rw [if_neg e] at hk
      by_cases e' : k = n
      · rw [if_pos e'] at hk; cases hk
      · rw [if_neg e'] at hk; exact h.wd k r1 b' hk hb'

/-- The element type's data that append asks for. -/
structure ElT (P : Program) (t e : TypeId) (sz bytes : Nat) : Prop where
  under : P.underlying t = some (.slice e)
  info : ∃ i z, P.info? e = some i ∧ i.size = sz ∧ i.bytes = bytes ∧ i.zero = some z ∧ z.cells.size = sz

/-- What an append leaves. -/
def Grown (en : En) (g : Gh) (nm : Nat) (S : Nat → Option D) (H' : Nat → Option Root) (a : Act) (w' : World) (sz : Nat) (rows : List (List T)) (v : Value) : Prop :=
  ∃ g', g.le g' ∧ (∀ m, g'.used m → m = nm ∨ g.used m) ∧ Rel en g' S (upd H' nm (some (.arr sz rows))) a w' ∧ CV g' (.view nm sz 0 rows.length) v

theorem run_append_zero {t ty e : TypeId} {sz bytes : Nat} (he : ElT P t e sz bytes) (B A : Option Addr) (len cap c : Nat) (hl : len ≤ cap) (w : World) :
    (Builtin.append_ #[t, t] ty #[.slice B len cap, .slice A 0 c]).run P w = .ok (.slice B len cap) w := by
  obtain ⟨i, z, hi, rfl, rfl, hz, hzs⟩ := he.info
  cases A with
  | none => cases B <;> simp [Builtin.append_, run_underlying he.under, sizeOf, typeInfo, hi, Builtin.lenOf, Builtin.firstCells, hl, storeCells]
  | some ad => cases B <;> simp [Builtin.append_, run_underlying he.under, sizeOf, typeInfo, hi, Builtin.lenOf, Builtin.firstCells, hl, storeCells, loadCells, loadCellsFrom]

theorem run_append_more {t ty e : TypeId} {sz bytes : Nat} (he : ElT P t e sz bytes) {B : Option Addr} {len cap : Nat} {olds news : List Value} {b o k c : Nat} (w : World)
    (ho : olds.length = len * sz) (holds : len = 0 ∨ ∃ b o, B = some ⟨b, o, none⟩ ∧ At w b o olds) (hB : B = none → cap = 0) (hk : 0 < k) (hn : news.length = k * sz) (hnews : At w b o news)
    (hg : cap < len + k) (hby : 0 < bytes) (hb : (len + k) * bytes ≤ 140737488355328) :
    ∃ cap', len + k ≤ cap' ∧ (Builtin.append_ #[t, t] ty #[.slice B len cap, .slice (some ⟨b, o, none⟩) k c]).run P w =
      .ok (.slice (some ⟨w.heap.size, 0, none⟩) (len + k) cap') (w.drew.alloc (.cells (olds.toArray ++ news.toArray ++ Builtin.zeroCells (((P.info? e).bind (·.zero)).getD undef).cells (cap' - (len + k))) e)) := by
  obtain ⟨i, z, hi, rfl, rfl, hz, hzs⟩ := he.info
  have hzz : ((P.info? e).bind (·.zero)).getD undef = z := by simp [hi, hz]
  rw [hzz]
  have h63 : ((len + k : Nat) : Int) ≤ 9223372036854775807 := by
    have : (len + k) * 1 ≤ (len + k) * i.bytes := Nat.mul_le_mul_left _ hby
    omega
  have hnews' : ∀ j v, news[j]? = some v → w.cell? ((⟨b, o, none⟩ : Addr).add j) = some v := fun j v hv => by rw [add_plain]; exact hnews j v hv
  cases B with
  | none =>
    have hc := hB rfl
    subst hc
    have hl0 : len = 0 := by
      rcases holds with h | ⟨b, o, h, _⟩
      · exact h
      · cases h
    subst hl0
    have hol : olds = [] := List.eq_nil_of_length_eq_zero (by simpa using ho)
    subst hol
    refine ⟨grownCap w k 0 e, by rw [Nat.zero_add]; exact grownCap_ge w k 0 e, ?_⟩
    have := run_append_nil (P := P) w t ty e i z he.under hi hz ⟨b, o, none⟩ k c news hn hnews' hk (by omega) (by rw [Nat.zero_add] at hb; omega)
    simpa using this
  | some ad =>
    refine ⟨grownCap w (len + k) cap e, grownCap_ge w _ _ e, ?_⟩
    exact run_append_grow (P := P) w t ty e i z he.under hi hz ad len cap olds ho (fun j v hv => by
      rcases holds with h | ⟨b', o', h, hat⟩
      · subst h
        have hol : olds = [] := List.eq_nil_of_length_eq_zero (by simpa using ho)
        subst hol
        simp at hv
      · injection h with h; subst h; rw [add_plain]; exact hat j v hv) ⟨b, o, none⟩ k c news hn hnews' hg h63 (growslice_fits hg hb)

theorem get_app {rows src : List (List T)} {i : Nat} {r : List T} (h : (rows ++ src)[i]? = some r) : (i < rows.length ∧ rows[i]? = some r) ∨ (rows.length ≤ i ∧ src[i - rows.length]? = some r) := by
  by_cases hi : i < rows.length
  · exact .inl ⟨hi, by rwa [List.getElem?_append_left hi] at h⟩
  · exact .inr ⟨by omega, by rwa [List.getElem?_append_right (by omega)] at h⟩

/-- A new array takes the place of the old one. -/
theorem grow_rel (h : Rel en g S H a w) {nm n sz bytes : Nat} {t ty e : TypeId} (he : ElT P t e sz bytes) (hs : 0 < sz) (hnm : ¬ g.used nm) (hpl : ∀ b', en.g0.own b' ≠ some (n, []))
    {rows src : List (List T)} {olds news : List Value} {A : Option Addr} (hsrc : Src g w sz src A news) (hrl : ∀ (i : Nat) (r : List T), rows[i]? = some r → r.length = sz)
    (ho : olds.length = rows.length * sz) (hold : ∀ (i : Nat) (r : List T) (j : Nat) (x : T), rows[i]? = some r → r[j]? = some x → ∃ v, olds[i * sz + j]? = some v ∧ TR w g n [(i, j)] x v)
    {cap' : Nat} (hcap : rows.length + src.length ≤ cap') (Z : Array Value) (hZ : Z.size = (cap' - (rows.length + src.length)) * sz) :
    Grown en g nm S (upd H n none) a (w.drew.alloc (.cells (olds.toArray ++ news.toArray ++ Z) e)) sz (rows ++ src) (.slice (some ⟨w.heap.size, 0, none⟩) (rows.length + src.length) cap') := by
  have hle := Gh.ren_le (n := n) (b := w.heap.size) (size := (olds.toArray ++ news.toArray ++ Z).size) hnm
  have hsize : (olds.toArray ++ news.toArray ++ Z).size = cap' * sz := by
    simp only [Array.size_append, List.size_toArray, ho, hsrc.len, hZ]
    rw [← Nat.add_mul, ← Nat.add_mul]
    congr 1; omega
  have e1 : (g.ren n nm w.heap.size (olds.toArray ++ news.toArray ++ Z).size).rb nm = w.heap.size := upd_same _ _ _
  have e2 : (g.ren n nm w.heap.size (olds.toArray ++ news.toArray ++ Z).size).base nm = 0 := upd_same _ _ _
  have e3 : (g.ren n nm w.heap.size (olds.toArray ++ news.toArray ++ Z).size).rc nm = (olds.toArray ++ news.toArray ++ Z).size := upd_same _ _ _
  have hhs : w.drew.heap.size = w.heap.size := rfl
  have hlenr : (rows ++ src).length = rows.length + src.length := by simp
  refine ⟨g.ren n nm w.heap.size (olds.toArray ++ news.toArray ++ Z).size, hle, fun m hm => hm, h.ren (w' := w.drew.alloc (.cells (olds.toArray ++ news.toArray ++ Z) e)) hnm hpl (.inl rfl) (by simp [hhs]) (by simp [hhs]) rfl rfl rfl (fun b' hb' _ => heap_alloc_old w.drew _ _ hb') ?_, ?_⟩
  · refine .mk _ (olds.toArray ++ news.toArray ++ Z) e (by rw [e1]; exact heap_alloc_new w.drew _) (by rw [e1]; exact Gh.ren_b) ⟨e2, e3.symm, by rw [e3, hsize, hlenr]; exact Nat.mul_le_mul_right _ hcap, fun i r hr => ?_⟩ (fun i j x hx => ?_)
    · rcases get_app hr with ⟨_, h1⟩ | ⟨_, h1⟩
      · exact hrl i r h1
      · exact hsrc.row _ r h1
    · simp only [Root.get] at hx
      cases hrow : (rows ++ src)[i]? with
      | none => simp [hrow] at hx
      | some row =>
        simp only [hrow, Option.map_eq_some_iff] at hx
        obtain ⟨y, hy, rfl⟩ := hx
        rw [e2, Nat.zero_add]
        simp only [Root.sz]
        rcases get_app hrow with ⟨hi, h1⟩ | ⟨hi, h1⟩
        · obtain ⟨v, hv, ht⟩ := hold i row j y h1 hy
          refine ⟨v, ?_, .t _ _ ((ht.move hle (fun b p hp => ⟨?_, ?_⟩)))⟩
          · have hlt : i * sz + j < olds.length := (List.getElem?_eq_some_iff.1 hv).1
            rw [Array.getElem?_append_left (by simp; omega), Array.getElem?_append_left (by simpa using hlt)]
            simpa using hv
          · exact Gh.ren_n (by have := h.lt _ _ hp; omega) hp
          · exact heap_alloc_old w.drew _ _ (h.lt _ _ hp)
        · obtain ⟨v, hv, ht⟩ := hsrc.val _ row j y h1 hy
          refine ⟨v, ?_, .t _ _ ((ht.mono hle).tr _ _ _)⟩
          have hlt : (i - rows.length) * sz + j < news.length := (List.getElem?_eq_some_iff.1 hv).1
          have hidx : i * sz + j = olds.length + ((i - rows.length) * sz + j) := by
            rw [ho, ← Nat.add_assoc, ← Nat.add_mul]; congr 2; omega
          rw [hidx, Array.getElem?_append_left (by simp; omega), Array.getElem?_append_right (by simp)]
          simpa using hv
  · have := CV.view (g := g.ren n nm w.heap.size (olds.toArray ++ news.toArray ++ Z).size) nm sz 0 (rows ++ src).length cap' (.inl rfl) e2 (by rw [hlenr]; exact hcap) (by rw [e3, hsize]; simp)
    rw [e1, Nat.zero_mul, hlenr] at this
    rw [hlenr]
    exact this

/-- The new rows go behind the old ones. -/
theorem room_rel (h : Rel en g S H a w) {nm n sz : Nat} (hs : 0 < sz) (hnm : ¬ g.used nm) (hpl : ∀ b', en.g0.own b' ≠ some (n, [])) {rows src : List (List T)} {news : List Value} {A : Option Addr} (hsrc : Src g w sz src A news)
    {cs : Array Value} {e : TypeId} (hh : w.heap[g.rb n]? = some (.cells cs e (0, 0))) (hon : g.own (g.rb n) = some (n, [])) (hf : (Root.arr sz rows).form (g.base n) (g.rc n) cs.size)
    (hr : ∀ (i j : Nat) (x : B), (Root.arr sz rows).get i j = some x → ∃ v, cs[g.base n + i * (Root.arr sz rows).sz + j]? = some v ∧ BR w g n [(i, j)] x v)
    {cap : Nat} (hcap : rows.length + src.length ≤ cap) (hc : cap * sz ≤ g.rc n) :
    Grown en g nm S (upd H n none) a (w.setRow (g.rb n) (setsA cs (rows.length * sz) news)) sz (rows ++ src) (.slice (some ⟨g.rb n, 0, none⟩) (rows.length + src.length) cap) := by
  have hle := Gh.ren_le (n := n) (b := g.rb n) (size := g.rc n) hnm
  have e1 : (g.ren n nm (g.rb n) (g.rc n)).rb nm = g.rb n := upd_same _ _ _
  have e2 : (g.ren n nm (g.rb n) (g.rc n)).base nm = 0 := upd_same _ _ _
  have e3 : (g.ren n nm (g.rb n) (g.rc n)).rc nm = g.rc n := upd_same _ _ _
  obtain ⟨hb0, hcs, hrl, hrows⟩ := hf
  have hlenr : (rows ++ src).length = rows.length + src.length := by simp
  have hfit : rows.length * sz + news.length ≤ cs.size := by
    rw [hsrc.len, ← Nat.add_mul, hcs]
    exact Nat.le_trans (Nat.mul_le_mul_right _ hcap) hc
  refine ⟨g.ren n nm (g.rb n) (g.rc n), hle, fun m hm => hm, h.ren (w' := w.setRow (g.rb n) (setsA cs (rows.length * sz) news)) hnm hpl (.inr hon) (by simpa using h.lt _ _ hon) (by simp) rfl rfl rfl (fun b' _ hb' => setRow_other w _ _ _ hb') ?_, ?_⟩
  · refine .mk _ (setsA cs (rows.length * sz) news) e (by rw [e1]; exact setRow_heap w _ cs _ e _ hh) (by rw [e1]; exact Gh.ren_b) ⟨e2, by rw [e3, setsA_size, hcs], by rw [e3, hlenr]; exact Nat.le_trans (Nat.mul_le_mul_right _ hcap) hc, fun i r hr' => ?_⟩ (fun i j x hx => ?_)
    · rcases get_app hr' with ⟨_, h1⟩ | ⟨_, h1⟩
      · exact hrows i r h1
      · exact hsrc.row _ r h1
    · simp only [Root.get] at hx
      cases hrow : (rows ++ src)[i]? with
      | none => simp [hrow] at hx
      | some row =>
        simp only [hrow, Option.map_eq_some_iff] at hx
        obtain ⟨y, hy, rfl⟩ := hx
        rw [e2, Nat.zero_add]
        simp only [Root.sz]
        rcases get_app hrow with ⟨hi, h1⟩ | ⟨hi, h1⟩
        · obtain ⟨v, hv, hbr⟩ := hr i j (.t y) (by simp [Root.get, h1, hy])
          rw [hb0, Nat.zero_add] at hv
          simp only [Root.sz] at hv
          have ht : TR w g n [(i, j)] y v := by cases hbr with | t _ _ h => exact h
          have hjs : j < sz := by rw [← hrows i row h1]; exact (List.getElem?_eq_some_iff.1 hy).1
          have hlt : i * sz + j < rows.length * sz := by
            have h2 := Nat.mul_le_mul_right sz (show i + 1 ≤ rows.length by omega)
            rw [Nat.add_mul] at h2; omega
          refine ⟨v, by rw [setsA_out _ _ _ _ (.inl hlt)]; exact hv, .t _ _ (ht.move hle (fun b p hp => ?_))⟩
          have hne : b ≠ g.rb n := fun e' => by rw [e', hon] at hp; simp at hp
          exact ⟨Gh.ren_n hne hp, setRow_other w _ _ _ hne⟩
        · obtain ⟨v, hv, ht⟩ := hsrc.val _ row j y h1 hy
          refine ⟨v, ?_, .t _ _ ((ht.mono hle).tr _ _ _)⟩
          have hlt : (i - rows.length) * sz + j < news.length := (List.getElem?_eq_some_iff.1 hv).1
          have hidx : i * sz + j = rows.length * sz + ((i - rows.length) * sz + j) := by
            rw [← Nat.add_assoc, ← Nat.add_mul]; congr 2; omega
          rw [hidx, setsA_in _ _ _ _ hfit hlt]
          exact hv
  · have := CV.view (g := g.ren n nm (g.rb n) (g.rc n)) nm sz 0 (rows ++ src).length cap (.inl rfl) e2 (by rw [hlenr]; exact hcap) (by rw [e3]; simpa using hc)
    rw [e1, Nat.zero_mul, hlenr] at this
    rw [hlenr]
    exact this
end Go.SX
