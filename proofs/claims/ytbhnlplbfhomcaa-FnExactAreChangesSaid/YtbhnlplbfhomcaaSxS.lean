/-
  SX, part S: roots get other names, what is no longer named is let go.
  No condition. Plain definitions and theorems over any program.
-/
import Derived.Test.YtbhnlplbfhomcaaSxR
set_option linter.unusedVariables false
set_option linter.unusedSimpArgs false
namespace Go.SX
open Go Go.RowKit
variable {en : En} {g : Gh} {S : Nat → Option D} {H : Nat → Option Root} {a : Act} {w : World} {P : Program}

def mapC1 (f : Nat → Nat) : C → C
  | .view n sz lo len => .view (f n) sz lo len
  | .ptr n sz i off => .ptr (f n) sz i off
  | c => c
def mapC (f : Nat → Nat) : C → C
  | .view n sz lo len => .view (f n) sz lo len
  | .ptr n sz i off => .ptr (f n) sz i off
  | .fn k caps => .fn k (caps.map (mapC1 f))
  | c => c
def NmC1 (H : Nat → Option Root) : C → Prop
  | .view n _ _ _ => (H n).isSome = true
  | .ptr n _ _ _ => (H n).isSome = true
  | .fn _ caps => caps = []
  | _ => True
def NmC (H : Nat → Option Root) : C → Prop
  | .view n _ _ _ => (H n).isSome = true
  | .ptr n _ _ _ => (H n).isSome = true
  | .fn _ caps => ∀ c ∈ caps, NmC1 H c
  | _ => True
def mapD (f : Nat → Nat) : D → D
  | .c x => .c (mapC f x)
  | .agg xs => .agg (xs.map (mapC f))
  | d => d
def NmD (H : Nat → Option Root) : D → Prop
  | .c x => NmC H x
  | .agg xs => ∀ x ∈ xs, NmC H x
  | .tup _ => False
def mapTt (f : Nat → Nat) : T → T
  | .lent n sz len => .lent (f n) sz len
  | t => t
def NmT (H : Nat → Option Root) : T → Prop
  | .lent n _ _ => (H n).isSome = true
  | .own _ rows => ∀ r ∈ rows, ∀ t ∈ r, Mv false t
  | _ => True
def mapB (f : Nat → Nat) : B → B
  | .t x => .t (mapTt f x)
  | .v x => .v (mapC f x)
def NmB (H : Nat → Option Root) : B → Prop
  | .t x => NmT H x
  | .v x => NmC H x
def mapR (f : Nat → Nat) : Root → Root
  | .box cells => .box (cells.map (mapB f))
  | .arr sz rows => .arr sz (rows.map (fun r => r.map (mapTt f)))
def NmR (H : Nat → Option Root) : Root → Prop
  | .box cells => ∀ x ∈ cells, NmB H x
  | .arr _ rows => ∀ r ∈ rows, ∀ t ∈ r, NmT H t

theorem mapR_get {f : Nat → Nat} {r : Root} {i j : Nat} {x : B} (h : r.get i j = some x) : (mapR f r).get i j = some (mapB f x) := by
  cases r with
  | box cells => cases i <;> simp_all [Root.get, mapR]
  | arr sz rows =>
    simp only [Root.get] at h
    cases hr : rows[i]? with
    | none => simp [hr] at h
    | some row =>
      simp only [hr, Option.map_eq_some_iff] at h
      obtain ⟨y, hy, rfl⟩ := h
      simp [Root.get, mapR, hr, hy, mapB]
theorem NmR_get {r : Root} (hm : NmR H r) {i j : Nat} {x : B} (h : r.get i j = some x) : NmB H x := by
  cases r with
  | box cells =>
    cases i with
    | zero => exact hm x (List.mem_of_getElem? (by simpa [Root.get] using h))
    | succ i => simp [Root.get] at h
  | arr sz rows =>
    simp only [Root.get] at h
    cases hr : rows[i]? with
    | none => simp [hr] at h
    | some row =>
      simp only [hr, Option.map_eq_some_iff] at h
      obtain ⟨y, hy, rfl⟩ := h
      exact hm row (List.mem_of_getElem? hr) y (List.mem_of_getElem? hy)

open Classical in
noncomputable def Gh.rn (g : Gh) (U : Nat → Prop) (f : Nat → Nat) : Gh :=
  { used := U, rb := fun n => g.rb (f n), base := fun n => g.base (f n), rc := fun n => g.rc (f n), fz := g.fz
    own := fun b => match g.own b with
      | some (m, p) => if h : ∃ n, U n ∧ f n = m then some (Classical.choose h, p) else none
      | none => none }
theorem Gh.rn_own {U : Nat → Prop} {f : Nat → Nat} (hinj : ∀ n m, U n → U m → f n = f m → n = m) {b n : Nat} {p : Pth} (hn : U n) (h : g.own b = some (f n, p)) : (g.rn U f).own b = some (n, p) := by
  have hex : ∃ n', U n' ∧ f n' = f n := ⟨n, hn, rfl⟩
  simp only [Gh.rn, h]
  rw [dif_pos hex]
  have := Classical.choose_spec hex
  rw [hinj _ _ this.1 hn this.2]
theorem Gh.rn_none {U : Nat → Prop} {f : Nat → Nat} {b : Nat} (h : g.own b = none) : (g.rn U f).own b = none := by simp only [Gh.rn, h]

theorem CV.rn1 {U : Nat → Prop} {f : Nat → Nat} (hU : ∀ n, (H n).isSome = true → U n) {c : C} {v : Value} (hn : NmC1 H c) (h : CV g (mapC1 f c) v) : CV (g.rn U f) c v := by
  cases c with
  | im i => cases h with | im _ _ hi => exact .im _ _ hi
  | nil => cases h; exact .nil
  | view n sz lo len =>
    have hu := hU n hn
    simp only [mapC1] at h
    cases h with
    | view0 _ _ _ A _ => exact .view0 _ _ _ A hu
    | view _ _ _ _ cap _ hb hl hc => exact CV.view (g := g.rn U f) n sz lo len cap hu hb hl hc
  | ptr n sz i off =>
    simp only [mapC1] at h
    cases h with | ptr _ _ _ _ _ => exact CV.ptr (g := g.rn U f) n sz i off (hU n hn)
  | iptr row off => cases h with | iptr _ _ b o vs hx hr => exact .iptr row off b o vs hx hr
  | fn k caps =>
    simp only [NmC1] at hn
    subst hn
    cases h with | fn _ _ vs hs hr => exact .fn k [] vs hs (fun j x v hj => by simp at hj)
theorem CV.rn {U : Nat → Prop} {f : Nat → Nat} (hU : ∀ n, (H n).isSome = true → U n) {c : C} {v : Value} (hn : NmC H c) (h : CV g (mapC f c) v) : CV (g.rn U f) c v := by
  cases c with
  | fn k caps =>
    simp only [mapC] at h
    cases h with
    | fn _ _ vs hs hr =>
      refine .fn k caps vs (by simpa using hs) (fun j x v hj hv => ?_)
      exact CV.rn1 hU (hn x (List.mem_of_getElem? hj)) (hr j (mapC1 f x) v (by simp [hj]) hv)
  | im i => exact CV.rn1 (c := .im i) hU trivial h
  | nil => exact CV.rn1 (c := .nil) hU trivial h
  | view n sz lo len => exact CV.rn1 (c := .view n sz lo len) hU hn h
  | ptr n sz i off => exact CV.rn1 (c := .ptr n sz i off) hU hn h
  | iptr row off => exact CV.rn1 (c := .iptr row off) hU trivial h
theorem DV.rn {U : Nat → Prop} {f : Nat → Nat} (hU : ∀ n, (H n).isSome = true → U n) {d : D} {v : Value} (hn : NmD H d) (h : DV g (mapD f d) v) : DV (g.rn U f) d v := by
  cases d with
  | c x => cases h with | c _ _ hc => exact .c _ _ (hc.rn hU hn)
  | agg xs =>
    simp only [mapD] at h
    cases h with
    | agg _ vs hs hr => exact .agg _ _ (by simpa using hs) (fun j x v hj hv => (hr j (mapC f x) v (by simp [hj]) hv).rn hU (hn x (List.mem_of_getElem? hj)))
  | tup ds => exact hn.elim

theorem Rel.rename (h : Rel en g S H a w) (f : Nat → Nat) {S' : Nat → Option D} {H' : Nat → Option Root} (hp : ∀ k, en.g0.used k → f k = k)
    (hinj : ∀ n m r r', H' n = some r → H' m = some r' → f n = f m → n = m) (hinjp : ∀ n r k, H' n = some r → en.g0.used k → f n = k → n = k)
    (hs : ∀ t d, S' t = some d → S t = some (mapD f d) ∧ NmD H' d)
    (hh : ∀ n r, H' n = some r → (H (f n) = some r ∧ MvR false r) ∨ (H (f n) = some (mapR f r) ∧ NmR H' r)) :
    ∃ g', (∀ m, g'.used m → en.g0.used m ∨ ∃ r, H' m = some r) ∧ Rel en g' S' H' a w := by
  let U : Nat → Prop := fun m => en.g0.used m ∨ ∃ r, H' m = some r
  have hU : ∀ n, (H' n).isSome = true → U n := fun n hn => .inr (Option.isSome_iff_exists.1 hn)
  have hi : ∀ n m, U n → U m → f n = f m → n = m := by
    rintro n m (hn | ⟨r, hn⟩) (hm | ⟨r', hm⟩) e
    · rw [hp n hn, hp m hm] at e; exact e
    · rw [hp n hn] at e; exact (hinjp m r' n hm hn e.symm).symm
    · rw [hp m hm] at e; exact hinjp n r m hn hm e
    · exact hinj n m r r' hn hm e
  refine ⟨g.rn U f, fun m hm => hm, ⟨⟨h.fr.os, h.fr.tape, h.fr.output, h.fr.size, ⟨fun n hn => .inl hn, fun n hn => ?_, fun n hn => ?_, fun n hn => ?_, h.fr.gle.fz⟩, fun b hb ho => ?_, fun b k hb => ?_, h.fr.fzn⟩, h.df, fun b x hx => ?_, fun b o v hv => ?_, fun t d ht => ?_, fun n r hn => ?_, fun n r b hn hb => ?_⟩⟩
  · simp only [Gh.rn]; rw [hp n hn]; exact h.fr.gle.rb n hn
  · simp only [Gh.rn]; rw [hp n hn]; exact h.fr.gle.base n hn
  · simp only [Gh.rn]; rw [hp n hn]; exact h.fr.gle.rc n hn
  · obtain ⟨h1, h2⟩ := h.fr.old b hb ho; exact ⟨Gh.rn_none h1, h2⟩
  · obtain ⟨h0, h1, h2⟩ := h.fr.place b k hb
    exact ⟨h0, Gh.rn_own hi (.inl h0) (by rw [hp k h0]; exact h1), h2⟩
  · cases ho : g.own b with
    | none => rw [Gh.rn_none ho] at hx; cases hx
    | some y => exact h.lt b y ho
  · obtain ⟨h1, h2⟩ := h.fz b o v hv; exact ⟨h1, Gh.rn_none h2⟩
  · obtain ⟨h1, h2⟩ := hs t d ht
    obtain ⟨v, hv, hd⟩ := h.slots t _ h1
    exact ⟨v, hv, hd.rn hU h2⟩
  · have hUn : U n := .inr ⟨r, hn⟩
    refine ⟨hUn, ?_⟩
    rcases hh n r hn with ⟨h1, h2⟩ | ⟨h1, h2⟩
    · exact RootR.mv (g := g) (n := f n) (g' := g.rn U f) h2 (fun _ _ _ _ h => h) rfl rfl rfl (h.roots _ _ h1).2 (fun ho => Gh.rn_own hi hUn ho) (fun b x p ho => Gh.rn_own hi hUn ho)
    · obtain ⟨hu, hR⟩ := h.roots _ _ h1
      generalize hr' : mapR f r = r' at hR
      cases hR with
      | mk _ cs e hh' ho hf hr =>
        subst hr'
        have hsz : (mapR f r).sz = r.sz := by cases r <;> rfl
        refine .mk r cs e hh' (Gh.rn_own hi hUn ho) ?_ (fun i j x hx => ?_)
        · cases r with
          | box cells => exact trivial
          | arr sz rows =>
            obtain ⟨f1, f2, f3, f4⟩ := hf
            refine ⟨f1, f2, by simp at f3; exact f3, fun i r hr2 => ?_⟩
            have := f4 i (r.map (mapTt f)) (by simp [hr2])
            simpa using this
        · obtain ⟨v, hv, hb⟩ := hr i j _ (mapR_get hx)
          rw [hsz] at hv
          refine ⟨v, hv, ?_⟩
          have hnm := NmR_get h2 hx
          cases x with
          | t x =>
            simp only [mapB] at hb
            refine .t _ _ ?_
            cases hb with
            | t _ _ ht =>
              cases x with
              | im i => cases ht with | im _ _ _ hi' => exact .im _ _ _ hi'
              | nil => cases ht; exact .nil _
              | dead => exact .dead _ _
              | own sz rows =>
                simp only [mapTt] at ht
                exact TR.mv (g := g) (g' := g.rn U f) (n := f n) (.own sz rows hnm) (fun _ _ _ _ h => h) ht (fun b p hp' => Gh.rn_own hi hUn hp')
              | lent m sz len =>
                simp only [mapTt] at ht
                cases ht with | lent _ _ _ _ _ hc => exact .lent _ _ _ _ _ (CV.rn (c := .view m sz 0 len) hU hnm hc)
          | v x =>
            simp only [mapB] at hb
            cases hb with | v _ _ hc => exact .v _ _ (hc.rn hU hnm)
      | arr0 sz hs0 hc =>
        cases r with
        | box cells => simp [mapR] at hr'
        | arr sz' rows =>
          simp only [mapR, Root.arr.injEq, List.map_eq_nil_iff] at hr'
          obtain ⟨rfl, rfl⟩ := hr'
          exact .arr0 _ hs0 hc
  · have h0 := (h.fr.place b n hb).1
    have hfn := hp n h0
    rcases hh n r hn with ⟨h1, h2⟩ | ⟨h1, h2⟩
    · rw [hfn] at h1; exact h.wd n r b h1 hb
    · rw [hfn] at h1
      obtain ⟨c, hc, hl⟩ := h.wd n _ b h1 hb
      cases r with
      | box cells => simp only [mapR, Root.box.injEq] at hc; subst hc; exact ⟨cells, rfl, by simpa using hl⟩
      | arr sz rows => simp [mapR] at hc
end Go.SX
