/-
  SX, part N: what a function does, as a law over ideal values; and that a caller may take it over.
  No condition. Plain definitions and theorems over any program.
-/
import Derived.Test.YtbhnlplbfhomcaaSxM
import Derived.Calls
set_option linter.unusedVariables false
set_option linter.unusedSimpArgs false
namespace Go.SX
open Go Go.RowKit
variable {en : En} {g : Gh} {S : Nat → Option D} {H : Nat → Option Root} {a : Act} {w : World} {P : Program}

/-- What a call hands back: a value whose names 0, 1, .. stand for the roots beside it; what its variables hold afterwards. -/
structure Res where
  val : D
  roots : List Root := []
  places : List (List B) := []
  deriving Inhabited

def reC (f : Nat → Nat) : C → Option C
  | .im i => some (.im i)
  | .nil => some .nil
  | .view n sz lo len => some (.view (f n) sz lo len)
  | .ptr n sz i off => some (.ptr (f n) sz i off)
  | _ => none
def reD (f : Nat → Nat) : D → Option D
  | .c x => match reC f x with
    | some y => some (.c y)
    | none => none
  | .agg xs => match mapO (reC f) xs with
    | some ys => some (.agg ys)
    | none => none
  | .tup ds => match mapO (fun d => match d with
      | .c x => match reC f x with
        | some y => some (D.c y)
        | none => none
      | .agg xs => match mapO (reC f) xs with
        | some ys => some (.agg ys)
        | none => none
      | .tup _ => none) ds with
    | some ys => some (.tup ys)
    | none => none

/-- The cells of a value that is handed back. -/
inductive OkC (sc : Bool) (k : Nat) : C → Prop where
  | im (i : I) (h : sc = false ∨ scI i = true) : OkC sc k (.im i)
  | nil : OkC sc k .nil
  | view (n sz lo len : Nat) (h : n < k) : OkC sc k (.view n sz lo len)
  | ptr (n sz i off : Nat) (h : n < k) : OkC sc k (.ptr n sz i off)
inductive OkD (sc : Bool) (k : Nat) : D → Prop where
  | c (x : C) (h : OkC sc k x) : OkD sc k (.c x)
  | agg (xs : List C) (h : ∀ x ∈ xs, OkC sc k x) : OkD sc k (.agg xs)
  | tup (ds : List D) (h : ∀ d ∈ ds, (∃ x, d = .c x ∧ OkC sc k x) ∨ (∃ xs, d = .agg xs ∧ ∀ x ∈ xs, OkC sc k x)) : OkD sc k (.tup ds)

/-- 'sc': nothing that is handed back points into what was handed over. -/
structure OkR (sc : Bool) (res : Res) : Prop where
  val : OkD sc res.roots.length res.val
  roots : ∀ r ∈ res.roots, MvR sc r
  places : ∀ c ∈ res.places, ∀ x ∈ c, MvB sc x

/-- How a call may end. -/
def Done (en : En) (res : Res) (v : Value) (w' : World) : Prop :=
  ∃ (g : Gh) (ns : List Nat) (S : Nat → Option D) (H : Nat → Option Root) (a : Act) (d : D), Rel en g S H a w' ∧ ns.Nodup ∧ ns.length = res.roots.length ∧ (∀ m ∈ ns, ¬ en.g0.used m) ∧
    (∀ (k : Nat) (r : Root) (m : Nat), res.roots[k]? = some r → ns[k]? = some m → H m = some r) ∧ (∀ (k : Nat) (c : List B), res.places[k]? = some c → H k = some (.box c)) ∧
    reD (fun n => ns.getD n 0) res.val = some d ∧ DV g d v

def GoodAt (P : Program) (f : FuncId) (ds : List D) (hs : List (List B)) (res : Res) : Prop :=
  ∀ (en : En) (args : List Value), args.length = ds.length → (∀ n, en.g0.used n → n < hs.length) →
    Rel en en.g0 (fun t => ds[t]?) (fun n => (hs[n]?).map Root.box) ⟨args.toArray, []⟩ en.w0 →
    Calls P f args.toArray en.w0 (fun e w' => ∃ v, e = .returned v ∧ Done en res v w')

/-- A function's law: what it does on which data. 'sc' as above. -/
structure Ct where
  sc : Bool
  run : List D → List (List B) → Option Res
structure Good (P : Program) (f : FuncId) (ct : Ct) : Prop where
  ok : ∀ ds hs res, ct.run ds hs = some res → OkR ct.sc res
  at_ : ∀ ds hs res, ct.run ds hs = some res → GoodAt P f ds hs res

/-- The ghost state that a callee begins with. -/
def Gh.sub (g : Gh) (w : World) (ex : List Nat) (borrow : Bool) : Gh :=
  { used := fun k => k < ex.length, rb := fun k => g.rb (ex.getD k 0), base := fun k => g.base (ex.getD k 0), rc := fun k => g.rc (ex.getD k 0),
    own := fun b => match g.own b with
      | some (n, p) => if n ∈ ex ∧ ¬ (p = [] ∧ b ≠ g.rb n) then (pos ex n).map (fun k => (k, p)) else none
      | none => none
    fz := fun b o => match g.fz b o with
      | some v => some v
      | none => if borrow = true then match g.own b with
          | some (n, _) => if n ∈ ex then none else w.cell? ⟨b, o, none⟩
          | none => none
        else none }

theorem Gh.sub_own_none {ex : List Nat} {br : Bool} {b : Nat} (h : g.own b = none) : (g.sub w ex br).own b = none := by simp [Gh.sub, h]
theorem Gh.sub_own_out {ex : List Nat} {br : Bool} {b n : Nat} {p : Pth} (h : g.own b = some (n, p)) (hn : n ∉ ex) : (g.sub w ex br).own b = none := by simp [Gh.sub, h, hn]
theorem Gh.sub_own_in {ex : List Nat} {br : Bool} {b n k : Nat} {p : Pth} (h : g.own b = some (n, p)) (hk : pos ex n = some k) (hp : ¬ (p = [] ∧ b ≠ g.rb n)) : (g.sub w ex br).own b = some (k, p) := by
  have hm : n ∈ ex := Classical.byContradiction fun hc => by rw [pos_none.2 hc] at hk; cases hk
  simp only [Gh.sub, h]
  rw [if_pos ⟨hm, hp⟩, hk]; rfl
theorem Gh.sub_own_inv {ex : List Nat} {br : Bool} {b k : Nat} {p : Pth} (h : (g.sub w ex br).own b = some (k, p)) : ∃ n, g.own b = some (n, p) ∧ pos ex n = some k ∧ ¬ (p = [] ∧ b ≠ g.rb n) := by
  simp only [Gh.sub] at h
  split at h
  · rename_i n p' ho
    split at h
    · rename_i hc
      rw [Option.map_eq_some_iff] at h
      obtain ⟨k', hk, he⟩ := h
      injection he with h1 h2
      subst h1; subst h2
      exact ⟨n, ho, hk, hc.2⟩
    · cases h
  · cases h

theorem Gh.sub_frz (h : Rel en g S H a w) {ex : List Nat} {br : Bool} : Frz br g w ex (g.sub w ex br).fz := by
  refine ⟨fun b o v hv => by simp [Gh.sub, hv], fun hbr b n p o v ho hn hc => ?_⟩
  subst hbr
  simp only [Gh.sub]
  cases hf : g.fz b o with
  | some v' => have := (h.fz b o v' hf).2; rw [ho] at this; cases this
  | none => simp [ho, hn, hc]

/-- The ghost state that a caller goes on with. -/
def Gh.back (g : Gh) (w : World) (g0 gc : Gh) (ex ns : List Nat) (nm : Nat) : Gh :=
  { used := fun m => g.used m ∨ (nm ≤ m ∧ m < nm + ns.length)
    rb := fun m => if nm ≤ m ∧ m < nm + ns.length then gc.rb (ns.getD (m - nm) 0) else g.rb m
    base := fun m => if nm ≤ m ∧ m < nm + ns.length then gc.base (ns.getD (m - nm) 0) else g.base m
    rc := fun m => if nm ≤ m ∧ m < nm + ns.length then gc.rc (ns.getD (m - nm) 0) else (match pos ex m with | some k => gc.rc k | none => g.rc m)
    own := fun b => match gc.own b with
      | some (m, p) => match pos ns m with
        | some k => some (nm + k, p)
        | none => match ex[m]? with
          | some n => some (n, p)
          | none => none
      | none => match g0.own b with
        | none => g.own b
        | some _ => none
    fz := fun b o => match g.fz b o with
      | some v => some v
      | none => if b < w.heap.size ∧ g0.own b = none then none else gc.fz b o }

/-- What the caller's roots are afterwards. -/
def backH (H : Nat → Option Root) (ex : List Nat) (nm : Nat) (res : Res) : Nat → Option Root := fun n =>
  if nm ≤ n ∧ n < nm + res.roots.length then res.roots[n - nm]? else match pos ex n with
    | some k => (res.places[k]?).map Root.box
    | none => H n

/-- What is handed over: each place holds what it holds. -/
def PlOk (H : Nat → Option Root) (ex : List Nat) (hs : List (List B)) : Prop :=
  ex.Nodup ∧ hs.length = ex.length ∧ ∀ (k n : Nat) (c : List B), ex[k]? = some n → hs[k]? = some c → H n = some (.box c) ∧ ∀ x ∈ c, MvB false x

theorem sub_rel (h : Rel en g S H a w) {ex : List Nat} {hs : List (List B)} (hpl : PlOk H ex hs) (br : Bool) {H0 : Nat → Option Root} (hH0 : ∀ n r, H0 n = some r → br = true ∧ H n = some r)
    {ds ds' : List D} {args : List Value} (hal : args.length = ds.length) (hdv : ∀ (t : Nat) (d : D) (v : Value), ds[t]? = some d → args[t]? = some v → DV g d v) (hlo : mapO (loD ex H0) ds = some ds') :
    Rel ⟨g.sub w ex br, w, fun k => (hs.getD k []).length⟩ (g.sub w ex br) (fun t => ds'[t]?) (fun n => (hs[n]?).map Root.box) ⟨args.toArray, []⟩ w := by
  obtain ⟨hnd, hl, hpl⟩ := hpl
  have hF := Gh.sub_frz h (ex := ex) (br := br)
  have hat : ∀ (k n : Nat), ex[k]? = some n → ∃ c, hs[k]? = some c ∧ H n = some (.box c) ∧ ∀ x ∈ c, MvB false x := fun k n hk => by
    have hlt : k < hs.length := by rw [hl]; exact (List.getElem?_eq_some_iff.1 hk).1
    exact ⟨hs[k], List.getElem?_eq_getElem hlt, hpl k n _ hk (List.getElem?_eq_getElem hlt)⟩
  have hget : ∀ (k n : Nat), ex[k]? = some n → ex.getD k 0 = n := fun k n hk => by simp [List.getD, hk]
  refine ⟨⟨rfl, rfl, rfl, Nat.le_refl _, Gh.le.refl _, fun b _ ho => ⟨ho, rfl⟩, fun b k hb => ?_, fun b o v _ hv => .inl hv⟩, rfl, fun b x hx => ?_, fun b o v hv => ?_, fun t d ht => ?_, fun n r hn => ?_, fun n r b hn hb => ?_⟩
  · obtain ⟨n, ho, hk, hc⟩ := Gh.sub_own_inv hb
    have hkn := pos_some hk
    obtain ⟨c, _, hH, _⟩ := hat k n hkn
    have hbn : b = g.rb n := Classical.byContradiction fun hne => hc ⟨rfl, hne⟩
    subst hbn
    cases (h.roots n _ hH).2 with
    | mk _ cs e hh _ _ _ => exact ⟨(List.getElem?_eq_some_iff.1 hkn).1, hb, cs, cs, e, hh, hh, rfl, fun _ _ => rfl⟩
  · obtain ⟨n, ho, _, _⟩ := Gh.sub_own_inv (k := x.1) (p := x.2) hx
    exact h.lt b _ ho
  · simp only [Gh.sub] at hv
    split at hv
    · rename_i v' hf
      injection hv with hv; subst hv
      obtain ⟨h1, h2⟩ := h.fz b o _ hf
      exact ⟨h1, Gh.sub_own_none h2⟩
    · split at hv
      · split at hv
        · rename_i n p ho
          split at hv
          · cases hv
          · rename_i hn; exact ⟨hv, Gh.sub_own_out ho hn⟩
        · cases hv
      · cases hv
  · obtain ⟨d0, h1, h2⟩ := mapO_at hlo t d ht
    have hlt : t < args.length := by rw [hal]; exact (List.getElem?_eq_some_iff.1 h1).1
    refine ⟨args[t], by simp [hlt], loD_sound hF (fun n r hr => ?_) (fun k n hk => ?_) (hdv t d0 _ h1 (List.getElem?_eq_getElem hlt)) h2⟩
    · obtain ⟨k1, k2⟩ := hH0 n r hr
      exact ⟨k1, h.roots n r k2⟩
    · refine ⟨(List.getElem?_eq_some_iff.1 hk).1, ?_, ?_⟩ <;> simp only [Gh.sub, hget k n hk]
  · rw [Option.map_eq_some_iff] at hn
    obtain ⟨c, hc, rfl⟩ := hn
    have hlt : n < ex.length := by rw [← hl]; exact (List.getElem?_eq_some_iff.1 hc).1
    have hk : ex[n]? = some ex[n] := List.getElem?_eq_getElem hlt
    obtain ⟨c', hc', hH, hmv⟩ := hat n _ hk
    rw [hc] at hc'; injection hc' with hc'; subst hc'
    have hpos := pos_at hnd hk
    refine ⟨hlt, RootR.mv (n := ex[n]) (sc := false) hmv (fun _ => hF.old) ?_ ?_ ?_ (h.roots _ _ hH).2 (fun ho => Gh.sub_own_in ho hpos (fun hh => hh.2 rfl)) (fun b x p ho => Gh.sub_own_in ho hpos (fun hh => by cases hh.1))⟩ <;> simp only [Gh.sub, hget n _ hk]
  · rw [Option.map_eq_some_iff] at hn
    obtain ⟨c, hc, rfl⟩ := hn
    exact ⟨c, rfl, by simp [List.getD, hc]⟩

theorem getD_at {ns : List Nat} {k m : Nat} (h : ns[k]? = some m) : ns.getD k 0 = m := by simp [List.getD, h]

theorem back_rel (h : Rel en g S H a w) {nm : Nat} {res : Res} (hnm : ∀ m, g.used m → ¬ (nm ≤ m ∧ m < nm + res.roots.length)) {ex : List Nat} {hs : List (List B)} (hpl : PlOk H ex hs) {br sc : Bool} (hbr : br = true → sc = true)
    (hok : OkR sc res) {v : Value} {w' : World} (hd : Done ⟨g.sub w ex br, w, fun k => (hs.getD k []).length⟩ res v w') {d : D} (hre : reD (fun n => nm + n) res.val = some d) :
    ∃ g', g.le g' ∧ (∀ m, g'.used m → g.used m ∨ (nm ≤ m ∧ m < nm + res.roots.length)) ∧ Rel en g' S (backH H ex nm res) a w' ∧ DV g' d v := by
  obtain ⟨gc, ns, Sc, Hc, ac, d0, hR, hnd, hnl, hnu, hro, hplc, hre0, hdv⟩ := hd
  obtain ⟨hexnd, hl, hpl⟩ := hpl
  have hfr := hR.fr
  have hat : ∀ (k n : Nat), ex[k]? = some n → ∃ c, hs[k]? = some c ∧ H n = some (.box c) := fun k n hk => by
    have hlt : k < hs.length := by rw [hl]; exact (List.getElem?_eq_some_iff.1 hk).1
    exact ⟨hs[k], List.getElem?_eq_getElem hlt, (hpl k n _ hk (List.getElem?_eq_getElem hlt)).1⟩
  have hgex : ∀ (k n : Nat), ex[k]? = some n → ex.getD k 0 = n := fun k n hk => getD_at hk
  have huse : ∀ (k n : Nat), ex[k]? = some n → g.used n := fun k n hk => by
    obtain ⟨c, _, hH⟩ := hat k n hk
    exact (h.roots n _ hH).1
  -- ownership
  have O1 : ∀ b, b < w.heap.size → (g.sub w ex br).own b = none → gc.own b = none ∧ w'.heap[b]? = w.heap[b]? ∧ (g.back w (g.sub w ex br) gc ex ns nm).own b = g.own b := fun b hb ho => by
    obtain ⟨h1, h2⟩ := hfr.old b hb ho
    exact ⟨h1, h2, by simp only [Gh.back, h1, ho]⟩
  have O2 : ∀ (b k m : Nat) (p : Pth), ns[k]? = some m → gc.own b = some (m, p) → (g.back w (g.sub w ex br) gc ex ns nm).own b = some (nm + k, p) := fun b k m p hk ho => by
    simp only [Gh.back, ho, pos_at hnd hk]
  have O3 : ∀ (b k n : Nat) (p : Pth), ex[k]? = some n → gc.own b = some (k, p) → (g.back w (g.sub w ex br) gc ex ns nm).own b = some (n, p) := fun b k n p hk ho => by
    have : pos ns k = none := pos_none.2 (fun hm => hnu k hm (List.getElem?_eq_some_iff.1 hk).1)
    simp only [Gh.back, ho, this, hk]
  have hsz : w.heap.size ≤ w'.heap.size := hfr.size
  have hnone : ∀ b, ¬ b < w.heap.size → g.own b = none := fun b hb => by
    cases ho : g.own b with
    | none => rfl
    | some x => exact absurd (h.lt b x ho) hb
  have hfz : ∀ b o v, g.fz b o = some v → (g.back w (g.sub w ex br) gc ex ns nm).fz b o = some v := fun b o v hv => by simp only [Gh.back, hv]
  have hle : g.le (g.back w (g.sub w ex br) gc ex ns nm) := by
    refine ⟨fun n hn => .inl hn, fun n hn => ?_, fun n hn => ?_, fun n hn => ?_, hfz⟩
    · have := hnm n hn; simp only [Gh.back]; rw [if_neg (by omega)]
    · have := hnm n hn; simp only [Gh.back]; rw [if_neg (by omega)]
    · have := hnm n hn; simp only [Gh.back]; rw [if_neg (by omega)]
      cases hp : pos ex n with
      | none => rfl
      | some k =>
        have hk := pos_some hp
        have := hfr.gle.rc k (List.getElem?_eq_some_iff.1 hk).1
        simp only [] at this ⊢
        rw [this]
        simp only [Gh.sub, hgex k n hk]
  have hscfz : sc = false → ∀ b o v, gc.fz b o = some v → (g.back w (g.sub w ex br) gc ex ns nm).fz b o = some v := fun hs' b o v hv => by
    have hb : br = false := by cases br with
      | false => rfl
      | true => rw [hbr rfl] at hs'; cases hs'
    subst hb
    have hsub : ∀ b o v, (g.sub w ex false).fz b o = some v → g.fz b o = some v := fun b o v h1 => by
      simp only [Gh.sub] at h1
      split at h1
      · rename_i hf; rw [hf]; exact h1
      · simp at h1
    cases hf : g.fz b o with
    | some v' =>
      have h1 := hfr.gle.fz b o v' (by simp [Gh.sub, hf])
      rw [hv] at h1; injection h1 with h1; subst h1
      exact hfz b o _ hf
    | none =>
      simp only [Gh.back, hf]
      rw [if_neg]
      · exact hv
      · rintro ⟨hb, ho⟩
        rcases hfr.fzn b o v hb hv with h1 | h1
        · rw [hsub b o v h1] at hf; cases hf
        · exact h1 ho
  refine ⟨_, hle, fun m hm => ?_, ⟨⟨hfr.os.trans h.fr.os, hfr.tape.trans h.fr.tape, hfr.output.trans h.fr.output, Nat.le_trans h.fr.size hsz, h.fr.gle.trans hle, fun b hb ho => ?_, fun b n hb => ?_, fun b o v hb hv => ?_⟩,
    h.df, fun b x hx => ?_, fun b o v hv => ?_, fun t d ht => ?_, fun n r hn => ?_, fun n r b hn hb => ?_⟩, ?_⟩
  · rw [← hnl]
    exact hm
  · obtain ⟨h1, h2⟩ := h.fr.old b hb ho
    obtain ⟨_, h4, h5⟩ := O1 b (Nat.lt_of_lt_of_le hb h.fr.size) (Gh.sub_own_none h1)
    exact ⟨h5.trans h1, h4.trans h2⟩
  · obtain ⟨h0, h1, c1, c2, e1, h2, h3, h4, h5⟩ := h.fr.place b n hb
    have hbw := h.lt b _ h1
    by_cases hx : n ∈ ex ∧ b = g.rb n
    · obtain ⟨hn, rfl⟩ := hx
      cases hp : pos ex n with
      | none => exact absurd hn (pos_none.1 hp)
      | some k =>
        have hk := pos_some hp
        obtain ⟨c, hc, hH⟩ := hat k n hk
        have hg0 : (g.sub w ex br).own (g.rb n) = some (k, []) := Gh.sub_own_in h1 hp (fun hh => hh.2 rfl)
        obtain ⟨_, k1, d1, d2, e2, k2, k3, k4, k5⟩ := hfr.place _ k hg0
        simp only [] at k2
        rw [h3] at k2
        injection k2 with k2
        injection k2 with k2 k2'
        subst k2; subst k2'
        obtain ⟨c0, hc0, hcl⟩ := h.wd n _ _ hH hb
        injection hc0 with hc0; subst hc0
        refine ⟨h0, O3 _ k n [] hk k1, c1, d2, e1, h2, k3, k4.trans h4, fun o ho => (k5 o ?_).trans (h5 o ho)⟩
        have hbase : (g.sub w ex br).base k = en.g0.base n := by simp only [Gh.sub, hgex k n hk]; exact h.fr.gle.base n h0
        simp only [hbase, List.getD, hc, Option.getD_some]
        omega
    · have hg0 : (g.sub w ex br).own b = none := by
        by_cases hn : n ∈ ex
        · have hbn : b ≠ g.rb n := fun e => hx ⟨hn, e⟩
          simp [Gh.sub, h1, hbn]
        · exact Gh.sub_own_out h1 hn
      obtain ⟨_, k2, k3⟩ := O1 b hbw hg0
      exact ⟨h0, k3.trans h1, c1, c2, e1, h2, k2.trans h3, h4, h5⟩
  · simp only [Gh.back] at hv
    split at hv
    · rename_i v' hf; injection hv with hv; subst hv; exact h.fr.fzn b o _ hb hf
    · split at hv
      · cases hv
      · rename_i hc
        refine .inr (fun ho => ?_)
        obtain ⟨h1, _⟩ := h.fr.old b hb ho
        exact hc ⟨Nat.lt_of_lt_of_le hb h.fr.size, Gh.sub_own_none h1⟩
  · simp only [Gh.back] at hx
    split at hx
    · rename_i m p ho; exact hR.lt b _ ho
    · split at hx
      · exact Nat.lt_of_lt_of_le (h.lt b _ hx) hsz
      · cases hx
  · cases hf : g.fz b o with
    | some v' =>
      rw [hfz b o v' hf] at hv; injection hv with hv; subst hv
      obtain ⟨h1, h2⟩ := h.fz b o _ hf
      have hb : b < w.heap.size := World.block_lt_of_cell? w _ h1
      obtain ⟨_, k2, k3⟩ := O1 b hb (Gh.sub_own_none h2)
      exact ⟨(World.cell?_of_block (w := w) (a := ⟨b, o, none⟩) k2).trans h1, k3.trans h2⟩
    | none =>
      simp only [Gh.back, hf] at hv
      split at hv
      · cases hv
      · rename_i hc
        obtain ⟨h1, h2⟩ := hR.fz b o v hv
        refine ⟨h1, ?_⟩
        simp only [Gh.back, h2]
        split
        · rename_i h0
          exact hnone b (fun hb => hc ⟨hb, h0⟩)
        · rfl
  · obtain ⟨v, hv, hd⟩ := h.slots t d ht; exact ⟨v, hv, hd.mono hle⟩
  · unfold backH at hn
    split at hn
    · rename_i hr
      have hk : n - nm < ns.length := by omega
      have hnk : ns[n - nm]? = some ns[n - nm] := List.getElem?_eq_getElem hk
      have hH := hro _ r _ hn hnk
      obtain ⟨hu, hRR⟩ := hR.roots _ r hH
      have hgd := getD_at hnk
      have hnn : nm + (n - nm) = n := by omega
      refine ⟨.inr (by omega), RootR.mv (n := ns[n - nm]) (hok.roots r (List.mem_of_getElem? hn)) hscfz ?_ ?_ ?_ hRR (fun ho => ?_) (fun b x p ho => ?_)⟩
      · simp only [Gh.back]; rw [if_pos (by omega), hgd]
      · simp only [Gh.back]; rw [if_pos (by omega), hgd]
      · simp only [Gh.back]; rw [if_pos (by omega), hgd]
      · have := O2 _ _ _ _ hnk ho; rw [hnn] at this; exact this
      · have := O2 _ _ _ _ hnk ho; rw [hnn] at this; exact this
    · split at hn
      · rename_i k hp
        have hk := pos_some hp
        rw [Option.map_eq_some_iff] at hn
        obtain ⟨c, hc, rfl⟩ := hn
        have hH := hplc k c hc
        obtain ⟨hu, hRR⟩ := hR.roots k _ hH
        have hun := huse k n hk
        have hlt := hnm n hun
        have hk0 : k < ex.length := (List.getElem?_eq_some_iff.1 hk).1
        refine ⟨.inl hun, RootR.mv (n := k) (hok.places c (List.mem_of_getElem? hc)) hscfz ?_ ?_ ?_ hRR (fun ho => O3 _ k n _ hk ho) (fun b x p ho => O3 _ k n _ hk ho)⟩
        · simp only [Gh.back]; rw [if_neg (by omega)]
          have := hfr.gle.rb k hk0; rw [this]; simp only [Gh.sub, hgex k n hk]
        · simp only [Gh.back]; rw [if_neg (by omega)]
          have := hfr.gle.base k hk0; rw [this]; simp only [Gh.sub, hgex k n hk]
        · simp only [Gh.back]; rw [if_neg (by omega), hp]
      · rename_i hp
        obtain ⟨hu, hRR⟩ := h.roots n r hn
        refine ⟨.inl hu, hRR.keep hu hle (fun b p ho => ?_)⟩
        obtain ⟨_, k2, k3⟩ := O1 b (h.lt b _ ho) (Gh.sub_own_out ho (pos_none.1 hp))
        exact ⟨k3.trans ho, k2⟩
  · have hu0 := (h.fr.place b n hb).1
    have hlt := hnm n (h.fr.gle.used n hu0)
    unfold backH at hn
    rw [if_neg (by omega)] at hn
    split at hn
    · rename_i k hp
      have hk := pos_some hp
      rw [Option.map_eq_some_iff] at hn
      obtain ⟨c, hc, rfl⟩ := hn
      obtain ⟨c0, hc0, hH0⟩ := hat k n hk
      obtain ⟨c1, hc1, hl1⟩ := h.wd n _ b hH0 hb
      injection hc1 with hc1; subst hc1
      have hHk := hplc k c hc
      have hRk := (h.roots n _ hH0).2
      cases hRk with
      | mk _ cs e hh ho hf hr =>
        have hg0 : (g.sub w ex br).own (g.rb n) = some (k, []) := Gh.sub_own_in ho hp (fun hh => hh.2 rfl)
        obtain ⟨c2, hc2, hl2⟩ := hR.wd k _ _ hHk hg0
        injection hc2 with hc2; subst hc2
        refine ⟨c, rfl, Nat.le_trans hl2 ?_⟩
        simpa [List.getD, hc0] using hl1
    · exact h.wd n r b hn hb
  · have hC : ∀ (x x0 y : C) (u : Value), OkC sc res.roots.length x → reC (fun n => ns.getD n 0) x = some x0 → reC (fun n => nm + n) x = some y → CV gc x0 u → CV (g.back w (g.sub w ex br) gc ex ns nm) y u := by
      intro x x0 y u hx hx0 hy hu
      have hnames : ∀ n, n < res.roots.length → (g.back w (g.sub w ex br) gc ex ns nm).used (nm + n) ∧ (g.back w (g.sub w ex br) gc ex ns nm).rb (nm + n) = gc.rb (ns.getD n 0) ∧
          (g.back w (g.sub w ex br) gc ex ns nm).base (nm + n) = gc.base (ns.getD n 0) ∧ (g.back w (g.sub w ex br) gc ex ns nm).rc (nm + n) = gc.rc (ns.getD n 0) := fun n hn => by
        refine ⟨.inr ⟨by omega, by omega⟩, ?_, ?_, ?_⟩ <;> (simp only [Gh.back]; rw [if_pos (by omega), show nm + n - nm = n by omega])
      cases hx with
      | im i hi =>
        simp only [reC, Option.some.injEq] at hx0 hy
        subst hx0; subst hy
        cases hu with
        | im _ _ hir =>
          refine .im _ _ ?_
          rcases hi with hi | hi
          · exact hir.mono (hscfz hi)
          · exact hir.sc hi
      | nil =>
        simp only [reC, Option.some.injEq] at hx0 hy
        subst hx0; subst hy
        cases hu; exact .nil
      | view n sz lo len hn =>
        simp only [reC, Option.some.injEq] at hx0 hy
        subst hx0; subst hy
        obtain ⟨n1, n2, n3, n4⟩ := hnames n hn
        cases hu with
        | view0 _ _ _ A _ => exact .view0 _ _ _ A n1
        | view _ _ _ _ cap _ hb hlc hcap => rw [← n2]; exact .view _ _ _ _ cap n1 (n3.trans hb) hlc (by rw [n4]; exact hcap)
      | ptr n sz i off hn =>
        simp only [reC, Option.some.injEq] at hx0 hy
        subst hx0; subst hy
        obtain ⟨n1, n2, n3, n4⟩ := hnames n hn
        cases hu with
        | ptr _ _ _ _ _ => rw [← n2, ← n3]; exact .ptr _ _ _ _ n1
    have hA : ∀ (xs ys zs : List C) (vs : Array Value), (∀ x ∈ xs, OkC sc res.roots.length x) → mapO (reC (fun n => ns.getD n 0)) xs = some ys → mapO (reC (fun n => nm + n)) xs = some zs →
        DV gc (.agg ys) (.agg vs) → DV (g.back w (g.sub w ex br) gc ex ns nm) (.agg zs) (.agg vs) := by
      intro xs ys zs vs hx hy hz hv
      cases hv with
      | agg _ _ hs hr =>
        refine .agg _ _ (by rw [hs, mapO_len hy, mapO_len hz]) (fun j z u hj hu => ?_)
        obtain ⟨x, hxj, hxz⟩ := mapO_at hz j z hj
        have hjl : j < ys.length := by rw [mapO_len hy]; exact (List.getElem?_eq_some_iff.1 hxj).1
        obtain ⟨x', hxj', hxy⟩ := mapO_at hy j _ (List.getElem?_eq_getElem hjl)
        rw [hxj] at hxj'; injection hxj' with hxj'; subst hxj'
        exact hC x _ z u (hx x (List.mem_of_getElem? hxj)) hxy hxz (hr j _ u (List.getElem?_eq_getElem hjl) hu)
    have hval := hok.val
    generalize res.val = vd at hval hre hre0
    cases hval with
    | c x hx =>
      simp only [reD] at hre hre0
      split at hre0
      · rename_i x0 hx0
        split at hre
        · rename_i y hy
          injection hre with hre; injection hre0 with hre0
          subst hre; subst hre0
          cases hdv with | c _ _ hv => exact .c _ _ (hC x x0 y _ hx hx0 hy hv)
        · cases hre
      · cases hre0
    | agg xs hx =>
      simp only [reD] at hre hre0
      split at hre0
      · rename_i ys hys
        split at hre
        · rename_i zs hzs
          injection hre with hre; injection hre0 with hre0
          subst hre; subst hre0
          cases hdv with | agg _ vs hs hr => exact hA xs ys zs vs hx hys hzs (.agg _ _ hs hr)
        · cases hre
      · cases hre0
    | tup ds hx =>
      simp only [reD] at hre hre0
      split at hre0
      · rename_i ys hys
        split at hre
        · rename_i zs hzs
          injection hre with hre; injection hre0 with hre0
          subst hre; subst hre0
          cases hdv with
          | tup _ vs hs hr =>
            refine .tup _ _ (by rw [hs, mapO_len hys, mapO_len hzs]) (fun j z u hj hu => ?_)
            obtain ⟨x, hxj, hxz⟩ := mapO_at hzs j z hj
            have hjl : j < ys.length := by rw [mapO_len hys]; exact (List.getElem?_eq_some_iff.1 hxj).1
            obtain ⟨x', hxj', hxy⟩ := mapO_at hys j _ (List.getElem?_eq_getElem hjl)
            rw [hxj] at hxj'; injection hxj' with hxj'; subst hxj'
            have hu' := hr j _ u (List.getElem?_eq_getElem hjl) hu
            rcases hx x (List.mem_of_getElem? hxj) with ⟨c, rfl, hc⟩ | ⟨cs, rfl, hc⟩
            · simp only [] at hxy hxz
              split at hxy
              · rename_i c0 hc0
                split at hxz
                · rename_i c1 hc1
                  injection hxy with hxy; injection hxz with hxz
                  subst hxz
                  rw [← hxy] at hu'
                  cases hu' with | c _ _ hv => exact .c _ _ (hC c c0 c1 _ hc hc0 hc1 hv)
                · cases hxz
              · cases hxy
            · simp only [] at hxy hxz
              split at hxy
              · rename_i c0 hc0
                split at hxz
                · rename_i c1 hc1
                  injection hxy with hxy; injection hxz with hxz
                  subst hxz
                  rw [← hxy] at hu'
                  cases hu' with | agg _ vs hs hr => exact hA cs c0 c1 vs hc hc0 hc1 (.agg _ _ hs hr)
                · cases hxz
              · cases hxy
        · cases hre
      · cases hre0

theorem call_rel (h : Rel en g S H a w) {nm : Nat} {res : Res} (hnm : ∀ m, g.used m → ¬ (nm ≤ m ∧ m < nm + res.roots.length)) {f : FuncId} {ct : Ct} (hG : Good P f ct) {ex : List Nat} {hs : List (List B)} (hpl : PlOk H ex hs) {br : Bool} (hbr : br = true → ct.sc = true)
    {ds ds' : List D} {args : List Value} (hal : args.length = ds.length) (hdv : ∀ (t : Nat) (d : D) (v : Value), ds[t]? = some d → args[t]? = some v → DV g d v)
    (hlo : mapO (loD ex (if br then H else fun _ => none)) ds = some ds') (hrun : ct.run ds' hs = some res) {d : D} (hre : reD (fun n => nm + n) res.val = some d) :
    Calls P f args.toArray w (fun e w' => ∃ v, e = .returned v ∧ ∃ g', g.le g' ∧ (∀ m, g'.used m → g.used m ∨ (nm ≤ m ∧ m < nm + res.roots.length)) ∧ Rel en g' S (backH H ex nm res) a w' ∧ DV g' d v) := by
  have hsub := sub_rel h hpl br (H0 := if br then H else fun _ => none) (fun n r hr => by
    cases br with
    | true => exact ⟨rfl, hr⟩
    | false => cases hr) hal hdv hlo
  have := hG.at_ ds' hs res hrun ⟨g.sub w ex br, w, fun k => (hs.getD k []).length⟩ args (by rw [hal, mapO_len hlo]) (fun n hn => by rw [hpl.2.1]; exact hn) hsub
  exact this.mono fun e w' ⟨v, he, hdone⟩ => ⟨v, he, back_rel h hnm hpl hbr (hG.ok ds' hs res hrun) hdone hre⟩
end Go.SX
