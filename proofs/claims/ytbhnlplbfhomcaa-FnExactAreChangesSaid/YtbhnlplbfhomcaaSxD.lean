/-
  SX, part D: the quiet operations: slots, loads, places in memory, operators, literals.
  No condition. Plain definitions and theorems over any program.
-/
import Derived.Test.YtbhnlplbfhomcaaSxC
import Derived.Laws.Cells
set_option linter.unusedVariables false
set_option linter.unusedSimpArgs false
namespace Go.SX
open Go Go.RowKit

/-- A constant as an ideal cell. -/
def cV : Value → Option C
  | .bool b => some (.im (.bool b))
  | .int k n => some (.im (.int k n))
  | .float k x => some (.im (.flt k x))
  | .complex k x y => some (.im (.cpx k x y))
  | .string s => some (.im (.str s))
  | .slice none 0 0 => some .nil
  | .pointer none => some (.im (.raw (.pointer none)))
  | .nilFunc => some (.im (.raw .nilFunc))
  | .nilIface => some (.im (.raw .nilIface))
  | _ => none
theorem cV_sound {g : Gh} {v : Value} {c : C} (h : cV v = some c) : CV g c v := by
  unfold cV at h
  split at h <;> first
    | (cases h; done)
    | (injection h with h; subst h; first
        | exact .im _ _ (.bool _) | exact .im _ _ (.int _ _) | exact .im _ _ (.flt _ _ _ (.inl rfl)) | exact .im _ _ (.cpx _ _ _ _ _ (.inl rfl) (.inl rfl)) | exact .im _ _ (.str _)
        | exact .nil | exact .im _ _ (.raw _ rfl) | exact .fn _ [] #[] rfl (fun j x v hj _ => by simp at hj))

def ev (S : Nat → Option D) : Operand → Option D
  | .tmp t => S t
  | .const v => match cV v with | some c => some (.c c) | none => none
  | .func f => some (.c (.fn (.func f) []))
  | .global _ => none

variable {en : En} {g : Gh} {S : Nat → Option D} {H : Nat → Option Root} {a : Act} {w : World} {P : Program}

theorem ev_sound (h : Rel en g S H a w) {x : Operand} {d : D} (hd : ev S x = some d) : DV g d (a.eval x) := by
  cases x with
  | tmp t =>
    obtain ⟨v, hv, hdv⟩ := h.slots t d hd
    have : a.eval (.tmp t) = v := by simp [Act.eval, Array.getD_eq_getD_getElem?, hv]
    rw [this]; exact hdv
  | const v =>
    simp only [ev] at hd
    split at hd
    · rename_i c hc
      injection hd with hd
      subst hd
      exact .c _ _ (cV_sound hc)
    · cases hd
  | func f =>
    simp only [ev, Option.some.injEq] at hd
    subst hd
    exact .c _ _ (.fn _ [] #[] rfl (fun j x v hj _ => by simp at hj))
  | global n => simp [ev] at hd

def evI (S : Nat → Option D) (x : Operand) : Option I :=
  match ev S x with
  | some (.c (.im i)) => some i
  | _ => none
theorem evI_sound (h : Rel en g S H a w) {x : Operand} {i : I} (hd : evI S x = some i) : IR g.fz i (a.eval x) := by
  unfold evI at hd
  split at hd
  · rename_i j hj
    injection hd with hd
    subst hd
    have := ev_sound h hj
    cases this with | c _ _ h => cases h with | im _ _ h => exact h
  · cases hd
def evC (S : Nat → Option D) (x : Operand) : Option C :=
  match ev S x with
  | some (.c c) => some c
  | _ => none
theorem evC_sound (h : Rel en g S H a w) {x : Operand} {c : C} (hd : evC S x = some c) : CV g c (a.eval x) := by
  unfold evC at hd
  split at hd
  · rename_i j hj
    injection hd with hd
    subst hd
    have := ev_sound h hj
    cases this with | c _ _ h => exact h
  · cases hd

/-! ### Sizes of types -/
def tsz (P : Program) (t : TypeId) : Option Nat := match P.info? t with | some i => some i.size | none => none
def tag (P : Program) (t : TypeId) : Option Bool := match P.underlying t with
  | some (.struct _) => some true
  | some (.array _ _) => some true
  | some _ => some false
  | none => none
/-- A slice type's element type. -/
def tel (P : Program) (t : TypeId) : Option TypeId := match P.underlying t with
  | some (.slice e) => some e
  | _ => none
/-- A struct's field: where it begins, its type. -/
def tfd (P : Program) (t : TypeId) (f : Nat) : Option (Nat × TypeId) := match P.underlying t with
  | some (.struct fs) => match fs[f]? with
    | some fd => some (fd.offset, fd.type)
    | none => none
  | _ => none
theorem run_sizeOf {t : TypeId} {k : Nat} (h : tsz P t = some k) (w : World) : (sizeOf t).run P w = .ok k w := by
  unfold tsz at h
  split at h
  · rename_i i hi; injection h with h; subst h; simp [sizeOf, typeInfo, hi]
  · cases h
theorem run_isAgg {t : TypeId} {b : Bool} (h : tag P t = some b) (w : World) : (isAgg t).run P w = .ok b w := by
  unfold tag at h
  split at h <;> first
    | (cases h; done)
    | (injection h with h; subst h; rename_i hu; first
        | (simp [isAgg, run_underlying hu]; done)
        | (rename_i d _ _; simp only [isAgg, Sem.run_bind, run_underlying hu, Result.andThen_ok]; cases d <;> simp_all))
theorem tel_under {t e : TypeId} (h : tel P t = some e) : P.underlying t = some (.slice e) := by
  unfold tel at h
  split at h
  · rename_i hu; injection h with h; subst h; exact hu
  · cases h
theorem tfd_under {t : TypeId} {f o : Nat} {ft : TypeId} (h : tfd P t f = some (o, ft)) : ∃ fs fd, P.underlying t = some (.struct fs) ∧ fs[f]? = some fd ∧ fd.offset = o ∧ fd.type = ft := by
  unfold tfd at h
  split at h
  · rename_i fs hu
    split at h
    · rename_i fd hf
      injection h with h
      injection h with h1 h2
      exact ⟨fs, fd, hu, hf, h1, h2⟩
    · cases h
  · cases h

/-! ### Loads -/
def bC : B → Option C
  | .t (.im i) => some (.im i)
  | .t .nil => some .nil
  | .t (.lent m sz len) => some (.view m sz 0 len)
  | .v c => some c
  | _ => none
theorem bC_sound {n : Nat} {q : Pth} {b : B} {c : C} {v : Value} (hb : BR w g n q b v) (h : bC b = some c) : CV g c v := by
  cases hb with
  | t x _ hx =>
    cases hx <;> simp only [bC] at h <;> first
      | (cases h; done)
      | (injection h with h; subst h; first | exact .im _ _ ‹_› | exact .nil | assumption)
  | v x _ hx => simp only [bC, Option.some.injEq] at h; subst h; exact hx

def loadCs (r : Root) (i off : Nat) : Nat → Option (List C)
  | 0 => some []
  | n + 1 => match r.get i off with
    | some b => match bC b with
      | some c => match loadCs r i (off + 1) n with
        | some cs => some (c :: cs)
        | none => none
      | none => none
    | none => none
def loadIs (row : List I) (off : Nat) : Nat → Option (List C)
  | 0 => some []
  | n + 1 => match row[off]? with
    | some x => match loadIs row (off + 1) n with
      | some cs => some (.im x :: cs)
      | none => none
    | none => none

/-- The cells of memory from an address on. -/
def At (w : World) (b o : Nat) (vs : List Value) : Prop := ∀ (j : Nat) (v : Value), vs[j]? = some v → w.cell? ⟨b, o + j, none⟩ = some v
def CVs (g : Gh) (cs : List C) (vs : List Value) : Prop := vs.length = cs.length ∧ ∀ (j : Nat) (x : C) (v : Value), cs[j]? = some x → vs[j]? = some v → CV g x v
theorem CVs.nil : CVs g [] [] := ⟨rfl, fun j x v h => by simp at h⟩
theorem CVs.cons {x : C} {v : Value} {cs : List C} {vs : List Value} (h : CV g x v) (hs : CVs g cs vs) : CVs g (x :: cs) (v :: vs) := by
  refine ⟨by simp [hs.1], fun j y u hy hu => ?_⟩
  cases j with
  | zero => simp at hy hu; subst hy; subst hu; exact h
  | succ j => simp at hy hu; exact hs.2 j y u hy hu
theorem At.cons {b o : Nat} {v : Value} {vs : List Value} (h : w.cell? ⟨b, o, none⟩ = some v) (hs : At w b (o + 1) vs) : At w b o (v :: vs) := by
  intro j u hu
  cases j with
  | zero => simp at hu; subst hu; exact h
  | succ j => simp at hu; have := hs j u hu; rwa [Nat.add_assoc, Nat.add_comm 1 j] at this

theorem loadCs_sound {n : Nat} {r : Root} (hR : RootR w g n r) (i : Nat) : ∀ (k off : Nat) (cs : List C), loadCs r i off k = some cs →
    ∃ vs, At w (g.rb n) (g.base n + i * r.sz + off) vs ∧ CVs g cs vs ∧ cs.length = k
  | 0, off, cs, h => by simp only [loadCs, Option.some.injEq] at h; subst h; exact ⟨[], fun j v hv => by simp at hv, .nil, rfl⟩
  | k + 1, off, cs, h => by
    simp only [loadCs] at h
    split at h
    · rename_i b hb
      split at h
      · rename_i c hc
        split at h
        · rename_i cs' hcs
          injection h with h
          subst h
          obtain ⟨vs, h1, h2, h3⟩ := loadCs_sound hR i k (off + 1) cs' hcs
          cases hR with
          | arr0 sz hs h0 => simp [Root.get] at hb
          | mk _ ws e hh ho hf hr =>
            obtain ⟨v, hv, hbr⟩ := hr i off b hb
            exact ⟨v :: vs, .cons (by rw [cell_of_row w _ _ ws e _ hh]; exact hv) (by rw [Nat.add_assoc]; exact h1), .cons (bC_sound hbr hc) h2, by simp [h3]⟩
        · cases h
      · cases h
    · cases h
theorem loadIs_sound {row : List I} {b o : Nat} {us : Nat → Value} (hx : ∀ (j : Nat) (x : I), row[j]? = some x → w.cell? ⟨b, o + j, none⟩ = some (us j))
    (hr : ∀ (j : Nat) (x : I), row[j]? = some x → IR g.fz x (us j)) : ∀ (k off : Nat) (cs : List C), loadIs row off k = some cs → ∃ vs, At w b (o + off) vs ∧ CVs g cs vs ∧ cs.length = k
  | 0, off, cs, h => by simp only [loadIs, Option.some.injEq] at h; subst h; exact ⟨[], fun j v hv => by simp at hv, .nil, rfl⟩
  | k + 1, off, cs, h => by
    simp only [loadIs] at h
    split at h
    · rename_i x hxx
      split at h
      · rename_i cs' hcs
        injection h with h
        subst h
        obtain ⟨vs, h1, h2, h3⟩ := loadIs_sound hx hr k (off + 1) cs' hcs
        exact ⟨us off :: vs, .cons (hx off x hxx) (by rw [Nat.add_assoc]; exact h1), .cons (.im _ _ (hr off x hxx)) h2, by simp [h3]⟩
      · cases h
    · cases h

def mkD (ag : Bool) (cs : List C) : Option D :=
  match ag, cs with
  | true, cs => some (.agg cs)
  | false, [c] => some (.c c)
  | _, _ => none

theorem run_load_at {t : TypeId} {b o k : Nat} {ag : Bool} {vs : List Value} {cs : List C} {d : D} (hk : tsz P t = some k) (hag : tag P t = some ag) (hat : At w b o vs) (hcs : CVs g cs vs) (hl : cs.length = k) (hd : mkD ag cs = some d) :
    ∃ v, (Instr.loadAt t (.pointer (some ⟨b, o, none⟩))).run P w = .ok v w ∧ DV g d v := by
  have hlc : (loadCells ⟨b, o, none⟩ k).run P w = .ok vs.toArray w := by
    have := run_loadCells_list (P := P) w ⟨b, o, none⟩ vs (fun j v hv => by
      have : (⟨b, o, none⟩ : Addr).add j = ⟨b, o + j, none⟩ := by unfold Addr.add; split <;> simp_all
      rw [this]; exact hat j v hv)
    rwa [hcs.1, hl] at this
  cases ag with
  | true =>
    simp only [mkD, Option.some.injEq] at hd
    subst hd
    exact ⟨.agg vs.toArray, by simp [Instr.loadAt, Instr.sureAddr, loadVar, run_isAgg hag, run_sizeOf hk, hlc], .agg _ _ (by simp [hcs.1]) (fun j x v hj hv => hcs.2 j x v hj (by simpa using hv))⟩
  | false =>
    cases cs with
    | nil => simp [mkD] at hd
    | cons c cs =>
      cases cs with
      | cons => simp [mkD] at hd
      | nil =>
        simp only [mkD, Option.some.injEq] at hd
        subst hd
        obtain ⟨v, hv⟩ : ∃ v, vs = [v] := by
          have := hcs.1
          match vs, this with
          | [v], _ => exact ⟨v, rfl⟩
        subst hv
        have hc := hat 0 v rfl
        exact ⟨v, by simp [Instr.loadAt, Instr.sureAddr, loadVar, run_isAgg hag]; rw [show w.cell? ⟨b, o, none⟩ = some v from hc], .c _ _ (hcs.2 0 c v rfl rfl)⟩

def loadD (P : Program) (t : TypeId) (S : Nat → Option D) (H : Nat → Option Root) (x : Operand) : Option D :=
  match tsz P t, tag P t with
  | some k, some ag =>
    match ev S x with
    | some (.c (.ptr n sz i off)) => match H n with
      | some r => if r.sz = sz then match loadCs r i off k with
          | some cs => mkD ag cs
          | none => none
        else none
      | none => none
    | some (.c (.iptr row off)) => match loadIs row off k with
      | some cs => mkD ag cs
      | none => none
    | _ => none
  | _, _ => none

theorem loadD_sound (h : Rel en g S H a w) {t : TypeId} {x : Operand} {d : D} (hd : loadD P t S H x = some d) : ∃ v, (Instr.loadAt t (a.eval x)).run P w = .ok v w ∧ DV g d v := by
  unfold loadD at hd
  split at hd
  · rename_i k ag hk hag
    split at hd
    · rename_i n sz i off he
      have hv := ev_sound h he
      split at hd
      · rename_i r hr
        split at hd
        · rename_i hsz
          subst hsz
          split at hd
          · rename_i cs hcs
            obtain ⟨hu, hR⟩ := h.roots n r hr
            obtain ⟨vs, h1, h2, h3⟩ := loadCs_sound hR i k off cs hcs
            cases hv with
            | c _ _ hv =>
              generalize a.eval x = u at hv
              cases hv with
              | ptr _ _ _ _ hu => exact run_load_at hk hag h1 h2 h3 hd
          · cases hd
        · cases hd
      · cases hd
    · rename_i row off he
      have hv := ev_sound h he
      split at hd
      · rename_i cs hcs
        cases hv with
        | c _ _ hv =>
          generalize a.eval x = u at hv
          cases hv with
          | iptr _ _ b o us hx hr =>
            obtain ⟨vs, h1, h2, h3⟩ := loadIs_sound (w := w) (fun j x hj => (h.fz _ _ _ (hx j x hj)).1) hr k off cs hcs
            exact run_load_at hk hag h1 h2 h3 hd
      · cases hd
    · cases hd
  · cases hd

/-! ### Places -/
def fieldAddrD (P : Program) (s : TypeId) (S : Nat → Option D) (x : Operand) (f : Nat) : Option D :=
  match tfd P s f with
  | some (o, ft) => match tsz P ft with
    | some 0 => none
    | some _ => match ev S x with
      | some (.c (.ptr n sz i off)) => some (.c (.ptr n sz i (off + o)))
      | some (.c (.iptr row off)) => some (.c (.iptr row (off + o)))
      | _ => none
    | none => none
  | none => none
theorem run_fieldAt_any {s : TypeId} {f o : Nat} {ft : TypeId} {k b o0 : Nat} (hf : tfd P s f = some (o, ft)) (hk : tsz P ft = some k) (h0 : k ≠ 0) :
    (Instr.fieldAt s (.pointer (some ⟨b, o0, none⟩)) f).run P w = .ok (.pointer (some ⟨b, o0 + o, none⟩)) w := by
  obtain ⟨fs, fd, hu, hfd, rfl, rfl⟩ := tfd_under hf
  have : (⟨b, o0, none⟩ : Addr).add fd.offset = ⟨b, o0 + fd.offset, none⟩ := by unfold Addr.add; split <;> simp_all
  simp [Instr.fieldAt, run_underlying hu, hfd, Instr.sureAddr, fieldPlace, run_sizeOf hk, h0, this]
theorem fieldAddrD_sound (h : Rel en g S H a w) {s : TypeId} {x : Operand} {f : Nat} {d : D} (hd : fieldAddrD P s S x f = some d) : ∃ v, (Instr.fieldAt s (a.eval x) f).run P w = .ok v w ∧ DV g d v := by
  unfold fieldAddrD at hd
  split at hd
  · rename_i o ft hf
    split at hd
    · cases hd
    · rename_i k hk0 hk
      split at hd
      · rename_i n sz i off he
        injection hd with hd
        subst hd
        have hv := ev_sound h he
        cases hv with
        | c _ _ hv =>
          generalize a.eval x = u at hv
          cases hv with
          | ptr _ _ _ _ hu => exact ⟨_, run_fieldAt_any hf hk (fun e => hk0 e), .c _ _ (by have := CV.ptr (g := g) n sz i (off + o) hu; rwa [← Nat.add_assoc] at this)⟩
      · rename_i row off he
        injection hd with hd
        subst hd
        have hv := ev_sound h he
        cases hv with
        | c _ _ hv =>
          generalize a.eval x = u at hv
          cases hv with
          | iptr _ _ b o' us hx hr => exact ⟨_, run_fieldAt_any hf hk (fun e => hk0 e), .c _ _ (by have := CV.iptr (g := g) row (off + o) b o' us hx hr; rwa [← Nat.add_assoc] at this)⟩
      · cases hd
    · cases hd
  · cases hd
end Go.SX
