/-
  SX, part F: the quiet operations' end: literals, results taken apart, builtins; 'qv' and that it tells what the machine does.
  No condition. Plain definitions and theorems over any program.
-/
import Derived.Test.YtbhnlplbfhomcaaSxE
set_option linter.unusedVariables false
set_option linter.unusedSimpArgs false
namespace Go.SX
open Go Go.RowKit
variable {en : En} {g : Gh} {S : Nat → Option D} {H : Nat → Option Root} {a : Act} {w : World} {P : Program}

def dCs : D → Option (List C)
  | .c x => some [x]
  | .agg xs => some xs
  | .tup _ => none
theorem dCs_sound {d : D} {cs : List C} {v : Value} (h : DV g d v) (hd : dCs d = some cs) : CVs g cs v.cells.toList := by
  cases h with
  | c x _ hx => simp only [dCs, Option.some.injEq] at hd; subst hd; rw [hx.cells]; exact .cons hx .nil
  | agg xs vs hs hr => simp only [dCs, Option.some.injEq] at hd; subst hd; exact ⟨by simpa [Value.cells] using hs, fun j x v hj hv => hr j x v hj (by simpa [Value.cells] using hv)⟩
  | tup => simp [dCs] at hd

def mapCV : List Value → Option (List C)
  | [] => some []
  | v :: vs => match cV v with
    | some c => match mapCV vs with
      | some cs => some (c :: cs)
      | none => none
    | none => none
theorem mapCV_sound : ∀ {vs : List Value} {cs : List C}, mapCV vs = some cs → CVs g cs vs
  | [], cs, h => by simp only [mapCV, Option.some.injEq] at h; subst h; exact .nil
  | v :: vs, cs, h => by
    simp only [mapCV] at h
    split at h
    · rename_i c hc
      split at h
      · rename_i cs' hcs
        injection h with h
        subst h
        exact .cons (cV_sound hc) (mapCV_sound hcs)
      · cases h
    · cases h
/-- A type's zero value, cell by cell. -/
def tzr (P : Program) (t : TypeId) : Option (List C) := match P.info? t with
  | some i => match i.zero with
    | some z => mapCV z.cells.toList
    | none => none
  | none => none
theorem tzr_sound {t : TypeId} {cs : List C} (h : tzr P t = some cs) : ∃ z, (∀ w, (zeroValue t).run P w = .ok z w) ∧ CVs g cs z.cells.toList := by
  unfold tzr at h
  split at h
  · rename_i i hi
    split at h
    · rename_i z hz
      exact ⟨z, fun w => by simp [zeroValue, typeInfo, hi, hz], mapCV_sound h⟩
    · cases h
  · cases h

def setL : List C → Nat → List C → List C
  | cs, _, [] => cs
  | cs, o, x :: xs => setL (cs.set o x) (o + 1) xs
theorem setL_length : ∀ (xs cs : List C) (o : Nat), (setL cs o xs).length = cs.length
  | [], _, _ => rfl
  | x :: xs, cs, o => by simp [setL, setL_length xs]
theorem CVs.set {cs : List C} {vs : List Value} (h : CVs g cs vs) {x : C} {v : Value} (hx : CV g x v) (o : Nat) : CVs g (cs.set o x) (vs.set o v) := by
  refine ⟨by simp [h.1], fun j y u hy hu => ?_⟩
  rw [List.getElem?_set] at hy hu
  split at hy
  · rename_i e
    subst e
    rw [if_pos rfl] at hu
    split at hy
    · rw [if_pos (by rw [h.1]; assumption)] at hu
      injection hy with hy; injection hu with hu
      subst hy; subst hu; exact hx
    · cases hy
  · rename_i e
    rw [if_neg e] at hu
    exact h.2 j y u hy hu

theorem fold_set : ∀ (l : List Value) (xs : List C) (k off : Nat) (cs : List C) (A : Array Value), CVs g xs l → CVs g cs A.toList →
    CVs g (setL cs (off + k) xs) ((l.zipIdx k).foldl (fun (cs : Array Value) (p : Value × Nat) => cs.setIfInBounds (off + p.2) p.1) A).toList
  | [], xs, k, off, cs, A, h, hA => by
    have : xs = [] := List.eq_nil_of_length_eq_zero h.1.symm
    subst this
    simpa [setL] using hA
  | v :: l, [], k, off, cs, A, h, hA => by have := h.1; simp at this
  | v :: l, x :: xs, k, off, cs, A, h, hA => by
    simp only [List.zipIdx_cons, List.foldl_cons, setL]
    have h1 : CV g x v := h.2 0 x v rfl rfl
    have h2 : CVs g xs l := ⟨by have := h.1; simpa using this, fun j y u hy hu => h.2 (j + 1) y u (by simpa using hy) (by simpa using hu)⟩
    have := fold_set l xs (k + 1) off (cs.set (off + k) x) (A.setIfInBounds (off + k) v) h2 (by rw [Array.toList_setIfInBounds]; exact hA.set h1 _)
    rwa [← Nat.add_assoc] at this

def partsD (place : Nat → Option (Nat × Nat)) (S : Nat → Option D) : List (Nat × Operand) → List C → Option (List C)
  | [], cs => some cs
  | (i, x) :: r, cs => match place i with
    | some (off, size) => match ev S x with
      | some d => match dCs d with
        | some xs => if xs.length = size ∧ off + size ≤ cs.length then partsD place S r (setL cs off xs) else none
        | none => none
      | none => none
    | none => none
theorem partsD_sound (h : Rel en g S H a w) {place place' : Nat → Option (Nat × Nat)} (hp : ∀ i p, place i = some p → place' i = some p) : ∀ (l : List (Nat × Operand)) (cs cs' : List C) (A : Array Value), CVs g cs A.toList → partsD place S l cs = some cs' →
    ∃ A', Instr.fill place' A (l.map fun (p : Nat × Operand) => (p.1, a.eval p.2)) = some A' ∧ CVs g cs' A'.toList
  | [], cs, cs', A, hA, hd => by simp only [partsD, Option.some.injEq] at hd; subst hd; exact ⟨A, rfl, hA⟩
  | (i, x) :: r, cs, cs', A, hA, hd => by
    simp only [partsD] at hd
    split at hd
    · rename_i off size hpl
      split at hd
      · rename_i d he
        split at hd
        · rename_i xs hxs
          split at hd
          · rename_i hc
            have hcv := dCs_sound (ev_sound h he) hxs
            have hsz : (a.eval x).cells.size = size := by rw [← hc.1, ← hcv.1]; simp
            have hAs : A.size = cs.length := by rw [← hA.1]; simp
            have hstep := fold_set (a.eval x).cells.toList xs 0 off cs A hcv hA
            have e1 : (a.eval x).cells.zipIdx.foldl (fun (cs : Array Value) (p : Value × Nat) => cs.setIfInBounds (off + p.2) p.1) A = ((a.eval x).cells.toList.zipIdx 0).foldl (fun (cs : Array Value) (p : Value × Nat) => cs.setIfInBounds (off + p.2) p.1) A := by
              rw [← Array.foldl_toList]; simp
            obtain ⟨A', h1, h2⟩ := partsD_sound h hp r (setL cs off xs) cs' _ (by rw [Nat.add_zero] at hstep; exact hstep) hd
            refine ⟨A', ?_, h2⟩
            simp only [List.map_cons, Instr.fill, hp i _ hpl, hsz, hAs]
            have h5 : (size != size || decide (cs.length < off + size)) = false := by simp; omega
            rw [if_neg (by simp; omega)]
            rw [← e1] at h1
            exact h1
          · cases hd
        · cases hd
      · cases hd
    · cases hd

def buildD (P : Program) (t : TypeId) (S : Nat → Option D) (parts : List (Nat × Operand)) : Option D :=
  match tzr P t with
  | some z => match partsD (fun i => match tfd P t i with
      | some (o, ft) => match tsz P ft with
        | some k => some (o, k)
        | none => none
      | none => none) S parts z with
    | some cs => some (.agg cs)
    | none => none
  | none => none
/-- All of a struct type's fields have sizes. -/
def tok (P : Program) (t : TypeId) : Bool := match P.underlying t with
  | some (.struct fs) => fs.all fun f => (P.info? f.type).isSome
  | _ => false
theorem tok_places {t : TypeId} (h : tok P t = true) : ∃ fs places, P.underlying t = some (.struct fs) ∧ (∀ w, (fs.mapM fun f => Prod.mk f.offset <$> sizeOf f.type).run P w = .ok places w) ∧
    ∀ i o ft k, tfd P t i = some (o, ft) → tsz P ft = some k → places[i]? = some (o, k) := by
  unfold tok at h
  split at h
  · rename_i fs hu
    have hall : ∀ f ∈ fs.toList, ∃ i, P.info? f.type = some i := fun f hf => by
      have := Array.all_eq_true_iff_forall_mem.1 h f (by simpa using hf)
      exact Option.isSome_iff_exists.1 this
    have hm : ∀ l : List Field, (∀ f ∈ l, ∃ i, P.info? f.type = some i) → ∃ pl, l.mapM (fun (f : Field) => (P.info? f.type).map fun i => (f.offset, i.size)) = some pl ∧
        ∀ (i : Nat) (f : Field) (k : Nat), l[i]? = some f → tsz P f.type = some k → pl[i]? = some (f.offset, k) := by
      intro l
      induction l with
      | nil => intro _; exact ⟨[], rfl, fun i f k h => by simp at h⟩
      | cons f l ih =>
        intro hl
        obtain ⟨i0, hi0⟩ := hl f (by simp)
        obtain ⟨pl, h1, h2⟩ := ih (fun f' hf' => hl f' (by simp [hf']))
        refine ⟨(f.offset, i0.size) :: pl, by simp [List.mapM_cons, hi0, h1], fun i f' k hf' hk => ?_⟩
        cases i with
        | zero =>
          simp at hf'
          subst hf'
          simp only [tsz, hi0, Option.some.injEq] at hk
          simp [hk]
        | succ i => simp at hf' ⊢; exact h2 i f' k hf' hk
    obtain ⟨pl, h1, h2⟩ := hm fs.toList hall
    refine ⟨fs, pl.toArray, hu, fun w => ?_, fun i o ft k hf hk => ?_⟩
    · rw [Array.mapM_eq_mapM_toList]
      simp [run_places w _ _ h1]
    · obtain ⟨fs', fd, hu', hfd, rfl, rfl⟩ := tfd_under hf
      rw [hu] at hu'
      injection hu' with hu'
      injection hu' with hu'
      subst hu'
      simpa using h2 i fd k (by simpa using hfd) hk
  · cases h
theorem buildD_sound (h : Rel en g S H a w) {t : TypeId} {parts : Array (Nat × Operand)} {d : D} (ht : tok P t = true) (hd : buildD P t S parts.toList = some d) :
    ∃ v, (Instr.build t (parts.map fun (p : Nat × Operand) => (p.1, a.eval p.2))).run P w = .ok v w ∧ DV g d v := by
  unfold buildD at hd
  split at hd
  · rename_i z hz
    split at hd
    · rename_i cs hcs
      injection hd with hd
      subst hd
      obtain ⟨zv, hzr, hzc⟩ := tzr_sound (g := g) hz
      obtain ⟨fs, places, hu, hpl, hp⟩ := tok_places ht
      obtain ⟨A', h1, h2⟩ := partsD_sound h (place' := fun i => places[i]?) (fun i p hi => by
        split at hi
        · rename_i o ft hf
          split at hi
          · rename_i k hk
            injection hi with hi
            subst hi
            exact hp i o ft k hf hk
          · cases hi
        · cases hi) parts.toList z cs zv.cells hzc hcs
      refine ⟨.agg A', ?_, .agg _ _ (by have := h2.1; simpa using this) (fun j x v hj hv => h2.2 j x v hj (by simpa using hv))⟩
      have e1 : (Array.map (fun (p : Nat × Operand) => (p.1, a.eval p.2)) parts).toList = parts.toList.map fun (p : Nat × Operand) => (p.1, a.eval p.2) := by simp
      simp [Instr.build, hzr, run_underlying hu, hpl, h1]
    · cases hd
  · cases hd

def evCs (S : Nat → Option D) : List Operand → Option (List C)
  | [] => some []
  | x :: xs => match evC S x with
    | some c => match evCs S xs with
      | some cs => some (c :: cs)
      | none => none
    | none => none
theorem evCs_sound (h : Rel en g S H a w) : ∀ {xs : List Operand} {cs : List C}, evCs S xs = some cs → CVs g cs (xs.map a.eval)
  | [], cs, hd => by simp only [evCs, Option.some.injEq] at hd; subst hd; exact .nil
  | x :: xs, cs, hd => by
    simp only [evCs] at hd
    split at hd
    · rename_i c hc
      split at hd
      · rename_i cs' hcs
        injection hd with hd
        subst hd
        exact .cons (evC_sound h hc) (evCs_sound h hcs)
      · cases hd
    · cases hd

/-! ### Builtins that only look -/
def isSlT (P : Program) (t : TypeId) : Bool := match P.underlying t with | some (.slice _) => true | _ => false
def isStT (P : Program) (t : TypeId) : Bool := match P.underlying t with | some .string => true | _ => false
def isBoT (P : Program) (t : TypeId) : Bool := match P.underlying t with | some .bool => true | _ => false
def lenD (P : Program) (t : TypeId) (d : Option D) : Option D :=
  match d with
  | some (.c (.view _ _ _ len)) => if isSlT P t then some (.c (.im (.int .i64 len))) else none
  | some (.c (.im (.sl _ rows))) => if isSlT P t then some (.c (.im (.int .i64 rows.length))) else none
  | some (.c .nil) => if isSlT P t then some (.c (.im (.int .i64 0))) else none
  | some (.c (.im (.str s))) => if isStT P t then some (.c (.im (.int .i64 s.size))) else none
  | _ => none
theorem lenD_sound {t ty : TypeId} {d d' : D} {v : Value} (hv : DV g d v) (hd : lenD P t (some d) = some d') : ∃ v', (Builtin.len_ #[t] ty #[v]).run P w = .ok v' w ∧ DV g d' v' := by
  have hsl : ∀ {b : TypeId → Bool}, isSlT P t = true → ∃ e, P.underlying t = some (.slice e) := by
    intro _ h
    unfold isSlT at h
    split at h
    · exact ⟨_, by assumption⟩
    · cases h
  unfold lenD at hd
  split at hd <;> first
    | (cases hd; done)
    | (rename_i he; injection he with he; subst he; split at hd <;> first
        | (cases hd; done)
        | (rename_i hb; injection hd with hd; subst hd))
  · obtain ⟨e, hu⟩ := hsl (b := fun _ => true) hb
    cases hv with
    | c _ _ hv =>
      cases hv with
      | view0 => exact ⟨_, by simp [Builtin.len_, run_underlying hu, goInt], .c _ _ (.im _ _ (.int _ _))⟩
      | view => exact ⟨_, by simp [Builtin.len_, run_underlying hu, goInt], .c _ _ (.im _ _ (.int _ _))⟩
  · obtain ⟨e, hu⟩ := hsl (b := fun _ => true) hb
    cases hv with
    | c _ _ hv =>
      cases hv with
      | im _ _ hv =>
        rcases hv.sl_inv with ⟨h9, A, c, rfl⟩ | ⟨B, off, c, vs, rfl, _⟩
        · rw [h9]; exact ⟨_, by simp [Builtin.len_, run_underlying hu, goInt], .c _ _ (.im _ _ (.int _ _))⟩
        · exact ⟨_, by simp [Builtin.len_, run_underlying hu, goInt], .c _ _ (.im _ _ (.int _ _))⟩
  · obtain ⟨e, hu⟩ := hsl (b := fun _ => true) hb
    cases hv with
    | c _ _ hv =>
      cases hv with
      | nil => exact ⟨_, by simp [Builtin.len_, run_underlying hu, goInt], .c _ _ (.im _ _ (.int _ _))⟩
  · have hu : P.underlying t = some .string := by
      unfold isStT at hb
      split at hb
      · assumption
      · cases hb
    cases hv with
    | c _ _ hv =>
      cases hv with
      | im _ _ hv => cases hv.str_inv; exact ⟨_, by simp [Builtin.len_, run_underlying hu, goInt], .c _ _ (.im _ _ (.int _ _))⟩

def biD (b : Builtin) (xs : List I) : Option I :=
  match b, xs with
  | .real, [.cpx k x _] => some (.flt k x)
  | .imag, [.cpx k _ y] => some (.flt k y)
  | .complex, [.flt k x, .flt k' y] => if k = k' then some (.cpx k x y) else none
  | .max, [.int k x, .int _ y] => some (.int k (if y > x then y else x))
  | .min, [.int k x, .int _ y] => some (.int k (if y < x then y else x))
  | _, _ => none
def evIs (S : Nat → Option D) : List Operand → Option (List I)
  | [] => some []
  | x :: xs => match evI S x with
    | some c => match evIs S xs with
      | some cs => some (c :: cs)
      | none => none
    | none => none
theorem evIs_one (h : Rel en g S H a w) {xs : List Operand} {i : I} (hd : evIs S xs = some [i]) : ∃ x, xs = [x] ∧ IR g.fz i (a.eval x) := by
  match xs, hd with
  | [], hd => simp [evIs] at hd
  | [x], hd =>
    simp only [evIs] at hd
    split at hd
    · rename_i c hc
      simp only [Option.some.injEq, List.cons.injEq, and_true] at hd
      subst hd
      exact ⟨x, rfl, evI_sound h hc⟩
    · cases hd
  | x :: y :: zs, hd =>
    simp only [evIs] at hd
    split at hd
    · split at hd
      · rename_i h1
        split at h1
        · split at h1
          · injection h1 with h1; subst h1; injection hd with hd; cases hd
          · cases h1
        · cases h1
      · cases hd
    · cases hd
theorem evIs_two (h : Rel en g S H a w) {xs : List Operand} {i j : I} (hd : evIs S xs = some [i, j]) : ∃ x y, xs = [x, y] ∧ IR g.fz i (a.eval x) ∧ IR g.fz j (a.eval y) := by
  match xs, hd with
  | [], hd => simp [evIs] at hd
  | x :: ys, hd =>
    simp only [evIs] at hd
    split at hd
    · rename_i c hc
      split at hd
      · rename_i cs hcs
        simp only [Option.some.injEq, List.cons.injEq] at hd
        obtain ⟨rfl, rfl⟩ := hd
        obtain ⟨y, rfl, hy⟩ := evIs_one h hcs
        exact ⟨x, y, rfl, evI_sound h hc, hy⟩
      · cases hd
    · cases hd
theorem run_real (P : Program) (w : World) (ts : Array TypeId) (ty : TypeId) (cs : Array Bool) (k : FloatKind) (x y : Nat) : (builtin .real ts ty cs #[.complex k x y]).run P w = .ok (.value (.float k x)) w := rfl
theorem run_imag (P : Program) (w : World) (ts : Array TypeId) (ty : TypeId) (cs : Array Bool) (k : FloatKind) (x y : Nat) : (builtin .imag ts ty cs #[.complex k x y]).run P w = .ok (.value (.float k y)) w := rfl
theorem run_complex (P : Program) (w : World) (ts : Array TypeId) (ty : TypeId) (cs : Array Bool) (k : FloatKind) (x y : Nat) : (builtin .complex ts ty cs #[.float k x, .float k y]).run P w = .ok (.value (.complex k x y)) w := by cases k <;> rfl
theorem biD_sound (h : Rel en g S H a w) {b : Builtin} {xs : List Operand} {is : List I} {z : I} {ts : Array TypeId} {ty : TypeId} {cs : Array Bool} (hi : evIs S xs = some is) (hd : biD b is = some z) :
    ∃ v, (builtin b ts ty cs (xs.map a.eval).toArray).run P w = .ok (.value v) w ∧ IR g.fz z v := by
  unfold biD at hd
  split at hd
  · injection hd with hd; subst hd
    obtain ⟨x, rfl, hx⟩ := evIs_one h hi
    obtain ⟨x', y', hv, h1, h2⟩ := hx.cpx_inv
    refine ⟨_, ?_, .flt _ _ _ h1⟩
    simp only [List.map_cons, List.map_nil, hv]
    exact run_real ..
  · injection hd with hd; subst hd
    obtain ⟨x, rfl, hx⟩ := evIs_one h hi
    obtain ⟨x', y', hv, h1, h2⟩ := hx.cpx_inv
    refine ⟨_, ?_, .flt _ _ _ h2⟩
    simp only [List.map_cons, List.map_nil, hv]
    exact run_imag ..
  · split at hd
    · rename_i hk; subst hk
      injection hd with hd; subst hd
      obtain ⟨x, y, rfl, hx, hy⟩ := evIs_two h hi
      obtain ⟨x', hv, h1⟩ := hx.flt_inv
      obtain ⟨y', hv', h2⟩ := hy.flt_inv
      refine ⟨_, ?_, .cpx _ _ _ _ _ h1 h2⟩
      simp only [List.map_cons, List.map_nil, hv, hv']
      exact run_complex ..
    · cases hd
  · injection hd with hd; subst hd
    obtain ⟨x, y, rfl, hx, hy⟩ := evIs_two h hi
    exact ⟨_, by simp [builtin, Builtin.max_, Builtin.max2, hx.int_inv, hy.int_inv], .int _ _⟩
  · injection hd with hd; subst hd
    obtain ⟨x, y, rfl, hx, hy⟩ := evIs_two h hi
    exact ⟨_, by simp [builtin, Builtin.min_, Builtin.min2, hx.int_inv, hy.int_inv], .int _ _⟩
  · cases hd

theorem run_equal_bool {t : TypeId} (hu : P.underlying t = some .bool) (b c : Bool) (w : World) : (Op.equal t (.bool b) (.bool c)).run P w = .ok (b == c) w := by
  have h : ∀ d : Nat, (Op.equalIn (d + 1) t (.bool b) (.bool c)).run P w = .ok (b == c) w := fun d => by simp [Op.equalIn, run_underlying hu]
  unfold Op.equal Op.maxDepth
  exact h 9999

/-- Equality of bools. -/
def eqBo (P : Program) (op : BinOp) (t : TypeId) (x y : I) : Option I :=
  match op, x, y with
  | .eql, .bool b, .bool c => if isBoT P t then some (.bool (b == c)) else none
  | .neq, .bool b, .bool c => if isBoT P t then some (.bool (!(b == c))) else none
  | _, _, _ => none

/-- What a quiet operation gives. -/
def qv (P : Program) (S : Nat → Option D) (H : Nat → Option Root) (o : Op) : Option D :=
  match o with
  | .move x => ev S x
  | .assign x => ev S x
  | .pick c x y => match evI S c with
    | some (.bool true) => ev S x
    | some (.bool false) => ev S y
    | _ => none
  | .load t x => loadD P t S H x
  | .nilCheck x => match evC S x with
    | some (.ptr n sz i off) => some (.c (.ptr n sz i off))
    | some (.iptr row off) => some (.c (.iptr row off))
    | _ => none
  | .binOp op t x y _ => match evI S x, evI S y with
    | some i, some j => match binI op i j with
      | some z => some (.c (.im z))
      | none => match eqBo P op t i j with
        | some z => some (.c (.im z))
        | none => none
    | _, _ => none
  | .unOp op _ x => match evI S x with
    | some i => match unI op i with
      | some z => some (.c (.im z))
      | none => none
    | none => none
  | .convert s d x => match P.underlying s, P.underlying d, evI S x with
    | some _, some dd, some i => match convI dd i with
      | some z => some (.c (.im z))
      | none => none
    | _, _, _ => none
  | .fieldAddr s x f => fieldAddrD P s S x f
  | .field s x f => fieldD P s S x f
  | .indexAddr t x i => indexAddrD P t S x i
  | .slice t x lo hi none => sliceD P t S x lo hi
  | .extract x k => match ev S x with
    | some (.tup ds) => ds[k]?
    | _ => none
  | .makeFunc f first caps => match first.toList with
    | [] => match evCs S caps.toList with
      | some cs => some (.c (.fn f cs))
      | none => none
    | _ => none
  | .build t parts => if tok P t then buildD P t S parts.toList else none
  | .call { callee := .builtin .len, args := args, argTypes := ts } => match args.toList, ts.toList with
    | [x], [t] => lenD P t (ev S x)
    | _, _ => none
  | .call { callee := .builtin b, args := args, argTypes := ts } => match evIs S args.toList with
    | some is => match biD b is with
      | some z => some (.c (.im z))
      | none => none
    | none => none
  | _ => none

theorem eqGuard_im {op : BinOp} {t : TypeId} {x y : Operand} {u v : Value} {i j z : I} {fz : Nat → Nat → Option Value} (hu : IR fz i u) (hz : binI op i j = some z) : eqGuard op t x y u v = pure () := by
  cases i with
  | int => cases hu.int_inv; exact eqGuard_at_int ..
  | flt => obtain ⟨_, rfl, _⟩ := hu.flt_inv; exact eqGuard_at_float ..
  | cpx => obtain ⟨_, _, rfl, _⟩ := hu.cpx_inv; exact eqGuard_at_complex ..
  | str => cases hu.str_inv; exact eqGuard_at_string ..
  | _ => cases j <;> simp [binI] at hz

theorem qv_sound (h : Rel en g S H a w) {o : Oper} {d : D} (hd : qv P S H o.op = some d) : ∃ v w', (execOp a.eval o).run P w = .ok (.value v) w' ∧ Qt w w' ∧ DV g d v := by
  obtain ⟨dst, op, type, pos, after, guard⟩ := o
  simp only at hd
  unfold qv at hd
  split at hd
  case h_1 x => exact ⟨_, w, by simp [execOp], Qt.refl w, ev_sound h hd⟩
  case h_2 x => exact ⟨_, w, by simp [execOp], Qt.refl w, ev_sound h hd⟩
  case h_3 c x y =>
    split at hd
    · rename_i hc
      exact ⟨_, w, by simp [execOp, (evI_sound h hc).bool_inv, asBool], Qt.refl w, ev_sound h hd⟩
    · rename_i hc
      exact ⟨_, w, by simp [execOp, (evI_sound h hc).bool_inv, asBool], Qt.refl w, ev_sound h hd⟩
    · cases hd
  case h_4 t x =>
    obtain ⟨v, h1, h2⟩ := loadD_sound h hd
    exact ⟨v, w, by simp [execOp, h1], Qt.refl w, h2⟩
  case h_5 x =>
    split at hd
    · rename_i hc
      have hv := evC_sound h hc
      injection hd with hd; subst hd
      generalize hx : a.eval x = u at hv
      cases hv with
      | ptr _ _ _ _ hu => exact ⟨_, w, by simp [execOp, hx], Qt.refl w, .c _ _ (.ptr _ _ _ _ hu)⟩
    · rename_i hc
      have hv := evC_sound h hc
      injection hd with hd; subst hd
      generalize hx : a.eval x = u at hv
      cases hv with
      | iptr _ _ _ _ _ h1 h2 => exact ⟨_, w, by simp [execOp, hx], Qt.refl w, .c _ _ (.iptr _ _ _ _ _ h1 h2)⟩
    · cases hd
  case h_6 op t x y ty =>
    split at hd
    · rename_i i j hi hj
      split at hd
      · rename_i z hz
        injection hd with hd; subst hd
        have h1 := evI_sound h hi
        have h2 := evI_sound h hj
        obtain ⟨v, w', h3, h4, h5⟩ := run_bin (P := P) (w := w) (t := t) h1 h2 hz
        exact ⟨v, w', by simp [execOp, eqGuard_im (x := x) (y := y) (t := t) (v := a.eval y) h1 hz, h3], h4, .c _ _ (.im _ _ h5)⟩
      · split at hd
        · rename_i z hz
          injection hd with hd; subst hd
          have h1 := evI_sound h hi
          have h2 := evI_sound h hj
          have hbo : isBoT P t = true → P.underlying t = some .bool := fun hb => by
            unfold isBoT at hb
            split at hb
            · assumption
            · cases hb
          unfold eqBo at hz
          split at hz <;> first
            | (cases hz; done)
            | (split at hz <;> first
                | (cases hz; done)
                | (rename_i hb; injection hz with hz; subst hz
                   refine ⟨_, w, ?_, Qt.refl w, .c _ _ (.im _ _ (.bool _))⟩
                   simp [execOp, h1.bool_inv, h2.bool_inv, eqGuard_at_bool, binOp, run_equal_bool (hbo hb)]))
        · cases hd
    · cases hd
  case h_7 op t x =>
    split at hd
    · rename_i i hi
      split at hd
      · rename_i z hz
        injection hd with hd; subst hd
        obtain ⟨v, h1, h2⟩ := run_un (P := P) (w := w) (evI_sound h hi) hz
        exact ⟨v, w, by simp [execOp, h1], Qt.refl w, .c _ _ (.im _ _ h2)⟩
      · cases hd
    · cases hd
  case h_8 s dt x =>
    split at hd
    · rename_i ds dd i hs hdd hi
      split at hd
      · rename_i z hz
        injection hd with hd; subst hd
        obtain ⟨v, w', h1, h2, h3⟩ := run_conv (P := P) (w := w) hs hdd (evI_sound h hi) hz
        exact ⟨v, w', by simp [execOp, h1], h2, .c _ _ (.im _ _ h3)⟩
      · cases hd
    · cases hd
  case h_9 s x f =>
    obtain ⟨v, h1, h2⟩ := fieldAddrD_sound h hd
    exact ⟨v, w, by simp [execOp, h1], Qt.refl w, h2⟩
  case h_10 s x f =>
    obtain ⟨v, h1, h2⟩ := fieldD_sound h hd
    exact ⟨v, w, by simp [execOp, h1], Qt.refl w, h2⟩
  case h_11 t x i =>
    obtain ⟨v, h1, h2⟩ := indexAddrD_sound h hd
    exact ⟨v, w, by simp [execOp, h1], Qt.refl w, h2⟩
  case h_12 t x lo hi =>
    obtain ⟨v, h1, h2⟩ := sliceD_sound h hd
    exact ⟨v, w, by simp [execOp, h1], Qt.refl w, h2⟩
  case h_13 x k =>
    split at hd
    · rename_i ds hds
      have hv := ev_sound h hds
      generalize hx : a.eval x = u at hv
      cases hv with
      | tup _ vs hs hr =>
        have hlt : k < vs.size := by rw [hs]; exact (List.getElem?_eq_some_iff.1 hd).1
        exact ⟨vs[k], w, by simp [execOp, hx, Instr.extract, Array.getElem?_eq_getElem hlt], Qt.refl w, hr k d _ hd (Array.getElem?_eq_getElem hlt)⟩
    · cases hd
  case h_14 f first caps =>
    split at hd
    · rename_i hf
      split at hd
      · rename_i cs hcs
        injection hd with hd; subst hd
        have hfirst : first = #[] := by simpa using hf
        subst hfirst
        have hcv := evCs_sound h hcs
        refine ⟨.func f #[] (caps.map a.eval), w, by simp [execOp, Instr.makeFunc], Qt.refl w, .c _ _ (.fn _ _ _ ?_ (fun j x v hj hv => ?_))⟩
        · have := hcv.1; simpa using this
        · refine hcv.2 j x v hj ?_
          have : (caps.map a.eval).toList[j]? = some v := by simpa using hv
          simpa using this
      · cases hd
    · cases hd
  case h_15 t parts =>
    split at hd
    · rename_i ht
      obtain ⟨v, h1, h2⟩ := buildD_sound h ht hd
      exact ⟨v, w, by simp [execOp, h1], Qt.refl w, h2⟩
    · cases hd
  case h_16 args ts =>
    split at hd
    · rename_i x t hx ht
      have hx' : args = #[x] := by rw [← Array.toList_inj]; simpa using hx
      have ht' : ts = #[t] := by rw [← Array.toList_inj]; simpa using ht
      subst hx'; subst ht'
      cases he : ev S x with
      | none => rw [he] at hd; simp [lenD] at hd
      | some d0 =>
        rw [he] at hd
        obtain ⟨v, h1, h2⟩ := lenD_sound (w := w) (ty := type) (ev_sound h he) hd
        exact ⟨v, w, by simp [execOp, resolve, invoke, builtin, h1], Qt.refl w, h2⟩
    · cases hd
  case h_17 b args ts hne =>
    split at hd
    · rename_i is hi
      split at hd
      · rename_i z hz
        injection hd with hd; subst hd
        obtain ⟨v, h1, h2⟩ := biD_sound (P := P) (ts := ts) (ty := type) (cs := args.map fun | .const _ => true | _ => false) h hi hz
        refine ⟨v, w, ?_, Qt.refl w, .c _ _ (.im _ _ h2)⟩
        have : (args.toList.map a.eval).toArray = args.map a.eval := by rw [← Array.toList_map]
        rw [this] at h1
        simp only [execOp, resolve, invoke, Sem.run_bind, Sem.run_pure, Result.andThen_ok]
        exact h1
      · cases hd
    · cases hd
  case h_18 => cases hd
end Go.SX
