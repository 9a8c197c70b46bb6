/-
  SX, part A: ideal values, the ghost state, what a real world has to do with an ideal one; and that this relation is kept where the world grows.
  No condition. Plain definitions and theorems over any program.
-/
import Derived.Below
import Derived.OwnWalk
import Derived.Laws.FloatArith
set_option linter.unusedVariables false
set_option linter.unusedSimpArgs false
namespace Go.SX
open Go Go.RowKit

/-- A value of one cell that no later step changes. -/
inductive I where
  | bool (b : Bool)
  | int (k : IntKind) (n : Int)
  | flt (k : FloatKind) (x : Nat)
  | cpx (k : FloatKind) (x y : Nat)
  | str (s : ByteArray)
  | raw (v : Value)
  | sl (sz : Nat) (rows : List (List I))
  deriving Inhabited

/-- What a cell of the call's own memory holds. 'lent': the header of a root that is looked up by its name. -/
inductive T where
  | im (i : I)
  | nil
  | dead
  | own (sz : Nat) (rows : List (List T))
  | lent (n sz len : Nat)
  deriving Inhabited

/-- What a slot holds, a value of one cell. -/
inductive C where
  | im (i : I)
  | nil
  | view (n sz lo len : Nat)
  | ptr (n sz i off : Nat)
  | iptr (row : List I) (off : Nat)
  | fn (f : Fn) (caps : List C)
  deriving Inhabited

/-- What a slot holds. -/
inductive D where
  | c (x : C)
  | agg (xs : List C)
  | tup (ds : List D)
  deriving Inhabited

/-- A cell of a variable in memory. -/
inductive B where
  | t (x : T)
  | v (x : C)
  deriving Inhabited

/-- A block of the call's own: a variable (one row) or an array. -/
inductive Root where
  | box (cells : List B)
  | arr (sz : Nat) (rows : List (List T))
  deriving Inhabited

def isNaNb (k : FloatKind) (x : Nat) : Bool := (k.format.read x).isNaN
def FEq (k : FloatKind) (x y : Nat) : Prop := x = y ∨ (isNaNb k x = true ∧ isNaNb k y = true)
theorem FEq.refl (k : FloatKind) (x : Nat) : FEq k x x := .inl rfl

abbrev Pth := List (Nat × Nat)

/-- What is known beside the ideal state: where its roots lie, which block is whose, which cells stay as they are. -/
structure Gh where
  used : Nat → Prop
  rb : Nat → Nat
  base : Nat → Nat
  rc : Nat → Nat
  own : Nat → Option (Nat × Pth)
  fz : Nat → Nat → Option Value

inductive IR (fz : Nat → Nat → Option Value) : I → Value → Prop where
  | bool (b : Bool) : IR fz (.bool b) (.bool b)
  | int (k : IntKind) (n : Int) : IR fz (.int k n) (.int k n)
  | flt (k : FloatKind) (x y : Nat) (h : FEq k x y) : IR fz (.flt k x) (.float k y)
  | cpx (k : FloatKind) (x y x' y' : Nat) (h : FEq k x x') (h' : FEq k y y') : IR fz (.cpx k x y) (.complex k x' y')
  | str (s : ByteArray) : IR fz (.str s) (.string s)
  | raw (v : Value) (h : v.oneCell' = true) : IR fz (.raw v) v
  | sl0 (sz : Nat) (a : Option Addr) (c : Nat) : IR fz (.sl sz []) (.slice a 0 c)
  | sl (sz : Nat) (rows : List (List I)) (b off c : Nat) (vs : Nat → Nat → Value) (hc : rows.length ≤ c)
      (hl : ∀ (i : Nat) (r : List I), rows[i]? = some r → r.length = sz)
      (hx : ∀ (i : Nat) (r : List I) (j : Nat) (x : I), rows[i]? = some r → r[j]? = some x → fz b (off + i * sz + j) = some (vs i j))
      (hr : ∀ (i : Nat) (r : List I) (j : Nat) (x : I), rows[i]? = some r → r[j]? = some x → IR fz x (vs i j)) :
      IR fz (.sl sz rows) (.slice (some ⟨b, off, none⟩) rows.length c)

inductive CV (g : Gh) : C → Value → Prop where
  | im (i : I) (v : Value) (h : IR g.fz i v) : CV g (.im i) v
  | nil : CV g .nil (.slice none 0 0)
  | view0 (n sz lo : Nat) (a : Option Addr) (h : g.used n) : CV g (.view n sz lo 0) (.slice a 0 0)
  | view (n sz lo len cap : Nat) (h : g.used n) (hb : g.base n = 0) (hl : len ≤ cap) (hc : (lo + cap) * sz ≤ g.rc n) : CV g (.view n sz lo len) (.slice (some ⟨g.rb n, lo * sz, none⟩) len cap)
  | ptr (n sz i off : Nat) (h : g.used n) : CV g (.ptr n sz i off) (.pointer (some ⟨g.rb n, g.base n + i * sz + off, none⟩))
  | iptr (row : List I) (off b o : Nat) (vs : Nat → Value) (hx : ∀ (j : Nat) (x : I), row[j]? = some x → g.fz b (o + j) = some (vs j))
      (hr : ∀ (j : Nat) (x : I), row[j]? = some x → IR g.fz x (vs j)) : CV g (.iptr row off) (.pointer (some ⟨b, o + off, none⟩))
  | fn (f : Fn) (caps : List C) (vs : Array Value) (hs : vs.size = caps.length) (hr : ∀ (j : Nat) (x : C) (v : Value), caps[j]? = some x → vs[j]? = some v → CV g x v) : CV g (.fn f caps) (.func f #[] vs)

inductive DV (g : Gh) : D → Value → Prop where
  | c (x : C) (v : Value) (h : CV g x v) : DV g (.c x) v
  | agg (xs : List C) (vs : Array Value) (hs : vs.size = xs.length) (hr : ∀ (j : Nat) (x : C) (v : Value), xs[j]? = some x → vs[j]? = some v → CV g x v) : DV g (.agg xs) (.agg vs)
  | tup (ds : List D) (vs : Array Value) (hs : vs.size = ds.length) (hr : ∀ (j : Nat) (x : D) (v : Value), ds[j]? = some x → vs[j]? = some v → DV g x v) : DV g (.tup ds) (.tuple vs)

/-- A cell of memory: 'n', 'q': under which name and path its blocks are booked. -/
inductive TR (w : World) (g : Gh) (n : Nat) : Pth → T → Value → Prop where
  | im (q : Pth) (i : I) (v : Value) (h : IR g.fz i v) : TR w g n q (.im i) v
  | nil (q : Pth) : TR w g n q .nil (.slice none 0 0)
  | dead (q : Pth) (v : Value) : TR w g n q .dead v
  | own0 (q : Pth) (sz : Nat) (a : Option Addr) : TR w g n q (.own sz []) (.slice a 0 0)
  | own (q : Pth) (sz : Nat) (rows : List (List T)) (b cap : Nat) (cs : Array Value) (e : TypeId) (vs : Nat → Nat → Value)
      (hh : w.heap[b]? = some (.cells cs e (0, 0))) (ho : g.own b = some (n, q)) (hl : rows.length ≤ cap) (hc : cap * sz ≤ cs.size)
      (hz : ∀ (i : Nat) (r : List T), rows[i]? = some r → r.length = sz)
      (hx : ∀ (i : Nat) (r : List T) (j : Nat) (x : T), rows[i]? = some r → r[j]? = some x → cs[i * sz + j]? = some (vs i j))
      (hr : ∀ (i : Nat) (r : List T) (j : Nat) (x : T), rows[i]? = some r → r[j]? = some x → TR w g n (q ++ [(i, j)]) x (vs i j)) :
      TR w g n q (.own sz rows) (.slice (some ⟨b, 0, none⟩) rows.length cap)
  | lent (q : Pth) (m sz len : Nat) (v : Value) (h : CV g (.view m sz 0 len) v) : TR w g n q (.lent m sz len) v

inductive BR (w : World) (g : Gh) (n : Nat) (q : Pth) : B → Value → Prop where
  | t (x : T) (v : Value) (h : TR w g n q x v) : BR w g n q (.t x) v
  | v (x : C) (v : Value) (h : CV g x v) : BR w g n q (.v x) v

def Root.sz : Root → Nat
  | .box _ => 0
  | .arr sz _ => sz
/-- The cell j of row i. -/
def Root.get : Root → Nat → Nat → Option B
  | .box cells, 0, j => cells[j]?
  | .box _, _ + 1, _ => none
  | .arr _ rows, i, j => match rows[i]? with
    | some r => (r[j]?).map B.t
    | none => none
def Root.form (r : Root) (base rc size : Nat) : Prop :=
  match r with
  | .box _ => True
  | .arr sz rows => base = 0 ∧ size = rc ∧ rows.length * sz ≤ rc ∧ ∀ (i : Nat) (r : List T), rows[i]? = some r → r.length = sz

inductive RootR (w : World) (g : Gh) (n : Nat) : Root → Prop where
  | mk (r : Root) (cs : Array Value) (e : TypeId) (hh : w.heap[g.rb n]? = some (.cells cs e (0, 0))) (ho : g.own (g.rb n) = some (n, [])) (hf : r.form (g.base n) (g.rc n) cs.size)
      (hr : ∀ (i j : Nat) (x : B), r.get i j = some x → ∃ v, cs[g.base n + i * r.sz + j]? = some v ∧ BR w g n [(i, j)] x v) : RootR w g n r
  | arr0 (sz : Nat) (hs : 0 < sz) (hc : g.rc n = 0) : RootR w g n (.arr sz [])

/-- What is booked stays; more may be booked. -/
structure Gh.le (g g' : Gh) : Prop where
  used : ∀ n, g.used n → g'.used n
  rb : ∀ n, g.used n → g'.rb n = g.rb n
  base : ∀ n, g.used n → g'.base n = g.base n
  rc : ∀ n, g.used n → g'.rc n = g.rc n
  fz : ∀ b o v, g.fz b o = some v → g'.fz b o = some v

theorem Gh.le.refl (g : Gh) : g.le g := ⟨fun _ h => h, fun _ _ => rfl, fun _ _ => rfl, fun _ _ => rfl, fun _ _ _ h => h⟩
theorem Gh.le.trans {a b c : Gh} (h : a.le b) (k : b.le c) : a.le c :=
  ⟨fun n hn => k.used n (h.used n hn), fun n hn => (k.rb n (h.used n hn)).trans (h.rb n hn), fun n hn => (k.base n (h.used n hn)).trans (h.base n hn),
   fun n hn => (k.rc n (h.used n hn)).trans (h.rc n hn), fun b o v hv => k.fz b o v (h.fz b o v hv)⟩

theorem IR.mono {fz fz' : Nat → Nat → Option Value} (hf : ∀ b o v, fz b o = some v → fz' b o = some v) {i : I} {v : Value} (h : IR fz i v) : IR fz' i v := by
  induction h with
  | bool b => exact .bool b
  | int k n => exact .int k n
  | flt k x y h => exact .flt k x y h
  | cpx k x y x' y' h h' => exact .cpx k x y x' y' h h'
  | str s => exact .str s
  | raw v h => exact .raw v h
  | sl0 sz a c => exact .sl0 sz a c
  | sl sz rows b off c vs hc hl hx hr ih => exact .sl sz rows b off c vs hc hl (fun i r j x h1 h2 => hf _ _ _ (hx i r j x h1 h2)) ih

theorem CV.mono {g g' : Gh} (hg : g.le g') {x : C} {v : Value} (h : CV g x v) : CV g' x v := by
  induction h with
  | im i v h => exact .im i v (h.mono hg.fz)
  | nil => exact .nil
  | view0 n sz lo a h => exact .view0 n sz lo a (hg.used n h)
  | view n sz lo len cap h hb hl hc => rw [← hg.rb n h]; exact .view n sz lo len cap (hg.used n h) ((hg.base n h).trans hb) hl (by rw [hg.rc n h]; exact hc)
  | ptr n sz i off h => rw [← hg.rb n h, ← hg.base n h]; exact .ptr n sz i off (hg.used n h)
  | iptr row off b o vs hx hr => exact .iptr row off b o vs (fun j x hj => hg.fz _ _ _ (hx j x hj)) (fun j x hj => (hr j x hj).mono hg.fz)
  | fn f caps vs hs hr ih => exact .fn f caps vs hs ih

theorem DV.mono {g g' : Gh} (hg : g.le g') {d : D} {v : Value} (h : DV g d v) : DV g' d v := by
  induction h with
  | c x v h => exact .c x v (h.mono hg)
  | agg xs vs hs hr => exact .agg xs vs hs (fun j x v hj hv => (hr j x v hj hv).mono hg)
  | tup ds vs hs hr ih => exact .tup ds vs hs ih

/-- The one law by which what lies in memory is booked anew: under another name and path, in another world that holds the same blocks. -/
theorem TR.move {w w' : World} {g g' : Gh} {n n' : Nat} {q q' : Pth} {t : T} {v : Value} (h : TR w g n q t v) (hg : g.le g')
    (hb : ∀ (b : Nat) (p : Pth), g.own b = some (n, q ++ p) → g'.own b = some (n', q' ++ p) ∧ w'.heap[b]? = w.heap[b]?) : TR w' g' n' q' t v := by
  induction h generalizing q' with
  | im q i v h => exact .im q' i v (h.mono hg.fz)
  | nil q => exact .nil q'
  | dead q v => exact .dead q' v
  | own0 q sz a => exact .own0 q' sz a
  | own q sz rows b cap cs e vs hh ho hl hc hz hx hr ih =>
    obtain ⟨h1, h2⟩ := hb b [] (by simpa using ho)
    refine .own q' sz rows b cap cs e vs (h2.trans hh) (by simpa using h1) hl hc hz hx (fun i r j x h3 h4 => ih i r j x h3 h4 (fun b p hp => ?_))
    have := hb b ((i, j) :: p) (by simpa using hp)
    simpa using this
  | lent q m sz len v h => exact .lent q' m sz len v (h.mono hg)

/-- The same name and path. -/
theorem TR.keep {w w' : World} {g g' : Gh} {n : Nat} {q : Pth} {t : T} {v : Value} (h : TR w g n q t v) (hg : g.le g')
    (hb : ∀ (b : Nat) (p : Pth), g.own b = some (n, q ++ p) → g'.own b = some (n, q ++ p) ∧ w'.heap[b]? = w.heap[b]?) : TR w' g' n q t v := h.move hg hb

/-- A value for each cell, by choice. -/
theorem rows_choose {α : Type} {rows : List (List α)} {Pr : Nat → Nat → α → Value → Prop} (h : ∀ (i : Nat) (r : List α) (j : Nat) (x : α), rows[i]? = some r → r[j]? = some x → ∃ v, Pr i j x v) :
    ∃ vs : Nat → Nat → Value, ∀ (i : Nat) (r : List α) (j : Nat) (x : α), rows[i]? = some r → r[j]? = some x → Pr i j x (vs i j) := by
  refine ⟨fun i j => Classical.epsilon fun v => ∀ r x, rows[i]? = some r → r[j]? = some x → Pr i j x v, fun i r j x h1 h2 => ?_⟩
  obtain ⟨v, hv⟩ := h i r j x h1 h2
  have hv' : ∃ v, ∀ r x, rows[i]? = some r → r[j]? = some x → Pr i j x v := ⟨v, fun r' x' h3 h4 => by
    rw [h1] at h3; injection h3 with h3; subst h3; rw [h2] at h4; injection h4 with h4; subst h4; exact hv⟩
  exact Classical.epsilon_spec hv' r x h1 h2

theorem IR.one {fz : Nat → Nat → Option Value} {i : I} {v : Value} (h : IR fz i v) : v.oneCell' = true := by cases h <;> first | rfl | assumption
theorem CV.one {g : Gh} {x : C} {v : Value} (h : CV g x v) : v.oneCell' = true := by
  cases h with
  | im i v h => exact h.one
  | _ => rfl
theorem cells_of_one {v : Value} (h : v.oneCell' = true) : v.cells = #[v] := by cases v <;> first | rfl | (simp [Value.oneCell'] at h)
theorem CV.cells {g : Gh} {x : C} {v : Value} (h : CV g x v) : v.cells = #[v] := cells_of_one h.one
end Go.SX
