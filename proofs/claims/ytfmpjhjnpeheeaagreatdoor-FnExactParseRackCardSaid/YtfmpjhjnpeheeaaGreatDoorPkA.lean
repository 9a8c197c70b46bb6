/-
  SX: the engine, parts A to J, in one text. Plain definitions and theorems over any program.
  No condition.
-/
import Derived.Below
import Derived.OwnWalk
import Derived.Laws.FloatArith
import Derived.Laws.Tables
import Derived.Laws.CopyRow
import Derived.Laws.Rows
import Derived.Laws.Cells
import Derived.Laws.MakeOwn
import Derived.Laws.AppendOwn
import Derived.Laws.StructEq
import Derived.Laws.BytesString
import Derived.Lib.ItoaNum
import Derived.Lib.TrailingZeros
set_option maxRecDepth 100000
set_option maxHeartbeats 16000000
set_option linter.unusedVariables false
namespace Go.SX
theorem yab.{u_1} : ∀ {α : Type u_1} (p : α → Prop) (x : α),x ∈ [] → p x := @List.forall_mem_nil
theorem yae.{u_1} : ∀ {α : Type u_1} {b : α} {l : List α} {a : α},a ∈ b :: l ↔ a = b ∨ a ∈ l := @List.mem_cons
theorem yaf.{u_1} : ∀ {α : Type u_1} {a : α},¬a ∈ [] := @List.not_mem_nil
theorem yag : ∀ (b : Bool),(Bool.false && b) = Bool.false := @Bool.false_and
theorem yah : ∀ (b : Bool),(Bool.true && b) = b := @Bool.true_and
theorem yai : ∀ (n : Nat),0 ≤ n := @Nat.zero_le
theorem yaj : (Bool.false = Bool.true) = False := @Bool.false_eq_true
theorem yak.{u_1} : ∀ {α : Sort u_1} {x : Decidable False} (t e : α),(if False then t else e) = e := @if_false
theorem yal.{u_1} : ∀ {α : Sort u_1} {x : Decidable True} (t e : α),(if True then t else e) = t := @if_true
theorem yan.{u_1} : ∀ {α : Type u_1} {l : List α},List.take 0 l = [] := @List.take_zero
theorem yao.{u_1} : ∀ {α : Type u_1} {a : α} {l : List α} {f : α → Bool},(a :: l).all f = (f a && l.all f) := @List.all_cons
theorem yap.{u_1} : ∀ {α : Type u_1} {f : α → Bool},[].all f = Bool.true := @List.all_nil
theorem yaq : ∀ (b : Bool),(b && Bool.true) = b := @Bool.and_true
theorem yar.{u_1} : ∀ {α : Type u_1} {as bs : List α},(as ++ bs).length = as.length + bs.length := @List.length_append
theorem yas.{u_1} : ∀ {α : Type u_1} {a : α} {as : List α},(a :: as).length = as.length + 1 := @List.length_cons
theorem yaw : ∀ (a b : Bool),((a && b) = Bool.true) = (a = Bool.true ∧ b = Bool.true) := @Bool.and_eq_true
theorem yax : ∀ {p : Prop} [inst : Decidable p],(Decidable.decide p = Bool.true) = p := @decide_eq_true_eq
theorem yay.{u_1} : ∀ {α : Type u_1} (val val_1 : α),(Option.some val = Option.some val_1) = (val = val_1) := @Option.some.injEq
theorem yaz.{u_1} : ∀ {α : Type u_1} {a : α} {s t : List α},a ∈ s ++ t ↔ a ∈ s ∨ a ∈ t := @List.mem_append
theorem yaA.{u_1,u_2} : ∀ {α : Type u_1} {β : Type u_2} {f : α → List β},List.flatMap f [] = [] := @List.flatMap_nil
theorem yaB.{u_1} : ∀ {α : Type u_1} {a : α} {as bs : List α},a :: as ++ bs = a :: (as ++ bs) := @List.cons_append
theorem yaC.{u_1} : ∀ {α : Type u_1} (as : List α),[] ++ as = as := @List.nil_append
theorem yaD : ∀ (b : Bool),(b && b) = b := @Bool.and_self
theorem yaE.{u_1,u_2} : ∀ {α : Type u_1} {β : Type u_2} {f : α → β},List.map f [] = [] := @List.map_nil
theorem yaF.{u_1} : ∀ {α : Type u_1} {a b : α},(Option.some a).getD b = a := @Option.getD_some
theorem yaG.{u_1} : ∀ {α : Type u_1} {a b : α},a ∈ [b] ↔ a = b := @List.mem_singleton
theorem yaH : (!Bool.true) = Bool.false := @Bool.not_true
theorem yaI : (!Bool.false) = Bool.true := @Bool.not_false
theorem yaJ : ∀ (b : Bool),(b || b) = b := @Bool.or_self
theorem yaK.{u_1,u_2} : ∀ {α : Type u_1} {β : Type u_2} (a : α) (f : α → β),Option.map f (Option.some a) = Option.some (f a) := @Option.map_some
theorem yaM : ∀ (b : Bool),(Bool.true || b) = Bool.true := @Bool.true_or
theorem yaN : ∀ (b : Bool),(Bool.false || b) = b := @Bool.false_or
theorem yaO : ∀ (b : Bool),(b || Bool.true) = Bool.true := @Bool.or_true
theorem yaP : ∀ (n : Nat),n + 0 = n := @Nat.add_zero
theorem yaQ : Int.toNat 0 = 0 := @Int.toNat_zero
theorem yaR : Int.toNat 1 = 1 := @Int.toNat_one
theorem yaS : ∀ (h : Decidable True),Decidable.decide True = Bool.true := @decide_true
theorem yaT : ∀ (b : Bool),(b && Bool.false) = Bool.false := @Bool.and_false
theorem yaU : ∀ (h : Decidable False),Decidable.decide False = Bool.false := @decide_false
theorem yaX.{u_1} : ∀ {α : Type u_1} {as : List α},as.toArray.size = as.length := @List.size_toArray
theorem yaY.{u_1} : ∀ {α : Type u_1} {a : α} {l : List α} {i : Nat},List.drop (i + 1) (a :: l) = List.drop i l := @List.drop_succ_cons
theorem ybb.{u_1} : ∀ {α : Type u_1} {l : List α},List.drop 0 l = l := @List.drop_zero
theorem ybc : (¬True) = False := @not_true_eq_false
end Go.SX
set_option linter.unusedSimpArgs false
namespace Go.SX
open Go Go.RowKit
inductive I where
 | bool (b : Bool)
 | int (k : IntKind) (n : Int)
 | flt (k : FloatKind) (x : Nat)
 | cpx (k : FloatKind) (x y : Nat)
 | str (s : ByteArray)
 | raw (v : Value)
 | sl (sz : Nat) (rows : List (List I))
 deriving Inhabited
inductive T where
 | im (i : I)
 | nil
 | dead
 | own (sz : Nat) (rows : List (List T))
 | lent (n sz len : Nat)
 deriving Inhabited
inductive C where
 | im (i : I)
 | nil
 | view (n sz lo len : Nat)
 | ptr (n sz i off : Nat)
 | iptr (row : List I) (off : Nat)
 | fn (f : Fn) (caps : List C)
 deriving Inhabited
inductive D where
 | c (x : C)
 | agg (xs : List C)
 | tup (ds : List D)
 deriving Inhabited
inductive B where
 | t (x : T)
 | v (x : C)
 deriving Inhabited
inductive Root where
 | box (cells : List B)
 | arr (sz : Nat) (rows : List (List T))
 deriving Inhabited
def isNaNb (k : FloatKind) (x : Nat) : Bool := (k.format.read x).isNaN
def FEq (k : FloatKind) (x y : Nat) : Prop := x = y ∨ (isNaNb k x = true ∧ isNaNb k y = true)
theorem FEq.refl (k : FloatKind) (x : Nat) : FEq k x x := .inl rfl
abbrev Pth := List (Nat × Nat)
structure Gh where
 used : Nat → Prop
 rb : Nat → Nat
 base : Nat → Nat
 rc : Nat → Nat
 own : Nat → Option (Nat × Pth)
 fz : Nat → Nat → Option Value
inductive IR (fz : Nat → Nat → Option Value) : I → Value → Prop where
 | bool (b : Bool) : IR fz (.bool b) (.bool b)
 | int (k : IntKind) (n : Int) : IR fz (.int k n) (.int k n)
 | flt (k : FloatKind) (x y : Nat) (h : FEq k x y) : IR fz (.flt k x) (.float k y)
 | cpx (k : FloatKind) (x y x' y' : Nat) (h : FEq k x x') (h' : FEq k y y') : IR fz (.cpx k x y) (.complex k x' y')
 | str (s : ByteArray) : IR fz (.str s) (.string s)
 | raw (v : Value) (h : v.oneCell' = true) : IR fz (.raw v) v
 | sl0 (sz : Nat) (a : Option Addr) (c : Nat) : IR fz (.sl sz []) (.slice a 0 c)
 | sl (sz : Nat) (rows : List (List I)) (b off c : Nat) (vs : Nat → Nat → Value) (hc : rows.length ≤ c)
     (hl : ∀ (i : Nat) (r : List I),rows[i]? = some r → r.length = sz)
     (hx : ∀ (i : Nat) (r : List I) (j : Nat) (x : I),rows[i]? = some r → r[j]? = some x → fz b (off + i * sz + j) = some (vs i j))
     (hr : ∀ (i : Nat) (r : List I) (j : Nat) (x : I),rows[i]? = some r → r[j]? = some x → IR fz x (vs i j)) :
     IR fz (.sl sz rows) (.slice (some ⟨b,off,none⟩) rows.length c)
inductive CV (g : Gh) : C → Value → Prop where
 | im (i : I) (v : Value) (h : IR g.fz i v) : CV g (.im i) v
 | nil : CV g .nil (.slice none 0 0)
 | view0 (n sz lo : Nat) (a : Option Addr) (h : g.used n) : CV g (.view n sz lo 0) (.slice a 0 0)
 | view (n sz lo len cap : Nat) (h : g.used n) (hb : g.base n = 0) (hl : len ≤ cap) (hc : (lo + cap) * sz ≤ g.rc n) : CV g (.view n sz lo len) (.slice (some ⟨g.rb n,lo * sz,none⟩) len cap)
 | ptr (n sz i off : Nat) (h : g.used n) : CV g (.ptr n sz i off) (.pointer (some ⟨g.rb n,g.base n + i * sz + off,none⟩))
 | iptr (row : List I) (off b o : Nat) (vs : Nat → Value) (hx : ∀ (j : Nat) (x : I),row[j]? = some x → g.fz b (o + j) = some (vs j))
     (hr : ∀ (j : Nat) (x : I),row[j]? = some x → IR g.fz x (vs j)) : CV g (.iptr row off) (.pointer (some ⟨b,o + off,none⟩))
 | fn (f : Fn) (caps : List C) (vs : Array Value) (hs : vs.size = caps.length) (hr : ∀ (j : Nat) (x : C) (v : Value),caps[j]? = some x → vs[j]? = some v → CV g x v) : CV g (.fn f caps) (.func f #[] vs)
inductive DV (g : Gh) : D → Value → Prop where
 | c (x : C) (v : Value) (h : CV g x v) : DV g (.c x) v
 | agg (xs : List C) (vs : Array Value) (hs : vs.size = xs.length) (hr : ∀ (j : Nat) (x : C) (v : Value),xs[j]? = some x → vs[j]? = some v → CV g x v) : DV g (.agg xs) (.agg vs)
 | tup (ds : List D) (vs : Array Value) (hs : vs.size = ds.length) (hr : ∀ (j : Nat) (x : D) (v : Value),ds[j]? = some x → vs[j]? = some v → DV g x v) : DV g (.tup ds) (.tuple vs)
inductive TR (w : World) (g : Gh) (n : Nat) : Pth → T → Value → Prop where
 | im (q : Pth) (i : I) (v : Value) (h : IR g.fz i v) : TR w g n q (.im i) v
 | nil (q : Pth) : TR w g n q .nil (.slice none 0 0)
 | dead (q : Pth) (v : Value) : TR w g n q .dead v
 | own0 (q : Pth) (sz : Nat) (a : Option Addr) : TR w g n q (.own sz []) (.slice a 0 0)
 | own (q : Pth) (sz : Nat) (rows : List (List T)) (b cap : Nat) (cs : Array Value) (e : TypeId) (vs : Nat → Nat → Value)
     (hh : w.heap[b]? = some (.cells cs e (0,0))) (ho : g.own b = some (n,q)) (hl : rows.length ≤ cap) (hc : cap * sz ≤ cs.size)
     (hz : ∀ (i : Nat) (r : List T),rows[i]? = some r → r.length = sz)
     (hx : ∀ (i : Nat) (r : List T) (j : Nat) (x : T),rows[i]? = some r → r[j]? = some x → cs[i * sz + j]? = some (vs i j))
     (hr : ∀ (i : Nat) (r : List T) (j : Nat) (x : T),rows[i]? = some r → r[j]? = some x → TR w g n (q ++ [(i,j)]) x (vs i j)) :
     TR w g n q (.own sz rows) (.slice (some ⟨b,0,none⟩) rows.length cap)
 | lent (q : Pth) (m sz len : Nat) (v : Value) (h : CV g (.view m sz 0 len) v) : TR w g n q (.lent m sz len) v
inductive BR (w : World) (g : Gh) (n : Nat) (q : Pth) : B → Value → Prop where
 | t (x : T) (v : Value) (h : TR w g n q x v) : BR w g n q (.t x) v
 | v (x : C) (v : Value) (h : CV g x v) : BR w g n q (.v x) v
def Root.sz : Root → Nat
 | .box _ => 0
 | .arr sz _ => sz
def Root.get : Root → Nat → Nat → Option B
 | .box cells,0,j => cells[j]?
 | .box _,_ + 1,_ => none
 | .arr _ rows,i,j => match rows[i]? with
   | some r => (r[j]?).map B.t
   | none => none
def Root.form (r : Root) (base rc size : Nat) : Prop :=
 match r with
 | .box _ => True
 | .arr sz rows => base = 0 ∧ size = rc ∧ rows.length * sz ≤ rc ∧ ∀ (i : Nat) (r : List T),rows[i]? = some r → r.length = sz
inductive RootR (w : World) (g : Gh) (n : Nat) : Root → Prop where
 | mk (r : Root) (cs : Array Value) (e : TypeId) (hh : w.heap[g.rb n]? = some (.cells cs e (0,0))) (ho : g.own (g.rb n) = some (n,[])) (hf : r.form (g.base n) (g.rc n) cs.size)
     (hr : ∀ (i j : Nat) (x : B),r.get i j = some x → ∃ v,cs[g.base n + i * r.sz + j]? = some v ∧ BR w g n [(i,j)] x v) : RootR w g n r
 | arr0 (sz : Nat) (hs : 0 < sz) (hc : g.rc n = 0) : RootR w g n (.arr sz [])
structure Gh.le (g g' : Gh) : Prop where
 used : ∀ n,g.used n → g'.used n
 rb : ∀ n,g.used n → g'.rb n = g.rb n
 base : ∀ n,g.used n → g'.base n = g.base n
 rc : ∀ n,g.used n → g'.rc n = g.rc n
 fz : ∀ b o v,g.fz b o = some v → g'.fz b o = some v
theorem Gh.le.refl (g : Gh) : g.le g := ⟨fun _ h => h,fun _ _ => rfl,fun _ _ => rfl,fun _ _ => rfl,fun _ _ _ h => h⟩
theorem Gh.le.trans {a b c : Gh} (h : a.le b) (k : b.le c) : a.le c :=
 ⟨fun n hn => k.used n (h.used n hn),fun n hn => (k.rb n (h.used n hn)).trans (h.rb n hn),fun n hn => (k.base n (h.used n hn)).trans (h.base n hn),
  fun n hn => (k.rc n (h.used n hn)).trans (h.rc n hn),fun b o v hv => k.fz b o v (h.fz b o v hv)⟩
theorem IR.mono {fz fz' : Nat → Nat → Option Value} (hf : ∀ b o v,fz b o = some v → fz' b o = some v) {i : I} {v : Value} (h : IR fz i v) : IR fz' i v := by
 induction h with
 | bool b => exact .bool b
 | int k n => exact .int k n
 | flt k x y h => exact .flt k x y h
 | cpx k x y x' y' h h' => exact .cpx k x y x' y' h h'
 | str s => exact .str s
 | raw v h => exact .raw v h
 | sl0 sz a c => exact .sl0 sz a c
 | sl sz rows b off c vs hc hl hx hr ih => exact .sl sz rows b off c vs hc hl (fun i r j x h1 h2 => hf _ _ _ (hx i r j x h1 h2)) ih
theorem CV.mono {g g' : Gh} (hg : g.le g') {x : C} {v : Value} (h : CV g x v) : CV g' x v := by
 induction h with
 | im i v h => exact .im i v (h.mono hg.fz)
 | nil => exact .nil
 | view0 n sz lo a h => exact .view0 n sz lo a (hg.used n h)
 | view n sz lo len cap h hb hl hc => rw [← hg.rb n h]; exact .view n sz lo len cap (hg.used n h) ((hg.base n h).trans hb) hl (by rw [hg.rc n h]; exact hc)
 | ptr n sz i off h => rw [← hg.rb n h,← hg.base n h]; exact .ptr n sz i off (hg.used n h)
 | iptr row off b o vs hx hr => exact .iptr row off b o vs (fun j x hj => hg.fz _ _ _ (hx j x hj)) (fun j x hj => (hr j x hj).mono hg.fz)
 | fn f caps vs hs hr ih => exact .fn f caps vs hs ih
theorem DV.mono {g g' : Gh} (hg : g.le g') {d : D} {v : Value} (h : DV g d v) : DV g' d v := by
 induction h with
 | c x v h => exact .c x v (h.mono hg)
 | agg xs vs hs hr => exact .agg xs vs hs (fun j x v hj hv => (hr j x v hj hv).mono hg)
 | tup ds vs hs hr ih => exact .tup ds vs hs ih
theorem TR.move {w w' : World} {g g' : Gh} {n n' : Nat} {q q' : Pth} {t : T} {v : Value} (h : TR w g n q t v) (hg : g.le g')
   (hb : ∀ (b : Nat) (p : Pth),g.own b = some (n,q ++ p) → g'.own b = some (n',q' ++ p) ∧ w'.heap[b]? = w.heap[b]?) : TR w' g' n' q' t v := by
 induction h generalizing q' with
 | im q i v h => exact .im q' i v (h.mono hg.fz)
 | nil q => exact .nil q'
 | dead q v => exact .dead q' v
 | own0 q sz a => exact .own0 q' sz a
 | own q sz rows b cap cs e vs hh ho hl hc hz hx hr ih =>
   obtain ⟨h1,h2⟩ := hb b [] (by simpa using ho)
   refine .own q' sz rows b cap cs e vs (h2.trans hh) (by simpa using h1) hl hc hz hx (fun i r j x h3 h4 => ih i r j x h3 h4 (fun b p hp => ?_))
   have := hb b ((i,j) :: p) (by simpa using hp)
   simpa using this
 | lent q m sz len v h => exact .lent q' m sz len v (h.mono hg)
theorem TR.keep {w w' : World} {g g' : Gh} {n : Nat} {q : Pth} {t : T} {v : Value} (h : TR w g n q t v) (hg : g.le g')
   (hb : ∀ (b : Nat) (p : Pth),g.own b = some (n,q ++ p) → g'.own b = some (n,q ++ p) ∧ w'.heap[b]? = w.heap[b]?) : TR w' g' n q t v := h.move hg hb
theorem zIp {α : Type} {rows : List (List α)} {Pr : Nat → Nat → α → Value → Prop} (h : ∀ (i : Nat) (r : List α) (j : Nat) (x : α),rows[i]? = some r → r[j]? = some x → ∃ v,Pr i j x v) :
   ∃ vs : Nat → Nat → Value,∀ (i : Nat) (r : List α) (j : Nat) (x : α),rows[i]? = some r → r[j]? = some x → Pr i j x (vs i j) := by
 refine ⟨fun i j => Classical.epsilon fun v => ∀ r x,rows[i]? = some r → r[j]? = some x → Pr i j x v,fun i r j x h1 h2 => ?_⟩
 obtain ⟨v,hv⟩ := h i r j x h1 h2
 have hv' : ∃ v,∀ r x,rows[i]? = some r → r[j]? = some x → Pr i j x v := ⟨v,fun r' x' h3 h4 => by
   rw [h1] at h3; injection h3 with h3; subst h3; rw [h2] at h4; injection h4 with h4; subst h4; exact hv⟩
 exact Classical.epsilon_spec hv' r x h1 h2
theorem IR.one {fz : Nat → Nat → Option Value} {i : I} {v : Value} (h : IR fz i v) : v.oneCell' = true := by cases h <;> first | rfl | assumption
theorem CV.one {g : Gh} {x : C} {v : Value} (h : CV g x v) : v.oneCell' = true := by
 cases h with
 | im i v h => exact h.one
 | _ => rfl
theorem zXm {v : Value} (h : v.oneCell' = true) : v.cells = #[v] := by cases v <;> first | rfl | (simp [Value.oneCell'] at h)
theorem CV.cells {g : Gh} {x : C} {v : Value} (h : CV g x v) : v.cells = #[v] := zXm h.one
end Go.SX
namespace Go.SX
open Go Go.RowKit
def upd {α : Type} (f : Nat → α) (n : Nat) (x : α) : Nat → α := fun m => if m = n then x else f m
theorem zBc {α : Type} (f : Nat → α) (n : Nat) (x : α) : upd f n x n = x := by simp [upd]
theorem zBp {α : Type} (f : Nat → α) {n m : Nat} (x : α) (h : m ≠ n) : upd f n x m = f m := by simp [upd,h]
structure En where
 g0 : Gh
 w0 : World
 wid : Nat → Nat
def globV : List (Nat × List Value) := [(1,Go.Lib.deBruijn32tab.map fun (k : Nat) => Value.int .u8 (k : Int)),(7,Go.Lib.pow10Tab.map fun z => Value.int .u64 z)]
def globI : List Nat := [3,4]
def globN : List Nat := [2]
structure Laid (own : Nat → Option (Nat × Pth)) (w : World) : Prop where
 v : ∀ b cs,(b,cs) ∈ globV → (∃ e fr,w.heap[b]? = some (.cells cs.toArray e fr)) ∧ own b = none
 i : ∀ b ∈ globI,(∃ t p e fr,w.heap[b]? = some (.cells #[.iface t p] e fr)) ∧ own b = none
 n : ∀ b ∈ globN,(∃ m e fr,w.heap[b]? = some (.cells #[.int .i64 m] e fr)) ∧ own b = none
theorem Laid.move {own own' : Nat → Option (Nat × Pth)} {w w' : World} (h : Laid own w) (hb : ∀ b,b < w.heap.size → own b = none → own' b = none ∧ w'.heap[b]? = w.heap[b]?) : Laid own' w' := by
 have lt : ∀ {b : Nat} {o : Obj},w.heap[b]? = some o → b < w.heap.size := fun h => (Array.getElem?_eq_some_iff.1 h).1
 refine ⟨fun b cs hx => ?_,fun b hx => ?_,fun b hx => ?_⟩
 · obtain ⟨⟨e,fr,h1⟩,h2⟩ := h.v b cs hx
   obtain ⟨k1,k2⟩ := hb b (lt h1) h2
   exact ⟨⟨e,fr,by rw [k2]; exact h1⟩,k1⟩
 · obtain ⟨⟨t,p,e,fr,h1⟩,h2⟩ := h.i b hx
   obtain ⟨k1,k2⟩ := hb b (lt h1) h2
   exact ⟨⟨t,p,e,fr,by rw [k2]; exact h1⟩,k1⟩
 · obtain ⟨⟨m,e,fr,h1⟩,h2⟩ := h.n b hx
   obtain ⟨k1,k2⟩ := hb b (lt h1) h2
   exact ⟨⟨m,e,fr,by rw [k2]; exact h1⟩,k1⟩
structure Fr (en : En) (g : Gh) (w : World) : Prop where
 laid : Laid en.g0.own en.w0
 os : w.os = en.w0.os
 tape : w.tape = en.w0.tape
 output : w.output = en.w0.output
 size : en.w0.heap.size ≤ w.heap.size
 gle : en.g0.le g
 old : ∀ b,b < en.w0.heap.size → en.g0.own b = none → g.own b = none ∧ w.heap[b]? = en.w0.heap[b]?
 place : ∀ b n,en.g0.own b = some (n,[]) → en.g0.used n ∧ g.own b = some (n,[]) ∧ ∃ cs cs' e,en.w0.heap[b]? = some (.cells cs e (0,0)) ∧ w.heap[b]? = some (.cells cs' e (0,0)) ∧ cs'.size = cs.size ∧
   ∀ o,(o < en.g0.base n ∨ en.g0.base n + en.wid n ≤ o) → cs'[o]? = cs[o]?
 fzn : ∀ b o v,b < en.w0.heap.size → g.fz b o = some v → en.g0.fz b o = some v ∨ en.g0.own b ≠ none
structure Rel (en : En) (g : Gh) (S : Nat → Option D) (H : Nat → Option Root) (a : Act) (w : World) : Prop where
 fr : Fr en g w
 df : a.defers = []
 lt : ∀ b x,g.own b = some x → b < w.heap.size
 fz : ∀ b o v,g.fz b o = some v → w.cell? ⟨b,o,none⟩ = some v ∧ g.own b = none
 slots : ∀ t d,S t = some d → ∃ v,a.tmps[t]? = some v ∧ DV g d v
 roots : ∀ n r,H n = some r → g.used n ∧ RootR w g n r
 wd : ∀ n r b,H n = some r → en.g0.own b = some (n,[]) → ∃ cells,r = .box cells ∧ cells.length ≤ en.wid n
variable {en : En} {g : Gh} {S S' : Nat → Option D} {H H' : Nat → Option Root} {a : Act} {w : World}
theorem RootR.keep {w w' : World} {g g' : Gh} {n : Nat} {r : Root} (h : RootR w g n r) (hu : g.used n) (hg : g.le g')
   (hb : ∀ (b : Nat) (p : Pth),g.own b = some (n,p) → g'.own b = some (n,p) ∧ w'.heap[b]? = w.heap[b]?) : RootR w' g' n r := by
 cases h with
 | mk r cs e hh ho hf hr =>
   obtain ⟨h1,h2⟩ := hb _ _ ho
   refine .mk r cs e (by rw [hg.rb n hu,h2]; exact hh) (by rw [hg.rb n hu]; exact h1) (by rw [hg.base n hu,hg.rc n hu]; exact hf) (fun i j x hj => ?_)
   obtain ⟨v,hv,hbr⟩ := hr i j x hj
   refine ⟨v,by rw [hg.base n hu]; exact hv,?_⟩
   cases hbr with
   | t x v h => exact .t x v (h.keep hg (fun b p hp => hb b _ hp))
   | v x v h => exact .v x v (h.mono hg)
 | arr0 sz hs hc => exact .arr0 sz hs (by rw [hg.rc n hu]; exact hc)
theorem Rel.less (h : Rel en g S H a w) (hs : ∀ t d,S' t = some d → S t = some d) (hh : ∀ n r,H' n = some r → H n = some r) : Rel en g S' H' a w :=
 ⟨h.fr,h.df,h.lt,h.fz,fun t d ht => h.slots t d (hs t d ht),fun n r hn => h.roots n r (hh n r hn),fun n r b hn => h.wd n r b (hh _ _ hn)⟩
theorem Rel.world (h : Rel en g S H a w) {w' : World} (h1 : w'.heap = w.heap) (h2 : w'.os = w.os) (h3 : w'.tape = w.tape) (h4 : w'.output = w.output) : Rel en g S H a w' := by
 have hc : ∀ ad,w'.cell? ad = w.cell? ad := fun ad => by simp [World.cell?,h1]
 refine ⟨⟨h.fr.laid,h2.trans h.fr.os,h3.trans h.fr.tape,h4.trans h.fr.output,by rw [h1]; exact h.fr.size,h.fr.gle,fun b hb ho => by rw [h1]; exact h.fr.old b hb ho,fun b n ho => by rw [h1]; exact h.fr.place b n ho,h.fr.fzn⟩,
   h.df,fun b x hx => by rw [h1]; exact h.lt b x hx,fun b o v hv => by rw [hc]; exact h.fz b o v hv,h.slots,fun n r hn => ?_,h.wd⟩
 obtain ⟨hu,hr⟩ := h.roots n r hn
 exact ⟨hu,hr.keep hu (Gh.le.refl g) (fun b p hp => ⟨hp,by rw [h1]⟩)⟩
theorem Rel.drew (h : Rel en g S H a w) : Rel en g S H a w.drew := h.world rfl rfl rfl rfl
theorem Rel.put (h : Rel en g S H a w) {t : Nat} {d : D} {v : Value} (ht : t < a.tmps.size) (hd : DV g d v) : Rel en g (upd S t (some d)) H (a.put (some t) v) w := by
 refine ⟨h.fr,h.df,h.lt,h.fz,fun t' d' hs => ?_,h.roots,h.wd⟩
 unfold upd at hs
 by_cases e : t' = t
 · subst e
   rw [if_pos rfl] at hs
   injection hs with hs
   subst hs
   exact ⟨v,by simp [Act.put,Array.getElem?_setIfInBounds,ht],hd⟩
 · rw [if_neg e] at hs
   obtain ⟨v',hv,hd'⟩ := h.slots t' d' hs
   refine ⟨v',?_,hd'⟩
   simp only [Act.put,Array.getElem?_setIfInBounds]
   rw [if_neg (Ne.symm e)]
   exact hv
theorem Rel.putU (h : Rel en g S H a w) (t : Option Nat) (v : Value) : Rel en g (match t with | some t => upd S t none | none => S) H (a.put t v) w := by
 cases t with
 | none => exact h
 | some t =>
   refine ⟨h.fr,h.df,h.lt,h.fz,fun t' d' hs => ?_,h.roots,h.wd⟩
   simp only [upd] at hs
   by_cases e : t' = t
   · rw [if_pos e] at hs; cases hs
   · rw [if_neg e] at hs
     obtain ⟨v',hv,hd'⟩ := h.slots t' d' hs
     refine ⟨v',?_,hd'⟩
     simp only [Act.put,Array.getElem?_setIfInBounds]
     rw [if_neg (Ne.symm e)]
     exact hv
def Gh.new (g : Gh) (nm b size : Nat) : Gh :=
 { used := fun m => m = nm ∨ g.used m,rb := upd g.rb nm b,base := upd g.base nm 0,rc := upd g.rc nm size,own := upd g.own b (some (nm,[])),fz := g.fz }
theorem Gh.new_le {g : Gh} {nm b size : Nat} (h : ¬ g.used nm) : g.le (g.new nm b size) :=
 ⟨fun n hn => .inr hn,fun n hn => zBp _ _ (fun e => h (e ▸ hn)),fun n hn => zBp _ _ (fun e => h (e ▸ hn)),fun n hn => zBp _ _ (fun e => h (e ▸ hn)),fun _ _ _ hv => hv⟩
theorem Rel.new (h : Rel en g S H a w) {nm : Nat} (hn : ¬ g.used nm) (cs : Array Value) (e : TypeId) {r : Root}
   (hr : RootR (w.alloc (.cells cs e)) (g.new nm w.heap.size cs.size) nm r) :
   Rel en (g.new nm w.heap.size cs.size) S (upd H nm (some r)) a (w.alloc (.cells cs e)) := by
 have hle : g.le (g.new nm w.heap.size cs.size) := Gh.new_le hn
 have hold : ∀ b,b < w.heap.size → (g.new nm w.heap.size cs.size).own b = g.own b := fun b hb => zBp _ _ (by omega)
 have hfree : g.own w.heap.size = none := by
   cases ho : g.own w.heap.size with
   | none => rfl
   | some x => exact absurd (h.lt _ _ ho) (by omega)
 have hblk : ∀ b,b < w.heap.size → (w.alloc (.cells cs e)).heap[b]? = w.heap[b]? := fun b hb => heap_alloc_old _ _ _ hb
 refine ⟨⟨h.fr.laid,h.fr.os,h.fr.tape,h.fr.output,by simpa using Nat.le_succ_of_le h.fr.size,h.fr.gle.trans hle,fun b hb ho => ?_,fun b n ho => ?_,h.fr.fzn⟩,h.df,fun b x hx => ?_,fun b o v hv => ?_,
   fun t d ht => ?_,fun n r' hn' => ?_,fun n cells b hn' ho => ?_⟩
 · have hb' : b < w.heap.size := Nat.lt_of_lt_of_le hb h.fr.size
   rw [hold b hb',hblk b hb']
   exact h.fr.old b hb ho
 · obtain ⟨h0,h1,cs1,cs2,e1,h2,h3,h4⟩ := h.fr.place b n ho
   have hb' := h.lt _ _ h1
   rw [hold b hb']
   exact ⟨h0,h1,cs1,cs2,e1,h2,(hblk b hb').trans h3,h4⟩
 · by_cases hb : b < w.heap.size
   · simpa using Nat.lt_succ_of_lt hb
   · by_cases e' : b = w.heap.size
     · subst e'; simp
     · have : g.own b = some x := by rw [← hx]; exact (zBp _ _ e').symm
       exact absurd (h.lt _ _ this) hb
 · obtain ⟨h1,h2⟩ := h.fz b o v hv
   have hb : b < w.heap.size := World.block_lt_of_cell? w _ h1
   exact ⟨(World.cell?_of_block (w := w) (a := ⟨b,o,none⟩) (hblk b hb)).trans h1,(hold b hb).trans h2⟩
 · obtain ⟨v,hv,hd⟩ := h.slots t d ht
   exact ⟨v,hv,hd.mono hle⟩
 · unfold upd at hn'
   by_cases e' : n = nm
   · subst e'
     rw [if_pos rfl] at hn'
     injection hn' with hn'
     subst hn'
     exact ⟨.inl rfl,hr⟩
   · rw [if_neg e'] at hn'
     obtain ⟨hu,hR⟩ := h.roots n r' hn'
     exact ⟨.inr hu,hR.keep hu hle (fun b p hp => by have hb := h.lt _ _ hp; exact ⟨(hold b hb).trans hp,hblk b hb⟩)⟩
 · unfold upd at hn'
   by_cases e' : n = nm
   · subst e'
     exact absurd (h.fr.gle.used n (h.fr.place b n ho).1) hn
   · rw [if_neg e'] at hn'
     exact h.wd n cells b hn' ho
theorem Rel.store (h : Rel en g S H a w) {n : Nat} {r r' : Root} (hn : H n = some r) {cs cs' : Array Value} {e : TypeId}
   (hh : w.heap[g.rb n]? = some (.cells cs e (0,0))) (ho : g.own (g.rb n) = some (n,[])) (hsz : cs'.size = cs.size)
   (hout : ∀ b,en.g0.own b = some (n,[]) → ∀ o,(o < en.g0.base n ∨ en.g0.base n + en.wid n ≤ o) → cs'[o]? = cs[o]?)
   (hr : RootR (w.setRow (g.rb n) cs') g n r') (hw : ∀ b,en.g0.own b = some (n,[]) → ∃ cells,r' = .box cells ∧ cells.length ≤ en.wid n) :
   Rel en g S (upd H n (some r')) a (w.setRow (g.rb n) cs') := by
 have hoth : ∀ b,g.own b ≠ some (n,[]) → (w.setRow (g.rb n) cs').heap[b]? = w.heap[b]? := fun b hb => setRow_other w _ _ _ (fun e' => hb (e' ▸ ho))
 refine ⟨⟨h.fr.laid,h.fr.os,h.fr.tape,h.fr.output,by simpa using h.fr.size,h.fr.gle,fun b hb hb0 => ?_,fun b m hb => ?_,h.fr.fzn⟩,h.df,fun b x hx => by simpa using h.lt b x hx,fun b o v hv => ?_,h.slots,
   fun m r1 hm => ?_,fun m cells b hm hb => ?_⟩
 · obtain ⟨h1,h2⟩ := h.fr.old b hb hb0
   exact ⟨h1,(hoth b (by rw [h1]; simp)).trans h2⟩
 · obtain ⟨h0,h1,c1,c2,e1,h2,h3,h4,h5⟩ := h.fr.place b m hb
   by_cases e' : b = g.rb n
   · subst e'
     have hmn : m = n := by rw [ho] at h1; injection h1 with h1; injection h1 with h1; exact h1.symm
     subst hmn
     rw [hh] at h3
     injection h3 with h3
     injection h3 with h3 h3'
     subst h3; subst h3'
     exact ⟨h0,h1,c1,cs',e,h2,setRow_heap w _ cs cs' e _ hh,hsz.trans h4,fun o ho' => (hout _ hb o ho').trans (h5 o ho')⟩
   · exact ⟨h0,h1,c1,c2,e1,h2,(setRow_other w _ _ _ e').trans h3,h4,h5⟩
 · obtain ⟨h1,h2⟩ := h.fz b o v hv
   exact ⟨(World.cell?_of_block (w := w) (a := ⟨b,o,none⟩) (hoth b (by rw [h2]; simp))).trans h1,h2⟩
 · unfold upd at hm
   by_cases e' : m = n
   · subst e'
     rw [if_pos rfl] at hm
     injection hm with hm
     subst hm
     exact ⟨(h.roots m r hn).1,hr⟩
   · rw [if_neg e'] at hm
     obtain ⟨hu,hR⟩ := h.roots m r1 hm
     exact ⟨hu,hR.keep hu (Gh.le.refl g) (fun b p hp => ⟨hp,hoth b (by rw [hp]; intro hc; injection hc with hc; injection hc with hc _; exact e' hc)⟩)⟩
 · unfold upd at hm
   by_cases e' : m = n
   · subst e'
     rw [if_pos rfl] at hm
     injection hm with hm
     subst hm
     exact hw b hb
   · rw [if_neg e'] at hm
     exact h.wd m cells b hm hb
def Gh.into (g : Gh) (m n : Nat) (q : Pth) : Gh :=
 { g with own := fun b => match g.own b with
     | some (m',p) => if m' = m then some (n,q ++ p) else some (m',p)
     | none => none }
theorem Gh.into_le (g : Gh) (m n : Nat) (q : Pth) : g.le (g.into m n q) := ⟨fun _ h => h,fun _ _ => rfl,fun _ _ => rfl,fun _ _ => rfl,fun _ _ _ h => h⟩
theorem Gh.into_other {g : Gh} {m n : Nat} {q : Pth} {b m' : Nat} {p : Pth} (h : g.own b = some (m',p)) (hm : m' ≠ m) : (g.into m n q).own b = some (m',p) := by simp [Gh.into,h,hm]
theorem Gh.into_same {g : Gh} {m n : Nat} {q : Pth} {b : Nat} {p : Pth} (h : g.own b = some (m,p)) : (g.into m n q).own b = some (n,q ++ p) := by simp [Gh.into,h]
theorem TR.of_arr {m n sz : Nat} {rows : List (List T)} {q : Pth} {v : Value} (hr : RootR w g m (.arr sz rows)) (hv : CV g (.view m sz 0 rows.length) v) (hmn : m ≠ n) :
   TR w (g.into m n q) n q (.own sz rows) v := by
 have hz0 : ∀ v,(∃ a,v = Value.slice a 0 0) → rows = [] → TR w (g.into m n q) n q (.own sz rows) v := by
   rintro v ⟨a,rfl⟩ rfl; exact .own0 q sz a
 cases hr with
 | arr0 _ hsz hrc =>
   cases hv with
   | view0 n sz lo a hu => exact hz0 _ ⟨_,rfl⟩ rfl
   | view n sz lo len cap hu hb hl hc =>
     rw [hrc] at hc
     have : cap = 0 := by
       rcases Nat.eq_zero_or_pos cap with h0 | h0
       · exact h0
       · have := Nat.mul_pos (show 0 < 0 + cap by omega) hsz; omega
     subst this
     exact hz0 _ ⟨_,rfl⟩ rfl
 | mk _ cs e hh ho hf hr =>
   obtain ⟨hb,hc,hm,hz⟩ := hf
   generalize hlen : rows.length = len at hv
   cases hv with
   | view0 n sz lo a hu => exact hz0 _ ⟨_,rfl⟩ (List.eq_nil_of_length_eq_zero hlen)
   | view n sz lo len cap hu hb' hl hc' =>
     subst hlen
     rw [Nat.zero_mul]
     have hgo := Gh.into_same (n := n) (q := q) ho
     have hr' : ∀ (i : Nat) (r : List T) (j : Nat) (x : T),rows[i]? = some r → r[j]? = some x → ∃ v,cs[i * sz + j]? = some v ∧ TR w g m [(i,j)] x v := fun i r j x h1 h2 => by
       obtain ⟨v,h3,h4⟩ := hr i j (.t x) (by simp [Root.get,h1,h2])
       refine ⟨v,by rw [hb,Nat.zero_add] at h3; exact h3,?_⟩
       cases h4 with
       | t _ _ h => exact h
     obtain ⟨vs,hvs⟩ := zIp hr'
     refine .own q sz rows (g.rb m) cap cs e vs hh (by simpa using hgo) hl (by rw [hc]; simpa using hc') hz (fun i r j x h1 h2 => (hvs i r j x h1 h2).1) (fun i r j x h1 h2 => ?_)
     refine (hvs i r j x h1 h2).2.move (Gh.into_le g m n q) (fun b p hp => ⟨?_,rfl⟩)
     have := Gh.into_same (n := n) (q := q) hp
     simpa using this
def Root.setT : Root → Nat → Nat → T → Root
 | .box cells,0,j,x => .box (cells.set j (.t x))
 | .box cells,_ + 1,_,_ => .box cells
 | .arr sz rows,i,j,x => match rows[i]? with
   | some r => .arr sz (rows.set i (r.set j x))
   | none => .arr sz rows
theorem Root.setT_sz (r : Root) (i j : Nat) (x : T) : (r.setT i j x).sz = r.sz := by
 cases r with
 | box cells => cases i <;> rfl
 | arr sz rows => simp only [Root.setT]; split <;> rfl
theorem Root.setT_get {r : Root} {i j : Nat} {y : B} (x : T) (hy : r.get i j = some y) (i' j' : Nat) : (r.setT i j x).get i' j' = if i' = i ∧ j' = j then some (.t x) else r.get i' j' := by
 cases r with
 | box cells =>
   cases i with
   | zero =>
     simp only [Root.get] at hy
     have hj : j < cells.length := (List.getElem?_eq_some_iff.1 hy).1
     cases i' with
     | zero =>
       simp only [Root.setT,Root.get,List.getElem?_set]
       by_cases e : j = j'
       · subst e; simp [hj]
       · simp [e,Ne.symm e]
     | succ i' => simp [Root.setT,Root.get]
   | succ i => simp [Root.get] at hy
 | arr sz rows =>
   simp only [Root.get] at hy
   cases hr : rows[i]? with
   | none => simp [hr] at hy
   | some r =>
     simp only [hr,Option.map_eq_some_iff] at hy
     obtain ⟨z,hz,_⟩ := hy
     have hj : j < r.length := (List.getElem?_eq_some_iff.1 hz).1
     have hi : i < rows.length := (List.getElem?_eq_some_iff.1 hr).1
     simp only [Root.setT,hr,Root.get,List.getElem?_set]
     by_cases e : i = i'
     · subst e
       simp only [if_pos,hi,hr,true_and]
       rw [List.getElem?_set]
       by_cases e' : j = j'
       · subst e'; simp [hj]
       · simp [e',Ne.symm e']
     · simp [e,Ne.symm e]
theorem Root.setT_form {r : Root} (i j : Nat) (x : T) {base rc size : Nat} (h : r.form base rc size) : (r.setT i j x).form base rc size := by
 cases r with
 | box cells => cases i <;> exact h
 | arr sz rows =>
   simp only [Root.setT]
   split
   · rename_i r hr
     obtain ⟨h1,h2,h3,h4⟩ := h
     refine ⟨h1,h2,by simpa using h3,fun i' r' hr' => ?_⟩
     rw [List.getElem?_set] at hr'
     split at hr'
     · split at hr'
       · injection hr' with hr'; subst hr'; simpa using h4 i r hr
       · cases hr'
     · exact h4 i' r' hr'
   · exact h
theorem Root.setT_box (cells : List B) (i j : Nat) (x : T) : ∃ c0,(Root.box cells).setT i j x = .box c0 ∧ c0.length = cells.length := by
 cases i with
 | zero => exact ⟨_,rfl,by simp⟩
 | succ i => exact ⟨_,rfl,rfl⟩
theorem Rel.fold (h : Rel en g S H a w) {n m i j sz : Nat} {r : Root} {rows : List (List T)} (hn : H n = some r) (hm : H m = some (.arr sz rows)) (hmn : m ≠ n)
   (hc : r.get i j = some (.t (.lent m sz rows.length))) : Rel en (g.into m n [(i,j)]) S (upd (upd H m none) n (some (r.setT i j (.own sz rows)))) a w := by
 have hle := Gh.into_le g m n [(i,j)]
 have hoth : ∀ b m' p,g.own b = some (m',p) → m' ≠ m → (g.into m n [(i,j)]).own b = some (m',p) ∧ w.heap[b]? = w.heap[b]? := fun b m' p h1 h2 => ⟨Gh.into_other h1 h2,rfl⟩
 have hnone : ∀ b,g.own b = none → (g.into m n [(i,j)]).own b = none := fun b hb => by simp [Gh.into,hb]
 refine ⟨⟨h.fr.laid,h.fr.os,h.fr.tape,h.fr.output,h.fr.size,h.fr.gle.trans hle,fun b hb hb0 => ?_,fun b k hb => ?_,h.fr.fzn⟩,h.df,fun b x hx => ?_,fun b o v hv => ?_,fun t d ht => ?_,fun k r1 hk => ?_,fun k cells b hk hb => ?_⟩
 · obtain ⟨h1,h2⟩ := h.fr.old b hb hb0; exact ⟨hnone b h1,h2⟩
 · obtain ⟨h0,h1,h2⟩ := h.fr.place b k hb
   exact ⟨h0,Gh.into_other h1 (fun e => by subst e; obtain ⟨c,hc,_⟩ := h.wd k _ b hm hb; cases hc),h2⟩
 · cases hb : g.own b with
   | none => rw [hnone b hb] at hx; cases hx
   | some y => exact h.lt b y hb
 · obtain ⟨h1,h2⟩ := h.fz b o v hv; exact ⟨h1,hnone b h2⟩
 · obtain ⟨v,hv,hd⟩ := h.slots t d ht; exact ⟨v,hv,hd.mono hle⟩
 · unfold upd at hk
   by_cases e : k = n
   · subst e
     rw [if_pos rfl] at hk
     injection hk with hk
     subst hk
     obtain ⟨hu,hR⟩ := h.roots k r hn
     refine ⟨hu,?_⟩
     cases hR with
     | mk r cs e hh ho hf hr =>
       refine .mk _ cs e hh (hoth _ _ _ ho (Ne.symm hmn)).1 (Root.setT_form i j _ hf) (fun i' j' x hx => ?_)
       rw [Root.setT_sz]
       rw [Root.setT_get _ hc] at hx
       split at hx
       · rename_i he
         obtain ⟨rfl,rfl⟩ := he
         injection hx with hx
         subst hx
         obtain ⟨v,hv,hb⟩ := hr i' j' _ hc
         refine ⟨v,hv,.t _ _ ?_⟩
         cases hb with
         | t _ _ ht =>
           cases ht with
           | lent _ _ _ _ _ hl => exact TR.of_arr (h.roots m _ hm).2 hl hmn
       · obtain ⟨v,hv,hb⟩ := hr i' j' x hx
         refine ⟨v,hv,?_⟩
         cases hb with
         | t x v h => exact .t x v (h.keep hle (fun b p hp => hoth b _ _ hp (Ne.symm hmn)))
         | v x v h => exact .v x v (h.mono hle)
     | arr0 sz hs hc0 => simp [Root.get] at hc
   · rw [if_neg e] at hk
     by_cases e' : k = m
     · rw [if_pos e'] at hk; cases hk
     · rw [if_neg e'] at hk
       obtain ⟨hu,hR⟩ := h.roots k r1 hk
       exact ⟨hu,hR.keep hu hle (fun b p hp => hoth b _ _ hp e')⟩
 · unfold upd at hk
   by_cases e : k = n
   · subst e
     rw [if_pos rfl] at hk
     injection hk with hk
     subst hk
     obtain ⟨c0,rfl,hl⟩ := h.wd k r b hn hb
     obtain ⟨c1,h1,h2⟩ := Root.setT_box c0 i j (.own sz rows)
     exact ⟨c1,h1,by rw [h2]; exact hl⟩
   · rw [if_neg e] at hk
     by_cases e' : k = m
     · rw [if_pos e'] at hk; cases hk
     · rw [if_neg e'] at hk; exact h.wd k cells b hk hb
def Gh.out (g : Gh) (n : Nat) (ij : Nat × Nat) (nm b size : Nat) : Gh :=
 { used := fun m => m = nm ∨ g.used m,rb := upd g.rb nm b,base := upd g.base nm 0,rc := upd g.rc nm size,fz := g.fz,
   own := fun b => match g.own b with
     | some (m,x :: p) => if m = n ∧ x = ij then some (nm,p) else some (m,x :: p)
     | o => o }
theorem Gh.out_le {g : Gh} {n : Nat} {ij : Nat × Nat} {nm b size : Nat} (h : ¬ g.used nm) : g.le (g.out n ij nm b size) :=
 ⟨fun n hn => .inr hn,fun n hn => zBp _ _ (fun e => h (e ▸ hn)),fun n hn => zBp _ _ (fun e => h (e ▸ hn)),fun n hn => zBp _ _ (fun e => h (e ▸ hn)),fun _ _ _ hv => hv⟩
theorem Gh.out_same {g : Gh} {n : Nat} {ij : Nat × Nat} {nm b size b' : Nat} {p : Pth} (h : g.own b' = some (n,ij :: p)) : (g.out n ij nm b size).own b' = some (nm,p) := by simp [Gh.out,h]
theorem Gh.out_other {g : Gh} {n : Nat} {ij : Nat × Nat} {nm b size b' m : Nat} {p : Pth} (h : g.own b' = some (m,p)) (hne : ¬ (m = n ∧ ∃ p',p = ij :: p')) : (g.out n ij nm b size).own b' = some (m,p) := by
 cases p with
 | nil => simp [Gh.out,h]
 | cons x p =>
   have : ¬ (m = n ∧ x = ij) := fun ⟨h1,h2⟩ => hne ⟨h1,p,by rw [h2]⟩
   simp [Gh.out,h,this]
theorem Rel.hoist (h : Rel en g S H a w) {n nm i j sz : Nat} {r : Root} {rows : List (List T)} (hn : H n = some r) (hnm : ¬ g.used nm) (hsz : 0 < sz) (hc : r.get i j = some (.t (.own sz rows))) :
   ∃ g',g.le g' ∧ g'.used nm ∧ (∀ m,g'.used m → m = nm ∨ g.used m) ∧ Rel en g' S (upd (upd H n (some (r.setT i j (.lent nm sz rows.length)))) nm (some (.arr sz rows))) a w := by
 obtain ⟨hu,hR⟩ := h.roots n r hn
 have hne : nm ≠ n := fun e => hnm (e ▸ hu)
 cases hR with
 | arr0 sz hs hc0 => simp [Root.get] at hc
 | mk _ cs e hh ho hf hr =>
   obtain ⟨v,hv,hb⟩ := hr i j _ hc
   have ht : TR w g n [(i,j)] (.own sz rows) v := by cases hb with | t _ _ h => exact h
   obtain ⟨b,size,hview,hroot⟩ : ∃ b size,CV (g.out n (i,j) nm b size) (.view nm sz 0 rows.length) v ∧ RootR w (g.out n (i,j) nm b size) nm (.arr sz rows) := by
     cases ht with
     | own0 _ _ a => exact ⟨0,0,.view0 nm sz 0 a (.inl rfl),.arr0 sz hsz (zBc _ _ _)⟩
     | own _ _ _ b cap cs' e' vs hh' ho' hl hc' hz hx hr' =>
       refine ⟨b,cs'.size,?_,.mk _ cs' e' (by rw [show (g.out n (i,j) nm b cs'.size).rb nm = b from zBc _ _ _]; exact hh') (by rw [show (g.out n (i,j) nm b cs'.size).rb nm = b from zBc _ _ _]; exact Gh.out_same ho')
         ⟨zBc _ _ _,(zBc _ _ _).symm,?_,hz⟩ (fun i' j' x hx' => ?_)⟩
       · have := CV.view (g := g.out n (i,j) nm b cs'.size) nm sz 0 rows.length cap (.inl rfl) (zBc _ _ _) hl (by rw [show (g.out n (i,j) nm b cs'.size).rc nm = cs'.size from zBc _ _ _]; simpa using hc')
         rw [show (g.out n (i,j) nm b cs'.size).rb nm = b from zBc _ _ _,Nat.zero_mul] at this
         exact this
       · rw [show (g.out n (i,j) nm b cs'.size).rc nm = cs'.size from zBc _ _ _]
         exact Nat.le_trans (Nat.mul_le_mul_right _ hl) hc'
       · simp only [Root.get] at hx'
         cases hrow : rows[i']? with
         | none => simp [hrow] at hx'
         | some row =>
           simp only [hrow,Option.map_eq_some_iff] at hx'
           obtain ⟨y,hy,rfl⟩ := hx'
           refine ⟨vs i' j',by rw [show (g.out n (i,j) nm b cs'.size).base nm = 0 from zBc _ _ _,Nat.zero_add]; exact hx i' row j' y hrow hy,.t _ _ ?_⟩
           refine (hr' i' row j' y hrow hy).move (Gh.out_le hnm) (fun b' p hp => ⟨?_,rfl⟩)
           exact Gh.out_same (by simpa using hp)
   have hle := Gh.out_le (n := n) (ij := (i,j)) (b := b) (size := size) hnm
   have hoth : ∀ b' m p,g.own b' = some (m,p) → ¬ (m = n ∧ ∃ p',p = (i,j) :: p') → (g.out n (i,j) nm b size).own b' = some (m,p) ∧ w.heap[b']? = w.heap[b']? := fun b' m p h1 h2 => ⟨Gh.out_other h1 h2,rfl⟩
   have hnone : ∀ b',g.own b' = none → (g.out n (i,j) nm b size).own b' = none := fun b' hb => by simp [Gh.out,hb]
   refine ⟨_,hle,.inl rfl,fun m hm => hm,⟨h.fr.laid,h.fr.os,h.fr.tape,h.fr.output,h.fr.size,h.fr.gle.trans hle,fun b' hb' hb0 => ?_,fun b' k hb' => ?_,h.fr.fzn⟩,h.df,fun b' x hx => ?_,fun b' o v hv => ?_,fun t d ht => ?_,fun k r1 hk => ?_,fun k cells b' hk hb' => ?_⟩
   · obtain ⟨h1,h2⟩ := h.fr.old b' hb' hb0; exact ⟨hnone b' h1,h2⟩
   · obtain ⟨h0,h1,h2⟩ := h.fr.place b' k hb'
     exact ⟨h0,(hoth _ _ _ h1 (by rintro ⟨_,p',hp'⟩; cases hp')).1,h2⟩
   · cases hb' : g.own b' with
     | none => rw [hnone b' hb'] at hx; cases hx
     | some y => exact h.lt b' y hb'
   · obtain ⟨h1,h2⟩ := h.fz b' o v hv; exact ⟨h1,hnone b' h2⟩
   · obtain ⟨v,hv,hd⟩ := h.slots t d ht; exact ⟨v,hv,hd.mono hle⟩
   · unfold upd at hk
     by_cases e1 : k = nm
     · subst e1
       rw [if_pos rfl] at hk
       injection hk with hk
       subst hk
       exact ⟨.inl rfl,hroot⟩
     · rw [if_neg e1] at hk
       by_cases e2 : k = n
       · subst e2
         rw [if_pos rfl] at hk
         injection hk with hk
         subst hk
         refine ⟨.inr hu,.mk _ cs e (by rw [hle.rb k hu]; exact hh) (by rw [hle.rb k hu]; exact (hoth _ _ _ ho (by rintro ⟨_,p',hp'⟩; cases hp')).1) (by rw [hle.base k hu,hle.rc k hu]; exact Root.setT_form i j _ hf) (fun i' j' x hx => ?_)⟩
         rw [Root.setT_sz,hle.base k hu]
         rw [Root.setT_get _ hc] at hx
         split at hx
         · rename_i he
           obtain ⟨rfl,rfl⟩ := he
           injection hx with hx
           subst hx
           exact ⟨v,hv,.t _ _ (.lent _ _ _ _ _ hview)⟩
         · rename_i he
           obtain ⟨v',hv',hb'⟩ := hr i' j' x hx
           refine ⟨v',hv',?_⟩
           cases hb' with
           | t _ _ h => exact .t _ _ (h.keep hle (fun b' p hp => hoth b' _ _ hp (by rintro ⟨_,p',hp'⟩; simp at hp'; exact he ⟨hp'.1.1,hp'.1.2⟩)))
           | v _ _ h => exact .v _ _ (h.mono hle)
       · rw [if_neg e2] at hk
         obtain ⟨hu',hR'⟩ := h.roots k r1 hk
         exact ⟨.inr hu',hR'.keep hu' hle (fun b' p hp => hoth b' _ _ hp (fun hh => e2 hh.1))⟩
   · unfold upd at hk
     by_cases e1 : k = nm
     · subst e1; exact absurd (h.fr.gle.used k (h.fr.place b' k hb').1) hnm
     · rw [if_neg e1] at hk
       by_cases e2 : k = n
       · subst e2
         rw [if_pos rfl] at hk
         injection hk with hk
         subst hk
         obtain ⟨c0,rfl,hl⟩ := h.wd k r b' hn hb'
         obtain ⟨c1,h1,h2⟩ := Root.setT_box c0 i j (.lent nm sz rows.length)
         exact ⟨c1,h1,by rw [h2]; exact hl⟩
       · rw [if_neg e2] at hk; exact h.wd k cells b' hk hb'
end Go.SX
namespace Go.SX
open Go Go.RowKit
structure Qt (w w' : World) : Prop where
 heap : w'.heap = w.heap
 os : w'.os = w.os
 tape : w'.tape = w.tape
 output : w'.output = w.output
theorem Qt.refl (w : World) : Qt w w := ⟨rfl,rfl,rfl,rfl⟩
theorem Qt.trans {a b c : World} (h : Qt a b) (k : Qt b c) : Qt a c := ⟨k.heap.trans h.heap,k.os.trans h.os,k.tape.trans h.tape,k.output.trans h.output⟩
def qn : FloatKind → Nat
 | .f32 => 0x7fc00000
 | .f64 => 0x7ff8000000000000
theorem zVg (k : FloatKind) : isNaNb k (qn k) = true := by cases k <;> decide
def fraw (op : BinOp) (k : FloatKind) (x y : Nat) : Option Nat :=
 match op with
 | .add => k.format.add x y
 | .sub => k.format.sub x y
 | .mul => k.format.mul x y
 | .quo => k.format.div x y
 | _ => some 0
def fop (op : BinOp) (k : FloatKind) (x y : Nat) : Nat := (fraw op k x y).getD (qn k)
theorem zFy {k : FloatKind} {x : Nat} (h : isNaNb k x = true) : ∃ s t,k.format.read x = .nan s t := by
 unfold isNaNb Ieee.Datum.isNaN at h
 cases hr : k.format.read x with
 | nan s t => exact ⟨s,t,rfl⟩
 | number => simp [hr] at h
 | infinity => simp [hr] at h
theorem zQs {op : BinOp} {k : FloatKind} {x : Nat} (y : Nat) (h : isNaNb k x = true) (ho : op = .add ∨ op = .sub ∨ op = .mul ∨ op = .quo) : fraw op k x y = none := by
 obtain ⟨s,t,hr⟩ := zFy h
 rcases ho with rfl | rfl | rfl | rfl <;> simp [fraw,Ieee.Format.add,Ieee.Format.sub,Ieee.Format.mul,Ieee.Format.div,hr,Ieee.Datum.sum,Ieee.Datum.product,Ieee.Datum.quotient]
theorem zQr {op : BinOp} {k : FloatKind} (x : Nat) {y : Nat} (h : isNaNb k y = true) (ho : op = .add ∨ op = .sub ∨ op = .mul ∨ op = .quo) : fraw op k x y = none := by
 obtain ⟨s,t,hr⟩ := zFy h
 rcases ho with rfl | rfl | rfl | rfl <;> simp only [fraw,Ieee.Format.add,Ieee.Format.sub,Ieee.Format.mul,Ieee.Format.div,hr] <;> cases k.format.read x <;> simp [Ieee.Datum.opposite,Ieee.Datum.sum,Ieee.Datum.product,Ieee.Datum.quotient]
theorem zOg {k : FloatKind} {x : Nat} (y : Nat) (h : isNaNb k x = true) : k.format.order x y = none := by
 obtain ⟨s,t,hr⟩ := zFy h
 simp [Ieee.Format.order,hr,Ieee.Datum.order]
theorem zOf {k : FloatKind} (x : Nat) {y : Nat} (h : isNaNb k y = true) : k.format.order x y = none := by
 obtain ⟨s,t,hr⟩ := zFy h
 simp only [Ieee.Format.order,hr]
 cases k.format.read x <;> simp [Ieee.Datum.order]
theorem zYh {k : FloatKind} {x y x' y' : Nat} (h : FEq k x x') (h' : FEq k y y') : k.format.order x' y' = k.format.order x y := by
 rcases h with rfl | ⟨h1,h2⟩
 · rcases h' with rfl | ⟨h3,h4⟩
   · rfl
   · rw [zOf _ h3,zOf _ h4]
 · rw [zOg _ h1,zOg _ h2]
theorem zOj {k : FloatKind} {x : Nat} (h : k.format.infRung < x % k.format.signWeight) : isNaNb k x = true := by
 unfold isNaNb Ieee.Format.read
 have h1 : ¬ x % k.format.signWeight < k.format.binade := by
   have : k.format.binade ≤ k.format.infRung := by cases k <;> decide
   omega
 simp [h1,show ¬ x % k.format.signWeight < k.format.infRung by omega,show ¬ x % k.format.signWeight = k.format.infRung by omega,Ieee.Datum.isNaN]
theorem zNo {k : FloatKind} {x : Nat} (h : isNaNb k x = true) : k.format.infRung < x % k.format.signWeight := by
 unfold isNaNb Ieee.Format.read at h
 simp only at h
 split at h
 · simp [Ieee.Datum.isNaN] at h
 · split at h
   · simp [Ieee.Datum.isNaN] at h
   · split at h
     · simp [Ieee.Datum.isNaN] at h
     · omega
theorem zAc1 (k : FloatKind) (t : Nat) : isNaNb k (match k with
   | .f32 => (t % 2) * 2 ^ 31 + 0x7f800000 + 1 + (t / 2) % (2 ^ 23 - 1)
   | .f64 => (t % 2) * 2 ^ 63 + 0x7ff0000000000000 + 1 + (t / 2) % (2 ^ 52 - 1)) = true := by
 apply zOj
 cases k
 · show 2139095040 < ((t % 2) * 2 ^ 31 + 0x7f800000 + 1 + (t / 2) % (2 ^ 23 - 1)) % 2147483648
   rcases Nat.mod_two_eq_zero_or_one t with h | h <;> rw [h] <;> omega
 · show 9218868437227405312 < ((t % 2) * 2 ^ 63 + 0x7ff0000000000000 + 1 + (t / 2) % (2 ^ 52 - 1)) % 9223372036854775808
   rcases Nat.mod_two_eq_zero_or_one t with h | h <;> rw [h] <;> omega
theorem zYl (k : FloatKind) (x y t : Nat) : isNaNb k ((Question.nanBits k x y).cut t) = true := by have := zAc1 k t; cases k <;> exact this
theorem zOk (k : FloatKind) (x t : Nat) : isNaNb k ((Question.nanConv k x).cut t) = true := by have := zAc1 k t; cases k <;> exact this
theorem zDm {P : Program} {w : World} {op : BinOp} {k : FloatKind} {x y x' y' : Nat} (ho : op = .add ∨ op = .sub ∨ op = .mul ∨ op = .quo) (h : FEq k x x') (h' : FEq k y y') :
   ∃ r w',(Op.floatArith op k x' y').run P w = .ok (.float k r) w' ∧ Qt w w' ∧ FEq k (fop op k x y) r := by
 have hrun : ∀ z,fraw op k x' y' = some z → (Op.floatArith op k x' y').run P w = .ok (.float k z) w := by
   intro z hz
   rcases ho with rfl | rfl | rfl | rfl <;> simp only [fraw] at hz <;> simp [Op.floatArith,hz]
 have hnone : fraw op k x' y' = none → ∃ r w',(Op.floatArith op k x' y').run P w = .ok (.float k r) w' ∧ Qt w w' ∧ isNaNb k r = true := by
   intro hz
   refine ⟨(Question.nanBits k x' y').cut (w.tape w.drawn (.nanBits k x' y')),w.drew,?_,⟨rfl,rfl,rfl,rfl⟩,zYl _ _ _ _⟩
   rcases ho with rfl | rfl | rfl | rfl <;> simp only [fraw] at hz <;> simp [Op.floatArith,hz,Question.forced] <;> rfl
 by_cases hn : isNaNb k x = true ∨ isNaNb k y = true
 · have h0 : fraw op k x y = none := by
     rcases hn with hn | hn
     · exact zQs y hn ho
     · exact zQr x hn ho
   have h1 : fraw op k x' y' = none := by
     rcases hn with hn | hn
     · refine zQs y' ?_ ho
       rcases h with rfl | ⟨_,h2⟩
       · exact hn
       · exact h2
     · refine zQr x' ?_ ho
       rcases h' with rfl | ⟨_,h2⟩
       · exact hn
       · exact h2
   obtain ⟨r,w',hr,hq,hn'⟩ := hnone h1
   exact ⟨r,w',hr,hq,.inr ⟨by simp [fop,h0,zVg],hn'⟩⟩
 · have hx : x = x' := by rcases h with h | ⟨h,_⟩; exact h; exact absurd (.inl h) hn
   have hy : y = y' := by rcases h' with h | ⟨h,_⟩; exact h; exact absurd (.inr h) hn
   subst hx; subst hy
   cases hz : fraw op k x y with
   | some z => exact ⟨z,w,hrun z hz,Qt.refl w,.inl (by simp [fop,hz])⟩
   | none =>
     obtain ⟨r,w',hr,hq,hn'⟩ := hnone hz
     exact ⟨r,w',hr,hq,.inr ⟨by simp [fop,hz,zVg],hn'⟩⟩
def fcmp (op : BinOp) (k : FloatKind) (x y : Nat) : Bool :=
 match op with
 | .eql => k.format.order x y == some .eq
 | .neq => k.format.order x y != some .eq
 | .lss => k.format.order x y == some .lt
 | .leq => k.format.order x y == some .lt || k.format.order x y == some .eq
 | .gtr => k.format.order x y == some .gt
 | .geq => k.format.order x y == some .gt || k.format.order x y == some .eq
 | _ => false
theorem zEk {P : Program} {w : World} {op : BinOp} {k : FloatKind} {x y x' y' : Nat} (ho : op = .eql ∨ op = .neq ∨ op = .lss ∨ op = .leq ∨ op = .gtr ∨ op = .geq) (h : FEq k x x') (h' : FEq k y y') :
   (Op.floatCmp op k x' y').run P w = .ok (.bool (fcmp op k x y)) w := by
 rcases ho with rfl | rfl | rfl | rfl | rfl | rfl <;> simp [Op.floatCmp,fcmp,zYh h h']
theorem zLk {k : FloatKind} {x : Nat} (h : isNaNb k x = true) : isNaNb k (Op.negFloat k x) = true := by
 have h1 := zNo h
 apply zOj
 have : Op.negFloat k x % k.format.signWeight = x % k.format.signWeight := by
   unfold Op.negFloat Ieee.Format.signWeight
   rw [Nat.xor_mod_two_pow]
   simp
 rw [this]; exact h1
theorem zHd {k : FloatKind} {x y : Nat} (h : FEq k x y) : FEq k (Op.negFloat k x) (Op.negFloat k y) := by
 rcases h with rfl | ⟨h1,h2⟩
 · exact .inl rfl
 · exact .inr ⟨zLk h1,zLk h2⟩
def fconv (s : FloatKind) (b : Nat) (k : FloatKind) : Option Nat :=
 if s = k then some b else
 match s.decode b with
 | .nan _ _ => some (qn k)
 | .infinity sg => some (k.encode (.infinity sg))
 | .number sg m e => if (k.decode (k.encode (.number sg m e))).isInfinity then none else some (k.encode (.number sg m e))
theorem zNx {P : Program} {w : World} {s k : FloatKind} {b b' r : Nat} (h : FEq s b b') (hc : fconv s b k = some r) :
   ∃ r' w',(Conv.floatToFloat s b' k).run P w = .ok (.float k r') w' ∧ Qt w w' ∧ FEq k r r' := by
 unfold fconv at hc
 by_cases hs : s = k
 · subst hs
   simp only [if_pos] at hc
   injection hc with hc
   subst hc
   exact ⟨b',w,by simp [Conv.floatToFloat],Qt.refl w,h⟩
 · rw [if_neg hs] at hc
   rcases h with rfl | ⟨h1,h2⟩
   · cases hd : s.decode b with
     | nan a c =>
       rw [hd] at hc
       injection hc with hc
       subst hc
       exact ⟨_,w.drew,by simp [Conv.floatToFloat,hs,hd,Question.forced],⟨rfl,rfl,rfl,rfl⟩,.inr ⟨zVg k,zOk k b (w.tape w.drawn (.nanConv k b))⟩⟩
     | infinity sg =>
       rw [hd] at hc
       injection hc with hc
       subst hc
       exact ⟨_,w,by simp [Conv.floatToFloat,hs,hd],Qt.refl w,.inl rfl⟩
     | number sg m e =>
       rw [hd] at hc
       simp only at hc
       split at hc
       · cases hc
       · rename_i hi
         injection hc with hc
         subst hc
         exact ⟨_,w,by simp [Conv.floatToFloat,hs,hd,hi],Qt.refl w,.inl rfl⟩
   · obtain ⟨s1,t1,hr1⟩ := zFy h1
     obtain ⟨s2,t2,hr2⟩ := zFy h2
     have hd1 : s.decode b = .nan s1 t1 := hr1
     have hd2 : s.decode b' = .nan s2 t2 := hr2
     rw [hd1] at hc
     injection hc with hc
     subst hc
     exact ⟨_,w.drew,by simp [Conv.floatToFloat,hs,hd2,Question.forced],⟨rfl,rfl,rfl,rfl⟩,.inr ⟨zVg k,zOk k b' (w.tape w.drawn (.nanConv k b'))⟩⟩
def bitsI (op : BinOp) (k : IntKind) (x y : Int) : Int :=
 match op with
 | .and => k.wrap ((BitVec.ofInt k.bits x &&& BitVec.ofInt k.bits y).toNat)
 | .or => k.wrap ((BitVec.ofInt k.bits x ||| BitVec.ofInt k.bits y).toNat)
 | .xor => k.wrap ((BitVec.ofInt k.bits x ^^^ BitVec.ofInt k.bits y).toNat)
 | _ => k.wrap ((BitVec.ofInt k.bits x &&& ~~~BitVec.ofInt k.bits y).toNat)
def binI (op : BinOp) (x y : I) : Option I :=
 match x,y with
 | .int k a,.int k' b =>
   match op with
   | .shl => if b < 0 then none else some (.int k (k.wrap (a * 2 ^ min b.toNat k.bits)))
   | .shr => if b < 0 then none else some (.int k (a.fdiv (2 ^ min b.toNat k.bits)))
   | .add => if k = k' then some (.int k (k.wrap (a + b))) else none
   | .sub => if k = k' then some (.int k (k.wrap (a - b))) else none
   | .mul => if k = k' then some (.int k (k.wrap (a * b))) else none
   | .quo => if k = k' then if b = 0 then none else some (.int k (k.wrap (a.tdiv b))) else none
   | .rem => if k = k' then if b = 0 then none else some (.int k (a.tmod b)) else none
   | .and => if k = k' then some (.int k (bitsI .and k a b)) else none
   | .or => if k = k' then some (.int k (bitsI .or k a b)) else none
   | .xor => if k = k' then some (.int k (bitsI .xor k a b)) else none
   | .andNot => if k = k' then some (.int k (bitsI .andNot k a b)) else none
   | .eql => if k = k' then some (.bool (decide (a = b))) else none
   | .neq => if k = k' then some (.bool (!decide (a = b))) else none
   | .lss => if k = k' then some (.bool (decide (a < b))) else none
   | .leq => if k = k' then some (.bool (decide (a ≤ b))) else none
   | .gtr => if k = k' then some (.bool (decide (b < a))) else none
   | .geq => if k = k' then some (.bool (decide (b ≤ a))) else none
 | .flt k a,.flt k' b =>
   if k = k' then
     match op with
     | .add => some (.flt k (fop .add k a b))
     | .sub => some (.flt k (fop .sub k a b))
     | .mul => some (.flt k (fop .mul k a b))
     | .quo => some (.flt k (fop .quo k a b))
     | .eql => some (.bool (fcmp .eql k a b))
     | .neq => some (.bool (fcmp .neq k a b))
     | .lss => some (.bool (fcmp .lss k a b))
     | .leq => some (.bool (fcmp .leq k a b))
     | .gtr => some (.bool (fcmp .gtr k a b))
     | .geq => some (.bool (fcmp .geq k a b))
     | _ => none
   else none
 | .cpx k a b,.cpx k' c d =>
   if k = k' then
     match op with
     | .eql => some (.bool (fcmp .eql k a c && fcmp .eql k b d))
     | .neq => some (.bool (!(fcmp .eql k a c && fcmp .eql k b d)))
     | .sub => some (.cpx k (fop .sub k a c) (fop .sub k b d))
     | .add => some (.cpx k (fop .add k a c) (fop .add k b d))
     | _ => none
   else none
 | .str a,.str b =>
   match op with
   | .eql => some (.bool (a.toList == b.toList))
   | .neq => some (.bool (!(a.toList == b.toList)))
   | .add => if a.size + b.size ≤ 4611686018427387904 then some (.str (a ++ b)) else none
   | _ => none
 | _,_ => none
theorem IR.int_inv {fz : Nat → Nat → Option Value} {k : IntKind} {n : Int} {v : Value} (h : IR fz (.int k n) v) : v = .int k n := by cases h; rfl
theorem IR.bool_inv {fz : Nat → Nat → Option Value} {b : Bool} {v : Value} (h : IR fz (.bool b) v) : v = .bool b := by cases h; rfl
theorem IR.flt_inv {fz : Nat → Nat → Option Value} {k : FloatKind} {x : Nat} {v : Value} (h : IR fz (.flt k x) v) : ∃ y,v = .float k y ∧ FEq k x y := by cases h with | flt _ _ y h => exact ⟨y,rfl,h⟩
theorem IR.cpx_inv {fz : Nat → Nat → Option Value} {k : FloatKind} {x y : Nat} {v : Value} (h : IR fz (.cpx k x y) v) : ∃ x' y',v = .complex k x' y' ∧ FEq k x x' ∧ FEq k y y' := by
 cases h with | cpx _ _ _ x' y' h h' => exact ⟨x',y',rfl,h,h'⟩
theorem IR.str_inv {fz : Nat → Nat → Option Value} {s : ByteArray} {v : Value} (h : IR fz (.str s) v) : v = .string s := by cases h; rfl
theorem zTi (a b : Int) : (a == b) = decide (a = b) := by rw [Bool.eq_iff_iff]; simp
theorem zQf1 {fz : Nat → Nat → Option Value} {P : Program} {w : World} {op : BinOp} {t : TypeId} {k k' : IntKind} {a b : Int} {z : I} (hz : binI op (.int k a) (.int k' b) = some z) :
   ∃ v,(binOp op t (.int k a) (.int k' b)).run P w = .ok v w ∧ IR fz z v := by
 cases op <;> simp only [binI] at hz <;> (repeat' (first | (split at hz)))
 all_goals first
   | (cases hz; done)
   | (injection hz with hz; subst hz; (try subst_vars); first
       | (refine ⟨_,?_,.int _ _⟩; simp [binOp,Op.intArith]; done)
       | (refine ⟨_,?_,.int _ _⟩; simp [binOp,Op.intDiv, *]; done)
       | (refine ⟨_,?_,.int _ _⟩; simp [binOp,Op.shift, *]; done)
       | (refine ⟨_,?_,.int _ _⟩; simp [binOp,Op.intBits,bitsI]; done)
       | (refine ⟨_,?_,.bool _⟩; simp [binOp,Op.intCmp,zTi,bne]; done))
theorem zOf1 {fz : Nat → Nat → Option Value} {P : Program} {w : World} {op : BinOp} {t : TypeId} {x y z : I} {u v : Value} (hu : IR fz x u) (hv : IR fz y v) (hz : binI op x y = some z) :
   ∃ v' w',(binOp op t u v).run P w = .ok v' w' ∧ Qt w w' ∧ IR fz z v' := by
 cases x with
 | int k a =>
   cases y with
   | int k' b =>
     cases hu.int_inv; cases hv.int_inv
     obtain ⟨v',h1,h2⟩ := zQf1 (fz := fz) (P := P) (w := w) (t := t) hz
     exact ⟨v',w,h1,Qt.refl w,h2⟩
   | _ => simp [binI] at hz
 | flt k a =>
   cases y with
   | flt k' b =>
     obtain ⟨a',rfl,ha⟩ := hu.flt_inv
     obtain ⟨b',rfl,hb⟩ := hv.flt_inv
     simp only [binI] at hz
     split at hz
     · rename_i hk
       subst hk
       have har : ∀ o : BinOp,(o = .add ∨ o = .sub ∨ o = .mul ∨ o = .quo) → op = o → z = .flt k (fop o k a b) → ∃ v' w',(binOp op t (.float k a') (.float k b')).run P w = .ok v' w' ∧ Qt w w' ∧ IR fz z v' := by
         intro o ho h1 h2
         subst h1; subst h2
         obtain ⟨r,w',h1,h2,h3⟩ := zDm (P := P) (w := w) ho ha hb
         refine ⟨_,w',?_,h2,.flt _ _ _ h3⟩
         rcases ho with rfl | rfl | rfl | rfl <;> simpa [binOp] using h1
       have hcm : ∀ o : BinOp,(o = .eql ∨ o = .neq ∨ o = .lss ∨ o = .leq ∨ o = .gtr ∨ o = .geq) → op = o → z = .bool (fcmp o k a b) → ∃ v' w',(binOp op t (.float k a') (.float k b')).run P w = .ok v' w' ∧ Qt w w' ∧ IR fz z v' := by
         intro o ho h1 h2
         subst h1; subst h2
         refine ⟨_,w,?_,Qt.refl w,.bool _⟩
         have := zEk (P := P) (w := w) ho ha hb
         rcases ho with rfl | rfl | rfl | rfl | rfl | rfl <;> simpa [binOp] using this
       cases op <;> simp only at hz <;> first
         | (cases hz; done)
         | (injection hz with hz; first | exact har _ (by simp) rfl hz.symm | exact hcm _ (by simp) rfl hz.symm)
     · cases hz
   | _ => simp [binI] at hz
 | cpx k a b =>
   cases y with
   | cpx k' c d =>
     obtain ⟨a',b',rfl,ha,hb⟩ := hu.cpx_inv
     obtain ⟨c',d',rfl,hc,hd⟩ := hv.cpx_inv
     simp only [binI] at hz
     split at hz
     · rename_i hk
       subst hk
       have e1 := zEk (P := P) (w := w) (op := .eql) (by simp) ha hc
       have e2 := zEk (P := P) (w := w) (op := .eql) (by simp) hb hd
       have har : ∀ o : BinOp,(o = .add ∨ o = .sub) → op = o → z = .cpx k (fop o k a c) (fop o k b d) → ∃ v' w',(binOp op t (.complex k a' b') (.complex k c' d')).run P w = .ok v' w' ∧ Qt w w' ∧ IR fz z v' := by
         intro o ho h1 h2
         subst h1; subst h2
         obtain ⟨r,w1,h1,h2,h3⟩ := zDm (P := P) (w := w) (op := op) (by rcases ho with rfl | rfl <;> simp) ha hc
         obtain ⟨s,w2,h4,h5,h6⟩ := zDm (P := P) (w := w1) (op := op) (by rcases ho with rfl | rfl <;> simp) hb hd
         refine ⟨.complex k r s,w2,?_,h2.trans h5,.cpx _ _ _ _ _ h3 h6⟩
         rcases ho with rfl | rfl <;> simp [binOp,Op.complexOp,Op.Complex.arith,h1,h4]
       cases op <;> simp only at hz <;> first
         | (cases hz; done)
         | (injection hz with hz; first
             | exact har _ (by simp) rfl hz.symm
             | (subst hz; refine ⟨_,w,?_,Qt.refl w,.bool _⟩; cases hf : fcmp .eql k a c <;> simp [binOp,Op.complexOp,Op.Complex.cmp,e1,e2,asBool,hf]; done))
     · cases hz
   | _ => simp [binI] at hz
 | str a =>
   cases y with
   | str b =>
     cases hu.str_inv; cases hv.str_inv
     simp only [binI] at hz
     cases op <;> simp only at hz <;> first
       | (cases hz; done)
       | (injection hz with hz; subst hz; refine ⟨_,w,?_,Qt.refl w,.bool _⟩; simp [binOp,Op.stringOp]; done)
       | (split at hz
          · rename_i hsz
            injection hz with hz; subst hz
            have hnb : ¬ ((a.size + b.size : Nat) : Int) > IntKind.i64.max := by
              have : IntKind.i64.max = 9223372036854775807 := by decide
              rw [this]; omega
            exact ⟨_,w,by simp only [binOp,Op.stringOp]; rw [if_neg hnb]; rfl,Qt.refl w,.str _⟩
          · cases hz)
   | _ => simp [binI] at hz
 | _ => cases y <;> simp [binI] at hz
def unI (op : UnOp) (x : I) : Option I :=
 match op,x with
 | .neg,.int k n => some (.int k (k.wrap (0 - n)))
 | .neg,.flt k x => some (.flt k (Op.negFloat k x))
 | .neg,.cpx k x y => some (.cpx k (Op.negFloat k x) (Op.negFloat k y))
 | .not,.bool b => some (.bool (!b))
 | _,_ => none
theorem zQq1 {fz : Nat → Nat → Option Value} {P : Program} {w : World} {op : UnOp} {x z : I} {u : Value} (hu : IR fz x u) (hz : unI op x = some z) :
   ∃ v',(Op.unary op u).run P w = .ok v' w ∧ IR fz z v' := by
 cases x with
 | int k a =>
   cases hu.int_inv
   cases op <;> simp only [unI] at hz <;> first
     | (cases hz; done)
     | (injection hz with hz; subst hz; exact ⟨_,by simp [Op.unary,Op.intArith],.int _ _⟩)
 | flt k a =>
   obtain ⟨a',rfl,ha⟩ := hu.flt_inv
   cases op <;> simp only [unI] at hz <;> first
     | (cases hz; done)
     | (injection hz with hz; subst hz; exact ⟨_,by simp [Op.unary],.flt _ _ _ (zHd ha)⟩)
 | cpx k a b =>
   obtain ⟨a',b',rfl,ha,hb⟩ := hu.cpx_inv
   cases op <;> simp only [unI] at hz <;> first
     | (cases hz; done)
     | (injection hz with hz; subst hz; exact ⟨_,by simp [Op.unary],.cpx _ _ _ _ _ (zHd ha) (zHd hb)⟩)
 | bool b =>
   cases hu.bool_inv
   cases op <;> simp only [unI] at hz <;> first
     | (cases hz; done)
     | (injection hz with hz; subst hz; exact ⟨_,by simp [Op.unary],.bool _⟩)
 | _ => cases op <;> simp [unI] at hz
def convI (d : TypeDesc) (x : I) : Option I :=
 match d,x with
 | .int k,.int _ n => some (.int k (k.wrap n))
 | .float k,.int _ n => some (.flt k (k.nearest n))
 | .float k,.flt s b => match fconv s b k with
   | some r => some (.flt k r)
   | none => none
 | .int k,.flt s b => if isNaNb s b then none else match (s.decode b).toInt .zero with
   | some n => if k.min ≤ n ∧ n ≤ k.max then some (.int k n) else none
   | none => none
 | .complex k,.cpx s a b => match fconv s a k,fconv s b k with
   | some a',some b' => some (.cpx k a' b')
   | _,_ => none
 | _,_ => none
theorem zJl1 {fz : Nat → Nat → Option Value} {P : Program} {w : World} {src dst : TypeId} {ds d : TypeDesc} {x z : I} {u : Value} (hs : P.underlying src = some ds) (hd : P.underlying dst = some d) (hu : IR fz x u) (hz : convI d x = some z) :
   ∃ v' w',(convert src dst u).run P w = .ok v' w' ∧ Qt w w' ∧ IR fz z v' := by
 cases x with
 | int k n =>
   cases hu.int_inv
   cases d <;> simp only [convI] at hz <;> first
     | (cases hz; done)
     | (injection hz with hz; subst hz; refine ⟨_,w,?_,Qt.refl w,.int _ _⟩; simp [convert,run_underlying hs,run_underlying hd,Conv.intToInt]; done)
     | (injection hz with hz; subst hz; refine ⟨_,w,?_,Qt.refl w,.flt _ _ _ (.inl rfl)⟩; simp [convert,run_underlying hs,run_underlying hd,Conv.intToFloat]; done)
 | flt s b =>
   obtain ⟨b',rfl,hb⟩ := hu.flt_inv
   cases d with
   | float k =>
     simp only [convI] at hz
     cases hc : fconv s b k with
     | none => simp [hc] at hz
     | some r =>
       simp only [hc,yay] at hz
       subst hz
       obtain ⟨r',w',h1,h2,h3⟩ := zNx (P := P) (w := w) hb hc
       exact ⟨_,w',by simp [convert,run_underlying hs,run_underlying hd,h1],h2,.flt _ _ _ h3⟩
   | int k =>
     simp only [convI] at hz
     split at hz
     · cases hz
     · rename_i hn
       have : b = b' := by rcases hb with h | ⟨h,_⟩; exact h; exact absurd h hn
       subst this
       cases hc : (s.decode b).toInt .zero with
       | none => simp [hc] at hz
       | some n =>
         simp only [hc] at hz
         split at hz
         · rename_i hr
           injection hz with hz
           subst hz
           exact ⟨_,w,by simp [convert,run_underlying hs,run_underlying hd,Conv.floatToInt,hc,hr],Qt.refl w,.int _ _⟩
         · cases hz
   | _ => simp [convI] at hz
 | cpx s a b =>
   cases d with
   | complex k =>
     simp only [convI] at hz
     split at hz
     · rename_i a' b' ha hb
       injection hz with hz; subst hz
       obtain ⟨y,z,rfl,e1,e2⟩ := hu.cpx_inv
       obtain ⟨r1,w1,h1,q1,f1⟩ := zNx (P := P) (w := w) e1 ha
       obtain ⟨r2,w2,h2,q2,f2⟩ := zNx (P := P) (w := w1) e2 hb
       exact ⟨.complex k r1 r2,w2,by simp [convert,run_underlying hs,run_underlying hd,Conv.complexToComplex,h1,h2],q1.trans q2,.cpx _ _ _ _ _ f1 f2⟩
     · cases hz
   | _ => simp [convI] at hz
 | _ => cases d <;> simp [convI] at hz
end Go.SX
namespace Go.SX
open Go Go.RowKit
def cV : Value → Option C
 | .bool b => some (.im (.bool b))
 | .int k n => some (.im (.int k n))
 | .float k x => some (.im (.flt k x))
 | .complex k x y => some (.im (.cpx k x y))
 | .string s => some (.im (.str s))
 | .slice none 0 0 => some .nil
 | .pointer none => some (.im (.raw (.pointer none)))
 | .nilFunc => some (.im (.raw .nilFunc))
 | .nilIface => some (.im (.raw .nilIface))
 | _ => none
theorem zBq1 {g : Gh} {v : Value} {c : C} (h : cV v = some c) : CV g c v := by
 unfold cV at h
 split at h <;> first
   | (cases h; done)
   | (injection h with h; subst h; first
       | exact .im _ _ (.bool _) | exact .im _ _ (.int _ _) | exact .im _ _ (.flt _ _ _ (.inl rfl)) | exact .im _ _ (.cpx _ _ _ _ _ (.inl rfl) (.inl rfl)) | exact .im _ _ (.str _)
       | exact .nil | exact .im _ _ (.raw _ rfl) | exact .fn _ [] #[] rfl (fun j x v hj _ => by simp at hj))
def ev (S : Nat → Option D) : Operand → Option D
 | .tmp t => S t
 | .const v => match cV v with | some c => some (.c c) | none => none
 | .func f => some (.c (.fn (.func f) []))
 | .global _ => none
variable {en : En} {g : Gh} {S : Nat → Option D} {H : Nat → Option Root} {a : Act} {w : World} {P : Program}
theorem zBg (h : Rel en g S H a w) {x : Operand} {d : D} (hd : ev S x = some d) : DV g d (a.eval x) := by
 cases x with
 | tmp t =>
   obtain ⟨v,hv,hdv⟩ := h.slots t d hd
   have : a.eval (.tmp t) = v := by simp [Act.eval,Array.getD_eq_getD_getElem?,hv]
   rw [this]; exact hdv
 | const v =>
   simp only [ev] at hd
   split at hd
   · rename_i c hc
     injection hd with hd
     subst hd
     exact .c _ _ (zBq1 hc)
   · cases hd
 | func f =>
   simp only [ev,yay] at hd
   subst hd
   exact .c _ _ (.fn _ [] #[] rfl (fun j x v hj _ => by simp at hj))
 | global n => simp [ev] at hd
def evI (S : Nat → Option D) (x : Operand) : Option I :=
 match ev S x with
 | some (.c (.im i)) => some i
 | _ => none
theorem zBj (h : Rel en g S H a w) {x : Operand} {i : I} (hd : evI S x = some i) : IR g.fz i (a.eval x) := by
 unfold evI at hd
 split at hd
 · rename_i j hj
   injection hd with hd
   subst hd
   have := zBg h hj
   cases this with | c _ _ h => cases h with | im _ _ h => exact h
 · cases hd
def evC (S : Nat → Option D) (x : Operand) : Option C :=
 match ev S x with
 | some (.c c) => some c
 | _ => none
theorem zBn (h : Rel en g S H a w) {x : Operand} {c : C} (hd : evC S x = some c) : CV g c (a.eval x) := by
 unfold evC at hd
 split at hd
 · rename_i j hj
   injection hd with hd
   subst hd
   have := zBg h hj
   cases this with | c _ _ h => exact h
 · cases hd
def tsz (P : Program) (t : TypeId) : Option Nat := match P.info? t with | some i => some i.size | none => none
def tag (P : Program) (t : TypeId) : Option Bool := match P.underlying t with
 | some (.struct _) => some true
 | some (.array _ _) => some true
 | some _ => some false
 | none => none
def tel (P : Program) (t : TypeId) : Option TypeId := match P.underlying t with
 | some (.slice e) => some e
 | _ => none
def tfd (P : Program) (t : TypeId) (f : Nat) : Option (Nat × TypeId) := match P.underlying t with
 | some (.struct fs) => match fs[f]? with
   | some fd => some (fd.offset,fd.type)
   | none => none
 | _ => none
theorem zBy {t : TypeId} {k : Nat} (h : tsz P t = some k) (w : World) : (sizeOf t).run P w = .ok k w := by
 unfold tsz at h
 split at h
 · rename_i i hi; injection h with h; subst h; simp [sizeOf,typeInfo,hi]
 · cases h
theorem zFm {t : TypeId} {b : Bool} (h : tag P t = some b) (w : World) : (isAgg t).run P w = .ok b w := by
 unfold tag at h
 split at h <;> first
   | (cases h; done)
   | (injection h with h; subst h; rename_i hu; first
       | (simp [isAgg,run_underlying hu]; done)
       | (rename_i d _ _; simp only [isAgg,Sem.run_bind,run_underlying hu,Result.andThen_ok]; cases d <;> simp_all))
theorem zDi {t e : TypeId} (h : tel P t = some e) : P.underlying t = some (.slice e) := by
 unfold tel at h
 split at h
 · rename_i hu; injection h with h; subst h; exact hu
 · cases h
theorem zNd {t : TypeId} {f o : Nat} {ft : TypeId} (h : tfd P t f = some (o,ft)) : ∃ fs fd,P.underlying t = some (.struct fs) ∧ fs[f]? = some fd ∧ fd.offset = o ∧ fd.type = ft := by
 unfold tfd at h
 split at h
 · rename_i fs hu
   split at h
   · rename_i fd hf
     injection h with h
     injection h with h1 h2
     exact ⟨fs,fd,hu,hf,h1,h2⟩
   · cases h
 · cases h
def nI : I → C
 | .raw (.slice none 0 0) => .nil
 | i => .im i
theorem zAd1 {i : I} {v : Value} (h : IR g.fz i v) : CV g (nI i) v := by
 unfold nI
 split
 · cases h; exact .nil
 · exact .im _ _ h
def bC : B → Option C
 | .t (.im i) => some (nI i)
 | .t .nil => some .nil
 | .t (.lent m sz len) => some (.view m sz 0 len)
 | .v c => some c
 | _ => none
theorem zLn1 {n : Nat} {q : Pth} {b : B} {c : C} {v : Value} (hb : BR w g n q b v) (h : bC b = some c) : CV g c v := by
 cases hb with
 | t x _ hx =>
   cases hx <;> simp only [bC] at h <;> first
     | (cases h; done)
     | (injection h with h; subst h; first | exact zAd1 ‹_› | exact .nil | assumption)
 | v x _ hx => simp only [bC,yay] at h; subst h; exact hx
def loadCs (r : Root) (i off : Nat) : Nat → Option (List C)
 | 0 => some []
 | n + 1 => match r.get i off with
   | some b => match bC b with
     | some c => match loadCs r i (off + 1) n with
       | some cs => some (c :: cs)
       | none => none
     | none => none
   | none => none
def loadIs (row : List I) (off : Nat) : Nat → Option (List C)
 | 0 => some []
 | n + 1 => match row[off]? with
   | some x => match loadIs row (off + 1) n with
     | some cs => some (nI x :: cs)
     | none => none
   | none => none
def At (w : World) (b o : Nat) (vs : List Value) : Prop := ∀ (j : Nat) (v : Value),vs[j]? = some v → w.cell? ⟨b,o + j,none⟩ = some v
def CVs (g : Gh) (cs : List C) (vs : List Value) : Prop := vs.length = cs.length ∧ ∀ (j : Nat) (x : C) (v : Value),cs[j]? = some x → vs[j]? = some v → CV g x v
theorem CVs.nil : CVs g [] [] := ⟨rfl,fun j x v h => by simp at h⟩
theorem CVs.cons {x : C} {v : Value} {cs : List C} {vs : List Value} (h : CV g x v) (hs : CVs g cs vs) : CVs g (x :: cs) (v :: vs) := by
 refine ⟨by simp [hs.1],fun j y u hy hu => ?_⟩
 cases j with
 | zero => simp at hy hu; subst hy; subst hu; exact h
 | succ j => simp at hy hu; exact hs.2 j y u hy hu
theorem At.cons {b o : Nat} {v : Value} {vs : List Value} (h : w.cell? ⟨b,o,none⟩ = some v) (hs : At w b (o + 1) vs) : At w b o (v :: vs) := by
 intro j u hu
 cases j with
 | zero => simp at hu; subst hu; exact h
 | succ j => simp at hu; have := hs j u hu; rwa [Nat.add_assoc,Nat.add_comm 1 j] at this
theorem zLn {n : Nat} {r : Root} (hR : RootR w g n r) (i : Nat) : ∀ (k off : Nat) (cs : List C),loadCs r i off k = some cs →
   ∃ vs,At w (g.rb n) (g.base n + i * r.sz + off) vs ∧ CVs g cs vs ∧ cs.length = k
 | 0,off,cs,h => by simp only [loadCs,yay] at h; subst h; exact ⟨[],fun j v hv => by simp at hv,.nil,rfl⟩
 | k + 1,off,cs,h => by
   simp only [loadCs] at h
   split at h
   · rename_i b hb
     split at h
     · rename_i c hc
       split at h
       · rename_i cs' hcs
         injection h with h
         subst h
         obtain ⟨vs,h1,h2,h3⟩ := zLn hR i k (off + 1) cs' hcs
         cases hR with
         | arr0 sz hs h0 => simp [Root.get] at hb
         | mk _ ws e hh ho hf hr =>
           obtain ⟨v,hv,hbr⟩ := hr i off b hb
           exact ⟨v :: vs,.cons (by rw [cell_of_row w _ _ ws e _ hh]; exact hv) (by rw [Nat.add_assoc]; exact h1),.cons (zLn1 hbr hc) h2,by simp [h3]⟩
       · cases h
     · cases h
   · cases h
theorem zLm {row : List I} {b o : Nat} {us : Nat → Value} (hx : ∀ (j : Nat) (x : I),row[j]? = some x → w.cell? ⟨b,o + j,none⟩ = some (us j))
   (hr : ∀ (j : Nat) (x : I),row[j]? = some x → IR g.fz x (us j)) : ∀ (k off : Nat) (cs : List C),loadIs row off k = some cs → ∃ vs,At w b (o + off) vs ∧ CVs g cs vs ∧ cs.length = k
 | 0,off,cs,h => by simp only [loadIs,yay] at h; subst h; exact ⟨[],fun j v hv => by simp at hv,.nil,rfl⟩
 | k + 1,off,cs,h => by
   simp only [loadIs] at h
   split at h
   · rename_i x hxx
     split at h
     · rename_i cs' hcs
       injection h with h
       subst h
       obtain ⟨vs,h1,h2,h3⟩ := zLm hx hr k (off + 1) cs' hcs
       exact ⟨us off :: vs,.cons (hx off x hxx) (by rw [Nat.add_assoc]; exact h1),.cons (zAd1 (hr off x hxx)) h2,by simp [h3]⟩
     · cases h
   · cases h
def mkD (ag : Bool) (cs : List C) : Option D :=
 match ag,cs with
 | true,cs => some (.agg cs)
 | false,[c] => some (.c c)
 | _,_ => none
theorem zNs {t : TypeId} {b o k : Nat} {ag : Bool} {vs : List Value} {cs : List C} {d : D} (hk : tsz P t = some k) (hag : tag P t = some ag) (hat : At w b o vs) (hcs : CVs g cs vs) (hl : cs.length = k) (hd : mkD ag cs = some d) :
   ∃ v,(Instr.loadAt t (.pointer (some ⟨b,o,none⟩))).run P w = .ok v w ∧ DV g d v := by
 have hlc : (loadCells ⟨b,o,none⟩ k).run P w = .ok vs.toArray w := by
   have := run_loadCells_list (P := P) w ⟨b,o,none⟩ vs (fun j v hv => by
     have : (⟨b,o,none⟩ : Addr).add j = ⟨b,o + j,none⟩ := by unfold Addr.add; split <;> simp_all
     rw [this]; exact hat j v hv)
   rwa [hcs.1,hl] at this
 cases ag with
 | true =>
   simp only [mkD,yay] at hd
   subst hd
   exact ⟨.agg vs.toArray,by simp [Instr.loadAt,Instr.sureAddr,loadVar,zFm hag,zBy hk,hlc],.agg _ _ (by simp [hcs.1]) (fun j x v hj hv => hcs.2 j x v hj (by simpa using hv))⟩
 | false =>
   cases cs with
   | nil => simp [mkD] at hd
   | cons c cs =>
     cases cs with
     | cons => simp [mkD] at hd
     | nil =>
       simp only [mkD,yay] at hd
       subst hd
       obtain ⟨v,hv⟩ : ∃ v,vs = [v] := by
         have := hcs.1
         match vs,this with
         | [v],_ => exact ⟨v,rfl⟩
       subst hv
       have hc := hat 0 v rfl
       exact ⟨v,by simp [Instr.loadAt,Instr.sureAddr,loadVar,zFm hag]; rw [show w.cell? ⟨b,o,none⟩ = some v from hc],.c _ _ (hcs.2 0 c v rfl rfl)⟩
def loadD (P : Program) (t : TypeId) (S : Nat → Option D) (H : Nat → Option Root) (x : Operand) : Option D :=
 match tsz P t,tag P t with
 | some k,some ag =>
   match ev S x with
   | some (.c (.ptr n sz i off)) => match H n with
     | some r => if r.sz = sz then match loadCs r i off k with
         | some cs => mkD ag cs
         | none => none
       else none
     | none => none
   | some (.c (.iptr row off)) => match loadIs row off k with
     | some cs => mkD ag cs
     | none => none
   | _ => none
 | _,_ => none
theorem zOl (h : Rel en g S H a w) {t : TypeId} {x : Operand} {d : D} (hd : loadD P t S H x = some d) : ∃ v,(Instr.loadAt t (a.eval x)).run P w = .ok v w ∧ DV g d v := by
 unfold loadD at hd
 split at hd
 · rename_i k ag hk hag
   split at hd
   · rename_i n sz i off he
     have hv := zBg h he
     split at hd
     · rename_i r hr
       split at hd
       · rename_i hsz
         subst hsz
         split at hd
         · rename_i cs hcs
           obtain ⟨hu,hR⟩ := h.roots n r hr
           obtain ⟨vs,h1,h2,h3⟩ := zLn hR i k off cs hcs
           cases hv with
           | c _ _ hv =>
             generalize a.eval x = u at hv
             cases hv with
             | ptr _ _ _ _ hu => exact zNs hk hag h1 h2 h3 hd
         · cases hd
       · cases hd
     · cases hd
   · rename_i row off he
     have hv := zBg h he
     split at hd
     · rename_i cs hcs
       cases hv with
       | c _ _ hv =>
         generalize a.eval x = u at hv
         cases hv with
         | iptr _ _ b o us hx hr =>
           obtain ⟨vs,h1,h2,h3⟩ := zLm (w := w) (fun j x hj => (h.fz _ _ _ (hx j x hj)).1) hr k off cs hcs
           exact zNs hk hag h1 h2 h3 hd
     · cases hd
   · cases hd
 · cases hd
def fieldAddrD (P : Program) (s : TypeId) (S : Nat → Option D) (x : Operand) (f : Nat) : Option D :=
 match tfd P s f with
 | some (o,ft) => match tsz P ft with
   | some 0 => none
   | some _ => match ev S x with
     | some (.c (.ptr n sz i off)) => some (.c (.ptr n sz i (off + o)))
     | some (.c (.iptr row off)) => some (.c (.iptr row (off + o)))
     | _ => none
   | none => none
 | none => none
theorem zGx {s : TypeId} {f o : Nat} {ft : TypeId} {k b o0 : Nat} (hf : tfd P s f = some (o,ft)) (hk : tsz P ft = some k) (h0 : k ≠ 0) :
   (Instr.fieldAt s (.pointer (some ⟨b,o0,none⟩)) f).run P w = .ok (.pointer (some ⟨b,o0 + o,none⟩)) w := by
 obtain ⟨fs,fd,hu,hfd,rfl,rfl⟩ := zNd hf
 have : (⟨b,o0,none⟩ : Addr).add fd.offset = ⟨b,o0 + fd.offset,none⟩ := by unfold Addr.add; split <;> simp_all
 simp [Instr.fieldAt,run_underlying hu,hfd,Instr.sureAddr,fieldPlace,zBy hk,h0,this]
theorem zMk (h : Rel en g S H a w) {s : TypeId} {x : Operand} {f : Nat} {d : D} (hd : fieldAddrD P s S x f = some d) : ∃ v,(Instr.fieldAt s (a.eval x) f).run P w = .ok v w ∧ DV g d v := by
 unfold fieldAddrD at hd
 split at hd
 · rename_i o ft hf
   split at hd
   · cases hd
   · rename_i k hk0 hk
     split at hd
     · rename_i n sz i off he
       injection hd with hd
       subst hd
       have hv := zBg h he
       cases hv with
       | c _ _ hv =>
         generalize a.eval x = u at hv
         cases hv with
         | ptr _ _ _ _ hu => exact ⟨_,zGx hf hk (fun e => hk0 e),.c _ _ (by have := CV.ptr (g := g) n sz i (off + o) hu; rwa [← Nat.add_assoc] at this)⟩
     · rename_i row off he
       injection hd with hd
       subst hd
       have hv := zBg h he
       cases hv with
       | c _ _ hv =>
         generalize a.eval x = u at hv
         cases hv with
         | iptr _ _ b o' us hx hr => exact ⟨_,zGx hf hk (fun e => hk0 e),.c _ _ (by have := CV.iptr (g := g) row (off + o) b o' us hx hr; rwa [← Nat.add_assoc] at this)⟩
     · cases hd
   · cases hd
 · cases hd
end Go.SX
namespace Go.SX
open Go Go.RowKit
variable {en : En} {g : Gh} {S : Nat → Option D} {H : Nat → Option Root} {a : Act} {w : World} {P : Program}
theorem IR.sl_inv {fz : Nat → Nat → Option Value} {sz : Nat} {rows : List (List I)} {v : Value} (h : IR fz (.sl sz rows) v) :
   (rows = [] ∧ ∃ A c,v = .slice A 0 c) ∨ ∃ (b off c : Nat) (vs : Nat → Nat → Value),v = .slice (some ⟨b,off,none⟩) rows.length c ∧ rows.length ≤ c ∧ (∀ (i : Nat) (r : List I),rows[i]? = some r → r.length = sz) ∧
     (∀ (i : Nat) (r : List I) (j : Nat) (x : I),rows[i]? = some r → r[j]? = some x → fz b (off + i * sz + j) = some (vs i j)) ∧
     (∀ (i : Nat) (r : List I) (j : Nat) (x : I),rows[i]? = some r → r[j]? = some x → IR fz x (vs i j)) := by
 cases h with
 | sl0 _ a c => exact .inl ⟨rfl,a,c,rfl⟩
 | sl _ _ b off c vs hc hl hx hr => exact .inr ⟨b,off,c,vs,rfl,hc,hl,hx,hr⟩
def fieldD (P : Program) (s : TypeId) (S : Nat → Option D) (x : Operand) (f : Nat) : Option D :=
 match tfd P s f with
 | some (o,ft) => match tsz P ft,tag P ft with
   | some k,some ag => match ev S x with
     | some (.agg cs) => if o + k ≤ cs.length then mkD ag ((cs.drop o).take k) else none
     | _ => none
   | _,_ => none
 | none => none
theorem zWt (h : Rel en g S H a w) {s : TypeId} {x : Operand} {f : Nat} {d : D} (hd : fieldD P s S x f = some d) : ∃ v,(Instr.field s (a.eval x) f).run P w = .ok v w ∧ DV g d v := by
 unfold fieldD at hd
 split at hd
 · rename_i o ft hf
   split at hd
   · rename_i k ag hk hag
     split at hd
     · rename_i cs he
       split at hd
       · rename_i hle
         have hv := zBg h he
         generalize a.eval x = u at hv
         cases hv with
         | agg _ vs hs hr =>
           obtain ⟨fs,fd,hu,hfd,rfl,rfl⟩ := zNd hf
           cases ag with
           | true =>
             simp only [mkD,yay] at hd
             subst hd
             refine ⟨.agg (vs.extract fd.offset (fd.offset + k)),by simp [Instr.field,run_underlying hu,hfd,asAgg,part,zFm hag,zBy hk],.agg _ _ ?_ (fun j x v hj hv => ?_)⟩
             · simp; omega
             · rw [List.getElem?_take] at hj
               split at hj
               · rw [List.getElem?_drop] at hj
                 refine hr _ x v hj ?_
                 rw [Array.getElem?_extract] at hv
                 split at hv
                 · exact hv
                 · cases hv
               · cases hj
           | false =>
             have hlen : ((cs.drop fd.offset).take k).length = k := by simp; omega
             match hcs : (cs.drop fd.offset).take k,hd with
             | [c],hd =>
               simp only [mkD,yay] at hd
               subst hd
               have hc : cs[fd.offset]? = some c := by
                 have : ((cs.drop fd.offset).take k)[0]? = some c := by rw [hcs]; rfl
                 rw [List.getElem?_take] at this
                 split at this
                 · simpa using this
                 · cases this
               have hlt : fd.offset < vs.size := by rw [hs]; exact (List.getElem?_eq_some_iff.1 hc).1
               refine ⟨vs[fd.offset],?_,.c _ _ (hr _ _ _ hc (Array.getElem?_eq_getElem hlt))⟩
               simp [Instr.field,run_underlying hu,hfd,asAgg,part,zFm hag,Array.getElem?_eq_getElem hlt]
             | [],hd => simp [mkD] at hd
             | _ :: _ :: _,hd => simp [mkD] at hd
       · cases hd
     · cases hd
   · cases hd
 · cases hd
def indexAddrD (P : Program) (t : TypeId) (S : Nat → Option D) (x i : Operand) : Option D :=
 match tel P t with
 | some e => match tsz P e with
   | some k => match evI S i with
     | some (.int _ n) => match ev S x with
       | some (.c (.view m sz lo len)) => if sz = k ∧ 0 ≤ n ∧ n < (len : Int) then some (.c (.ptr m sz (lo + n.toNat) 0)) else none
       | some (.c (.im (.sl sz rows))) => if sz = k ∧ 0 ≤ n then match rows[n.toNat]? with
           | some row => some (.c (.iptr row 0))
           | none => none
         else none
       | _ => none
     | _ => none
   | none => none
 | none => none
theorem zCk (b o n : Nat) : (⟨b,o,none⟩ : Addr).add n = ⟨b,o + n,none⟩ := by unfold Addr.add; split <;> simp_all
theorem zMj (h : Rel en g S H a w) {t : TypeId} {x i : Operand} {d : D} (hd : indexAddrD P t S x i = some d) : ∃ v,(Instr.indexAt t (a.eval x) (a.eval i)).run P w = .ok v w ∧ DV g d v := by
 unfold indexAddrD at hd
 split at hd
 · rename_i e ht
   split at hd
   · rename_i k hk
     split at hd
     · rename_i kk n hi
       have hiv := (zBj h hi).int_inv
       rw [hiv]
       split at hd
       · rename_i m sz lo len he
         split at hd
         · rename_i hc
           obtain ⟨rfl,h0,h1⟩ := hc
           injection hd with hd
           subst hd
           have hv := zBg h he
           cases hv with
           | c _ _ hv =>
             generalize a.eval x = u at hv
             cases hv with
             | view0 => simp at h1; omega
             | view _ _ _ _ cap hu hb hl hc =>
               refine ⟨.pointer (some ⟨g.rb m,lo * sz + n.toNat * sz,none⟩),?_,.c _ _ ?_⟩
               · simp [Instr.indexAt,run_underlying (zDi ht),asIntOf,h0,h1,zBy hk,zCk]
               · have := CV.ptr (g := g) m sz (lo + n.toNat) 0 hu
                 rwa [hb,Nat.zero_add,Nat.add_zero,Nat.add_mul] at this
         · cases hd
       · rename_i sz rows he
         split at hd
         · rename_i hc
           obtain ⟨rfl,h0⟩ := hc
           split at hd
           · rename_i row hrow
             injection hd with hd
             subst hd
             have hlt : n.toNat < rows.length := (List.getElem?_eq_some_iff.1 hrow).1
             have hv := zBg h he
             cases hv with
             | c _ _ hv =>
               generalize a.eval x = u at hv
               cases hv with
               | im _ _ hv =>
                 generalize hrl : rows.length = rl at hv
                 cases hv with
                 | sl0 => simp at hlt
                 | sl _ _ b off c vs hc hl hx hr =>
                   refine ⟨.pointer (some ⟨b,off + n.toNat * sz,none⟩),?_,.c _ _ ?_⟩
                   · have h1 : n < (rows.length : Int) := by omega
                     simp [Instr.indexAt,run_underlying (zDi ht),asIntOf,h0,h1,zBy hk,zCk]
                   · have := CV.iptr (g := g) row 0 b (off + n.toNat * sz) (fun j => vs n.toNat j) (fun j x hj => hx _ row j x hrow hj) (fun j x hj => hr _ row j x hrow hj)
                     rwa [Nat.add_zero] at this
           · cases hd
         · cases hd
       · cases hd
     · cases hd
   · cases hd
 · cases hd
def optI (S : Nat → Option D) : Option Operand → Option (Option Int)
 | none => some none
 | some x => match evI S x with
   | some (.int _ n) => some (some n)
   | _ => none
def sliceD (P : Program) (t : TypeId) (S : Nat → Option D) (x : Operand) (lo hi : Option Operand) : Option D :=
 match tel P t with
 | some e => match tsz P e with
   | some k => match optI S lo,optI S hi with
     | some l?,some h? => match ev S x with
       | some (.c (.view m sz b len)) => if sz = k ∧ 0 ≤ l?.getD 0 ∧ l?.getD 0 ≤ h?.getD len ∧ h?.getD len ≤ len then some (.c (.view m sz (b + (l?.getD 0).toNat) ((h?.getD len).toNat - (l?.getD 0).toNat))) else none
       | some (.c (.im (.sl sz rows))) => if sz = k ∧ 0 ≤ l?.getD 0 ∧ l?.getD 0 ≤ h?.getD rows.length ∧ h?.getD rows.length ≤ rows.length then
           some (.c (.im (.sl sz ((rows.take (h?.getD rows.length).toNat).drop (l?.getD 0).toNat)))) else none
       | some (.c .nil) => if l?.getD 0 = 0 ∧ h?.getD 0 = 0 then some (.c .nil) else none
       | _ => none
     | _,_ => none
   | none => none
 | none => none
theorem zKp (h : Rel en g S H a w) {o : Option Operand} {r : Option Int} (hr : optI S o = some r) : (o = none ∧ r = none) ∨ ∃ x k n,o = some x ∧ r = some n ∧ a.eval x = .int k n := by
 cases o with
 | none => simp only [optI,yay] at hr; exact .inl ⟨rfl,hr.symm⟩
 | some x =>
   simp only [optI] at hr
   split at hr
   · rename_i k n hi
     injection hr with hr
     exact .inr ⟨x,k,n,rfl,hr.symm,(zBj h hi).int_inv⟩
   · cases hr
theorem zCp {t e : TypeId} {k : Nat} (ht : tel P t = some e) (hk : tsz P e = some k) (A : Option Addr) (len cap : Nat) (lo hi : Option Value) (l? h? : Option Int)
   (hlo : (lo = none ∧ l? = none) ∨ ∃ kk n,lo = some (.int kk n) ∧ l? = some n) (hhi : (hi = none ∧ h? = none) ∨ ∃ kk n,hi = some (.int kk n) ∧ h? = some n)
   (h0 : 0 ≤ l?.getD 0) (h1 : l?.getD 0 ≤ h?.getD len) (h2 : h?.getD len ≤ cap) (h3 : (len : Int) ≤ cap) :
   (Instr.sliceAt t (.slice A len cap) lo hi none).run P w = .ok (.slice (if cap = (l?.getD 0).toNat then A else A.map (·.add ((l?.getD 0).toNat * k))) ((h?.getD len).toNat - (l?.getD 0).toNat) (cap - (l?.getD 0).toNat)) w := by
 have hu := zDi ht
 rcases hlo with ⟨rfl,rfl⟩ | ⟨kl,l,rfl,rfl⟩ <;> rcases hhi with ⟨rfl,rfl⟩ | ⟨kh,hh,rfl,rfl⟩
 · simp only [Option.getD_none] at *
   simp [Instr.sliceAt,Instr.slice,Instr.sliceBounds,run_underlying hu,zBy hk]
 · simp only [Option.getD_none,yaF] at *
   simp [Instr.sliceAt,Instr.slice,Instr.sliceBounds,Instr.sliceBound,asIntOf,run_underlying hu,zBy hk,h1,h2]
 · simp only [Option.getD_none,yaF] at *
   simp [Instr.sliceAt,Instr.slice,Instr.sliceBounds,Instr.sliceBound,asIntOf,run_underlying hu,zBy hk,h0,h1]
 · simp only [yaF] at *
   have h4 : 0 ≤ hh := by omega
   have h5 : l ≤ (hh.toNat : Int) := by omega
   have h6 : ¬ max hh 0 < l := by omega
   simp [Instr.sliceAt,Instr.slice,Instr.sliceBounds,Instr.sliceBound,asIntOf,run_underlying hu,zBy hk,h0,h2,h4,h5]
   intro h7; exact absurd h7 h6
theorem optV (h : Rel en g S H a w) {o : Option Operand} {r : Option Int} (hr : optI S o = some r) : (o.map a.eval = none ∧ r = none) ∨ ∃ kk n,o.map a.eval = some (.int kk n) ∧ r = some n := by
 rcases zKp h hr with ⟨rfl,rfl⟩ | ⟨x,k,n,rfl,rfl,he⟩
 · exact .inl ⟨rfl,rfl⟩
 · exact .inr ⟨k,n,by simp [he],rfl⟩
theorem zUn (h : Rel en g S H a w) {t : TypeId} {x : Operand} {lo hi : Option Operand} {d : D} (hd : sliceD P t S x lo hi = some d) :
   ∃ v,(Instr.sliceAt t (a.eval x) (lo.map a.eval) (hi.map a.eval) none).run P w = .ok v w ∧ DV g d v := by
 unfold sliceD at hd
 split at hd
 · rename_i e ht
   split at hd
   · rename_i k hk
     split at hd
     · rename_i l? h? hl hh
       have hL := optV h hl
       have hHi := optV h hh
       split at hd
       · rename_i m sz b len he
         split at hd
         · rename_i hc
           obtain ⟨rfl,h0,h1,h2⟩ := hc
           injection hd with hd
           subst hd
           have hv := zBg h he
           cases hv with
           | c _ _ hv =>
             generalize a.eval x = u at hv
             cases hv with
             | view0 _ _ _ A hu =>
               have e1 : (l?.getD 0).toNat = 0 := by omega
               have e2 : (h?.getD ((0 : Nat) : Int)).toNat = 0 := by omega
               refine ⟨_,zCp ht hk A 0 0 _ _ l? h? hL hHi h0 h1 h2 (by omega),.c _ _ ?_⟩
               rw [e1,e2]
               simp only [Nat.sub_self,if_pos]
               exact .view0 m sz _ A hu
             | view _ _ _ _ cap hu hb hl' hc' =>
               refine ⟨_,zCp ht hk _ len cap _ _ l? h? hL hHi h0 h1 (by omega) (by omega),.c _ _ ?_⟩
               by_cases hcap : cap = (l?.getD 0).toNat
               · rw [if_pos hcap]
                 have e1 : (h?.getD (len : Int)).toNat - (l?.getD 0).toNat = 0 := by omega
                 rw [e1,show cap - (l?.getD 0).toNat = 0 by omega]
                 exact .view0 m sz _ _ hu
               · rw [if_neg hcap]
                 simp only [yaK,zCk]
                 rw [← Nat.add_mul]
                 exact .view m sz (b + (l?.getD 0).toNat) _ _ hu hb (by omega) (by
                   refine Nat.le_trans (Nat.mul_le_mul_right _ ?_) hc'
                   omega)
         · cases hd
       · rename_i sz rows he
         split at hd
         · rename_i hc
           obtain ⟨rfl,h0,h1,h2⟩ := hc
           injection hd with hd
           subst hd
           have hv := zBg h he
           cases hv with
           | c _ _ hv =>
             generalize a.eval x = u at hv
             cases hv with
             | im _ _ hv =>
               have hempty : ∀ (A : Option Addr) (c : Nat),(h?.getD (rows.length : Int)).toNat = (l?.getD 0).toNat → DV g (.c (.im (.sl sz ((rows.take (h?.getD rows.length).toNat).drop (l?.getD 0).toNat)))) (.slice A ((h?.getD rows.length).toNat - (l?.getD 0).toNat) c) := by
                 intro A c hq
                 have : (rows.take (h?.getD rows.length).toNat).drop (l?.getD 0).toNat = [] := by
                   apply List.drop_eq_nil_of_le
                   simp; omega
                 rw [this,hq,Nat.sub_self]
                 exact .c _ _ (.im _ _ (.sl0 sz A c))
               rcases hv.sl_inv with ⟨h9,A,c,rfl⟩ | ⟨B,off,c,vs,rfl,hc,hlr,hx,hr⟩
               · have hr0 : rows.length = 0 := by rw [h9]; rfl
                 rw [hr0] at h1 h2 hempty ⊢
                 exact ⟨_,zCp ht hk A 0 c _ _ l? h? hL hHi h0 h1 (by omega) (by omega),hempty _ _ (by omega)⟩
               · refine ⟨_,zCp ht hk _ rows.length c _ _ l? h? hL hHi h0 h1 (by omega) (by omega),?_⟩
                 by_cases hq : (h?.getD (rows.length : Int)).toNat = (l?.getD 0).toNat
                 · exact hempty _ _ hq
                 · have hcap : ¬ c = (l?.getD 0).toNat := by omega
                   rw [if_neg hcap]
                   simp only [yaK,zCk]
                   have hlen : ((rows.take (h?.getD rows.length).toNat).drop (l?.getD 0).toNat).length = (h?.getD rows.length).toNat - (l?.getD 0).toNat := by simp; omega
                   rw [← hlen]
                   have hget : ∀ i r,((rows.take (h?.getD rows.length).toNat).drop (l?.getD 0).toNat)[i]? = some r → rows[(l?.getD 0).toNat + i]? = some r := by
                     intro i r hi'
                     rw [List.getElem?_drop,List.getElem?_take] at hi'
                     split at hi'
                     · exact hi'
                     · cases hi'
                   refine .c _ _ (.im _ _ (.sl sz _ B _ _ (fun i j => vs ((l?.getD 0).toNat + i) j) (by rw [hlen]; omega) (fun i r hi' => hlr _ r (hget i r hi')) (fun i r j x hi' hj => ?_) (fun i r j x hi' hj => hr _ r j x (hget i r hi') hj)))
                   have := hx _ r j x (hget i r hi') hj
                   rw [Nat.add_mul] at this
                   rwa [Nat.add_assoc off]
         · cases hd
       · rename_i he
         split at hd
         · rename_i hc
           obtain ⟨h0,h1⟩ := hc
           injection hd with hd
           subst hd
           have hv := zBg h he
           cases hv with
           | c _ _ hv =>
             generalize a.eval x = u at hv
             cases hv with
             | nil =>
               have h1' : h?.getD ((0 : Nat) : Int) = 0 := h1
               refine ⟨_,zCp ht hk none 0 0 _ _ l? h? hL hHi (by omega) (by omega) (by omega) (by omega),.c _ _ ?_⟩
               rw [h0,h1']
               exact .nil
         · cases hd
       · cases hd
     · cases hd
   · cases hd
 · cases hd
end Go.SX
namespace Go.SX
open Go Go.RowKit
variable {en : En} {g : Gh} {S : Nat → Option D} {H : Nat → Option Root} {a : Act} {w : World} {P : Program}
def dCs : D → Option (List C)
 | .c x => some [x]
 | .agg xs => some xs
 | .tup _ => none
theorem zKa {d : D} {cs : List C} {v : Value} (h : DV g d v) (hd : dCs d = some cs) : CVs g cs v.cells.toList := by
 cases h with
 | c x _ hx => simp only [dCs,yay] at hd; subst hd; rw [hx.cells]; exact .cons hx .nil
 | agg xs vs hs hr => simp only [dCs,yay] at hd; subst hd; exact ⟨by simpa [Value.cells] using hs,fun j x v hj hv => hr j x v hj (by simpa [Value.cells] using hv)⟩
 | tup => simp [dCs] at hd
def mapCV : List Value → Option (List C)
 | [] => some []
 | v :: vs => match cV v with
   | some c => match mapCV vs with
     | some cs => some (c :: cs)
     | none => none
   | none => none
theorem zDx : ∀ {vs : List Value} {cs : List C},mapCV vs = some cs → CVs g cs vs
 | [],cs,h => by simp only [mapCV,yay] at h; subst h; exact .nil
 | v :: vs,cs,h => by
   simp only [mapCV] at h
   split at h
   · rename_i c hc
     split at h
     · rename_i cs' hcs
       injection h with h
       subst h
       exact .cons (zBq1 hc) (zDx hcs)
     · cases h
   · cases h
def tzr (P : Program) (t : TypeId) : Option (List C) := match P.info? t with
 | some i => match i.zero with
   | some z => mapCV z.cells.toList
   | none => none
 | none => none
theorem zUc {t : TypeId} {cs : List C} (h : tzr P t = some cs) : ∃ z,(∀ w,(zeroValue t).run P w = .ok z w) ∧ CVs g cs z.cells.toList := by
 unfold tzr at h
 split at h
 · rename_i i hi
   split at h
   · rename_i z hz
     exact ⟨z,fun w => by simp [zeroValue,typeInfo,hi,hz],zDx h⟩
   · cases h
 · cases h
def setL : List C → Nat → List C → List C
 | cs,_,[] => cs
 | cs,o,x :: xs => setL (cs.set o x) (o + 1) xs
theorem CVs.set {cs : List C} {vs : List Value} (h : CVs g cs vs) {x : C} {v : Value} (hx : CV g x v) (o : Nat) : CVs g (cs.set o x) (vs.set o v) := by
 refine ⟨by simp [h.1],fun j y u hy hu => ?_⟩
 rw [List.getElem?_set] at hy hu
 split at hy
 · rename_i e
   subst e
   rw [if_pos rfl] at hu
   split at hy
   · rw [if_pos (by rw [h.1]; assumption)] at hu
     injection hy with hy; injection hu with hu
     subst hy; subst hu; exact hx
   · cases hy
 · rename_i e
   rw [if_neg e] at hu
   exact h.2 j y u hy hu
theorem zAv1 : ∀ (l : List Value) (xs : List C) (k off : Nat) (cs : List C) (A : Array Value),CVs g xs l → CVs g cs A.toList →
   CVs g (setL cs (off + k) xs) ((l.zipIdx k).foldl (fun (cs : Array Value) (p : Value × Nat) => cs.setIfInBounds (off + p.2) p.1) A).toList
 | [],xs,k,off,cs,A,h,hA => by
   have : xs = [] := List.eq_nil_of_length_eq_zero h.1.symm
   subst this
   simpa [setL] using hA
 | v :: l,[],k,off,cs,A,h,hA => by have := h.1; simp at this
 | v :: l,x :: xs,k,off,cs,A,h,hA => by
   simp only [List.zipIdx_cons,List.foldl_cons,setL]
   have h1 : CV g x v := h.2 0 x v rfl rfl
   have h2 : CVs g xs l := ⟨by have := h.1; simpa using this,fun j y u hy hu => h.2 (j + 1) y u (by simpa using hy) (by simpa using hu)⟩
   have := zAv1 l xs (k + 1) off (cs.set (off + k) x) (A.setIfInBounds (off + k) v) h2 (by rw [Array.toList_setIfInBounds]; exact hA.set h1 _)
   rwa [← Nat.add_assoc] at this
def partsD (place : Nat → Option (Nat × Nat)) (S : Nat → Option D) : List (Nat × Operand) → List C → Option (List C)
 | [],cs => some cs
 | (i,x) :: r,cs => match place i with
   | some (off,size) => match ev S x with
     | some d => match dCs d with
       | some xs => if xs.length = size ∧ off + size ≤ cs.length then partsD place S r (setL cs off xs) else none
       | none => none
     | none => none
   | none => none
theorem zLj (h : Rel en g S H a w) {place place' : Nat → Option (Nat × Nat)} (hp : ∀ i p,place i = some p → place' i = some p) : ∀ (l : List (Nat × Operand)) (cs cs' : List C) (A : Array Value),CVs g cs A.toList → partsD place S l cs = some cs' →
   ∃ A',Instr.fill place' A (l.map fun (p : Nat × Operand) => (p.1,a.eval p.2)) = some A' ∧ CVs g cs' A'.toList
 | [],cs,cs',A,hA,hd => by simp only [partsD,yay] at hd; subst hd; exact ⟨A,rfl,hA⟩
 | (i,x) :: r,cs,cs',A,hA,hd => by
   simp only [partsD] at hd
   split at hd
   · rename_i off size hpl
     split at hd
     · rename_i d he
       split at hd
       · rename_i xs hxs
         split at hd
         · rename_i hc
           have hcv := zKa (zBg h he) hxs
           have hsz : (a.eval x).cells.size = size := by rw [← hc.1,← hcv.1]; simp
           have hAs : A.size = cs.length := by rw [← hA.1]; simp
           have hstep := zAv1 (a.eval x).cells.toList xs 0 off cs A hcv hA
           have e1 : (a.eval x).cells.zipIdx.foldl (fun (cs : Array Value) (p : Value × Nat) => cs.setIfInBounds (off + p.2) p.1) A = ((a.eval x).cells.toList.zipIdx 0).foldl (fun (cs : Array Value) (p : Value × Nat) => cs.setIfInBounds (off + p.2) p.1) A := by
             rw [← Array.foldl_toList]; simp
           obtain ⟨A',h1,h2⟩ := zLj h hp r (setL cs off xs) cs' _ (by rw [Nat.add_zero] at hstep; exact hstep) hd
           refine ⟨A',?_,h2⟩
           simp only [List.map_cons,Instr.fill,hp i _ hpl,hsz,hAs]
           have h5 : (size != size || decide (cs.length < off + size)) = false := by simp; omega
           rw [if_neg (by simp; omega)]
           rw [← e1] at h1
           exact h1
         · cases hd
       · cases hd
     · cases hd
   · cases hd
def buildD (P : Program) (t : TypeId) (S : Nat → Option D) (parts : List (Nat × Operand)) : Option D :=
 match tzr P t with
 | some z => match partsD (fun i => match tfd P t i with
     | some (o,ft) => match tsz P ft with
       | some k => some (o,k)
       | none => none
     | none => none) S parts z with
   | some cs => some (.agg cs)
   | none => none
 | none => none
def tok (P : Program) (t : TypeId) : Bool := match P.underlying t with
 | some (.struct fs) => fs.all fun f => (P.info? f.type).isSome
 | _ => false
theorem zBu1 {t : TypeId} (h : tok P t = true) : ∃ fs places,P.underlying t = some (.struct fs) ∧ (∀ w,(fs.mapM fun f => Prod.mk f.offset <$> sizeOf f.type).run P w = .ok places w) ∧
   ∀ i o ft k,tfd P t i = some (o,ft) → tsz P ft = some k → places[i]? = some (o,k) := by
 unfold tok at h
 split at h
 · rename_i fs hu
   have hall : ∀ f ∈ fs.toList,∃ i,P.info? f.type = some i := fun f hf => by
     have := Array.all_eq_true_iff_forall_mem.1 h f (by simpa using hf)
     exact Option.isSome_iff_exists.1 this
   have hm : ∀ l : List Field,(∀ f ∈ l,∃ i,P.info? f.type = some i) → ∃ pl,l.mapM (fun (f : Field) => (P.info? f.type).map fun i => (f.offset,i.size)) = some pl ∧
       ∀ (i : Nat) (f : Field) (k : Nat),l[i]? = some f → tsz P f.type = some k → pl[i]? = some (f.offset,k) := by
     intro l
     induction l with
     | nil => intro _; exact ⟨[],rfl,fun i f k h => by simp at h⟩
     | cons f l ih =>
       intro hl
       obtain ⟨i0,hi0⟩ := hl f (by simp)
       obtain ⟨pl,h1,h2⟩ := ih (fun f' hf' => hl f' (by simp [hf']))
       refine ⟨(f.offset,i0.size) :: pl,by simp [List.mapM_cons,hi0,h1],fun i f' k hf' hk => ?_⟩
       cases i with
       | zero =>
         simp at hf'
         subst hf'
         simp only [tsz,hi0,yay] at hk
         simp [hk]
       | succ i => simp at hf' ⊢; exact h2 i f' k hf' hk
   obtain ⟨pl,h1,h2⟩ := hm fs.toList hall
   refine ⟨fs,pl.toArray,hu,fun w => ?_,fun i o ft k hf hk => ?_⟩
   · rw [Array.mapM_eq_mapM_toList]
     simp [run_places w _ _ h1]
   · obtain ⟨fs',fd,hu',hfd,rfl,rfl⟩ := zNd hf
     rw [hu] at hu'
     injection hu' with hu'
     injection hu' with hu'
     subst hu'
     simpa using h2 i fd k (by simpa using hfd) hk
 · cases h
theorem zXo (h : Rel en g S H a w) {t : TypeId} {parts : Array (Nat × Operand)} {d : D} (ht : tok P t = true) (hd : buildD P t S parts.toList = some d) :
   ∃ v,(Instr.build t (parts.map fun (p : Nat × Operand) => (p.1,a.eval p.2))).run P w = .ok v w ∧ DV g d v := by
 unfold buildD at hd
 split at hd
 · rename_i z hz
   split at hd
   · rename_i cs hcs
     injection hd with hd
     subst hd
     obtain ⟨zv,hzr,hzc⟩ := zUc (g := g) hz
     obtain ⟨fs,places,hu,hpl,hp⟩ := zBu1 ht
     obtain ⟨A',h1,h2⟩ := zLj h (place' := fun i => places[i]?) (fun i p hi => by
       split at hi
       · rename_i o ft hf
         split at hi
         · rename_i k hk
           injection hi with hi
           subst hi
           exact hp i o ft k hf hk
         · cases hi
       · cases hi) parts.toList z cs zv.cells hzc hcs
     refine ⟨.agg A',?_,.agg _ _ (by have := h2.1; simpa using this) (fun j x v hj hv => h2.2 j x v hj (by simpa using hv))⟩
     have e1 : (Array.map (fun (p : Nat × Operand) => (p.1,a.eval p.2)) parts).toList = parts.toList.map fun (p : Nat × Operand) => (p.1,a.eval p.2) := by simp
     simp [Instr.build,hzr,run_underlying hu,hpl,h1]
   · cases hd
 · cases hd
def evCs (S : Nat → Option D) : List Operand → Option (List C)
 | [] => some []
 | x :: xs => match evC S x with
   | some c => match evCs S xs with
     | some cs => some (c :: cs)
     | none => none
   | none => none
theorem zQt (h : Rel en g S H a w) : ∀ {xs : List Operand} {cs : List C},evCs S xs = some cs → CVs g cs (xs.map a.eval)
 | [],cs,hd => by simp only [evCs,yay] at hd; subst hd; exact .nil
 | x :: xs,cs,hd => by
   simp only [evCs] at hd
   split at hd
   · rename_i c hc
     split at hd
     · rename_i cs' hcs
       injection hd with hd
       subst hd
       exact .cons (zBn h hc) (zQt h hcs)
     · cases hd
   · cases hd
def isSlT (P : Program) (t : TypeId) : Bool := match P.underlying t with | some (.slice _) => true | _ => false
def isStT (P : Program) (t : TypeId) : Bool := match P.underlying t with | some .string => true | _ => false
def isBoT (P : Program) (t : TypeId) : Bool := match P.underlying t with | some .bool => true | _ => false
def lenD (P : Program) (t : TypeId) (d : Option D) : Option D :=
 match d with
 | some (.c (.view _ _ _ len)) => if isSlT P t then some (.c (.im (.int .i64 len))) else none
 | some (.c (.im (.sl _ rows))) => if isSlT P t then some (.c (.im (.int .i64 rows.length))) else none
 | some (.c .nil) => if isSlT P t then some (.c (.im (.int .i64 0))) else none
 | some (.c (.im (.str s))) => if isStT P t then some (.c (.im (.int .i64 s.size))) else none
 | _ => none
theorem zCn1 {t ty : TypeId} {d d' : D} {v : Value} (hv : DV g d v) (hd : lenD P t (some d) = some d') : ∃ v',(Builtin.len_ #[t] ty #[v]).run P w = .ok v' w ∧ DV g d' v' := by
 have hsl : ∀ {b : TypeId → Bool},isSlT P t = true → ∃ e,P.underlying t = some (.slice e) := by
   intro _ h
   unfold isSlT at h
   split at h
   · exact ⟨_,by assumption⟩
   · cases h
 unfold lenD at hd
 split at hd <;> first
   | (cases hd; done)
   | (rename_i he; injection he with he; subst he; split at hd <;> first
       | (cases hd; done)
       | (rename_i hb; injection hd with hd; subst hd))
 · obtain ⟨e,hu⟩ := hsl (b := fun _ => true) hb
   cases hv with
   | c _ _ hv =>
     cases hv with
     | view0 => exact ⟨_,by simp [Builtin.len_,run_underlying hu,goInt],.c _ _ (.im _ _ (.int _ _))⟩
     | view => exact ⟨_,by simp [Builtin.len_,run_underlying hu,goInt],.c _ _ (.im _ _ (.int _ _))⟩
 · obtain ⟨e,hu⟩ := hsl (b := fun _ => true) hb
   cases hv with
   | c _ _ hv =>
     cases hv with
     | im _ _ hv =>
       rcases hv.sl_inv with ⟨h9,A,c,rfl⟩ | ⟨B,off,c,vs,rfl,_⟩
       · rw [h9]; exact ⟨_,by simp [Builtin.len_,run_underlying hu,goInt],.c _ _ (.im _ _ (.int _ _))⟩
       · exact ⟨_,by simp [Builtin.len_,run_underlying hu,goInt],.c _ _ (.im _ _ (.int _ _))⟩
 · obtain ⟨e,hu⟩ := hsl (b := fun _ => true) hb
   cases hv with
   | c _ _ hv =>
     cases hv with
     | nil => exact ⟨_,by simp [Builtin.len_,run_underlying hu,goInt],.c _ _ (.im _ _ (.int _ _))⟩
 · have hu : P.underlying t = some .string := by
     unfold isStT at hb
     split at hb
     · assumption
     · cases hb
   cases hv with
   | c _ _ hv =>
     cases hv with
     | im _ _ hv => cases hv.str_inv; exact ⟨_,by simp [Builtin.len_,run_underlying hu,goInt],.c _ _ (.im _ _ (.int _ _))⟩
def biD (b : Builtin) (xs : List I) : Option I :=
 match b,xs with
 | .real,[.cpx k x _] => some (.flt k x)
 | .imag,[.cpx k _ y] => some (.flt k y)
 | .complex,[.flt k x,.flt k' y] => if k = k' then some (.cpx k x y) else none
 | .max,[.int k x,.int _ y] => some (.int k (if y > x then y else x))
 | .min,[.int k x,.int _ y] => some (.int k (if y < x then y else x))
 | _,_ => none
def evIs (S : Nat → Option D) : List Operand → Option (List I)
 | [] => some []
 | x :: xs => match evI S x with
   | some c => match evIs S xs with
     | some cs => some (c :: cs)
     | none => none
   | none => none
theorem zTf (h : Rel en g S H a w) {xs : List Operand} {i : I} (hd : evIs S xs = some [i]) : ∃ x,xs = [x] ∧ IR g.fz i (a.eval x) := by
 match xs,hd with
 | [],hd => simp [evIs] at hd
 | [x],hd =>
   simp only [evIs] at hd
   split at hd
   · rename_i c hc
     simp only [yay,List.cons.injEq,and_true] at hd
     subst hd
     exact ⟨x,rfl,zBj h hc⟩
   · cases hd
 | x :: y :: zs,hd =>
   simp only [evIs] at hd
   split at hd
   · split at hd
     · rename_i h1
       split at h1
       · split at h1
         · injection h1 with h1; subst h1; injection hd with hd; cases hd
         · cases h1
       · cases h1
     · cases hd
   · cases hd
theorem zTe (h : Rel en g S H a w) {xs : List Operand} {i j : I} (hd : evIs S xs = some [i,j]) : ∃ x y,xs = [x,y] ∧ IR g.fz i (a.eval x) ∧ IR g.fz j (a.eval y) := by
 match xs,hd with
 | [],hd => simp [evIs] at hd
 | x :: ys,hd =>
   simp only [evIs] at hd
   split at hd
   · rename_i c hc
     split at hd
     · rename_i cs hcs
       simp only [yay,List.cons.injEq] at hd
       obtain ⟨rfl,rfl⟩ := hd
       obtain ⟨y,rfl,hy⟩ := zTf h hcs
       exact ⟨x,y,rfl,zBj h hc,hy⟩
     · cases hd
   · cases hd
theorem zJi1 (P : Program) (w : World) (ts : Array TypeId) (ty : TypeId) (cs : Array Bool) (k : FloatKind) (x y : Nat) : (builtin .real ts ty cs #[.complex k x y]).run P w = .ok (.value (.float k x)) w := rfl
theorem zJk1 (P : Program) (w : World) (ts : Array TypeId) (ty : TypeId) (cs : Array Bool) (k : FloatKind) (x y : Nat) : (builtin .imag ts ty cs #[.complex k x y]).run P w = .ok (.value (.float k y)) w := rfl
theorem zYb (P : Program) (w : World) (ts : Array TypeId) (ty : TypeId) (cs : Array Bool) (k : FloatKind) (x y : Nat) : (builtin .complex ts ty cs #[.float k x,.float k y]).run P w = .ok (.value (.complex k x y)) w := by cases k <;> rfl
theorem zIb1 (h : Rel en g S H a w) {b : Builtin} {xs : List Operand} {is : List I} {z : I} {ts : Array TypeId} {ty : TypeId} {cs : Array Bool} (hi : evIs S xs = some is) (hd : biD b is = some z) :
   ∃ v,(builtin b ts ty cs (xs.map a.eval).toArray).run P w = .ok (.value v) w ∧ IR g.fz z v := by
 unfold biD at hd
 split at hd
 · injection hd with hd; subst hd
   obtain ⟨x,rfl,hx⟩ := zTf h hi
   obtain ⟨x',y',hv,h1,h2⟩ := hx.cpx_inv
   refine ⟨_,?_,.flt _ _ _ h1⟩
   simp only [List.map_cons,yaE,hv]
   exact zJi1 ..
 · injection hd with hd; subst hd
   obtain ⟨x,rfl,hx⟩ := zTf h hi
   obtain ⟨x',y',hv,h1,h2⟩ := hx.cpx_inv
   refine ⟨_,?_,.flt _ _ _ h2⟩
   simp only [List.map_cons,yaE,hv]
   exact zJk1 ..
 · split at hd
   · rename_i hk; subst hk
     injection hd with hd; subst hd
     obtain ⟨x,y,rfl,hx,hy⟩ := zTe h hi
     obtain ⟨x',hv,h1⟩ := hx.flt_inv
     obtain ⟨y',hv',h2⟩ := hy.flt_inv
     refine ⟨_,?_,.cpx _ _ _ _ _ h1 h2⟩
     simp only [List.map_cons,yaE,hv,hv']
     exact zYb ..
   · cases hd
 · injection hd with hd; subst hd
   obtain ⟨x,y,rfl,hx,hy⟩ := zTe h hi
   exact ⟨_,by simp [builtin,Builtin.max_,Builtin.max2,hx.int_inv,hy.int_inv],.int _ _⟩
 · injection hd with hd; subst hd
   obtain ⟨x,y,rfl,hx,hy⟩ := zTe h hi
   exact ⟨_,by simp [builtin,Builtin.min_,Builtin.min2,hx.int_inv,hy.int_inv],.int _ _⟩
 · cases hd
theorem zPu {t : TypeId} (hu : P.underlying t = some .bool) (b c : Bool) (w : World) : (Op.equal t (.bool b) (.bool c)).run P w = .ok (b == c) w := by
 have h : ∀ d : Nat,(Op.equalIn (d + 1) t (.bool b) (.bool c)).run P w = .ok (b == c) w := fun d => by simp [Op.equalIn,run_underlying hu]
 unfold Op.equal Op.maxDepth
 exact h 9999
def eqBo (P : Program) (op : BinOp) (t : TypeId) (x y : I) : Option I :=
 match op,x,y with
 | .eql,.bool b,.bool c => if isBoT P t then some (.bool (b == c)) else none
 | .neq,.bool b,.bool c => if isBoT P t then some (.bool (!(b == c))) else none
 | _,_,_ => none
def isIntT (P : Program) (t : TypeId) : Bool := match P.underlying t with | some (.int _) => true | _ => false
def isEqT (P : Program) (t : TypeId) : Bool := match P.underlying t with
 | some (.struct fs) => match fs.toList with
   | [f, g] => (f.name != "_") && (g.name != "_") && (f.offset == 0) && (g.offset == 1) && isIntT P f.type && isIntT P g.type && (tag P f.type == some false) && (tag P g.type == some false) && !P.stoodInHeld t && !P.eqGuardType P.depth t
   | _ => false
 | _ => false
def eqAgD (P : Program) (op : BinOp) (t : TypeId) (a b : Option D) : Option D := match op,a,b with
 | .eql,some (.agg [.im (.int .i64 x),.im (.int .i64 y)]),some (.agg [.im (.int .i64 x'),.im (.int .i64 y')]) => if isEqT P t = true then some (.c (.im (.bool (decide (x = x') && decide (y = y'))))) else none
 | .neq,some (.agg [.im (.int .i64 x),.im (.int .i64 y)]),some (.agg [.im (.int .i64 x'),.im (.int .i64 y')]) => if isEqT P t = true then some (.c (.im (.bool (!(decide (x = x') && decide (y = y')))))) else none
 | _,_,_ => none
theorem zAq1 {t : TypeId} (h : isIntT P t = true) : ∃ k,P.underlying t = some (.int k) := by
 unfold isIntT at h
 split at h
 · exact ⟨_,by assumption⟩
 · cases h
theorem zMo {t : TypeId} (h : isEqT P t = true) (x y x' y' : Int) (d : Nat) : (Op.equalIn (d + 2) t (.agg #[.int .i64 x,.int .i64 y]) (.agg #[.int .i64 x',.int .i64 y'])).run P w = .ok (decide (x = x') && decide (y = y')) w ∧ P.eqGuardType P.depth t = false := by
 unfold isEqT at h
 split at h
 · rename_i fs hu
   split at h
   · rename_i f g hfs
     simp only [yaw,bne_iff_ne,ne_eq,beq_iff_eq,Bool.not_eq_true'] at h
     obtain ⟨⟨⟨⟨⟨⟨⟨⟨⟨n1,n2⟩,o1⟩,o2⟩,i1⟩,i2⟩,t1⟩,t2⟩,hs⟩,hg⟩ := h
     obtain ⟨k1,u1⟩ := zAq1 i1
     obtain ⟨k2,u2⟩ := zAq1 i2
     have hfo : P.fieldsOf t = fs := by simp [Program.fieldsOf,hu]
     refine ⟨?_,hg⟩
     rw [run_equalIn_struct w (d + 1) t _ _ (by rw [hfo]; exact hu) hs,hfo,hfs]
     have p1 : ∀ (x x' : Int) w',(Op.equalIn (d + 1) f.type (.int .i64 x) (.int .i64 x')).run P w' = .ok (x == x') w' := fun x x' w' => run_equalIn_int w' d _ .i64 k1 _ _ u1
     have p2 : ∀ (y y' : Int) w',(Op.equalIn (d + 1) g.type (.int .i64 y) (.int .i64 y')).run P w' = .ok (y == y') w' := fun y y' w' => run_equalIn_int w' d _ .i64 k2 _ _ u2
     have q1 : ∀ w',(isAgg f.type).run P w' = .ok false w' := zFm t1
     have q2 : ∀ w',(isAgg g.type).run P w' = .ok false w' := zFm t2
     by_cases e1 : x = x'
     · by_cases e2 : y = y'
       · simp [Op.eqFields,n1,n2,o1,o2,part,q1,q2,p1,p2,e1,e2]
       · simp [Op.eqFields,n1,n2,o1,o2,part,q1,q2,p1,p2,e1,e2]
     · simp [Op.eqFields,n1,o1,part,q1,p1,e1]
   · cases h
 · cases h
theorem zTw {g : Gh} {x y : Int} {u : Value} (h : DV g (.agg [.im (.int .i64 x),.im (.int .i64 y)]) u) : u = .agg #[.int .i64 x,.int .i64 y] := by
 cases h with
 | agg _ vs hs hr =>
   have h0 : (0 : Nat) < vs.size := by rw [hs]; simp
   have h1 : (1 : Nat) < vs.size := by rw [hs]; simp
   have a0 := hr 0 _ _ rfl (Array.getElem?_eq_getElem h0)
   have a1 := hr 1 _ _ rfl (Array.getElem?_eq_getElem h1)
   have b0 : vs[0] = .int .i64 x := by cases a0 with | im _ _ h => exact h.int_inv
   have b1 : vs[1] = .int .i64 y := by cases a1 with | im _ _ h => exact h.int_inv
   congr 1
   apply Array.ext
   · simpa using hs
   · intro i hi hj
     have : i = 0 ∨ i = 1 := by simp at hj; omega
     rcases this with rfl | rfl
     · exact b0
     · exact b1
theorem zDh1 {op : BinOp} {t : TypeId} {x y : Operand} {da db : D} {g : Gh} {u v : Value} {d : D} (h1 : DV g da u) (h2 : DV g db v) (hd : eqAgD P op t (some da) (some db) = some d) :
   ∃ r,(eqGuard op t x y u v).run P w = .ok () w ∧ (binOp op t u v).run P w = .ok r w ∧ DV g d r := by
 unfold eqAgD at hd
 split at hd
 · rename_i e1 e2
   injection e1 with e1; injection e2 with e2
   subst e1; subst e2
   split at hd
   · rename_i hT
     injection hd with hd; subst hd
     have hu := zTw h1; have hv := zTw h2
     subst hu; subst hv
     refine ⟨_,run_eqGuard_agg w _ t x y _ _ (zMo (w := w) hT 0 0 0 0 0).2,?_,.c _ _ (.im _ _ (.bool _))⟩
     · rw [run_eql_struct,(zMo hT _ _ _ _ 9998).1]; rfl
   · cases hd
 · rename_i e1 e2
   injection e1 with e1; injection e2 with e2
   subst e1; subst e2
   split at hd
   · rename_i hT
     injection hd with hd; subst hd
     have hu := zTw h1; have hv := zTw h2
     subst hu; subst hv
     refine ⟨_,run_eqGuard_agg w _ t x y _ _ (zMo (w := w) hT 0 0 0 0 0).2,?_,.c _ _ (.im _ _ (.bool _))⟩
     · rw [run_neq_struct,(zMo hT _ _ _ _ 9998).1]; rfl
   · cases hd
 · cases hd
def indexS (P : Program) (S : Nat → Option D) (t : TypeId) (x i : Operand) : Option D := match evI S x,evI S i with
 | some (.str s),some (.int _ k) => if isStT P t = true ∧ 0 ≤ k then match s[k.toNat]? with
     | some b => some (.c (.im (.int .u8 b.toNat)))
     | none => none
   else none
 | _,_ => none
theorem zYz {t : TypeId} (h : isStT P t = true) : P.underlying t = some .string := by
 unfold isStT at h
 split at h
 · assumption
 · cases h
theorem zWl (h : Rel en g S H a w) {t : TypeId} {x i : Operand} {d : D} (hd : indexS P S t x i = some d) : ∃ v,(Instr.index t (a.eval x) (a.eval i)).run P w = .ok v w ∧ DV g d v := by
 unfold indexS at hd
 split at hd
 · rename_i s k n hx hi
   split at hd
   · rename_i hc
     obtain ⟨ht,h0⟩ := hc
     split at hd
     · rename_i b hb
       injection hd with hd
       subst hd
       have e1 := (zBj h hx).str_inv
       have e2 := (zBj h hi).int_inv
       refine ⟨.int .u8 b.toNat,?_,.c _ _ (.im _ _ (.int _ _))⟩
       rw [e1,e2]
       simp [Instr.index,asIntOf,run_underlying (zYz ht),h0,hb]
     · cases hd
   · cases hd
 · cases hd
def sliceX (P : Program) (t : TypeId) (S : Nat → Option D) (x : Operand) (lo hi : Option Operand) : Option D := match ev S x with
 | some (.c (.im (.str s))) => match optI S lo,optI S hi with
   | some l,some h => if isStT P t = true ∧ 0 ≤ l.getD 0 ∧ l.getD 0 ≤ h.getD s.size ∧ h.getD s.size ≤ s.size then some (.c (.im (.str (s.extract (l.getD 0).toNat (h.getD s.size).toNat)))) else none
   | _,_ => none
 | _ => sliceD P t S x lo hi
theorem zUm (h : Rel en g S H a w) {t : TypeId} {x : Operand} {lo hi : Option Operand} {d : D} (hd : sliceX P t S x lo hi = some d) :
   ∃ v,(Instr.sliceAt t (a.eval x) (lo.map a.eval) (hi.map a.eval) none).run P w = .ok v w ∧ DV g d v := by
 unfold sliceX at hd
 split at hd
 · rename_i s hx
   split at hd
   · rename_i l h' hl hh
     split at hd
     · rename_i hc
       obtain ⟨ht,c1,c2,c3⟩ := hc
       injection hd with hd
       subst hd
       have hu := zYz ht
       have hv : a.eval x = .string s := by
         have := zBg h hx
         cases this with | c _ _ hc => cases hc with | im _ _ hi => exact hi.str_inv
       refine ⟨.string (s.extract (l.getD 0).toNat (h'.getD s.size).toNat),?_,.c _ _ (.im _ _ (.str _))⟩
       rw [hv]
       rcases zKp h hl with ⟨rfl,rfl⟩ | ⟨y,k,n,rfl,rfl,e1⟩ <;> rcases zKp h hh with ⟨rfl,rfl⟩ | ⟨z,k',m,rfl,rfl,e2⟩ <;> simp only [Option.getD_none,yaF,Option.map_none,yaK] at *
       · simp [Instr.sliceAt,Instr.slice,Instr.sliceBounds,run_underlying hu]
       · have q1 : 0 ≤ m := by omega
         rw [e2]
         simp [Instr.sliceAt,Instr.slice,Instr.sliceBounds,Instr.sliceBound,asIntOf,run_underlying hu,q1,c3]
       · have q1 : n ≤ (s.size : Int) := by omega
         rw [e1]
         simp [Instr.sliceAt,Instr.slice,Instr.sliceBounds,Instr.sliceBound,asIntOf,run_underlying hu,q1,c1]
       · have q1 : 0 ≤ m := by omega
         have q2 : n ≤ ((m.toNat : Nat) : Int) := by omega
         rw [e1,e2]
         simp [Instr.sliceAt,Instr.slice,Instr.sliceBounds,Instr.sliceBound,asIntOf,run_underlying hu,q1,q2,c1,c3]
         intro hcon
         omega
     · cases hd
   · cases hd
 · exact zUn h hd
def u8L : Nat → List (List T) → Option (List Int)
 | 0,_ => some []
 | k + 1,[.im (.int .u8 n)] :: rows => match u8L k rows with
   | some ns => some (n :: ns)
   | none => none
 | _ + 1,_ => none
theorem zLr1 : ∀ {k : Nat} {rows : List (List T)} {ns : List Int},u8L k rows = some ns → ns.length = k ∧ ∀ (j : Nat) (n : Int),ns[j]? = some n → rows[j]? = some [.im (.int .u8 n)]
 | 0,rows,ns,h => by
   simp only [u8L,yay] at h
   subst h
   exact ⟨rfl,fun j n hj => by simp at hj⟩
 | k + 1,rows,ns,h => by
   unfold u8L at h
   split at h
   · rename_i heq; cases heq
   · rename_i k' n rows' heq
     split at h
     · rename_i ns' hns
       injection h with h
       subst h
       cases heq
       obtain ⟨h1,h2⟩ := zLr1 hns
       refine ⟨by simp [h1],fun j n' hj => ?_⟩
       cases j with
       | zero => simp at hj; subst hj; rfl
       | succ j => simp at hj; simpa using h2 j n' hj
     · cases h
   · cases h
def bytesS (ns : List Int) : ByteArray := ns.foldl (fun r n => r.push (UInt8.ofNat n.toNat)) ByteArray.empty
def isBsT (P : Program) (t : TypeId) : Bool := match P.underlying t with
 | some (.slice e) => (match P.underlying e with | some (.int .u8) => true | _ => false)
 | _ => false
def strD (P : Program) (S : Nat → Option D) (H : Nat → Option Root) (s d : TypeId) (x : Operand) : Option D := if isBsT P s = true ∧ isStT P d = true then match evC S x with
   | some (.view n 1 0 len) => match H n with
     | some (.arr 1 rows) => match u8L len rows with
       | some ns => some (.c (.im (.str (bytesS ns))))
       | none => none
     | _ => none
   | _ => none
 else none
theorem zBv1 (h : Rel en g S H a w) {s d : TypeId} {x : Operand} {d0 : D} (hd : strD P S H s d x = some d0) : ∃ v,(convert s d (a.eval x)).run P w = .ok v w ∧ DV g d0 v := by
 unfold strD at hd
 split at hd
 rotate_left
 · cases hd
 rename_i hc
 obtain ⟨hs,ht⟩ := hc
 obtain ⟨e,hu,he⟩ : ∃ e,P.underlying s = some (.slice e) ∧ P.underlying e = some (.int .u8) := by
   unfold isBsT at hs
   split at hs
   · rename_i e he
     split at hs
     · exact ⟨e,he,by assumption⟩
     · cases hs
   · cases hs
 have hud := zYz ht
 split at hd
 · rename_i n len hx
   split at hd
   · rename_i rows hr
     split at hd
     · rename_i ns hns
       injection hd with hd
       subst hd
       obtain ⟨h1,h2⟩ := zLr1 hns
       have hv := zBn h hx
       generalize hav : a.eval x = u at hv
       refine ⟨.string (bytesS ns),?_,.c _ _ (.im _ _ (.str _))⟩
       subst h1
       generalize hL : ns.length = L at hv
       cases hv with
       | view0 _ _ _ A hu' =>
         have : ns = [] := List.eq_nil_of_length_eq_zero hL
         subst this
         rw [run_convert_bytes_string w s d e A 0 0 hu he hud]
         cases A with
         | none => simp [Conv.bytesToString,bytesS]
         | some A => exact run_bytesToString w A 0 0 [] (by simp [loadCells,loadCellsFrom])
       | view _ _ _ _ cap hu' hb hl hcap =>
         subst hL
         rw [run_convert_bytes_string w s d e _ _ _ hu he hud]
         refine run_bytesToString w _ _ _ ns ?_
         obtain ⟨_,hR⟩ := h.roots n _ hr
         have hcell : ∀ (j : Nat) (m : Int),ns[j]? = some m → w.cell? ⟨g.rb n,j,none⟩ = some (.int .u8 m) := fun j m hj => by
           cases hR with
           | arr0 sz hs0 hc0 => have := h2 j m hj; simp at this
           | mk _ cs e' hh ho hf hrr =>
             have hg : (Root.arr 1 rows).get j 0 = some (.t (.im (.int .u8 m))) := by simp [Root.get,h2 j m hj]
             obtain ⟨v,hv1,hv2⟩ := hrr j 0 _ hg
             have hv3 : v = .int .u8 m := by cases hv2 with | t _ _ ht => cases ht with | im _ _ _ hi => exact hi.int_inv
             subst hv3
             simp only [Root.sz,hf.1,Nat.zero_add,Nat.mul_one,yaP] at hv1
             simp [World.cell?,hh,hv1]
         have := run_loadCells_list (P := P) (w := w) ⟨g.rb n,0 * 1,none⟩ (ns.map (Value.int .u8)) (fun j v hj => by
           simp only [List.getElem?_map,Option.map_eq_some_iff] at hj
           obtain ⟨m,hm,rfl⟩ := hj
           rw [zCk]
           simpa using hcell j m hm)
         simpa using this
     · cases hd
   · cases hd
 · cases hd
def qv (P : Program) (S : Nat → Option D) (H : Nat → Option Root) (o : Op) : Option D :=
 match o with
 | .move x => ev S x
 | .assign x => ev S x
 | .pick c x y => match evI S c with
   | some (.bool true) => ev S x
   | some (.bool false) => ev S y
   | _ => none
 | .load t x => loadD P t S H x
 | .nilCheck x => match evC S x with
   | some (.ptr n sz i off) => some (.c (.ptr n sz i off))
   | some (.iptr row off) => some (.c (.iptr row off))
   | _ => none
 | .binOp op t x y _ => match evI S x,evI S y with
   | some i,some j => match binI op i j with
     | some z => some (.c (.im z))
     | none => match eqBo P op t i j with
       | some z => some (.c (.im z))
       | none => none
   | _,_ => eqAgD P op t (ev S x) (ev S y)
 | .unOp op _ x => match evI S x with
   | some i => match unI op i with
     | some z => some (.c (.im z))
     | none => none
   | none => none
 | .convert s d x => match P.underlying s,P.underlying d,evI S x with
   | some _,some dd,some i => match convI dd i with
     | some z => some (.c (.im z))
     | none => none
   | _,_,_ => strD P S H s d x
 | .fieldAddr s x f => fieldAddrD P s S x f
 | .field s x f => fieldD P s S x f
 | .indexAddr t x i => indexAddrD P t S x i
 | .slice t x lo hi none => sliceX P t S x lo hi
 | .index t x i => indexS P S t x i
 | .extract x k => match ev S x with
   | some (.tup ds) => ds[k]?
   | _ => none
 | .makeFunc f first caps => match first.toList with
   | [] => match evCs S caps.toList with
     | some cs => some (.c (.fn f cs))
     | none => none
   | _ => none
 | .build t parts => if tok P t then buildD P t S parts.toList else none
 | .call { callee := .builtin .len,args := args,argTypes := ts } => match args.toList,ts.toList with
   | [x],[t] => lenD P t (ev S x)
   | _,_ => none
 | .call { callee := .builtin b,args := args,argTypes := ts } => match evIs S args.toList with
   | some is => match biD b is with
     | some z => some (.c (.im z))
     | none => none
   | none => none
 | _ => none
theorem zDg1 {op : BinOp} {t : TypeId} {x y : Operand} {u v : Value} {i j z : I} {fz : Nat → Nat → Option Value} (hu : IR fz i u) (hz : binI op i j = some z) : eqGuard op t x y u v = pure () := by
 cases i with
 | int => cases hu.int_inv; exact eqGuard_at_int ..
 | flt => obtain ⟨_,rfl,_⟩ := hu.flt_inv; exact eqGuard_at_float ..
 | cpx => obtain ⟨_,_,rfl,_⟩ := hu.cpx_inv; exact eqGuard_at_complex ..
 | str => cases hu.str_inv; exact eqGuard_at_string ..
 | _ => cases j <;> simp [binI] at hz
theorem zZx (h : Rel en g S H a w) {o : Oper} {d : D} (hd : qv P S H o.op = some d) : ∃ v w',(execOp a.eval o).run P w = .ok (.value v) w' ∧ Qt w w' ∧ DV g d v := by
 obtain ⟨dst,op,type,pos,after,guard⟩ := o
 simp only at hd
 unfold qv at hd
 split at hd
 case h_1 x => exact ⟨_,w,by simp [execOp],Qt.refl w,zBg h hd⟩
 case h_2 x => exact ⟨_,w,by simp [execOp],Qt.refl w,zBg h hd⟩
 case h_3 c x y =>
   split at hd
   · rename_i hc
     exact ⟨_,w,by simp [execOp,(zBj h hc).bool_inv,asBool],Qt.refl w,zBg h hd⟩
   · rename_i hc
     exact ⟨_,w,by simp [execOp,(zBj h hc).bool_inv,asBool],Qt.refl w,zBg h hd⟩
   · cases hd
 case h_4 t x =>
   obtain ⟨v,h1,h2⟩ := zOl h hd
   exact ⟨v,w,by simp [execOp,h1],Qt.refl w,h2⟩
 case h_5 x =>
   split at hd
   · rename_i hc
     have hv := zBn h hc
     injection hd with hd; subst hd
     generalize hx : a.eval x = u at hv
     cases hv with
     | ptr _ _ _ _ hu => exact ⟨_,w,by simp [execOp,hx],Qt.refl w,.c _ _ (.ptr _ _ _ _ hu)⟩
   · rename_i hc
     have hv := zBn h hc
     injection hd with hd; subst hd
     generalize hx : a.eval x = u at hv
     cases hv with
     | iptr _ _ _ _ _ h1 h2 => exact ⟨_,w,by simp [execOp,hx],Qt.refl w,.c _ _ (.iptr _ _ _ _ _ h1 h2)⟩
   · cases hd
 case h_6 op t x y ty =>
   split at hd
   · rename_i i j hi hj
     split at hd
     · rename_i z hz
       injection hd with hd; subst hd
       have h1 := zBj h hi
       have h2 := zBj h hj
       obtain ⟨v,w',h3,h4,h5⟩ := zOf1 (P := P) (w := w) (t := t) h1 h2 hz
       exact ⟨v,w',by simp [execOp,zDg1 (x := x) (y := y) (t := t) (v := a.eval y) h1 hz,h3],h4,.c _ _ (.im _ _ h5)⟩
     · split at hd
       · rename_i z hz
         injection hd with hd; subst hd
         have h1 := zBj h hi
         have h2 := zBj h hj
         have hbo : isBoT P t = true → P.underlying t = some .bool := fun hb => by
           unfold isBoT at hb
           split at hb
           · assumption
           · cases hb
         unfold eqBo at hz
         split at hz <;> first
           | (cases hz; done)
           | (split at hz <;> first
               | (cases hz; done)
               | (rename_i hb; injection hz with hz; subst hz
                  refine ⟨_,w,?_,Qt.refl w,.c _ _ (.im _ _ (.bool _))⟩
                  simp [execOp,h1.bool_inv,h2.bool_inv,eqGuard_at_bool,binOp,zPu (hbo hb)]))
       · cases hd
   · cases hx : ev S x with
     | none => rw [hx] at hd; cases op <;> cases hd
     | some da => cases hy : ev S y with
       | none => rw [hx,hy] at hd; simp [eqAgD] at hd
       | some db =>
         rw [hx,hy] at hd
         obtain ⟨r,g1,g2,g3⟩ := zDh1 (P := P) (w := w) (x := x) (y := y) (zBg h hx) (zBg h hy) hd
         exact ⟨r,w,by simp [execOp,g1,g2],Qt.refl w,g3⟩
 case h_7 op t x =>
   split at hd
   · rename_i i hi
     split at hd
     · rename_i z hz
       injection hd with hd; subst hd
       obtain ⟨v,h1,h2⟩ := zQq1 (P := P) (w := w) (zBj h hi) hz
       exact ⟨v,w,by simp [execOp,h1],Qt.refl w,.c _ _ (.im _ _ h2)⟩
     · cases hd
   · cases hd
 case h_8 s dt x =>
   split at hd
   · rename_i ds dd i hs hdd hi
     split at hd
     · rename_i z hz
       injection hd with hd; subst hd
       obtain ⟨v,w',h1,h2,h3⟩ := zJl1 (P := P) (w := w) hs hdd (zBj h hi) hz
       exact ⟨v,w',by simp [execOp,h1],h2,.c _ _ (.im _ _ h3)⟩
     · cases hd
   · obtain ⟨v,h1,h2⟩ := zBv1 (P := P) h hd
     exact ⟨v,w,by simp [execOp,h1],Qt.refl w,h2⟩
 case h_9 s x f =>
   obtain ⟨v,h1,h2⟩ := zMk h hd
   exact ⟨v,w,by simp [execOp,h1],Qt.refl w,h2⟩
 case h_10 s x f =>
   obtain ⟨v,h1,h2⟩ := zWt h hd
   exact ⟨v,w,by simp [execOp,h1],Qt.refl w,h2⟩
 case h_11 t x i =>
   obtain ⟨v,h1,h2⟩ := zMj h hd
   exact ⟨v,w,by simp [execOp,h1],Qt.refl w,h2⟩
 case h_12 t x lo hi =>
   obtain ⟨v,h1,h2⟩ := zUm h hd
   exact ⟨v,w,by simp [execOp,h1],Qt.refl w,h2⟩
 case h_13 t x i =>
   obtain ⟨v,h1,h2⟩ := zWl (P := P) h hd
   exact ⟨v,w,by simp [execOp,h1],Qt.refl w,h2⟩
 case h_14 x k =>
   split at hd
   · rename_i ds hds
     have hv := zBg h hds
     generalize hx : a.eval x = u at hv
     cases hv with
     | tup _ vs hs hr =>
       have hlt : k < vs.size := by rw [hs]; exact (List.getElem?_eq_some_iff.1 hd).1
       exact ⟨vs[k],w,by simp [execOp,hx,Instr.extract,Array.getElem?_eq_getElem hlt],Qt.refl w,hr k d _ hd (Array.getElem?_eq_getElem hlt)⟩
   · cases hd
 case h_15 f first caps =>
   split at hd
   · rename_i hf
     split at hd
     · rename_i cs hcs
       injection hd with hd; subst hd
       have hfirst : first = #[] := by simpa using hf
       subst hfirst
       have hcv := zQt h hcs
       refine ⟨.func f #[] (caps.map a.eval),w,by simp [execOp,Instr.makeFunc],Qt.refl w,.c _ _ (.fn _ _ _ ?_ (fun j x v hj hv => ?_))⟩
       · have := hcv.1; simpa using this
       · refine hcv.2 j x v hj ?_
         have : (caps.map a.eval).toList[j]? = some v := by simpa using hv
         simpa using this
     · cases hd
   · cases hd
 case h_16 t parts =>
   split at hd
   · rename_i ht
     obtain ⟨v,h1,h2⟩ := zXo h ht hd
     exact ⟨v,w,by simp [execOp,h1],Qt.refl w,h2⟩
   · cases hd
 case h_17 args ts =>
   split at hd
   · rename_i x t hx ht
     have hx' : args = #[x] := by rw [← Array.toList_inj]; simpa using hx
     have ht' : ts = #[t] := by rw [← Array.toList_inj]; simpa using ht
     subst hx'; subst ht'
     cases he : ev S x with
     | none => rw [he] at hd; simp [lenD] at hd
     | some d0 =>
       rw [he] at hd
       obtain ⟨v,h1,h2⟩ := zCn1 (w := w) (ty := type) (zBg h he) hd
       exact ⟨v,w,by simp [execOp,resolve,invoke,builtin,h1],Qt.refl w,h2⟩
   · cases hd
 case h_18 b args ts hne =>
   split at hd
   · rename_i is hi
     split at hd
     · rename_i z hz
       injection hd with hd; subst hd
       obtain ⟨v,h1,h2⟩ := zIb1 (P := P) (ts := ts) (ty := type) (cs := args.map fun | .const _ => true | _ => false) h hi hz
       refine ⟨v,w,?_,Qt.refl w,.c _ _ (.im _ _ h2)⟩
       have : (args.toList.map a.eval).toArray = args.map a.eval := by rw [← Array.toList_map]
       rw [this] at h1
       simp only [execOp,resolve,invoke,Sem.run_bind,Sem.run_pure,Result.andThen_ok]
       exact h1
     · cases hd
   · cases hd
 case h_19 => cases hd
end Go.SX
namespace Go.SX
open Go Go.RowKit
variable {en : En} {g : Gh} {S : Nat → Option D} {H : Nat → Option Root} {a : Act} {w : World} {P : Program}
def toT : C → Option T
 | .im i => some (.im i)
 | .nil => some .nil
 | .view n sz 0 len => some (.lent n sz len)
 | _ => none
def toB (c : C) : B := match toT c with
 | some t => .t t
 | none => .v c
theorem zUd {c : C} {t : T} {v : Value} (h : CV g c v) (ht : toT c = some t) (w : World) (n : Nat) (q : Pth) : TR w g n q t v := by
 unfold toT at ht
 split at ht <;> first
   | (cases ht; done)
   | (injection ht with ht; subst ht)
 · cases h with | im _ _ h => exact .im _ _ _ h
 · cases h; exact .nil _
 · exact .lent _ _ _ _ _ h
theorem zUe {c : C} {v : Value} (h : CV g c v) (w : World) (n : Nat) (q : Pth) : BR w g n q (toB c) v := by
 unfold toB
 split
 · rename_i t ht; exact .t _ _ (zUd h ht w n q)
 · exact .v _ _ h
structure Made (en : En) (g g' : Gh) (nm : Nat) (S : Nat → Option D) (H' : Nat → Option Root) (a : Act) (w' : World) (d : D) (v : Value) : Prop where
 le : g.le g'
 us : ∀ m,g'.used m → m = nm ∨ g.used m
 rel : Rel en g' S H' a w'
 val : DV g' d v
theorem zFg1 (h : Rel en g S H a w) {nm : Nat} (hn : ¬ g.used nm) {cs : List C} {vs : List Value} (hc : CVs g cs vs) (e : TypeId) :
   Made en g (g.new nm w.heap.size vs.toArray.size) nm S (upd H nm (some (.box (cs.map toB)))) a (w.alloc (.cells vs.toArray e)) (.c (.ptr nm 0 0 0)) (.pointer (some ⟨w.heap.size,0,none⟩)) := by
 have hle := Gh.new_le (g := g) (nm := nm) (b := w.heap.size) (size := vs.toArray.size) hn
 refine ⟨hle,fun m hm => hm,h.new hn _ _ (.mk _ vs.toArray e ?_ ?_ trivial (fun i j x hx => ?_)),.c _ _ ?_⟩
 · rw [show (g.new nm w.heap.size vs.toArray.size).rb nm = w.heap.size from zBc _ _ _]; exact heap_alloc_new w _
 · rw [show (g.new nm w.heap.size vs.toArray.size).rb nm = w.heap.size from zBc _ _ _]; exact zBc _ _ _
 · cases i with
   | succ i => simp [Root.get] at hx
   | zero =>
     simp only [Root.get,List.getElem?_map,Option.map_eq_some_iff] at hx
     obtain ⟨c,hj,rfl⟩ := hx
     have hlt : j < vs.length := by rw [hc.1]; exact (List.getElem?_eq_some_iff.1 hj).1
     refine ⟨vs[j],?_,zUe ((hc.2 j c _ hj (List.getElem?_eq_getElem hlt)).mono hle) _ _ _⟩
     rw [show (g.new nm w.heap.size vs.toArray.size).base nm = 0 from zBc _ _ _]
     simp [Root.sz,List.getElem?_eq_getElem hlt]
 · have := CV.ptr (g := g.new nm w.heap.size vs.toArray.size) nm 0 0 0 (.inl rfl)
   rw [show (g.new nm w.heap.size vs.toArray.size).rb nm = w.heap.size from zBc _ _ _,show (g.new nm w.heap.size vs.toArray.size).base nm = 0 from zBc _ _ _] at this
   simpa using this
def mapT : List C → Option (List T)
 | [] => some []
 | c :: cs => match toT c with
   | some t => match mapT cs with
     | some ts => some (t :: ts)
     | none => none
   | none => none
theorem zSd : ∀ {cs : List C} {ts : List T},mapT cs = some ts → ts.length = cs.length ∧ ∀ (j : Nat) (t : T),ts[j]? = some t → ∃ c,cs[j]? = some c ∧ toT c = some t
 | [],ts,h => by simp only [mapT,yay] at h; subst h; exact ⟨rfl,fun j t ht => by simp at ht⟩
 | c :: cs,ts,h => by
   simp only [mapT] at h
   split at h
   · rename_i t ht
     split at h
     · rename_i ts' hts
       injection h with h
       subst h
       obtain ⟨h1,h2⟩ := zSd hts
       refine ⟨by simp [h1],fun j u hu => ?_⟩
       cases j with
       | zero => simp at hu; subst hu; exact ⟨c,rfl,ht⟩
       | succ j => simp at hu ⊢; exact h2 j u hu
     · cases h
   · cases h
def mapTs : List (List C) → Option (List (List T))
 | [] => some []
 | r :: rs => match mapT r with
   | some t => match mapTs rs with
     | some ts => some (t :: ts)
     | none => none
   | none => none
theorem zAe1 : ∀ {cs : List (List C)} {ts : List (List T)},mapTs cs = some ts → ts.length = cs.length ∧ ∀ (j : Nat) (t : List T),ts[j]? = some t → ∃ c,cs[j]? = some c ∧ mapT c = some t
 | [],ts,h => by simp only [mapTs,yay] at h; subst h; exact ⟨rfl,fun j t ht => by simp at ht⟩
 | c :: cs,ts,h => by
   simp only [mapTs] at h
   split at h
   · rename_i t ht
     split at h
     · rename_i ts' hts
       injection h with h
       subst h
       obtain ⟨h1,h2⟩ := zAe1 hts
       refine ⟨by simp [h1],fun j u hu => ?_⟩
       cases j with
       | zero => simp at hu; subst hu; exact ⟨c,rfl,ht⟩
       | succ j => simp at hu ⊢; exact h2 j u hu
     · cases h
   · cases h
def Flat (g : Gh) (sz : Nat) (rows : List (List C)) (A : Array Value) : Prop :=
 A.size = rows.length * sz ∧ (∀ (i : Nat) (r : List C),rows[i]? = some r → r.length = sz) ∧ ∀ (i : Nat) (r : List C) (j : Nat) (c : C),rows[i]? = some r → r[j]? = some c → ∃ v,A[i * sz + j]? = some v ∧ CV g c v
def TF (g : Gh) (x : T) (v : Value) : Prop := ∃ c,toT c = some x ∧ CV g c v
theorem TF.tr {x : T} {v : Value} (h : TF g x v) (w : World) (n : Nat) (q : Pth) : TR w g n q x v := by obtain ⟨c,h1,h2⟩ := h; exact zUd h2 h1 w n q
theorem TF.mono {g' : Gh} (hg : g.le g') {x : T} {v : Value} (h : TF g x v) : TF g' x v := by obtain ⟨c,h1,h2⟩ := h; exact ⟨c,h1,h2.mono hg⟩
theorem TF.one {x : T} {v : Value} (h : TF g x v) : v.oneCell' = true := by obtain ⟨c,h1,h2⟩ := h; exact h2.one
theorem zFh1 (h : Rel en g S H a w) {nm : Nat} (hn : ¬ g.used nm) {sz : Nat} {rows : List (List T)} {A : Array Value} (hz : ∀ (i : Nat) (r : List T),rows[i]? = some r → r.length = sz)
   (hr : ∀ (i : Nat) (r : List T) (j : Nat) (x : T),rows[i]? = some r → r[j]? = some x → ∃ v,A[i * sz + j]? = some v ∧ TF g x v) (e : TypeId) (cap : Nat) (hl : rows.length ≤ cap) (hcap : cap * sz ≤ A.size) :
   Made en g (g.new nm w.heap.size A.size) nm S (upd H nm (some (.arr sz rows))) a (w.alloc (.cells A e)) (.c (.view nm sz 0 rows.length)) (.slice (some ⟨w.heap.size,0,none⟩) rows.length cap) := by
 have hle := Gh.new_le (g := g) (nm := nm) (b := w.heap.size) (size := A.size) hn
 have e1 : (g.new nm w.heap.size A.size).rb nm = w.heap.size := zBc _ _ _
 have e2 : (g.new nm w.heap.size A.size).base nm = 0 := zBc _ _ _
 have e3 : (g.new nm w.heap.size A.size).rc nm = A.size := zBc _ _ _
 have hA : rows.length * sz ≤ A.size := Nat.le_trans (Nat.mul_le_mul_right _ hl) hcap
 refine ⟨hle,fun m hm => hm,h.new hn _ _ (.mk _ A e ?_ ?_ ⟨e2,e3.symm,by rw [e3]; exact hA,hz⟩ (fun i j x hx => ?_)),.c _ _ ?_⟩
 · rw [e1]; exact heap_alloc_new w _
 · rw [e1]; exact zBc _ _ _
 · simp only [Root.get] at hx
   cases hrow : rows[i]? with
   | none => simp [hrow] at hx
   | some row =>
     simp only [hrow,Option.map_eq_some_iff] at hx
     obtain ⟨y,hy,rfl⟩ := hx
     obtain ⟨v,h1,h2⟩ := hr i row j y hrow hy
     exact ⟨v,by rw [e2,Nat.zero_add]; exact h1,.t _ _ ((h2.mono hle).tr _ _ _)⟩
 · have := CV.view (g := g.new nm w.heap.size A.size) nm sz 0 rows.length cap (.inl rfl) e2 hl (by rw [e3]; simpa using hcap)
   rwa [e1,Nat.zero_mul] at this
theorem zHj1 {sz : Nat} {rows : List (List C)} {ts : List (List T)} {A : Array Value} (hf : Flat g sz rows A) (ht : mapTs rows = some ts) :
   ts.length = rows.length ∧ (∀ (i : Nat) (r : List T),ts[i]? = some r → r.length = sz) ∧ ∀ (i : Nat) (r : List T) (j : Nat) (x : T),ts[i]? = some r → r[j]? = some x → ∃ v,A[i * sz + j]? = some v ∧ TF g x v := by
 obtain ⟨h1,h2⟩ := zAe1 ht
 refine ⟨h1,fun i r hr => ?_,fun i r j x hr hx => ?_⟩
 · obtain ⟨c,hc,hm⟩ := h2 i r hr
   rw [(zSd hm).1]; exact hf.2.1 i c hc
 · obtain ⟨c,hc,hm⟩ := h2 i r hr
   obtain ⟨cc,h3,h4⟩ := (zSd hm).2 j x hx
   obtain ⟨v,h5,h6⟩ := hf.2.2 i c j cc hc h3
   exact ⟨v,h5,cc,h4,h6⟩
def rowsD (sz : Nat) (S : Nat → Option D) : List (Nat × Operand) → List (List C) → Option (List (List C))
 | [],rs => some rs
 | (i,x) :: r,rs => match ev S x with
   | some d => match dCs d with
     | some xs => if xs.length = sz ∧ i < rs.length then rowsD sz S r (rs.set i xs) else none
     | none => none
   | none => none
theorem zHf1 (l : List Value) : ∀ (k off : Nat) (A : Array Value) (p : Nat),off + k + l.length ≤ A.size →
   ((l.zipIdx k).foldl (fun (cs : Array Value) (p : Value × Nat) => cs.setIfInBounds (off + p.2) p.1) A)[p]? = if off + k ≤ p ∧ p < off + k + l.length then l[p - (off + k)]? else A[p]? := by
 induction l with
 | nil => intro k off A p _; simp; intro h1 h2; omega
 | cons v l ih =>
   intro k off A p hs
   simp only [yas] at hs
   simp only [List.zipIdx_cons,List.foldl_cons]
   have hs' : off + (k + 1) + l.length ≤ (A.setIfInBounds (off + k) v).size := by simp; omega
   rw [ih (k + 1) off _ p hs']
   by_cases h1 : off + (k + 1) ≤ p ∧ p < off + (k + 1) + l.length
   · have h2 : off + k ≤ p ∧ p < off + k + (v :: l).length := by simp only [yas]; omega
     rw [if_pos h1,if_pos h2]
     rw [show p - (off + k) = (p - (off + (k + 1))) + 1 by omega]
     simp
   · rw [if_neg h1,Array.getElem?_setIfInBounds]
     by_cases h2 : off + k = p
     · subst h2
       have h3 : off + k ≤ off + k ∧ off + k < off + k + (v :: l).length := by simp only [yas]; omega
       rw [if_pos rfl,if_pos (show off + k < A.size by omega),if_pos h3]
       simp
     · have h3 : ¬ (off + k ≤ p ∧ p < off + k + (v :: l).length) := by simp only [yas]; omega
       rw [if_neg h2,if_neg h3]
theorem zDd1 (l : List Value) : ∀ (k off : Nat) (A : Array Value),((l.zipIdx k).foldl (fun (cs : Array Value) (p : Value × Nat) => cs.setIfInBounds (off + p.2) p.1) A).size = A.size := by
 induction l with
 | nil => intro k off A; rfl
 | cons v l ih => intro k off A; simp only [List.zipIdx_cons,List.foldl_cons]; rw [ih]; simp
theorem zBr1 {i i' j sz : Nat} (hj : j < sz) : (i * sz ≤ i' * sz + j ∧ i' * sz + j < i * sz + sz) ↔ i = i' := by
 constructor
 · intro ⟨h1,h2⟩
   rcases Nat.lt_trichotomy i i' with h | h | h
   · have := Nat.mul_le_mul_right sz (show i + 1 ≤ i' by omega)
     rw [Nat.add_mul] at this
     omega
   · exact h
   · have := Nat.mul_le_mul_right sz (show i' + 1 ≤ i by omega)
     rw [Nat.add_mul] at this
     omega
 · rintro rfl; omega
theorem zOa (h : Rel en g S H a w) {sz : Nat} : ∀ (l : List (Nat × Operand)) (rs rs' : List (List C)) (A : Array Value),Flat g sz rs A → rowsD sz S l rs = some rs' →
   ∃ A',Instr.fill (fun i => some (i * sz,sz)) A (l.map fun (p : Nat × Operand) => (p.1,a.eval p.2)) = some A' ∧ Flat g sz rs' A' ∧ rs'.length = rs.length
 | [],rs,rs',A,hA,hd => by simp only [rowsD,yay] at hd; subst hd; exact ⟨A,rfl,hA,rfl⟩
 | (i,x) :: r,rs,rs',A,hA,hd => by
   simp only [rowsD] at hd
   split at hd
   · rename_i d he
     split at hd
     · rename_i xs hxs
       split at hd
       · rename_i hc
         have hcv := zKa (zBg h he) hxs
         have hsz : (a.eval x).cells.size = sz := by rw [← hc.1,← hcv.1]; simp
         have hlen : (a.eval x).cells.toList.length = sz := by rw [← hsz]; simp
         have hfit : i * sz + sz ≤ A.size := by
           rw [hA.1]
           have := Nat.mul_le_mul_right sz (show i + 1 ≤ rs.length by omega)
           rw [Nat.add_mul] at this; omega
         have e1 : (a.eval x).cells.zipIdx.foldl (fun (cs : Array Value) (p : Value × Nat) => cs.setIfInBounds (i * sz + p.2) p.1) A = ((a.eval x).cells.toList.zipIdx 0).foldl (fun (cs : Array Value) (p : Value × Nat) => cs.setIfInBounds (i * sz + p.2) p.1) A := by
           rw [← Array.foldl_toList]; simp
         have hF : Flat g sz (rs.set i xs) (((a.eval x).cells.toList.zipIdx 0).foldl (fun (cs : Array Value) (p : Value × Nat) => cs.setIfInBounds (i * sz + p.2) p.1) A) := by
           refine ⟨by rw [zDd1,hA.1]; simp,fun i' r' hr' => ?_,fun i' r' j c hr' hj => ?_⟩
           · rw [List.getElem?_set] at hr'
             split at hr'
             · split at hr'
               · injection hr' with hr'; subst hr'; exact hc.1
               · cases hr'
             · exact hA.2.1 i' r' hr'
           · rw [zHf1 _ 0 _ _ _ (by rw [hlen]; omega),hlen]
             have hjs : j < sz := by
               rw [List.getElem?_set] at hr'
               split at hr'
               · split at hr'
                 · injection hr' with hr'; subst hr'; have := (List.getElem?_eq_some_iff.1 hj).1; omega
                 · cases hr'
               · have h1 := hA.2.1 i' r' hr'; have := (List.getElem?_eq_some_iff.1 hj).1; omega
             rw [List.getElem?_set] at hr'
             by_cases e2 : i = i'
             · subst e2
               rw [if_pos rfl,if_pos hc.2] at hr'
               injection hr' with hr'
               subst hr'
               rw [if_pos (by omega),show i * sz + j - (i * sz + 0) = j by omega]
               have hlt : j < (a.eval x).cells.toList.length := by omega
               exact ⟨_,List.getElem?_eq_getElem hlt,hcv.2 j c _ hj (List.getElem?_eq_getElem hlt)⟩
             · rw [if_neg e2] at hr'
               rw [if_neg (by rw [Nat.add_zero]; intro hh; exact e2 ((zBr1 hjs).1 hh))]
               exact hA.2.2 i' r' j c hr' hj
         obtain ⟨A',h1,h2,h3⟩ := zOa h r (rs.set i xs) rs' _ hF hd
         refine ⟨A',?_,h2,by rw [h3]; simp⟩
         simp only [List.map_cons,Instr.fill,hsz]
         rw [if_neg (by simp; omega),e1]
         exact h1
       · cases hd
     · cases hd
   · cases hd
theorem zOv {z : Value} {zc : List C} {sz : Nat} (hz : CVs g zc z.cells.toList) (hl : zc.length = sz) (hs : 0 < sz) (n : Nat) : Flat g sz (List.replicate n zc) (madeCells z.cells (n * sz)) := by
 have hsz : z.cells.size = sz := by rw [← hl,← hz.1]; simp
 refine ⟨by simp [size_madeCells],fun i r hr => ?_,fun i r j c hr hj => ?_⟩
 · rw [List.getElem?_replicate] at hr
   split at hr
   · injection hr with hr; subst hr; exact hl
   · cases hr
 · rw [List.getElem?_replicate] at hr
   split at hr
   · rename_i hi
     injection hr with hr; subst hr
     have hj' : j < sz := by rw [← hl]; exact (List.getElem?_eq_some_iff.1 hj).1
     have hlt : i * sz + j < n * sz := by
       have := Nat.mul_le_mul_right sz (show i + 1 ≤ n by omega)
       rw [Nat.add_mul] at this; omega
     have hzl : j < z.cells.toList.length := by simp; omega
     refine ⟨z.cells.toList[j],?_,hz.2 j c _ hj (List.getElem?_eq_getElem hzl)⟩
     have hm : (i * sz + j) % sz = j := by rw [Nat.add_comm,Nat.add_mul_mod_self_right,Nat.mod_eq_of_lt hj']
     have hjz : j < z.cells.size := by omega
     simp [madeCells,hlt,hsz,hm,hjz]
     exact getElem!_pos z.cells j hjz
   · cases hr
end Go.SX
namespace Go.SX
open Go Go.RowKit
variable {en : En} {g : Gh} {S : Nat → Option D} {H : Nat → Option Root} {a : Act} {w : World} {P : Program}
def Root.setB : Root → Nat → Nat → C → Option Root
 | .box cells,0,j,c => if j < cells.length then some (.box (cells.set j (toB c))) else none
 | .box _,_ + 1,_,_ => none
 | .arr sz rows,i,j,c => match toT c with
   | some t => match rows[i]? with
     | some r => if j < r.length then some (.arr sz (rows.set i (r.set j t))) else none
     | none => none
   | none => none
theorem Root.setB_spec {r r' : Root} {i j : Nat} {c : C} (h : r.setB i j c = some r') :
   (∃ y,r.get i j = some y) ∧ r'.sz = r.sz ∧ (∀ i' j',r'.get i' j' = if i' = i ∧ j' = j then some (toB c) else r.get i' j') ∧ (∀ base rc size,r.form base rc size → r'.form base rc size) ∧
   (∀ c0,r = .box c0 → ∃ c1,r' = .box c1 ∧ c1.length = c0.length) ∧ (∀ sz rows,r = .arr sz rows → ∃ rows',r' = .arr sz rows') := by
 cases r with
 | box cells =>
   cases i with
   | succ i => simp [Root.setB] at h
   | zero =>
     simp only [Root.setB] at h
     split at h
     · rename_i hj
       injection h with h
       subst h
       have hy : (Root.box cells).get 0 j = some cells[j] := by simp [Root.get,List.getElem?_eq_getElem hj]
       refine ⟨⟨_,hy⟩,rfl,fun i' j' => ?_,fun _ _ _ h => h,fun c0 hc => ?_,fun sz rows hc => (by cases hc)⟩
       · cases i' with
         | zero =>
           simp only [Root.get,List.getElem?_set]
           by_cases e : j = j'
           · subst e; simp [hj]
           · simp [e,Ne.symm e]
         | succ i' => simp [Root.get]
       · cases hc; exact ⟨_,rfl,by simp⟩
     · cases h
 | arr sz rows =>
   simp only [Root.setB] at h
   split at h
   · rename_i t ht
     split at h
     · rename_i r hr
       split at h
       · rename_i hj
         injection h with h
         subst h
         have hi : i < rows.length := (List.getElem?_eq_some_iff.1 hr).1
         have htb : toB c = .t t := by simp [toB,ht]
         refine ⟨⟨.t r[j],by simp [Root.get,hr,List.getElem?_eq_getElem hj]⟩,rfl,fun i' j' => ?_,fun base rc size hf => ?_,fun c0 hc => (by cases hc),fun sz' rows' hc => (by cases hc; exact ⟨_,rfl⟩)⟩
         · simp only [Root.get,List.getElem?_set]
           by_cases e : i = i'
           · subst e
             simp only [if_pos,hi,hr,true_and]
             rw [List.getElem?_set]
             by_cases e' : j = j'
             · subst e'; simp [hj,htb]
             · simp [e',Ne.symm e']
           · simp [e,Ne.symm e]
         · obtain ⟨h1,h2,h3,h4⟩ := hf
           refine ⟨h1,h2,by simpa using h3,fun i' r' hr' => ?_⟩
           rw [List.getElem?_set] at hr'
           split at hr'
           · (try split at hr')
             all_goals first
               | (injection hr' with hr'; subst hr'; simpa using h4 i r hr)
               | cases hr'
           · exact h4 i' r' hr'
       · cases h
     · cases h
   · cases h
theorem Root.get_lt {r : Root} {base rc size : Nat} (hf : r.form base rc size) {i j : Nat} {x : B} (h : r.get i j = some x) : (∃ c0,r = .box c0 ∧ i = 0 ∧ j < c0.length) ∨ (∃ sz rows,r = .arr sz rows ∧ j < sz) := by
 cases r with
 | box cells =>
   cases i with
   | zero => exact .inl ⟨cells,rfl,rfl,by simp only [Root.get] at h; exact (List.getElem?_eq_some_iff.1 h).1⟩
   | succ i => simp [Root.get] at h
 | arr sz rows =>
   refine .inr ⟨sz,rows,rfl,?_⟩
   simp only [Root.get] at h
   cases hr : rows[i]? with
   | none => simp [hr] at h
   | some row =>
     simp only [hr,Option.map_eq_some_iff] at h
     obtain ⟨y,hy,_⟩ := h
     have := hf.2.2.2 i row hr
     have := (List.getElem?_eq_some_iff.1 hy).1
     omega
theorem Root.get_inj {r : Root} {base rc size : Nat} (hf : r.form base rc size) {i j i' j' : Nat} {x y : B} (h : r.get i j = some x) (h' : r.get i' j' = some y) (he : i * r.sz + j = i' * r.sz + j') : i' = i ∧ j' = j := by
 rcases Root.get_lt hf h with ⟨c0,rfl,rfl,hj⟩ | ⟨sz,rows,rfl,hj⟩
 · rcases Root.get_lt hf h' with ⟨c1,hc,rfl,hj'⟩ | ⟨sz,rows,hc,hj'⟩
   · simp only [Root.sz] at he; omega
   · cases hc
 · rcases Root.get_lt hf h' with ⟨c1,hc,rfl,hj'⟩ | ⟨sz',rows',hc,hj'⟩
   · cases hc
   · cases hc
     simp only [Root.sz] at he
     have : i = i' := (zBr1 hj').1 (by omega)
     subst this
     omega
def setCs (i : Nat) : Root → Nat → List C → Option Root
 | r,_,[] => some r
 | r,j,c :: cs => match r.setB i j c with
   | some r' => setCs i r' (j + 1) cs
   | none => none
def setsA : Array Value → Nat → List Value → Array Value
 | A,_,[] => A
 | A,k,v :: vs => setsA (A.setIfInBounds k v) (k + 1) vs
theorem zDv : ∀ (vs : List Value) (A : Array Value) (k : Nat),(setsA A k vs).size = A.size
 | [],A,k => rfl
 | v :: vs,A,k => by simp [setsA,zDv vs]
theorem zJf : ∀ (vs : List Value) (A : Array Value) (k o : Nat),(o < k ∨ k + vs.length ≤ o) → (setsA A k vs)[o]? = A[o]?
 | [],A,k,o,_ => rfl
 | v :: vs,A,k,o,h => by
   simp only [yas] at h
   simp only [setsA]
   rw [zJf vs _ (k + 1) o (by omega),Array.getElem?_setIfInBounds,if_neg (by omega)]
theorem zBx (P : Program) (b o : Nat) (e : TypeId) : ∀ (vs : List Value) (i : Nat) (A : Array Value) (w : World),w.heap[b]? = some (.cells A e (0,0)) → o + i + vs.length ≤ A.size → (∀ v ∈ vs,v.oneCell' = true) →
   (storeCells ⟨b,o,none⟩ vs i).run P w = .ok () (w.setRow b (setsA A (o + i) vs))
 | [],i,A,w,hg,_,_ => by
   simp only [storeCells,setsA]
   rw [setRow_self w b A e (0,0) hg]
   rfl
 | v :: rest,i,A,w,hg,hl,h1 => by
   have hi : o + i < A.size := by simp at hl; omega
   have hcell : w.cell? ⟨b,o + i,none⟩ = some A[o + i] := by simp [World.cell?,hg,hi]
   have hfro : w.frozen? ⟨b,o + i,none⟩ = false := by simp [World.frozen?,hg]
   have hst : (store ((⟨b,o,none⟩ : Addr).add i) v).run P w = .ok () (w.setRow b (A.setIfInBounds (o + i) v)) := by
     rw [zCk,run_store P w _ v _ (h1 v (by simp)),hcell]
     simp [hfro,setCell_eq_setRow w b (o + i) A e (0,0) v hg]
   have ih := zBx P b o e rest (i + 1) (A.setIfInBounds (o + i) v) (w.setRow b (A.setIfInBounds (o + i) v)) (setRow_heap w b A _ e _ hg) (by simp at hl ⊢; omega) (fun x hx => h1 x (by simp [hx]))
   simp only [storeCells,Sem.run_bind,hst,Result.andThen_ok,ih,setRow_setRow,setsA]
   rfl
structure RowR (w : World) (g : Gh) (n : Nat) (r : Root) (A : Array Value) : Prop where
 form : r.form (g.base n) (g.rc n) A.size
 cells : ∀ (i j : Nat) (x : B),r.get i j = some x → ∃ v,A[g.base n + i * r.sz + j]? = some v ∧ BR w g n [(i,j)] x v
theorem RowR.set {n : Nat} {r r' : Root} {A : Array Value} (h : RowR w g n r A) {i j : Nat} {c : C} (hs : r.setB i j c = some r') {v : Value} (hv : CV g c v) :
   RowR w g n r' (A.setIfInBounds (g.base n + i * r.sz + j) v) := by
 obtain ⟨⟨y,hy⟩,h1,h2,h3,h4,h5⟩ := Root.setB_spec hs
 obtain ⟨u,hu,_⟩ := h.cells i j y hy
 have hlt : g.base n + i * r.sz + j < A.size := (Array.getElem?_eq_some_iff.1 hu).1
 refine ⟨by simpa using h3 _ _ _ h.form,fun i' j' x hx => ?_⟩
 rw [h2] at hx
 rw [h1,Array.getElem?_setIfInBounds]
 split at hx
 · rename_i he
   obtain ⟨rfl,rfl⟩ := he
   injection hx with hx
   subst hx
   rw [if_pos rfl,if_pos hlt]
   exact ⟨v,rfl,zUe hv _ _ _⟩
 · rename_i he
   rw [if_neg (fun hc => he (Root.get_inj h.form hy hx (by omega)))]
   exact h.cells i' j' x hx
theorem RowR.sets {n i : Nat} : ∀ (cs : List C) (vs : List Value) (r r' : Root) (j : Nat) (A : Array Value),RowR w g n r A → setCs i r j cs = some r' → CVs g cs vs →
   RowR w g n r' (setsA A (g.base n + i * r.sz + j) vs) ∧ (cs ≠ [] → g.base n + i * r.sz + j + vs.length ≤ A.size) ∧ (∀ c0,r = .box c0 → ∃ c1,r' = .box c1 ∧ c1.length = c0.length ∧ (cs ≠ [] → j + cs.length ≤ c0.length)) ∧ (∀ sz rows,r = .arr sz rows → ∃ rows',r' = .arr sz rows')
 | [],vs,r,r',j,A,h,hs,hc => by
   have : vs = [] := List.eq_nil_of_length_eq_zero hc.1
   subst this
   simp only [setCs,yay] at hs
   subst hs
   exact ⟨h,fun hh => absurd rfl hh,fun c0 hc0 => ⟨c0,hc0,rfl,fun hh => absurd rfl hh⟩,fun sz rows hr => ⟨rows,hr⟩⟩
 | c :: cs,vs,r,r',j,A,h,hs,hc => by
   simp only [setCs] at hs
   split at hs
   · rename_i r1 hr1
     match vs,hc with
     | [],hc => have := hc.1; simp at this
     | v :: vs,hc =>
       have hv : CV g c v := hc.2 0 c v rfl rfl
       have hcs : CVs g cs vs := ⟨by have := hc.1; simpa using this,fun j y u hy hu => hc.2 (j + 1) y u (by simpa using hy) (by simpa using hu)⟩
       obtain ⟨⟨y,hy⟩,h1,h2,h3,h4,h5⟩ := Root.setB_spec hr1
       obtain ⟨u,hu,_⟩ := h.cells i j y hy
       have hlt : g.base n + i * r.sz + j < A.size := (Array.getElem?_eq_some_iff.1 hu).1
       obtain ⟨k1,k2,k3,k4⟩ := RowR.sets cs vs r1 r' (j + 1) _ (h.set hr1 hv) hs hcs
       rw [h1] at k1 k2
       refine ⟨by simpa [setsA,Nat.add_assoc] using k1,fun _ => ?_,fun c0 hc0 => ?_,fun sz rows hr => ?_⟩
       · simp only [yas]
         by_cases hcn : cs = []
         · subst hcn
           have : vs = [] := List.eq_nil_of_length_eq_zero hcs.1
           subst this
           simp only [List.length_nil]; omega
         · have := k2 hcn
           simp only [Array.size_setIfInBounds] at this
           omega
       · obtain ⟨c1,hc1,hl⟩ := h4 c0 hc0
         obtain ⟨c2,hc2,hl2,hl3⟩ := k3 c1 hc1
         refine ⟨c2,hc2,hl2.trans hl,fun _ => ?_⟩
         simp only [yas]
         by_cases hcn : cs = []
         · subst hcn
           subst hc0
           rcases Root.get_lt h.form hy with ⟨c3,hc3,_,hj⟩ | ⟨sz,rows,hc3,_⟩
           · cases hc3; simp only [List.length_nil]; omega
           · cases hc3
         · have := hl3 hcn; omega
       · obtain ⟨rows',hr'⟩ := h5 sz rows hr
         exact k4 sz rows' hr'
   · cases hs
def storeH (P : Program) (t : TypeId) (S : Nat → Option D) (H : Nat → Option Root) (x y : Operand) : Option (Nat × Root) :=
 match tsz P t with
 | some k => match evC S x with
   | some (.ptr n sz i off) => match ev S y with
     | some d => match dCs d with
       | some cs => if cs.length = k ∧ 0 < k then match H n with
           | some r => if r.sz = sz then match setCs i r off cs with
               | some r' => some (n,r')
               | none => none
             else none
           | none => none
         else none
       | none => none
     | none => none
   | _ => none
 | none => none
theorem zUj (h : Rel en g S H a w) {t : TypeId} {x y : Operand} {n : Nat} {r' : Root} (hd : storeH P t S H x y = some (n,r')) :
   ∃ w',(Instr.storeAt t (a.eval x) (a.eval y)).run P w = .ok () w' ∧ Rel en g S (upd H n (some r')) a w' := by
 unfold storeH at hd
 split at hd
 · rename_i k hk
   split at hd
   · rename_i m sz i off hx
     split at hd
     · rename_i d hy
       split at hd
       · rename_i cs hcs
         split at hd
         · rename_i hlen
           split at hd
           · rename_i r hr
             split at hd
             · rename_i hsz
               subst hsz
               split at hd
               · rename_i r1 hr1
                 simp only [yay,Prod.mk.injEq] at hd
                 obtain ⟨rfl,rfl⟩ := hd
                 have hcv := zKa (zBg h hy) hcs
                 have hne : cs ≠ [] := by intro hc; rw [hc] at hlen; simp at hlen; omega
                 have hp := zBn h hx
                 generalize a.eval x = u at hp
                 obtain ⟨hu,hR⟩ := h.roots m r hr
                 cases hp with
                 | ptr _ _ _ _ _ =>
                   cases hR with
                   | arr0 sz' hs h0 =>
                     cases cs with
                     | nil => exact absurd rfl hne
                     | cons c cs =>
                       have h9 : Root.setB (.arr sz' []) i off c = none := by simp only [Root.setB]; split <;> simp
                       simp [setCs,h9] at hr1
                   | mk _ A e hh ho hf hrr =>
                     obtain ⟨k1,k2,k3,k4⟩ := RowR.sets (w := w) (g := g) (n := m) (i := i) cs (a.eval y).cells.toList r r1 off A ⟨hf,hrr⟩ hr1 hcv
                     have hfit := k2 hne
                     have hvl : (a.eval y).cells.toList.length = cs.length := hcv.1
                     have hone : ∀ v ∈ (a.eval y).cells.toList,v.oneCell' = true := fun v hv => by
                       obtain ⟨j,hj,rfl⟩ := List.mem_iff_getElem.1 hv
                       have hjc : j < cs.length := by omega
                       exact (hcv.2 j cs[j] _ (List.getElem?_eq_getElem hjc) (List.getElem?_eq_getElem hj)).one
                     have hrun := zBx P (g.rb m) (g.base m + i * r.sz + off) e (a.eval y).cells.toList 0 A w hh (by simpa using hfit) hone
                     rw [Nat.add_zero] at hrun
                     have hszv : (a.eval y).cells.size = k := by rw [← hlen.1,← hvl]; simp
                     refine ⟨w.setRow (g.rb m) (setsA A (g.base m + i * r.sz + off) (a.eval y).cells.toList),by simp [Instr.storeAt,Instr.sureAddr,storeVar,zBy hk,hszv,hrun],h.store hr hh ho (zDv _ _ _) (fun b hb o ho' => zJf _ _ _ _ ?_) ?_ (fun b hb => ?_)⟩
                     · obtain ⟨c0,rfl,hl⟩ := h.wd m r b hr hb
                       obtain ⟨c1,_,_,hc1⟩ := k3 c0 rfl
                       have := hc1 hne
                       have hbase := h.fr.gle.base m (h.fr.place b m hb).1
                       have hi0 : i = 0 := by
                         cases i with
                         | zero => rfl
                         | succ i =>
                           cases cs with
                           | nil => exact absurd rfl hne
                           | cons c cs => simp [setCs,Root.setB] at hr1
                       subst hi0
                       simp only [Root.sz] at *
                       omega
                     · refine .mk _ (setsA A (g.base m + i * r.sz + off) (a.eval y).cells.toList) e (setRow_heap w _ A _ e _ hh) ho k1.form (fun i' j' x' hx' => ?_)
                       obtain ⟨v,hv,hb⟩ := k1.cells i' j' x' hx'
                       refine ⟨v,hv,?_⟩
                       cases hb with
                       | t x v ht => exact .t _ _ (ht.keep (Gh.le.refl g) (fun b p hp => ⟨hp,setRow_other w _ _ _ (fun e' => by rw [e',ho] at hp; simp at hp)⟩))
                       | v x v hc => exact .v _ _ hc
                     · obtain ⟨c0,rfl,hl⟩ := h.wd m r b hr hb
                       obtain ⟨c1,h1,h2,_⟩ := k3 c0 rfl
                       exact ⟨c1,h1,by rw [h2]; exact hl⟩
               · cases hd
             · cases hd
           · cases hd
         · cases hd
       · cases hd
     · cases hd
   · cases hd
 · cases hd
end Go.SX
namespace Go.SX
open Go Go.RowKit
variable {en : En} {g : Gh} {S : Nat → Option D} {H : Nat → Option Root} {a : Act} {w : World} {P : Program}
def Gh.ren (g : Gh) (n nm b size : Nat) : Gh :=
 { used := fun m => m = nm ∨ g.used m,rb := upd g.rb nm b,base := upd g.base nm 0,rc := upd g.rc nm size,fz := g.fz,
   own := fun b' => if b' = b then some (nm,[]) else match g.own b' with
     | some (m,x :: p) => if m = n then some (nm,x :: p) else some (m,x :: p)
     | o => o }
theorem Gh.ren_le {g : Gh} {n nm b size : Nat} (h : ¬ g.used nm) : g.le (g.ren n nm b size) :=
 ⟨fun n hn => .inr hn,fun n hn => zBp _ _ (fun e => h (e ▸ hn)),fun n hn => zBp _ _ (fun e => h (e ▸ hn)),fun n hn => zBp _ _ (fun e => h (e ▸ hn)),fun _ _ _ hv => hv⟩
theorem Gh.ren_b {g : Gh} {n nm b size : Nat} : (g.ren n nm b size).own b = some (nm,[]) := by simp [Gh.ren]
theorem Gh.ren_n {g : Gh} {n nm b size b' : Nat} {x : Nat × Nat} {p : Pth} (hb : b' ≠ b) (h : g.own b' = some (n,x :: p)) : (g.ren n nm b size).own b' = some (nm,x :: p) := by simp [Gh.ren,hb,h]
theorem Gh.ren_m {g : Gh} {n nm b size b' m : Nat} {p : Pth} (hb : b' ≠ b) (hm : m ≠ n) (h : g.own b' = some (m,p)) : (g.ren n nm b size).own b' = some (m,p) := by cases p <;> simp [Gh.ren,hb,h,hm]
theorem Gh.ren_none {g : Gh} {n nm b size b' : Nat} (hb : b' ≠ b) (h : g.own b' = none) : (g.ren n nm b size).own b' = none := by simp [Gh.ren,hb,h]
theorem Rel.ren (h : Rel en g S H a w) {n nm b size : Nat} {r' : Root} {w' : World} (hnm : ¬ g.used nm) (hpl : ∀ b',en.g0.own b' ≠ some (n,[]))
   (hb : b = w.heap.size ∨ g.own b = some (n,[])) (hlt : b < w'.heap.size) (hsz : w.heap.size ≤ w'.heap.size) (hos : w'.os = w.os) (htp : w'.tape = w.tape) (hout : w'.output = w.output)
   (hold : ∀ b',b' < w.heap.size → b' ≠ b → w'.heap[b']? = w.heap[b']?) (hr : RootR w' (g.ren n nm b size) nm r') :
   Rel en (g.ren n nm b size) S (upd (upd H n none) nm (some r')) a w' := by
 have hle := Gh.ren_le (n := n) (b := b) (size := size) hnm
 have hne : ∀ b' m p,g.own b' = some (m,p) → m ≠ n → b' ≠ b := by
   rintro b' m p h1 hm rfl
   rcases hb with rfl | hb
   · exact absurd (h.lt _ _ h1) (by omega)
   · rw [hb] at h1; injection h1 with h1; injection h1 with h1 _; exact hm h1.symm
 have hne0 : ∀ b',b' < w.heap.size → g.own b' = none → b' ≠ b := by
   rintro b' hl h1 rfl
   rcases hb with rfl | hb
   · omega
   · rw [hb] at h1; cases h1
 refine ⟨⟨h.fr.laid,hos.trans h.fr.os,htp.trans h.fr.tape,hout.trans h.fr.output,Nat.le_trans h.fr.size hsz,h.fr.gle.trans hle,fun b' hb' hb0 => ?_,fun b' k hb' => ?_,h.fr.fzn⟩,h.df,fun b' x hx => ?_,fun b' o v hv => ?_,fun t d ht => ?_,fun k r1 hk => ?_,fun k r1 b' hk hb' => ?_⟩
 · obtain ⟨h1,h2⟩ := h.fr.old b' hb' hb0
   have hl : b' < w.heap.size := Nat.lt_of_lt_of_le hb' h.fr.size
   have := hne0 b' hl h1
   exact ⟨Gh.ren_none this h1,(hold b' hl this).trans h2⟩
 · obtain ⟨h0,h1,c1,c2,e1,h2,h3,h4⟩ := h.fr.place b' k hb'
   have hk : k ≠ n := fun e => hpl b' (e ▸ hb')
   have hb'' := hne b' k [] h1 hk
   exact ⟨h0,Gh.ren_m hb'' hk h1,c1,c2,e1,h2,(hold b' (h.lt _ _ h1) hb'').trans h3,h4⟩
 · by_cases e : b' = b
   · rw [e]; exact hlt
   · cases ho : g.own b' with
     | none => rw [Gh.ren_none e ho] at hx; cases hx
     | some y => exact Nat.lt_of_lt_of_le (h.lt b' y ho) hsz
 · obtain ⟨h1,h2⟩ := h.fz b' o v hv
   have hl : b' < w.heap.size := World.block_lt_of_cell? w _ h1
   have hb'' := hne0 b' hl h2
   exact ⟨(World.cell?_of_block (w := w) (a := ⟨b',o,none⟩) (hold b' hl hb'')).trans h1,Gh.ren_none hb'' h2⟩
 · obtain ⟨v,hv,hd⟩ := h.slots t d ht; exact ⟨v,hv,hd.mono hle⟩
 · unfold upd at hk
   by_cases e : k = nm
   · subst e
     rw [if_pos rfl] at hk
     injection hk with hk
     subst hk
     exact ⟨.inl rfl,hr⟩
   · rw [if_neg e] at hk
     by_cases e' : k = n
     · rw [if_pos e'] at hk; cases hk
     · rw [if_neg e'] at hk
       obtain ⟨hu,hR⟩ := h.roots k r1 hk
       exact ⟨.inr hu,hR.keep hu hle (fun b' p hp => by have h9 := hne b' k p hp e'; exact ⟨Gh.ren_m h9 e' hp,hold b' (h.lt _ _ hp) h9⟩)⟩
 · unfold upd at hk
   by_cases e : k = nm
   · subst e; exact absurd (h.fr.gle.used k (h.fr.place b' k hb').1) hnm
   · rw [if_neg e] at hk
     by_cases e' : k = n
     · rw [if_pos e'] at hk; cases hk
     · rw [if_neg e'] at hk; exact h.wd k r1 b' hk hb'
structure Src (g : Gh) (w : World) (sz : Nat) (src : List (List T)) (A : Option Addr) (news : List Value) : Prop where
 len : news.length = src.length * sz
 row : ∀ (i : Nat) (r : List T),src[i]? = some r → r.length = sz
 at_ : src.length = 0 ∨ ∃ b o,A = some ⟨b,o,none⟩ ∧ At w b o news
 val : ∀ (i : Nat) (r : List T) (j : Nat) (x : T),src[i]? = some r → r[j]? = some x → ∃ v,news[i * sz + j]? = some v ∧ TF g x v
def okT : T → Bool
 | .im _ => true
 | .nil => true
 | .lent _ _ _ => true
 | _ => false
theorem zQy1 {n : Nat} {q : Pth} {x : T} {v : Value} (h : TR w g n q x v) (hx : okT x = true) : TF g x v := by
 cases h with
 | im q i v h => exact ⟨.im i,rfl,.im _ _ h⟩
 | nil => exact ⟨.nil,rfl,.nil⟩
 | lent q m sz len v h => exact ⟨.view m sz 0 len,rfl,h⟩
 | _ => simp [okT] at hx
def srcRows (S : Nat → Option D) (H : Nat → Option Root) (x : Operand) (sz : Nat) : Option (List (List T)) :=
 match evC S x with
 | some (.view m sz' lo k) => if sz' = sz then match H m with
     | some (.arr sz2 rows) => if sz2 = sz ∧ lo + k ≤ rows.length ∧ ((rows.drop lo).take k).all (fun r => r.all okT) = true then some ((rows.drop lo).take k) else none
     | _ => none
   else none
 | some (.im (.sl sz' rows)) => if sz' = sz then some (rows.map (fun r => r.map T.im)) else none
 | some .nil => some []
 | _ => none
theorem zTs {f : Nat → Option Value} {k : Nat} (h : ∀ p,p < k → ∃ v,f p = some v) : ∃ vs : List Value,vs.length = k ∧ ∀ p,p < k → vs[p]? = f p := by
 refine ⟨(List.range k).map fun p => (f p).getD undef,by simp,fun p hp => ?_⟩
 obtain ⟨v,hv⟩ := h p hp
 simp [hp,hv]
theorem zJd (h : Rel en g S H a w) {x : Operand} {sz : Nat} {src : List (List T)} (hs0 : 0 < sz) (hd : srcRows S H x sz = some src) :
   ∃ A c news,a.eval x = .slice A src.length c ∧ Src g w sz src A news := by
 have hnil : ∀ A c,a.eval x = .slice A 0 c → src = [] → ∃ A c news,a.eval x = .slice A src.length c ∧ Src g w sz src A news := by
   rintro A c h1 rfl
   exact ⟨A,c,[],h1,by simp,fun i r hr => by simp at hr,.inl rfl,fun i r j x hr => by simp at hr⟩
 unfold srcRows at hd
 split at hd
 · rename_i m sz' lo k hx
   split at hd
   · rename_i hsz
     subst hsz
     split at hd
     · rename_i sz2 rows hm
       split at hd
       · rename_i hc
         obtain ⟨rfl,hk,hok⟩ := hc
         injection hd with hd
         have hv := zBn h hx
         obtain ⟨hu,hR⟩ := h.roots m _ hm
         generalize hev : a.eval x = u at hv
         cases hv with
         | view0 _ _ _ A hu' => exact hev ▸ hnil A 0 hev (by rw [← hd]; simp)
         | view _ _ _ _ cap hu' hb hl hc' =>
           have hlen : src.length = k := by rw [← hd]; simp; omega
           cases hR with
           | arr0 _ hs' h0 =>
             simp only [List.length_nil] at hk
             have : k = 0 := by omega
             subst this
             exact hev ▸ hnil _ cap hev (by rw [← hd]; simp)
           | mk _ cs e hh ho hf hr =>
             obtain ⟨hb0,hcs,hrl,hrows⟩ := hf
             have hcell : ∀ p,p < k * sz2 → ∃ v,cs[lo * sz2 + p]? = some v := by
               intro p hp
               have : lo * sz2 + p < cs.size := by
                 have h1 := Nat.mul_le_mul_right sz2 hk
                 rw [Nat.add_mul] at h1
                 omega
               exact ⟨_,Array.getElem?_eq_getElem this⟩
             obtain ⟨news,hn1,hn2⟩ := zTs hcell
             refine ⟨_,cap,news,by rw [hlen],by rw [hn1,hlen],fun i r hr' => ?_,.inr ⟨_,_,rfl,fun j v hv => ?_⟩,fun i r j y hr' hy => ?_⟩
             · rw [← hd,List.getElem?_take] at hr'
               split at hr'
               · rw [List.getElem?_drop] at hr'; exact hrows _ r hr'
               · cases hr'
             · have hj : j < k * sz2 := by rw [← hn1]; exact (List.getElem?_eq_some_iff.1 hv).1
               rw [hn2 j hj] at hv
               rw [cell_of_row w _ _ cs e _ hh]; exact hv
             · have hr2 : rows[lo + i]? = some r ∧ i < k := by
                 rw [← hd,List.getElem?_take] at hr'
                 split at hr'
                 · rename_i hik; rw [List.getElem?_drop] at hr'; exact ⟨hr',hik⟩
                 · cases hr'
               have hjs : j < sz2 := by rw [← hrows _ r hr2.1]; exact (List.getElem?_eq_some_iff.1 hy).1
               have hp : i * sz2 + j < k * sz2 := by
                 have h1 := Nat.mul_le_mul_right sz2 (show i + 1 ≤ k by omega)
                 rw [Nat.add_mul] at h1; omega
               obtain ⟨v,hv,hbr⟩ := hr (lo + i) j (.t y) (by simp [Root.get,hr2.1,hy])
               rw [hb0,Nat.zero_add] at hv
               have hokr : okT y = true := by
                 rw [List.all_eq_true] at hok
                 have h1 := hok r (by rw [hd]; exact List.mem_of_getElem? hr')
                 rw [List.all_eq_true] at h1
                 exact h1 y (List.mem_of_getElem? hy)
               refine ⟨v,?_,by cases hbr with | t _ _ ht => exact zQy1 ht hokr⟩
               rw [hn2 _ hp,← hv]
               simp only [Root.sz]
               rw [Nat.add_mul,Nat.add_assoc]
       · cases hd
     · cases hd
   · cases hd
 · rename_i sz' rows hx
   split at hd
   · rename_i hsz
     subst hsz
     injection hd with hd
     have hv := zBn h hx
     generalize hev : a.eval x = u at hv
     cases hv with
     | im _ _ hv =>
       rcases hv.sl_inv with ⟨h9,A,c,rfl⟩ | ⟨b,off,c,vs,rfl,hc,hlr,hx',hr⟩
       · exact hev ▸ hnil A c hev (by rw [← hd,h9]; rfl)
       · have hlen : src.length = rows.length := by rw [← hd]; simp
         have hcell : ∀ p,p < rows.length * sz' → ∃ v,w.cell? ⟨b,off + p,none⟩ = some v := by
           intro p hp
           have hi : p / sz' < rows.length := Nat.div_lt_of_lt_mul (by rw [Nat.mul_comm]; exact hp)
           have hj : p % sz' < sz' := Nat.mod_lt _ hs0
           have h1 := hlr _ _ (List.getElem?_eq_getElem hi)
           have h2 := hx' (p / sz') _ (p % sz') _ (List.getElem?_eq_getElem hi) (List.getElem?_eq_getElem (show p % sz' < (rows[p / sz']).length by omega))
           have h3 := (h.fz _ _ _ h2).1
           rw [Nat.add_assoc,Nat.mul_comm,Nat.div_add_mod] at h3
           exact ⟨_,h3⟩
         obtain ⟨news,hn1,hn2⟩ := zTs hcell
         refine ⟨_,c,news,by rw [hlen],by rw [hn1,hlen],fun i r hr' => ?_,.inr ⟨_,_,rfl,fun j v hv => ?_⟩,fun i r j y hr' hy => ?_⟩
         · rw [← hd,List.getElem?_map,Option.map_eq_some_iff] at hr'
           obtain ⟨r0,hr0,rfl⟩ := hr'
           simpa using hlr i r0 hr0
         · have hj : j < rows.length * sz' := by rw [← hn1]; exact (List.getElem?_eq_some_iff.1 hv).1
           rw [hn2 j hj] at hv; exact hv
         · rw [← hd,List.getElem?_map,Option.map_eq_some_iff] at hr'
           obtain ⟨r0,hr0,rfl⟩ := hr'
           rw [List.getElem?_map,Option.map_eq_some_iff] at hy
           obtain ⟨i0,hi0,rfl⟩ := hy
           have hj : j < sz' := by rw [← hlr i r0 hr0]; exact (List.getElem?_eq_some_iff.1 hi0).1
           have hil : i < rows.length := (List.getElem?_eq_some_iff.1 hr0).1
           have hp : i * sz' + j < rows.length * sz' := by
             have h1 := Nat.mul_le_mul_right sz' (show i + 1 ≤ rows.length by omega)
             rw [Nat.add_mul] at h1; omega
           refine ⟨vs i j,?_,.im i0,rfl,.im _ _ (hr i r0 j i0 hr0 hi0)⟩
           rw [hn2 _ hp,← (h.fz _ _ _ (hx' i r0 j i0 hr0 hi0)).1,Nat.add_assoc]
   · cases hd
 · rename_i hx
   injection hd with hd
   have hv := zBn h hx
   generalize hev : a.eval x = u at hv
   cases hv with
   | nil => exact hev ▸ hnil none 0 hev hd.symm
 · cases hd
end Go.SX
namespace Go.SX
open Go Go.RowKit
variable {en : En} {g : Gh} {S : Nat → Option D} {H : Nat → Option Root} {a : Act} {w : World} {P : Program}
theorem zMm : ∀ (vs : List Value) (A : Array Value) (k p : Nat),k + vs.length ≤ A.size → p < vs.length → (setsA A k vs)[k + p]? = vs[p]?
 | [],A,k,p,_,h => by simp at h
 | v :: vs,A,k,p,hf,hp => by
   simp only [yas] at hf hp
   simp only [setsA]
   cases p with
   | zero =>
     show (setsA (A.setIfInBounds k v) (k + 1) vs)[k]? = some v
     rw [zJf vs _ (k + 1) k (by omega),Array.getElem?_setIfInBounds,if_pos rfl,if_pos (by omega)]
   | succ p =>
     have := zMm vs (A.setIfInBounds k v) (k + 1) p (by simp; omega) (by omega)
     rw [show k + (p + 1) = k + 1 + p by omega,this]
     rfl
theorem Rel.new0 (h : Rel en g S H a w) {nm : Nat} (hn : ¬ g.used nm) {sz : Nat} (hs : 0 < sz) (n : Nat) :
   ∃ g',g.le g' ∧ g'.used nm ∧ (∀ m,g'.used m → m = nm ∨ g.used m) ∧ Rel en g' S (upd (upd H n none) nm (some (.arr sz []))) a w := by
 let g' : Gh := { g with used := fun m => m = nm ∨ g.used m,rc := upd g.rc nm 0 }
 have hle : g.le g' := ⟨fun m hm => .inr hm,fun m hm => rfl,fun m hm => rfl,fun m hm => zBp _ _ (fun e => hn (e ▸ hm)),fun _ _ _ hv => hv⟩
 refine ⟨g',hle,.inl rfl,fun m hm => hm,⟨h.fr.laid,h.fr.os,h.fr.tape,h.fr.output,h.fr.size,h.fr.gle.trans hle,h.fr.old,h.fr.place,h.fr.fzn⟩,h.df,h.lt,h.fz,fun t d ht => ?_,fun k r1 hk => ?_,fun k r1 b' hk hb' => ?_⟩
 · obtain ⟨v,hv,hd⟩ := h.slots t d ht; exact ⟨v,hv,hd.mono hle⟩
 · unfold upd at hk
   by_cases e : k = nm
   · subst e
     rw [if_pos rfl] at hk
     injection hk with hk
     subst hk
     exact ⟨.inl rfl,.arr0 sz hs (zBc _ _ _)⟩
   · rw [if_neg e] at hk
     by_cases e' : k = n
     · rw [if_pos e'] at hk; cases hk
     · rw [if_neg e'] at hk
       obtain ⟨hu,hR⟩ := h.roots k r1 hk
       exact ⟨.inr hu,hR.keep hu hle (fun b p hp => ⟨hp,rfl⟩)⟩
 · unfold upd at hk
   by_cases e : k = nm
   · subst e; exact absurd (h.fr.gle.used k (h.fr.place b' k hb').1) hn
   · rw [if_neg e] at hk
     by_cases e' : k = n
     · rw [if_pos e'] at hk; cases hk
     · rw [if_neg e'] at hk; exact h.wd k r1 b' hk hb'
structure ElT (P : Program) (t e : TypeId) (sz bytes : Nat) : Prop where
 under : P.underlying t = some (.slice e)
 info : ∃ i z,P.info? e = some i ∧ i.size = sz ∧ i.bytes = bytes ∧ i.zero = some z ∧ z.cells.size = sz
def Grown (en : En) (g : Gh) (nm : Nat) (S : Nat → Option D) (H' : Nat → Option Root) (a : Act) (w' : World) (sz : Nat) (rows : List (List T)) (v : Value) : Prop :=
 ∃ g',g.le g' ∧ (∀ m,g'.used m → m = nm ∨ g.used m) ∧ Rel en g' S (upd H' nm (some (.arr sz rows))) a w' ∧ CV g' (.view nm sz 0 rows.length) v
theorem zGy {t ty e : TypeId} {sz bytes : Nat} (he : ElT P t e sz bytes) (B A : Option Addr) (len cap c : Nat) (hl : len ≤ cap) (w : World) :
   (Builtin.append_ #[t,t] ty #[.slice B len cap,.slice A 0 c]).run P w = .ok (.slice B len cap) w := by
 obtain ⟨i,z,hi,rfl,rfl,hz,hzs⟩ := he.info
 cases A with
 | none => cases B <;> simp [Builtin.append_,run_underlying he.under,sizeOf,typeInfo,hi,Builtin.lenOf,Builtin.firstCells,hl,storeCells]
 | some ad => cases B <;> simp [Builtin.append_,run_underlying he.under,sizeOf,typeInfo,hi,Builtin.lenOf,Builtin.firstCells,hl,storeCells,loadCells,loadCellsFrom]
theorem zDn {t ty e : TypeId} {sz bytes : Nat} (he : ElT P t e sz bytes) {B : Option Addr} {len cap : Nat} {olds news : List Value} {b o k c : Nat} (w : World)
   (ho : olds.length = len * sz) (holds : len = 0 ∨ ∃ b o,B = some ⟨b,o,none⟩ ∧ At w b o olds) (hB : B = none → cap = 0) (hk : 0 < k) (hn : news.length = k * sz) (hnews : At w b o news)
   (hg : cap < len + k) (hby : 0 < bytes) (hb : (len + k) * bytes ≤ 140737488355328) :
   ∃ cap',len + k ≤ cap' ∧ (Builtin.append_ #[t,t] ty #[.slice B len cap,.slice (some ⟨b,o,none⟩) k c]).run P w =
     .ok (.slice (some ⟨w.heap.size,0,none⟩) (len + k) cap') (w.drew.alloc (.cells (olds.toArray ++ news.toArray ++ Builtin.zeroCells (((P.info? e).bind (·.zero)).getD undef).cells (cap' - (len + k))) e)) := by
 obtain ⟨i,z,hi,rfl,rfl,hz,hzs⟩ := he.info
 have hzz : ((P.info? e).bind (·.zero)).getD undef = z := by simp [hi,hz]
 rw [hzz]
 have h63 : ((len + k : Nat) : Int) ≤ 9223372036854775807 := by
   have : (len + k) * 1 ≤ (len + k) * i.bytes := Nat.mul_le_mul_left _ hby
   omega
 have hnews' : ∀ j v,news[j]? = some v → w.cell? ((⟨b,o,none⟩ : Addr).add j) = some v := fun j v hv => by rw [zCk]; exact hnews j v hv
 cases B with
 | none =>
   have hc := hB rfl
   subst hc
   have hl0 : len = 0 := by
     rcases holds with h | ⟨b,o,h,_⟩
     · exact h
     · cases h
   subst hl0
   have hol : olds = [] := List.eq_nil_of_length_eq_zero (by simpa using ho)
   subst hol
   refine ⟨grownCap w k 0 e,by rw [Nat.zero_add]; exact grownCap_ge w k 0 e,?_⟩
   have := run_append_nil (P := P) w t ty e i z he.under hi hz ⟨b,o,none⟩ k c news hn hnews' hk (by omega) (by rw [Nat.zero_add] at hb; omega)
   simpa using this
 | some ad =>
   refine ⟨grownCap w (len + k) cap e,grownCap_ge w _ _ e,?_⟩
   exact run_append_grow (P := P) w t ty e i z he.under hi hz ad len cap olds ho (fun j v hv => by
     rcases holds with h | ⟨b',o',h,hat⟩
     · subst h
       have hol : olds = [] := List.eq_nil_of_length_eq_zero (by simpa using ho)
       subst hol
       simp at hv
     · injection h with h; subst h; rw [zCk]; exact hat j v hv) ⟨b,o,none⟩ k c news hn hnews' hg h63 (growslice_fits hg hb)
theorem zSy {rows src : List (List T)} {i : Nat} {r : List T} (h : (rows ++ src)[i]? = some r) : (i < rows.length ∧ rows[i]? = some r) ∨ (rows.length ≤ i ∧ src[i - rows.length]? = some r) := by
 by_cases hi : i < rows.length
 · exact .inl ⟨hi,by rwa [List.getElem?_append_left hi] at h⟩
 · exact .inr ⟨by omega,by rwa [List.getElem?_append_right (by omega)] at h⟩
theorem zMu (h : Rel en g S H a w) {nm n sz bytes : Nat} {t ty e : TypeId} (he : ElT P t e sz bytes) (hs : 0 < sz) (hnm : ¬ g.used nm) (hpl : ∀ b',en.g0.own b' ≠ some (n,[]))
   {rows src : List (List T)} {olds news : List Value} {A : Option Addr} (hsrc : Src g w sz src A news) (hrl : ∀ (i : Nat) (r : List T),rows[i]? = some r → r.length = sz)
   (ho : olds.length = rows.length * sz) (hold : ∀ (i : Nat) (r : List T) (j : Nat) (x : T),rows[i]? = some r → r[j]? = some x → ∃ v,olds[i * sz + j]? = some v ∧ TR w g n [(i,j)] x v)
   {cap' : Nat} (hcap : rows.length + src.length ≤ cap') (Z : Array Value) (hZ : Z.size = (cap' - (rows.length + src.length)) * sz) :
   Grown en g nm S (upd H n none) a (w.drew.alloc (.cells (olds.toArray ++ news.toArray ++ Z) e)) sz (rows ++ src) (.slice (some ⟨w.heap.size,0,none⟩) (rows.length + src.length) cap') := by
 have hle := Gh.ren_le (n := n) (b := w.heap.size) (size := (olds.toArray ++ news.toArray ++ Z).size) hnm
 have hsize : (olds.toArray ++ news.toArray ++ Z).size = cap' * sz := by
   simp only [Array.size_append,yaX,ho,hsrc.len,hZ]
   rw [← Nat.add_mul,← Nat.add_mul]
   congr 1; omega
 have e1 : (g.ren n nm w.heap.size (olds.toArray ++ news.toArray ++ Z).size).rb nm = w.heap.size := zBc _ _ _
 have e2 : (g.ren n nm w.heap.size (olds.toArray ++ news.toArray ++ Z).size).base nm = 0 := zBc _ _ _
 have e3 : (g.ren n nm w.heap.size (olds.toArray ++ news.toArray ++ Z).size).rc nm = (olds.toArray ++ news.toArray ++ Z).size := zBc _ _ _
 have hhs : w.drew.heap.size = w.heap.size := rfl
 have hlenr : (rows ++ src).length = rows.length + src.length := by simp
 refine ⟨g.ren n nm w.heap.size (olds.toArray ++ news.toArray ++ Z).size,hle,fun m hm => hm,h.ren (w' := w.drew.alloc (.cells (olds.toArray ++ news.toArray ++ Z) e)) hnm hpl (.inl rfl) (by simp [hhs]) (by simp [hhs]) rfl rfl rfl (fun b' hb' _ => heap_alloc_old w.drew _ _ hb') ?_,?_⟩
 · refine .mk _ (olds.toArray ++ news.toArray ++ Z) e (by rw [e1]; exact heap_alloc_new w.drew _) (by rw [e1]; exact Gh.ren_b) ⟨e2,e3.symm,by rw [e3,hsize,hlenr]; exact Nat.mul_le_mul_right _ hcap,fun i r hr => ?_⟩ (fun i j x hx => ?_)
   · rcases zSy hr with ⟨_,h1⟩ | ⟨_,h1⟩
     · exact hrl i r h1
     · exact hsrc.row _ r h1
   · simp only [Root.get] at hx
     cases hrow : (rows ++ src)[i]? with
     | none => simp [hrow] at hx
     | some row =>
       simp only [hrow,Option.map_eq_some_iff] at hx
       obtain ⟨y,hy,rfl⟩ := hx
       rw [e2,Nat.zero_add]
       simp only [Root.sz]
       rcases zSy hrow with ⟨hi,h1⟩ | ⟨hi,h1⟩
       · obtain ⟨v,hv,ht⟩ := hold i row j y h1 hy
         refine ⟨v,?_,.t _ _ ((ht.move hle (fun b p hp => ⟨?_,?_⟩)))⟩
         · have hlt : i * sz + j < olds.length := (List.getElem?_eq_some_iff.1 hv).1
           rw [Array.getElem?_append_left (by simp; omega),Array.getElem?_append_left (by simpa using hlt)]
           simpa using hv
         · exact Gh.ren_n (by have := h.lt _ _ hp; omega) hp
         · exact heap_alloc_old w.drew _ _ (h.lt _ _ hp)
       · obtain ⟨v,hv,ht⟩ := hsrc.val _ row j y h1 hy
         refine ⟨v,?_,.t _ _ ((ht.mono hle).tr _ _ _)⟩
         have hlt : (i - rows.length) * sz + j < news.length := (List.getElem?_eq_some_iff.1 hv).1
         have hidx : i * sz + j = olds.length + ((i - rows.length) * sz + j) := by
           rw [ho,← Nat.add_assoc,← Nat.add_mul]; congr 2; omega
         rw [hidx,Array.getElem?_append_left (by simp; omega),Array.getElem?_append_right (by simp)]
         simpa using hv
 · have := CV.view (g := g.ren n nm w.heap.size (olds.toArray ++ news.toArray ++ Z).size) nm sz 0 (rows ++ src).length cap' (.inl rfl) e2 (by rw [hlenr]; exact hcap) (by rw [e3,hsize]; simp)
   rw [e1,Nat.zero_mul,hlenr] at this
   rw [hlenr]
   exact this
theorem zZu (h : Rel en g S H a w) {nm n sz : Nat} (hs : 0 < sz) (hnm : ¬ g.used nm) (hpl : ∀ b',en.g0.own b' ≠ some (n,[])) {rows src : List (List T)} {news : List Value} {A : Option Addr} (hsrc : Src g w sz src A news)
   {cs : Array Value} {e : TypeId} (hh : w.heap[g.rb n]? = some (.cells cs e (0,0))) (hon : g.own (g.rb n) = some (n,[])) (hf : (Root.arr sz rows).form (g.base n) (g.rc n) cs.size)
   (hr : ∀ (i j : Nat) (x : B),(Root.arr sz rows).get i j = some x → ∃ v,cs[g.base n + i * (Root.arr sz rows).sz + j]? = some v ∧ BR w g n [(i,j)] x v)
   {cap : Nat} (hcap : rows.length + src.length ≤ cap) (hc : cap * sz ≤ g.rc n) :
   Grown en g nm S (upd H n none) a (w.setRow (g.rb n) (setsA cs (rows.length * sz) news)) sz (rows ++ src) (.slice (some ⟨g.rb n,0,none⟩) (rows.length + src.length) cap) := by
 have hle := Gh.ren_le (n := n) (b := g.rb n) (size := g.rc n) hnm
 have e1 : (g.ren n nm (g.rb n) (g.rc n)).rb nm = g.rb n := zBc _ _ _
 have e2 : (g.ren n nm (g.rb n) (g.rc n)).base nm = 0 := zBc _ _ _
 have e3 : (g.ren n nm (g.rb n) (g.rc n)).rc nm = g.rc n := zBc _ _ _
 obtain ⟨hb0,hcs,hrl,hrows⟩ := hf
 have hlenr : (rows ++ src).length = rows.length + src.length := by simp
 have hfit : rows.length * sz + news.length ≤ cs.size := by
   rw [hsrc.len,← Nat.add_mul,hcs]
   exact Nat.le_trans (Nat.mul_le_mul_right _ hcap) hc
 refine ⟨g.ren n nm (g.rb n) (g.rc n),hle,fun m hm => hm,h.ren (w' := w.setRow (g.rb n) (setsA cs (rows.length * sz) news)) hnm hpl (.inr hon) (by simpa using h.lt _ _ hon) (by simp) rfl rfl rfl (fun b' _ hb' => setRow_other w _ _ _ hb') ?_,?_⟩
 · refine .mk _ (setsA cs (rows.length * sz) news) e (by rw [e1]; exact setRow_heap w _ cs _ e _ hh) (by rw [e1]; exact Gh.ren_b) ⟨e2,by rw [e3,zDv,hcs],by rw [e3,hlenr]; exact Nat.le_trans (Nat.mul_le_mul_right _ hcap) hc,fun i r hr' => ?_⟩ (fun i j x hx => ?_)
   · rcases zSy hr' with ⟨_,h1⟩ | ⟨_,h1⟩
     · exact hrows i r h1
     · exact hsrc.row _ r h1
   · simp only [Root.get] at hx
     cases hrow : (rows ++ src)[i]? with
     | none => simp [hrow] at hx
     | some row =>
       simp only [hrow,Option.map_eq_some_iff] at hx
       obtain ⟨y,hy,rfl⟩ := hx
       rw [e2,Nat.zero_add]
       simp only [Root.sz]
       rcases zSy hrow with ⟨hi,h1⟩ | ⟨hi,h1⟩
       · obtain ⟨v,hv,hbr⟩ := hr i j (.t y) (by simp [Root.get,h1,hy])
         rw [hb0,Nat.zero_add] at hv
         simp only [Root.sz] at hv
         have ht : TR w g n [(i,j)] y v := by cases hbr with | t _ _ h => exact h
         have hjs : j < sz := by rw [← hrows i row h1]; exact (List.getElem?_eq_some_iff.1 hy).1
         have hlt : i * sz + j < rows.length * sz := by
           have h2 := Nat.mul_le_mul_right sz (show i + 1 ≤ rows.length by omega)
           rw [Nat.add_mul] at h2; omega
         refine ⟨v,by rw [zJf _ _ _ _ (.inl hlt)]; exact hv,.t _ _ (ht.move hle (fun b p hp => ?_))⟩
         have hne : b ≠ g.rb n := fun e' => by rw [e',hon] at hp; simp at hp
         exact ⟨Gh.ren_n hne hp,setRow_other w _ _ _ hne⟩
       · obtain ⟨v,hv,ht⟩ := hsrc.val _ row j y h1 hy
         refine ⟨v,?_,.t _ _ ((ht.mono hle).tr _ _ _)⟩
         have hlt : (i - rows.length) * sz + j < news.length := (List.getElem?_eq_some_iff.1 hv).1
         have hidx : i * sz + j = rows.length * sz + ((i - rows.length) * sz + j) := by
           rw [← Nat.add_assoc,← Nat.add_mul]; congr 2; omega
         rw [hidx,zMm _ _ _ _ hfit hlt]
         exact hv
 · have := CV.view (g := g.ren n nm (g.rb n) (g.rc n)) nm sz 0 (rows ++ src).length cap (.inl rfl) e2 (by rw [hlenr]; exact hcap) (by rw [e3]; simpa using hc)
   rw [e1,Nat.zero_mul,hlenr] at this
   rw [hlenr]
   exact this
end Go.SX
