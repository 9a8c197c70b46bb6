/-
  SX: the engine, parts A to J, in one text. Plain definitions and theorems over any program.
  No condition.
-/
import Derived.Below
import Derived.OwnWalk
import Derived.Laws.FloatArith
import Derived.Laws.Tables
import Derived.Laws.CopyRow
import Derived.Laws.Rows
import Derived.Laws.Cells
import Derived.Laws.MakeOwn
import Derived.Laws.AppendOwn
import Derived.Laws.StructEq
import Derived.Laws.BytesString
import Derived.Lib.ItoaNum
import Derived.Lib.TrailingZeros
set_option maxRecDepth 100000
set_option maxHeartbeats 16000000
set_option linter.unusedVariables false
namespace Go.SX
theorem yab.{u_1}:∀{α:Type u_1} {a:α} {as:List α},(a::as).length=as.length+1:=@List.length_cons
theorem yac.{u_1}:∀{α:Type u_1} {b:α} {l:List α} {a:α},a∈b::l↔a=b∨a∈l:=@List.mem_cons
theorem yad.{u_1}:∀{α:Type u_1} {a:α},¬a∈[]:=@List.not_mem_nil
theorem yah.{u_1}:∀{α:Sort u_1} {p:α→Prop} {a1 a2:{x//p x}},a1=a2↔a1.val=a2.val:=@Subtype.ext_iff
theorem yai:∀(n:Nat),0≤n:=@Nat.zero_le
theorem yaj.{u_1}:∀{α:Type u_1} (p:α→Prop) (x:α),x∈[]→p x:=@List.forall_mem_nil
theorem yak.{u_1,u_2}:∀{α:Type u_1} {β:Type u_2} (a:α) (f:α→β),Option.map f (Option.some a)=Option.some (f a):=@Option.map_some
theorem yal:∀(n:Nat),n+0=n:=@Nat.add_zero
theorem yan.{u_1}:∀{α:Type u_1} {l:List α},List.take 0 l=[]:=@List.take_zero
theorem yao.{u_1}:∀{α:Type u_1} {a:α} {l:List α} {f:α→Bool},(a::l).all f=(f a&&l.all f):=@List.all_cons
theorem yap.{u_1}:∀{α:Type u_1} {f:α→Bool},[].all f=Bool.true:=@List.all_nil
theorem yaq:∀(b:Bool),(b&&Bool.true)=b:=@Bool.and_true
theorem yar:∀(b:Bool),(Bool.false&&b)=Bool.false:=@Bool.false_and
theorem yas:∀(b:Bool),(Bool.true&&b)=b:=@Bool.true_and
theorem yat:(Bool.false=Bool.true)=False:=@Bool.false_eq_true
theorem yau.{u_1}:∀{α:Sort u_1} {x:Decidable False} (t e:α),(if False then t else e)=e:=@if_false
theorem yav.{u_1}:∀{α:Sort u_1} {x:Decidable True} (t e:α),(if True then t else e)=t:=@if_true
theorem yaw.{u_1}:∀{α:Type u_1} {as bs:List α},(as++bs).length=as.length+bs.length:=@List.length_append
theorem yay:∀(a b:Bool),((a&&b)=Bool.true)=(a=Bool.true∧b=Bool.true):=@Bool.and_eq_true
theorem yaz.{u_1}:∀{α:Type u_1} {a b:α},a∈[b]↔a=b:=@List.mem_singleton
theorem yaC.{u_1}:∀{α:Type u_1} (val val_1:α),(Option.some val=Option.some val_1)=(val=val_1):=@Option.some.injEq
theorem yaD.{u_1}:∀{α:Type u_1} {as:List α} {i:Nat} {a:α},(as.set i a).length=as.length:=@List.length_set
theorem yaE.{u_1,u_2}:∀{α:Type u_1} {β:Type u_2} {x y:α×β},x=y↔x.fst=y.fst∧x.snd=y.snd:=@Prod.ext_iff
theorem yaG:∀{p:Prop} [inst:Decidable p],(Decidable.decide p=Bool.true)=p:=@decide_eq_true_eq
theorem yaH:(!Bool.true)=Bool.false:=@Bool.not_true
theorem yaI:(!Bool.false)=Bool.true:=@Bool.not_false
theorem yaL:∀(h:Decidable False),Decidable.decide False=Bool.false:=@decide_false
theorem yaM:∀(h:Decidable True),Decidable.decide True=Bool.true:=@decide_true
theorem yaN:∀(b:Bool),(b&&Bool.false)=Bool.false:=@Bool.and_false
theorem yaP.{u_1,u_2}:∀{α:Type u_1} {β:Type u_2} {f:α→List β},List.flatMap f []=[]:=@List.flatMap_nil
theorem yaQ:∀(b:Bool),(b&&b)=b:=@Bool.and_self
theorem yaS.{u_1}:∀{α:Type u_1} {as:List α},as.toArray.size=as.length:=@List.size_toArray
theorem yaT:∀(b:Bool),(Bool.false||b)=b:=@Bool.false_or
theorem yaU.{u_1}:∀{α:Type u_1} {a b:α},(Option.some a).getD b=a:=@Option.getD_some
end Go.SX
set_option linter.unusedSimpArgs false
namespace Go.SX
open Go Go.RowKit
inductive I where
 | bool (b:Bool)
 | int (k:IntKind) (n:Int)
 | flt (k:FloatKind) (x:Nat)
 | cpx (k:FloatKind) (x y:Nat)
 | str (s:ByteArray)
 | raw (v:Value)
 | sl (sz:Nat) (rows:List (List I))
 deriving Inhabited
inductive T where
 | im (i:I)
 | nil
 | dead
 | own (sz:Nat) (rows:List (List T))
 | lent (n sz len:Nat)
 deriving Inhabited
inductive C where
 | im (i:I)
 | nil
 | view (n sz lo len:Nat)
 | ptr (n sz i off:Nat)
 | iptr (row:List I) (off:Nat)
 | fn (f:Fn) (caps:List C)
 deriving Inhabited
inductive D where
 | c (x:C)
 | agg (xs:List C)
 | tup (ds:List D)
 deriving Inhabited
inductive B where
 | t (x:T)
 | v (x:C)
 deriving Inhabited
inductive Root where
 | box (cells:List B)
 | arr (sz:Nat) (rows:List (List T))
 deriving Inhabited
def isNaNb (k:FloatKind)(x:Nat):Bool:=(k.format.read x).isNaN
def FEq (k:FloatKind)(x y:Nat):Prop:=x=y∨(isNaNb k x=true∧isNaNb k y=true)
theorem FEq.refl (k:FloatKind)(x:Nat):FEq k x x:=.inl rfl
abbrev Pth:=List (Nat×Nat)
structure Gh where
 used:Nat→Prop
 rb:Nat→Nat
 base:Nat→Nat
 rc:Nat→Nat
 own:Nat→Option (Nat×Pth)
 fz:Nat→Nat→Option Value
inductive IR (fz:Nat→Nat→Option Value):I→Value→Prop where
 | bool (b:Bool):IR fz (.bool b) (.bool b)
 | int (k:IntKind) (n:Int):IR fz (.int k n) (.int k n)
 | flt (k:FloatKind) (x y:Nat) (h:FEq k x y):IR fz (.flt k x) (.float k y)
 | cpx (k:FloatKind) (x y x' y':Nat) (h:FEq k x x') (h':FEq k y y'):IR fz (.cpx k x y) (.complex k x' y')
 | str (s:ByteArray):IR fz (.str s) (.string s)
 | raw (v:Value) (h:v.oneCell'=true):IR fz (.raw v) v
 | sl0 (sz:Nat) (a:Option Addr) (c:Nat):IR fz (.sl sz []) (.slice a 0 c)
 | sl (sz:Nat) (rows:List (List I)) (b off c:Nat) (vs:Nat→Nat→Value) (hc:rows.length≤c)
  (hl:∀(i:Nat) (r:List I),rows[i]?=some r→r.length=sz)
  (hx:∀(i:Nat) (r:List I) (j:Nat) (x:I),rows[i]?=some r→r[j]?=some x→fz b (off+i*sz+j)=some (vs i j))
  (hr:∀(i:Nat) (r:List I) (j:Nat) (x:I),rows[i]?=some r→r[j]?=some x→IR fz x (vs i j)):
  IR fz (.sl sz rows) (.slice (some ⟨b,off,none⟩) rows.length c)
inductive CV (g:Gh):C→Value→Prop where
 | im (i:I) (v:Value) (h:IR g.fz i v):CV g (.im i) v
 | nil:CV g .nil (.slice none 0 0)
 | view0 (n sz lo:Nat) (a:Option Addr) (h:g.used n):CV g (.view n sz lo 0) (.slice a 0 0)
 | view (n sz lo len cap:Nat) (h:g.used n) (hb:g.base n=0) (hl:len≤cap) (hc:(lo+cap)*sz≤g.rc n):CV g (.view n sz lo len) (.slice (some ⟨g.rb n,lo*sz,none⟩) len cap)
 | ptr (n sz i off:Nat) (h:g.used n):CV g (.ptr n sz i off) (.pointer (some ⟨g.rb n,g.base n+i*sz+off,none⟩))
 | iptr (row:List I) (off b o:Nat) (vs:Nat→Value) (hx:∀(j:Nat) (x:I),row[j]?=some x→g.fz b (o+j)=some (vs j))
  (hr:∀(j:Nat) (x:I),row[j]?=some x→IR g.fz x (vs j)):CV g (.iptr row off) (.pointer (some ⟨b,o+off,none⟩))
 | fn (f:Fn) (caps:List C) (vs:Array Value) (hs:vs.size=caps.length) (hr:∀(j:Nat) (x:C) (v:Value),caps[j]?=some x→vs[j]?=some v→CV g x v):CV g (.fn f caps) (.func f #[] vs)
inductive DV (g:Gh):D→Value→Prop where
 | c (x:C) (v:Value) (h:CV g x v):DV g (.c x) v
 | agg (xs:List C) (vs:Array Value) (hs:vs.size=xs.length) (hr:∀(j:Nat) (x:C) (v:Value),xs[j]?=some x→vs[j]?=some v→CV g x v):DV g (.agg xs) (.agg vs)
 | tup (ds:List D) (vs:Array Value) (hs:vs.size=ds.length) (hr:∀(j:Nat) (x:D) (v:Value),ds[j]?=some x→vs[j]?=some v→DV g x v):DV g (.tup ds) (.tuple vs)
inductive TR (w:World) (g:Gh) (n:Nat):Pth→T→Value→Prop where
 | im (q:Pth) (i:I) (v:Value) (h:IR g.fz i v):TR w g n q (.im i) v
 | nil (q:Pth):TR w g n q .nil (.slice none 0 0)
 | dead (q:Pth) (v:Value):TR w g n q .dead v
 | own0 (q:Pth) (sz:Nat) (a:Option Addr):TR w g n q (.own sz []) (.slice a 0 0)
 | own (q:Pth) (sz:Nat) (rows:List (List T)) (b cap:Nat) (cs:Array Value) (e:TypeId) (vs:Nat→Nat→Value)
  (hh:w.heap[b]?=some (.cells cs e (0,0))) (ho:g.own b=some (n,q)) (hl:rows.length≤cap) (hc:cap*sz≤cs.size)
  (hz:∀(i:Nat) (r:List T),rows[i]?=some r→r.length=sz)
  (hx:∀(i:Nat) (r:List T) (j:Nat) (x:T),rows[i]?=some r→r[j]?=some x→cs[i*sz+j]?=some (vs i j))
  (hr:∀(i:Nat) (r:List T) (j:Nat) (x:T),rows[i]?=some r→r[j]?=some x→TR w g n (q++[(i,j)]) x (vs i j)):
  TR w g n q (.own sz rows) (.slice (some ⟨b,0,none⟩) rows.length cap)
 | lent (q:Pth) (m sz len:Nat) (v:Value) (h:CV g (.view m sz 0 len) v):TR w g n q (.lent m sz len) v
inductive BR (w:World) (g:Gh) (n:Nat) (q:Pth):B→Value→Prop where
 | t (x:T) (v:Value) (h:TR w g n q x v):BR w g n q (.t x) v
 | v (x:C) (v:Value) (h:CV g x v):BR w g n q (.v x) v
def Root.sz:Root→Nat
 | .box _=>0
 | .arr sz _=>sz
def Root.get:Root→Nat→Nat→Option B
 | .box cells,0,j=>cells[j]?
 | .box _,_+1,_=>none
 | .arr _ rows,i,j=>match rows[i]? with
  | some r=>(r[j]?).map B.t
  | none=>none
def Root.form (r:Root)(base rc size:Nat):Prop:=
 match r with
 | .box _=>True
 | .arr sz rows=>base=0∧size=rc∧rows.length*sz≤rc∧∀(i:Nat) (r:List T),rows[i]?=some r→r.length=sz
inductive RootR (w:World) (g:Gh) (n:Nat):Root→Prop where
 | mk (r:Root) (cs:Array Value) (e:TypeId) (hh:w.heap[g.rb n]?=some (.cells cs e (0,0))) (ho:g.own (g.rb n)=some (n,[])) (hf:r.form (g.base n) (g.rc n) cs.size)
  (hr:∀(i j:Nat) (x:B),r.get i j=some x→∃v,cs[g.base n+i*r.sz+j]?=some v∧BR w g n [(i,j)] x v):RootR w g n r
 | arr0 (sz:Nat) (hs:0<sz) (hc:g.rc n=0):RootR w g n (.arr sz [])
structure Gh.le (g g':Gh):Prop where
 used:∀n,g.used n→g'.used n
 rb:∀n,g.used n→g'.rb n=g.rb n
 base:∀n,g.used n→g'.base n=g.base n
 rc:∀n,g.used n→g'.rc n=g.rc n
 fz:∀b o v,g.fz b o=some v→g'.fz b o=some v
theorem Gh.le.refl (g:Gh):g.le g:=⟨fun _ h=>h,fun _ _=>rfl,fun _ _=>rfl,fun _ _=>rfl,fun _ _ _ h=>h⟩
theorem Gh.le.trans {a b c:Gh}(h:a.le b)(k:b.le c):a.le c:=
 ⟨fun n E=>k.used n (h.used n E),fun n E=>(k.rb n (h.used n E)).trans (h.rb n E),fun n E=>(k.base n (h.used n E)).trans (h.base n E),
  fun n E=>(k.rc n (h.used n E)).trans (h.rc n E),fun b o v F=>k.fz b o v (h.fz b o v F)⟩
theorem IR.mono {fz fz':Nat→Nat→Option Value}(hf:∀b o v,fz b o=some v→fz' b o=some v){i:I}{v:Value}(h:IR fz i v):IR fz' i v:=by
 induction h with
 | bool b=>exact .bool b
 | int k n=>exact .int k n
 | flt k x y h=>exact .flt k x y h
 | cpx k x y x' y' h h'=>exact .cpx k x y x' y' h h'
 | str s=>exact .str s
 | raw v h=>exact .raw v h
 | sl0 sz a c=>exact .sl0 sz a c
 | sl sz rows b off c vs hc hl hx hr ih=>exact .sl sz rows b off c vs hc hl (fun i r j x h1 h2=>hf _ _ _ (hx i r j x h1 h2)) ih
theorem CV.mono {g g':Gh}(hg:g.le g'){x:C}{v:Value}(h:CV g x v):CV g' x v:=by
 induction h with
 | im i v h=>exact .im i v (h.mono hg.fz)
 | nil=>exact .nil
 | view0 n sz lo a h=>exact .view0 n sz lo a (hg.used n h)
 | view n sz lo len cap h hb hl hc=>rw[←hg.rb n h];exact .view n sz lo len cap (hg.used n h) ((hg.base n h).trans hb) hl (by rw[hg.rc n h];exact hc)
 | ptr n sz i off h=>rw[←hg.rb n h,←hg.base n h];exact .ptr n sz i off (hg.used n h)
 | iptr row off b o vs hx hr=>exact .iptr row off b o vs (fun j x hj=>hg.fz _ _ _ (hx j x hj)) (fun j x hj=>(hr j x hj).mono hg.fz)
 | fn f caps vs hs hr ih=>exact .fn f caps vs hs ih
theorem DV.mono {g g':Gh}(hg:g.le g'){d:D}{v:Value}(h:DV g d v):DV g' d v:=by
 induction h with
 | c x v h=>exact .c x v (h.mono hg)
 | agg xs vs hs hr=>exact .agg xs vs hs (fun j x v hj E=>(hr j x v hj E).mono hg)
 | tup ds vs hs hr ih=>exact .tup ds vs hs ih
theorem TR.move {w w':World} {g g':Gh} {n n':Nat} {q q':Pth} {t:T} {v:Value} (h:TR w g n q t v) (hg:g.le g')
 (hb:∀(b:Nat) (p:Pth),g.own b=some (n,q++p)→g'.own b=some (n',q'++p)∧w'.heap[b]?=w.heap[b]?):TR w' g' n' q' t v:=by
 induction h generalizing q' with
 | im q i v h=>exact .im q' i v (h.mono hg.fz)
 | nil q=>exact .nil q'
 | dead q v=>exact .dead q' v
 | own0 q sz a=>exact .own0 q' sz a
 | own q sz rows b cap cs e vs hh ho hl hc hz hx hr ih=>
  obtain ⟨h1,h2⟩:=hb b [] (by simpa using ho);refine .own q' sz rows b cap cs e vs (h2.trans hh) (by simpa using h1) hl hc hz hx (fun i r j x h3 h4=>ih i r j x h3 h4 (fun b p E=>?_));have:=hb b ((i,j)::p) (by simpa using E);simpa using this
 | lent q m sz len v h=>exact .lent q' m sz len v (h.mono hg)
theorem TR.keep {w w':World} {g g':Gh} {n:Nat} {q:Pth} {t:T} {v:Value} (h:TR w g n q t v) (hg:g.le g')
 (hb:∀(b:Nat) (p:Pth),g.own b=some (n,q++p)→g'.own b=some (n,q++p)∧w'.heap[b]?=w.heap[b]?):TR w' g' n q t v:=h.move hg hb
theorem zHx {α:Type}{rows:List (List α)}{Pr:Nat→Nat→α→Value→Prop}(h:∀(i:Nat) (r:List α) (j:Nat) (x:α),rows[i]?=some r→r[j]?=some x→∃v,Pr i j x v):
 ∃vs:Nat→Nat→Value,∀(i:Nat) (r:List α) (j:Nat) (x:α),rows[i]?=some r→r[j]?=some x→Pr i j x (vs i j):=by
 refine⟨fun i j=>Classical.epsilon fun v=>∀r x,rows[i]?=some r→r[j]?=some x→Pr i j x v,fun i r j x h1 h2=>?_⟩;obtain ⟨v,F⟩:=h i r j x h1 h2
 have E:∃v,∀r x,rows[i]?=some r→r[j]?=some x→Pr i j x v:=⟨v,fun r' x' h3 h4=>by
  rw[h1] at h3;injection h3 with h3;subst h3;rw[h2] at h4;injection h4 with h4;subst h4;exact F⟩
 exact Classical.epsilon_spec E r x h1 h2
theorem IR.one {fz:Nat→Nat→Option Value}{i:I}{v:Value}(h:IR fz i v):v.oneCell'=true:=by cases h<;>first|rfl|assumption
theorem CV.one {g:Gh}{x:C}{v:Value}(h:CV g x v):v.oneCell'=true:=by
 cases h with
 | im i v h=>exact h.one
 | _=>rfl
theorem zKz1 {v:Value}(h:v.oneCell'=true):v.cells=#[v]:=by cases v<;>first|rfl|(simp[Value.oneCell'] at h)
theorem CV.cells {g:Gh}{x:C}{v:Value}(h:CV g x v):v.cells=#[v]:=zKz1 h.one
def upd {α:Type}(f:Nat→α)(n:Nat)(x:α):Nat→α:=fun m=>if m=n then x else f m
theorem zBl {α:Type}(f:Nat→α)(n:Nat)(x:α):upd f n x n=x:=by simp[upd]
theorem zCl {α:Type}(f:Nat→α){n m:Nat}(x:α)(h:m≠n):upd f n x m=f m:=by simp[upd,h]
structure En where
 g0:Gh
 w0:World
 wid:Nat→Nat
def globV:List (Nat×List Value):=[(1,Go.Lib.deBruijn32tab.map fun (k:Nat)=>Value.int .u8 (k:Int)),(7,Go.Lib.pow10Tab.map fun z=>Value.int .u64 z)]
def globI:List Nat:=[3,4]
def globN:List Nat:=[2]
structure Laid (own:Nat→Option (Nat×Pth)) (w:World):Prop where
 v:∀b cs,(b,cs)∈globV→(∃e fr,w.heap[b]?=some (.cells cs.toArray e fr))∧own b=none
 i:∀b∈globI,(∃t p e fr,w.heap[b]?=some (.cells #[.iface t p] e fr))∧own b=none
 n:∀b∈globN,(∃m e fr,w.heap[b]?=some (.cells #[.int .i64 m] e fr))∧own b=none
theorem Laid.move {own own':Nat→Option (Nat×Pth)}{w w':World}(h:Laid own w)(hb:∀b,b<w.heap.size→own b=none→own' b=none∧w'.heap[b]?=w.heap[b]?):Laid own' w':=by
 have lt:∀{b:Nat} {o:Obj},w.heap[b]?=some o→b<w.heap.size:=fun h=>(Array.getElem?_eq_some_iff.1 h).1;refine⟨fun b cs hx=>?_,fun b hx=>?_,fun b hx=>?_⟩
 ·obtain ⟨⟨e,fr,h1⟩,h2⟩:=h.v b cs hx;obtain ⟨F,E⟩:=hb b (lt h1) h2;exact⟨⟨e,fr,by rw[E];exact h1⟩,F⟩
 ·obtain ⟨⟨t,p,e,fr,h1⟩,h2⟩:=h.i b hx;obtain ⟨F,E⟩:=hb b (lt h1) h2;exact⟨⟨t,p,e,fr,by rw[E];exact h1⟩,F⟩
 ·obtain ⟨⟨m,e,fr,h1⟩,h2⟩:=h.n b hx;obtain ⟨F,E⟩:=hb b (lt h1) h2;exact⟨⟨m,e,fr,by rw[E];exact h1⟩,F⟩
structure Fr (en:En) (g:Gh) (w:World):Prop where
 laid:Laid en.g0.own en.w0
 os:w.os=en.w0.os
 tape:w.tape=en.w0.tape
 output:w.output=en.w0.output
 size:en.w0.heap.size≤w.heap.size
 gle:en.g0.le g
 old:∀b,b<en.w0.heap.size→en.g0.own b=none→g.own b=none∧w.heap[b]?=en.w0.heap[b]?
 place:∀b n,en.g0.own b=some (n,[])→en.g0.used n∧g.own b=some (n,[])∧∃cs cs' e,en.w0.heap[b]?=some (.cells cs e (0,0))∧w.heap[b]?=some (.cells cs' e (0,0))∧cs'.size=cs.size∧
  ∀o,(o<en.g0.base n∨en.g0.base n+en.wid n≤o)→cs'[o]?=cs[o]?
 fzn:∀b o v,b<en.w0.heap.size→g.fz b o=some v→en.g0.fz b o=some v∨en.g0.own b≠none
structure Rel (en:En) (g:Gh) (S:Nat→Option D) (H:Nat→Option Root) (a:Act) (w:World):Prop where
 fr:Fr en g w
 df:a.defers=[]
 lt:∀b x,g.own b=some x→b<w.heap.size
 fz:∀b o v,g.fz b o=some v→w.cell? ⟨b,o,none⟩=some v∧g.own b=none
 slots:∀t d,S t=some d→∃v,a.tmps[t]?=some v∧DV g d v
 roots:∀n r,H n=some r→g.used n∧RootR w g n r
 wd:∀n r b,H n=some r→en.g0.own b=some (n,[])→∃cells,r=.box cells∧cells.length≤en.wid n
variable {en : En} {g : Gh} {S S' : Nat → Option D} {H H' : Nat → Option Root} {a : Act} {w : World}
theorem RootR.keep {w w':World} {g g':Gh} {n:Nat} {r:Root} (h:RootR w g n r) (hu:g.used n) (hg:g.le g')
 (hb:∀(b:Nat) (p:Pth),g.own b=some (n,p)→g'.own b=some (n,p)∧w'.heap[b]?=w.heap[b]?):RootR w' g' n r:=by
 cases h with
 | mk r cs e hh ho hf hr=>
  obtain ⟨h1,h2⟩:=hb _ _ ho;refine .mk r cs e (by rw[hg.rb n hu,h2];exact hh) (by rw[hg.rb n hu];exact h1) (by rw[hg.base n hu,hg.rc n hu];exact hf) (fun i j x hj=>?_);obtain ⟨v,F,E⟩:=hr i j x hj;refine⟨v,by rw[hg.base n hu];exact F,?_⟩
  cases E with
  | t x v h=>exact .t x v (h.keep hg (fun b p G=>hb b _ G))
  | v x v h=>exact .v x v (h.mono hg)
 | arr0 sz hs hc=>exact .arr0 sz hs (by rw[hg.rc n hu];exact hc)
theorem Rel.less (h:Rel en g S H a w)(hs:∀t d,S' t=some d→S t=some d)(hh:∀n r,H' n=some r→H n=some r):Rel en g S' H' a w:=
 ⟨h.fr,h.df,h.lt,h.fz,fun t d F=>h.slots t d (hs t d F),fun n r E=>h.roots n r (hh n r E),fun n r b E=>h.wd n r b (hh _ _ E)⟩
theorem Rel.world (h:Rel en g S H a w){w':World}(h1:w'.heap=w.heap)(h2:w'.os=w.os)(h3:w'.tape=w.tape)(h4:w'.output=w.output):Rel en g S H a w':=by
 have hc:∀E,w'.cell? E=w.cell? E:=fun E=>by simp[World.cell?,h1]
 refine⟨⟨h.fr.laid,h2.trans h.fr.os,h3.trans h.fr.tape,h4.trans h.fr.output,by rw[h1];exact h.fr.size,h.fr.gle,fun b hb ho=>by rw[h1];exact h.fr.old b hb ho,fun b n ho=>by rw[h1];exact h.fr.place b n ho,h.fr.fzn⟩,
  h.df,fun b x hx=>by rw[h1];exact h.lt b x hx,fun b o v G=>by rw[hc];exact h.fz b o v G,h.slots,fun n r U=>?_,h.wd⟩
 obtain ⟨F,hr⟩:=h.roots n r U;exact⟨F,hr.keep F (Gh.le.refl g) (fun b p J=>⟨J,by rw[h1]⟩)⟩
theorem Rel.drew (h:Rel en g S H a w):Rel en g S H a w.drew:=h.world rfl rfl rfl rfl
theorem Rel.put (h:Rel en g S H a w){t:Nat}{d:D}{v:Value}(ht:t<a.tmps.size)(hd:DV g d v):Rel en g (upd S t (some d)) H (a.put (some t) v) w:=by
 refine⟨h.fr,h.df,h.lt,h.fz,fun F d' hs=>?_,h.roots,h.wd⟩;unfold upd at hs;by_cases e:F=t
 ·subst e;rw[if_pos rfl] at hs;injection hs with hs;subst hs;exact⟨v,by simp[Act.put,ht],hd⟩
 ·rw[if_neg e] at hs;obtain ⟨G,J,E⟩:=h.slots F d' hs;refine⟨G,?_,E⟩;simp only[Act.put,Array.getElem?_setIfInBounds];rw[if_neg (Ne.symm e)];exact J
theorem Rel.putU (h:Rel en g S H a w)(t:Option Nat)(v:Value):Rel en g (match t with|some t=>upd S t none|none=>S) H (a.put t v) w:=by
 cases t with
 | none=>exact h
 | some t=>
  refine⟨h.fr,h.df,h.lt,h.fz,fun F d' hs=>?_,h.roots,h.wd⟩;simp only[upd] at hs;by_cases e:F=t
  ·rw[if_pos e] at hs;cases hs
  ·rw[if_neg e] at hs;obtain ⟨G,J,E⟩:=h.slots F d' hs;refine⟨G,?_,E⟩;simp only[Act.put,Array.getElem?_setIfInBounds];rw[if_neg (Ne.symm e)];exact J
def Gh.new (g:Gh)(nm b size:Nat):Gh:=
 {used:=fun m=>m=nm∨g.used m,rb:=upd g.rb nm b,base:=upd g.base nm 0,rc:=upd g.rc nm size,own:=upd g.own b (some (nm,[])),fz:=g.fz}
theorem Gh.new_le {g:Gh}{nm b size:Nat}(h:¬g.used nm):g.le (g.new nm b size):=
 ⟨fun n E=>.inr E,fun n E=>zCl _ _ (fun e=>h (e▸E)),fun n E=>zCl _ _ (fun e=>h (e▸E)),fun n E=>zCl _ _ (fun e=>h (e▸E)),fun _ _ _ F=>F⟩
theorem Rel.new (h:Rel en g S H a w) {nm:Nat} (hn:¬g.used nm) (cs:Array Value) (e:TypeId) {r:Root}
 (hr:RootR (w.alloc (.cells cs e)) (g.new nm w.heap.size cs.size) nm r):
 Rel en (g.new nm w.heap.size cs.size) S (upd H nm (some r)) a (w.alloc (.cells cs e)):=by
 have U:g.le (g.new nm w.heap.size cs.size):=Gh.new_le hn;have hold:∀b,b<w.heap.size→(g.new nm w.heap.size cs.size).own b=g.own b:=fun b hb=>zCl _ _ (by omega)
 have Z:g.own w.heap.size=none:=by
  cases ho:g.own w.heap.size with
  | none=>rfl
  | some x=>exact absurd (h.lt _ _ ho) (by omega)
 have F:∀b,b<w.heap.size→(w.alloc (.cells cs e)).heap[b]?=w.heap[b]?:=fun b hb=>heap_alloc_old _ _ _ hb
 refine⟨⟨h.fr.laid,h.fr.os,h.fr.tape,h.fr.output,by simpa using Nat.le_succ_of_le h.fr.size,h.fr.gle.trans U,fun b hb ho=>?_,fun b n ho=>?_,h.fr.fzn⟩,h.df,fun b x hx=>?_,fun b o v V=>?_,
  fun t d ht=>?_,fun n r' E=>?_,fun n cells b E ho=>?_⟩
 ·have G:b<w.heap.size:=Nat.lt_of_lt_of_le hb h.fr.size;rw[hold b G,F b G];exact h.fr.old b hb ho
 ·obtain ⟨h0,h1,a7,a6,e1,h2,h3,h4⟩:=h.fr.place b n ho;have G:=h.lt _ _ h1;rw[hold b G];exact⟨h0,h1,a7,a6,e1,h2,(F b G).trans h3,h4⟩
 ·by_cases hb:b<w.heap.size
  ·simpa using Nat.lt_succ_of_lt hb
  ·by_cases J:b=w.heap.size
   ·subst J;simp
   ·have:g.own b=some x:=(by rw[←hx];exact (zCl _ _ J).symm);exact absurd (h.lt _ _ this) hb
 ·obtain ⟨h1,h2⟩:=h.fz b o v V;have hb:b<w.heap.size:=World.block_lt_of_cell? w _ h1;exact⟨(World.cell?_of_block (w:=w) (a:=⟨b,o,none⟩) (F b hb)).trans h1,(hold b hb).trans h2⟩
 ·obtain ⟨v,V,hd⟩:=h.slots t d ht;exact⟨v,V,hd.mono U⟩
 ·unfold upd at E;by_cases J:n=nm
  ·subst J;rw[if_pos rfl] at E;injection E with E;subst E;exact⟨.inl rfl,hr⟩
  ·rw[if_neg J] at E;obtain ⟨hu,hR⟩:=h.roots n r' E;exact⟨.inr hu,hR.keep hu U (fun b p hp=>by have hb:=h.lt _ _ hp;exact⟨(hold b hb).trans hp,F b hb⟩)⟩
 ·unfold upd at E;by_cases J:n=nm
  ·subst J;exact absurd (h.fr.gle.used n (h.fr.place b n ho).1) hn
  ·rw[if_neg J] at E;exact h.wd n cells b E ho
theorem Rel.store (h:Rel en g S H a w) {n:Nat} {r r':Root} (hn:H n=some r) {cs cs':Array Value} {e:TypeId}
 (hh:w.heap[g.rb n]?=some (.cells cs e (0,0))) (ho:g.own (g.rb n)=some (n,[])) (hsz:cs'.size=cs.size)
 (hout:∀b,en.g0.own b=some (n,[])→∀o,(o<en.g0.base n∨en.g0.base n+en.wid n≤o)→cs'[o]?=cs[o]?)
 (hr:RootR (w.setRow (g.rb n) cs') g n r') (hw:∀b,en.g0.own b=some (n,[])→∃cells,r'=.box cells∧cells.length≤en.wid n):
 Rel en g S (upd H n (some r')) a (w.setRow (g.rb n) cs'):=by
 have F:∀b,g.own b≠some (n,[])→(w.setRow (g.rb n) cs').heap[b]?=w.heap[b]?:=fun b hb=>setRow_other w _ _ _ (fun G=>hb (G▸ho))
 refine⟨⟨h.fr.laid,h.fr.os,h.fr.tape,h.fr.output,by simpa using h.fr.size,h.fr.gle,fun b hb V=>?_,fun b m hb=>?_,h.fr.fzn⟩,h.df,fun b x hx=>by simpa using h.lt b x hx,fun b o v hv=>?_,h.slots,
  fun m r1 E=>?_,fun m cells b E hb=>?_⟩
 ·obtain ⟨h1,h2⟩:=h.fr.old b hb V;exact⟨h1,(F b (by rw[h1];simp)).trans h2⟩
 ·obtain ⟨h0,h1,c1,c2,e1,h2,h3,h4,h5⟩:=h.fr.place b m hb;by_cases G:b=g.rb n
  ·subst G;have U:m=n:=(by rw[ho] at h1;injection h1 with h1;injection h1 with h1;exact h1.symm);subst U;rw[hh] at h3;injection h3 with h3;injection h3 with h3 Z;subst h3;subst Z;exact⟨h0,h1,c1,cs',e,h2,setRow_heap w _ cs cs' e _ hh,hsz.trans h4,fun o J=>(hout _ hb o J).trans (h5 o J)⟩
  ·exact⟨h0,h1,c1,c2,e1,h2,(setRow_other w _ _ _ G).trans h3,h4,h5⟩
 ·obtain ⟨h1,h2⟩:=h.fz b o v hv;exact⟨(World.cell?_of_block (w:=w) (a:=⟨b,o,none⟩) (F b (by rw[h2];simp))).trans h1,h2⟩
 ·unfold upd at E;by_cases G:m=n
  ·subst G;rw[if_pos rfl] at E;injection E with E;subst E;exact⟨(h.roots m r hn).1,hr⟩
  ·rw[if_neg G] at E;obtain ⟨hu,hR⟩:=h.roots m r1 E;exact⟨hu,hR.keep hu (Gh.le.refl g) (fun b p hp=>⟨hp,F b (by rw[hp];intro hc;injection hc with hc;injection hc with hc _;exact G hc)⟩)⟩
 ·unfold upd at E;by_cases G:m=n
  ·subst G;rw[if_pos rfl] at E;injection E with E;subst E;exact hw b hb
  ·rw[if_neg G] at E;exact h.wd m cells b E hb
def Gh.into (g:Gh)(m n:Nat)(q:Pth):Gh:=
 {g with own:=fun b=>match g.own b with
  | some (m',p)=>if m'=m then some (n,q++p) else some (m',p)
  | none=>none}
theorem Gh.into_le (g:Gh)(m n:Nat)(q:Pth):g.le (g.into m n q):=⟨fun _ h=>h,fun _ _=>rfl,fun _ _=>rfl,fun _ _=>rfl,fun _ _ _ h=>h⟩
theorem Gh.into_other {g:Gh}{m n:Nat}{q:Pth}{b m':Nat}{p:Pth}(h:g.own b=some (m',p))(hm:m'≠m):(g.into m n q).own b=some (m',p):=by simp[Gh.into,h,hm]
theorem Gh.into_same {g:Gh}{m n:Nat}{q:Pth}{b:Nat}{p:Pth}(h:g.own b=some (m,p)):(g.into m n q).own b=some (n,q++p):=by simp[Gh.into,h]
theorem TR.of_arr {m n sz:Nat}{rows:List (List T)}{q:Pth}{v:Value}(hr:RootR w g m (.arr sz rows))(hv:CV g (.view m sz 0 rows.length) v)(hmn:m≠n):
 TR w (g.into m n q) n q (.own sz rows) v:=by
 have F:∀v,(∃a,v=Value.slice a 0 0)→rows=[]→TR w (g.into m n q) n q (.own sz rows) v:=by rintro v ⟨a,rfl⟩ rfl;exact .own0 q sz a
 cases hr with
 | arr0 _ hsz hrc=>
  cases hv with
  | view0 n sz lo a hu=>exact F _ ⟨_,rfl⟩ rfl
  | view n sz lo len cap hu hb hl hc=>
   rw[hrc] at hc
   have:cap=0:=by
    rcases Nat.eq_zero_or_pos cap with V|V
    ·exact V
    ·have:=Nat.mul_pos (show 0<0+cap by omega) hsz;omega
   subst this;exact F _ ⟨_,rfl⟩ rfl
 | mk _ cs e hh ho hf hr=>
  obtain ⟨hb,hc,hm,hz⟩:=hf;generalize E:rows.length=len at hv
  cases hv with
  | view0 n sz lo a hu=>exact F _ ⟨_,rfl⟩ (List.eq_nil_of_length_eq_zero E)
  | view n sz lo len cap hu hb' hl hc'=>
   subst E;rw[Nat.zero_mul];have U:=Gh.into_same (n:=n) (q:=q) ho
   have J:∀(i:Nat) (r:List T) (j:Nat) (x:T),rows[i]?=some r→r[j]?=some x→∃v,cs[i*sz+j]?=some v∧TR w g m [(i,j)] x v:=fun i r j x h1 h2=>by
    obtain ⟨v,h3,h4⟩:=hr i j (.t x) (by simp[Root.get,h1,h2]);refine⟨v,by rw[hb,Nat.zero_add] at h3;exact h3,?_⟩
    cases h4 with
    | t _ _ h=>exact h
   obtain ⟨vs,G⟩:=zHx J;refine .own q sz rows (g.rb m) cap cs e vs hh (by simpa using U) hl (by rw[hc];simpa using hc') hz (fun i r j x h1 h2=>(G i r j x h1 h2).1) (fun i r j x h1 h2=>?_);refine (G i r j x h1 h2).2.move (Gh.into_le g m n q) (fun b p Z=>⟨?_,rfl⟩);have:=Gh.into_same (n:=n) (q:=q) Z;simpa using this
def Root.setT:Root→Nat→Nat→T→Root
 | .box cells,0,j,x=>.box (cells.set j (.t x))
 | .box cells,_+1,_,_=>.box cells
 | .arr sz rows,i,j,x=>match rows[i]? with
  | some r=>.arr sz (rows.set i (r.set j x))
  | none=>.arr sz rows
theorem Root.setT_sz (r:Root)(i j:Nat)(x:T):(r.setT i j x).sz=r.sz:=by
 cases r with
 | box cells=>cases i<;>rfl
 | arr sz rows=>simp only[Root.setT];split<;>rfl
theorem Root.setT_get {r:Root}{i j:Nat}{y:B}(x:T)(hy:r.get i j=some y)(i' j':Nat):(r.setT i j x).get i' j'=if i'=i∧j'=j then some (.t x) else r.get i' j':=by
 cases r with
 | box cells=>
  cases i with
  | zero=>
   simp only[Root.get] at hy;have hj:j<cells.length:=(List.getElem?_eq_some_iff.1 hy).1
   cases i' with
   | zero=>
    simp only[Root.setT,Root.get,List.getElem?_set];by_cases e:j=j'
    ·subst e;simp[hj]
    ·simp[e,Ne.symm e]
   | succ i'=>simp[Root.setT,Root.get]
  | succ i=>simp[Root.get] at hy
 | arr sz rows=>
  simp only[Root.get] at hy
  cases hr:rows[i]? with
  | none=>simp[hr] at hy
  | some r=>
   simp only[hr,Option.map_eq_some_iff] at hy;obtain ⟨z,hz,_⟩:=hy;have hj:j<r.length:=(List.getElem?_eq_some_iff.1 hz).1;have hi:i<rows.length:=(List.getElem?_eq_some_iff.1 hr).1;simp only[Root.setT,hr,Root.get,List.getElem?_set];by_cases e:i=i'
   ·subst e;simp only[if_pos,hi,hr,true_and];rw[List.getElem?_set];by_cases E:j=j'
    ·subst E;simp[hj]
    ·simp[E,Ne.symm E]
   ·simp[e,Ne.symm e]
theorem Root.setT_form {r:Root}(i j:Nat)(x:T){base rc size:Nat}(h:r.form base rc size):(r.setT i j x).form base rc size:=by
 cases r with
 | box cells=>cases i<;>exact h
 | arr sz rows=>
  simp only[Root.setT];split
  ·rename_i r hr;obtain ⟨h1,h2,h3,h4⟩:=h;refine⟨h1,h2,by simpa using h3,fun F r' E=>?_⟩;rw[List.getElem?_set] at E;split at E
   ·split at E
    ·injection E with E;subst E;simpa using h4 i r hr
    ·cases E
   ·exact h4 F r' E
  ·exact h
theorem Root.setT_box (cells:List B)(i j:Nat)(x:T):∃c0,(Root.box cells).setT i j x=.box c0∧c0.length=cells.length:=by
 cases i with
 | zero=>exact⟨_,rfl,by simp⟩
 | succ i=>exact⟨_,rfl,rfl⟩
theorem Rel.fold (h:Rel en g S H a w) {n m i j sz:Nat} {r:Root} {rows:List (List T)} (hn:H n=some r) (hm:H m=some (.arr sz rows)) (hmn:m≠n)
 (hc:r.get i j=some (.t (.lent m sz rows.length))):Rel en (g.into m n [(i,j)]) S (upd (upd H m none) n (some (r.setT i j (.own sz rows)))) a w:=by
 have J:=Gh.into_le g m n [(i,j)];have G:∀b Z p,g.own b=some (Z,p)→Z≠m→(g.into m n [(i,j)]).own b=some (Z,p)∧w.heap[b]?=w.heap[b]?:=fun b Z p h1 h2=>⟨Gh.into_other h1 h2,rfl⟩;have F:∀b,g.own b=none→(g.into m n [(i,j)]).own b=none:=fun b hb=>by simp[Gh.into,hb]
 refine⟨⟨h.fr.laid,h.fr.os,h.fr.tape,h.fr.output,h.fr.size,h.fr.gle.trans J,fun b hb b0=>?_,fun b k hb=>?_,h.fr.fzn⟩,h.df,fun b x hx=>?_,fun b o v U=>?_,fun t d ht=>?_,fun k r1 E=>?_,fun k cells b E hb=>?_⟩
 ·obtain ⟨h1,h2⟩:=h.fr.old b hb b0;exact⟨F b h1,h2⟩
 ·obtain ⟨h0,h1,h2⟩:=h.fr.place b k hb;exact⟨h0,Gh.into_other h1 (fun e=>by subst e;obtain ⟨c,hc,_⟩:=h.wd k _ b hm hb;cases hc),h2⟩
 ·cases hb:g.own b with
  | none=>rw[F b hb] at hx;cases hx
  | some y=>exact h.lt b y hb
 ·obtain ⟨h1,h2⟩:=h.fz b o v U;exact⟨h1,F b h2⟩
 ·obtain ⟨v,U,hd⟩:=h.slots t d ht;exact⟨v,U,hd.mono J⟩
 ·unfold upd at E;by_cases e:k=n
  ·subst e;rw[if_pos rfl] at E;injection E with E;subst E;obtain ⟨hu,hR⟩:=h.roots k r hn;refine⟨hu,?_⟩
   cases hR with
   | mk r cs e hh ho hf hr=>
    refine .mk _ cs e hh (G _ _ _ ho (Ne.symm hmn)).1 (Root.setT_form i j _ hf) (fun i' j' x hx=>?_);rw[Root.setT_sz];rw[Root.setT_get _ hc] at hx;split at hx
    ·rename_i he;obtain ⟨rfl,rfl⟩:=he;injection hx with hx;subst hx;obtain ⟨v,U,hb⟩:=hr i' j' _ hc;refine⟨v,U,.t _ _ ?_⟩
     cases hb with
     | t _ _ ht=>
      cases ht with
      | lent _ _ _ _ _ hl=>exact TR.of_arr (h.roots m _ hm).2 hl hmn
    ·obtain ⟨v,U,hb⟩:=hr i' j' x hx;refine⟨v,U,?_⟩
     cases hb with
     | t x v h=>exact .t x v (h.keep J (fun b p hp=>G b _ _ hp (Ne.symm hmn)))
     | v x v h=>exact .v x v (h.mono J)
   | arr0 sz hs hc0=>simp[Root.get] at hc
  ·rw[if_neg e] at E;by_cases V:k=m
   ·rw[if_pos V] at E;cases E
   ·rw[if_neg V] at E;obtain ⟨hu,hR⟩:=h.roots k r1 E;exact⟨hu,hR.keep hu J (fun b p hp=>G b _ _ hp V)⟩
 ·unfold upd at E;by_cases e:k=n
  ·subst e;rw[if_pos rfl] at E;injection E with E;subst E;obtain ⟨c0,rfl,hl⟩:=h.wd k r b hn hb;obtain ⟨c1,h1,h2⟩:=Root.setT_box c0 i j (.own sz rows);exact⟨c1,h1,by rw[h2];exact hl⟩
  ·rw[if_neg e] at E;by_cases V:k=m
   ·rw[if_pos V] at E;cases E
   ·rw[if_neg V] at E;exact h.wd k cells b E hb
def Gh.out (g:Gh)(n:Nat)(ij:Nat×Nat)(nm b size:Nat):Gh:=
 {used:=fun m=>m=nm∨g.used m,rb:=upd g.rb nm b,base:=upd g.base nm 0,rc:=upd g.rc nm size,fz:=g.fz,
  own:=fun b=>match g.own b with
   | some (m,x::p)=>if m=n∧x=ij then some (nm,p) else some (m,x::p)
   | o=>o}
theorem Gh.out_le {g:Gh}{n:Nat}{ij:Nat×Nat}{nm b size:Nat}(h:¬g.used nm):g.le (g.out n ij nm b size):=
 ⟨fun n E=>.inr E,fun n E=>zCl _ _ (fun e=>h (e▸E)),fun n E=>zCl _ _ (fun e=>h (e▸E)),fun n E=>zCl _ _ (fun e=>h (e▸E)),fun _ _ _ F=>F⟩
theorem Gh.out_same {g:Gh}{n:Nat}{ij:Nat×Nat}{nm b size b':Nat}{p:Pth}(h:g.own b'=some (n,ij::p)):(g.out n ij nm b size).own b'=some (nm,p):=by simp[Gh.out,h]
theorem Gh.out_other {g:Gh}{n:Nat}{ij:Nat×Nat}{nm b size b' m:Nat}{p:Pth}(h:g.own b'=some (m,p))(hne:¬(m=n∧∃p',p=ij::p')):(g.out n ij nm b size).own b'=some (m,p):=by
 cases p with
 | nil=>simp[Gh.out,h]
 | cons x p=>
  have:¬(m=n∧x=ij):=fun ⟨h1,h2⟩=>hne ⟨h1,p,by rw[h2]⟩;simp[Gh.out,h,this]
theorem Rel.hoist (h:Rel en g S H a w){n nm i j sz:Nat}{r:Root}{rows:List (List T)}(hn:H n=some r)(hnm:¬g.used nm)(hsz:0<sz)(hc:r.get i j=some (.t (.own sz rows))):
 ∃g',g.le g'∧g'.used nm∧(∀m,g'.used m→m=nm∨g.used m)∧Rel en g' S (upd (upd H n (some (r.setT i j (.lent nm sz rows.length)))) nm (some (.arr sz rows))) a w:=by
 obtain ⟨hu,hR⟩:=h.roots n r hn;have d5:nm≠n:=fun e=>hnm (e▸hu)
 cases hR with
 | arr0 sz hs hc0=>simp[Root.get] at hc
 | mk _ cs e hh ho hf hr=>
  obtain ⟨v,hv,hb⟩:=hr i j _ hc;have ht:TR w g n [(i,j)] (.own sz rows) v:=by cases hb with|t _ _ h=>exact h
  obtain ⟨b,size,a8,b1⟩:∃b size,CV (g.out n (i,j) nm b size) (.view nm sz 0 rows.length) v∧RootR w (g.out n (i,j) nm b size) nm (.arr sz rows):=by
   cases ht with
   | own0 _ _ a=>exact⟨0,0,.view0 nm sz 0 a (.inl rfl),.arr0 sz hsz (zBl _ _ _)⟩
   | own _ _ _ b cap cs' e' vs hh' ho' hl hc' hz hx hr'=>
    refine⟨b,cs'.size,?_,.mk _ cs' e' (by rw[show (g.out n (i,j) nm b cs'.size).rb nm=b from zBl _ _ _];exact hh') (by rw[show (g.out n (i,j) nm b cs'.size).rb nm=b from zBl _ _ _];exact Gh.out_same ho')
     ⟨zBl _ _ _,(zBl _ _ _).symm,?_,hz⟩ (fun i' j' x a7=>?_)⟩
    ·have:=CV.view (g:=g.out n (i,j) nm b cs'.size) nm sz 0 rows.length cap (.inl rfl) (zBl _ _ _) hl (by rw[show (g.out n (i,j) nm b cs'.size).rc nm=cs'.size from zBl _ _ _];simpa using hc');rw[show (g.out n (i,j) nm b cs'.size).rb nm=b from zBl _ _ _,Nat.zero_mul] at this;exact this
    ·rw[show (g.out n (i,j) nm b cs'.size).rc nm=cs'.size from zBl _ _ _];exact Nat.le_trans (Nat.mul_le_mul_right _ hl) hc'
    ·simp only[Root.get] at a7
     cases Z:rows[i']? with
     | none=>simp[Z] at a7
     | some row=>
      simp only[Z,Option.map_eq_some_iff] at a7;obtain ⟨y,hy,rfl⟩:=a7;refine⟨vs i' j',by rw[show (g.out n (i,j) nm b cs'.size).base nm=0 from zBl _ _ _,Nat.zero_add];exact hx i' row j' y Z hy,.t _ _ ?_⟩;refine (hr' i' row j' y Z hy).move (Gh.out_le hnm) (fun E p hp=>⟨?_,rfl⟩);exact Gh.out_same (by simpa using hp)
  have G:=Gh.out_le (n:=n) (ij:=(i,j)) (b:=b) (size:=size) hnm;have a6:∀E m p,g.own E=some (m,p)→¬(m=n∧∃p',p=(i,j)::p')→(g.out n (i,j) nm b size).own E=some (m,p)∧w.heap[E]?=w.heap[E]?:=fun E m p h1 h2=>⟨Gh.out_other h1 h2,rfl⟩;have V:∀E,g.own E=none→(g.out n (i,j) nm b size).own E=none:=fun E hb=>by simp[Gh.out,hb]
  refine⟨_,G,.inl rfl,fun m hm=>hm,⟨h.fr.laid,h.fr.os,h.fr.tape,h.fr.output,h.fr.size,h.fr.gle.trans G,fun E F d0=>?_,fun E k F=>?_,h.fr.fzn⟩,h.df,fun E x hx=>?_,fun E o v hv=>?_,fun t d ht=>?_,fun k r1 J=>?_,fun k cells E J F=>?_⟩
  ·obtain ⟨h1,h2⟩:=h.fr.old E F d0;exact⟨V E h1,h2⟩
  ·obtain ⟨h0,h1,h2⟩:=h.fr.place E k F;exact⟨h0,(a6 _ _ _ h1 (by rintro ⟨_,p',U⟩;cases U)).1,h2⟩
  ·cases F:g.own E with
   | none=>rw[V E F] at hx;cases hx
   | some y=>exact h.lt E y F
  ·obtain ⟨h1,h2⟩:=h.fz E o v hv;exact⟨h1,V E h2⟩
  ·obtain ⟨v,hv,hd⟩:=h.slots t d ht;exact⟨v,hv,hd.mono G⟩
  ·unfold upd at J;by_cases e1:k=nm
   ·subst e1;rw[if_pos rfl] at J;injection J with J;subst J;exact⟨.inl rfl,b1⟩
   ·rw[if_neg e1] at J;by_cases e2:k=n
    ·subst e2;rw[if_pos rfl] at J;injection J with J;subst J;refine⟨.inr hu,.mk _ cs e (by rw[G.rb k hu];exact hh) (by rw[G.rb k hu];exact (a6 _ _ _ ho (by rintro ⟨_,p',U⟩;cases U)).1) (by rw[G.base k hu,G.rc k hu];exact Root.setT_form i j _ hf) (fun i' j' x hx=>?_)⟩;rw[Root.setT_sz,G.base k hu];rw[Root.setT_get _ hc] at hx;split at hx
     ·rename_i he;obtain ⟨rfl,rfl⟩:=he;injection hx with hx;subst hx;exact⟨v,hv,.t _ _ (.lent _ _ _ _ _ a8)⟩
     ·rename_i he;obtain ⟨v',c6,F⟩:=hr i' j' x hx;refine⟨v',c6,?_⟩
      cases F with
      | t _ _ h=>exact .t _ _ (h.keep G (fun E p hp=>a6 E _ _ hp (by rintro ⟨_,p',U⟩;simp at U;exact he ⟨U.1.1,U.1.2⟩)))
      | v _ _ h=>exact .v _ _ (h.mono G)
    ·rw[if_neg e2] at J;obtain ⟨b6,d1⟩:=h.roots k r1 J;exact⟨.inr b6,d1.keep b6 G (fun E p hp=>a6 E _ _ hp (fun hh=>e2 hh.1))⟩
  ·unfold upd at J;by_cases e1:k=nm
   ·subst e1;exact absurd (h.fr.gle.used k (h.fr.place E k F).1) hnm
   ·rw[if_neg e1] at J;by_cases e2:k=n
    ·subst e2;rw[if_pos rfl] at J;injection J with J;subst J;obtain ⟨c0,rfl,hl⟩:=h.wd k r E hn F;obtain ⟨c1,h1,h2⟩:=Root.setT_box c0 i j (.lent nm sz rows.length);exact⟨c1,h1,by rw[h2];exact hl⟩
    ·rw[if_neg e2] at J;exact h.wd k cells E J F
end Go.SX
namespace Go.SX
open Go Go.RowKit
structure Qt (w w':World):Prop where
 heap:w'.heap=w.heap
 os:w'.os=w.os
 tape:w'.tape=w.tape
 output:w'.output=w.output
theorem Qt.refl (w:World):Qt w w:=⟨rfl,rfl,rfl,rfl⟩
theorem Qt.trans {a b c:World}(h:Qt a b)(k:Qt b c):Qt a c:=⟨k.heap.trans h.heap,k.os.trans h.os,k.tape.trans h.tape,k.output.trans h.output⟩
def qn:FloatKind→Nat
 | .f32=>0x7fc00000
 | .f64=>0x7ff8000000000000
theorem zIv1 (k:FloatKind):isNaNb k (qn k)=true:=by cases k<;>decide
def fraw (op:BinOp)(k:FloatKind)(x y:Nat):Option Nat:=
 match op with
 | .add=>k.format.add x y
 | .sub=>k.format.sub x y
 | .mul=>k.format.mul x y
 | .quo=>k.format.div x y
 | _=>some 0
def fop (op:BinOp)(k:FloatKind)(x y:Nat):Nat:=(fraw op k x y).getD (qn k)
theorem zKn {k:FloatKind}{x:Nat}(h:isNaNb k x=true):∃s t,k.format.read x=.nan s t:=by
 unfold isNaNb Ieee.Datum.isNaN at h
 cases hr:k.format.read x with
 | nan s t=>exact⟨s,t,rfl⟩
 | number=>simp[hr] at h
 | infinity=>simp[hr] at h
theorem zCy1 {op:BinOp}{k:FloatKind}{x:Nat}(y:Nat)(h:isNaNb k x=true)(ho:op=.add∨op=.sub∨op=.mul∨op=.quo):fraw op k x y=none:=by
 obtain ⟨s,t,hr⟩:=zKn h;rcases ho with rfl|rfl|rfl|rfl<;>simp[fraw,Ieee.Format.add,Ieee.Format.sub,Ieee.Format.mul,Ieee.Format.div,hr,Ieee.Datum.sum,Ieee.Datum.product,Ieee.Datum.quotient]
theorem zCx1 {op:BinOp}{k:FloatKind}(x:Nat){y:Nat}(h:isNaNb k y=true)(ho:op=.add∨op=.sub∨op=.mul∨op=.quo):fraw op k x y=none:=by
 obtain ⟨s,t,hr⟩:=zKn h;rcases ho with rfl|rfl|rfl|rfl<;>simp only[fraw,Ieee.Format.add,Ieee.Format.sub,Ieee.Format.mul,Ieee.Format.div,hr]<;>cases k.format.read x<;>simp[Ieee.Datum.opposite,Ieee.Datum.sum,Ieee.Datum.product,Ieee.Datum.quotient]
theorem zWy {k:FloatKind}{x:Nat}(y:Nat)(h:isNaNb k x=true):k.format.order x y=none:=by
 obtain ⟨s,t,hr⟩:=zKn h;simp[Ieee.Format.order,hr,Ieee.Datum.order]
theorem zWx {k:FloatKind}(x:Nat){y:Nat}(h:isNaNb k y=true):k.format.order x y=none:=by
 obtain ⟨s,t,hr⟩:=zKn h;simp only[Ieee.Format.order,hr]
 cases k.format.read x<;>simp[Ieee.Datum.order]
theorem zMg1 {k:FloatKind}{x y x' y':Nat}(h:FEq k x x')(h':FEq k y y'):k.format.order x' y'=k.format.order x y:=by
 rcases h with rfl|⟨h1,h2⟩
 ·rcases h' with rfl|⟨h3,h4⟩
  ·rfl
  ·rw[zWx _ h3,zWx _ h4]
 ·rw[zWy _ h1,zWy _ h2]
theorem zXk {k:FloatKind}{x:Nat}(h:k.format.infRung<x%k.format.signWeight):isNaNb k x=true:=by
 unfold isNaNb Ieee.Format.read
 have h1:¬x%k.format.signWeight<k.format.binade:=by
  have:k.format.binade≤k.format.infRung:=by cases k<;>decide
  omega
 simp[h1,show ¬x%k.format.signWeight<k.format.infRung by omega,show ¬x%k.format.signWeight=k.format.infRung by omega,Ieee.Datum.isNaN]
theorem zVq {k:FloatKind}{x:Nat}(h:isNaNb k x=true):k.format.infRung<x%k.format.signWeight:=by
 unfold isNaNb Ieee.Format.read at h;simp only at h;split at h
 ·simp[Ieee.Datum.isNaN] at h
 ·split at h
  ·simp[Ieee.Datum.isNaN] at h
  ·split at h
   ·simp[Ieee.Datum.isNaN] at h
   ·omega
theorem zOu1 (k:FloatKind)(t:Nat):isNaNb k (match k with
 | .f32=>(t%2)*2^ 31+0x7f800000+1+(t / 2)%(2^ 23-1)
 | .f64=>(t%2)*2^ 63+0x7ff0000000000000+1+(t / 2)%(2^ 52-1))=true:=by
 apply zXk
 cases k
 ·show 2139095040<((t%2)*2^ 31+0x7f800000+1+(t / 2)%(2^ 23-1))%2147483648;rcases Nat.mod_two_eq_zero_or_one t with h|h<;>rw[h]<;>omega
 ·show 9218868437227405312<((t%2)*2^ 63+0x7ff0000000000000+1+(t / 2)%(2^ 52-1))%9223372036854775808;rcases Nat.mod_two_eq_zero_or_one t with h|h<;>rw[h]<;>omega
theorem zMn1 (k:FloatKind)(x y t:Nat):isNaNb k ((Question.nanBits k x y).cut t)=true:=by have:=zOu1 k t;cases k<;>exact this
theorem zXl (k:FloatKind)(x t:Nat):isNaNb k ((Question.nanConv k x).cut t)=true:=by have:=zOu1 k t;cases k<;>exact this
theorem zFn {P:Program}{w:World}{op:BinOp}{k:FloatKind}{x y x' y':Nat}(ho:op=.add∨op=.sub∨op=.mul∨op=.quo)(h:FEq k x x')(h':FEq k y y'):
 ∃r w',(Op.floatArith op k x' y').run P w=.ok (.float k r) w'∧Qt w w'∧FEq k (fop op k x y) r:=by
 have J:∀z,fraw op k x' y'=some z→(Op.floatArith op k x' y').run P w=.ok (.float k z) w:=by
  intro z hz;rcases ho with rfl|rfl|rfl|rfl<;>simp only[fraw] at hz<;>simp[Op.floatArith,hz]
 have F:fraw op k x' y'=none→∃r w',(Op.floatArith op k x' y').run P w=.ok (.float k r) w'∧Qt w w'∧isNaNb k r=true:=by
  intro hz;refine⟨(Question.nanBits k x' y').cut (w.tape w.drawn (.nanBits k x' y')),w.drew,?_,⟨rfl,rfl,rfl,rfl⟩,zMn1 _ _ _ _⟩;rcases ho with rfl|rfl|rfl|rfl<;>simp only[fraw] at hz<;>simp[Op.floatArith,hz,Question.forced]<;>rfl
 by_cases E:isNaNb k x=true∨isNaNb k y=true
 ·have Z:fraw op k x y=none:=by
   rcases E with E|E
   ·exact zCy1 y E ho
   ·exact zCx1 x E ho
  have h1:fraw op k x' y'=none:=by
   rcases E with E|E
   ·refine zCy1 y' ?_ ho;rcases h with rfl|⟨_,h2⟩
    ·exact E
    ·exact h2
   ·refine zCx1 x' ?_ ho;rcases h' with rfl|⟨_,h2⟩
    ·exact E
    ·exact h2
  obtain ⟨r,w',hr,U,G⟩:=F h1;exact⟨r,w',hr,U,.inr ⟨by simp[fop,Z,zIv1],G⟩⟩
 ·have hx:x=x':=by rcases h with h|⟨h,_⟩;exact h;exact absurd (.inl h) E
  have V:y=y':=by rcases h' with h|⟨h,_⟩;exact h;exact absurd (.inr h) E
  subst hx;subst V
  cases hz:fraw op k x y with
  | some z=>exact⟨z,w,J z hz,Qt.refl w,.inl (by simp[fop,hz])⟩
  | none=>
   obtain ⟨r,w',hr,U,G⟩:=F hz;exact⟨r,w',hr,U,.inr ⟨by simp[fop,hz,zIv1],G⟩⟩
def fcmp (op:BinOp)(k:FloatKind)(x y:Nat):Bool:=
 match op with
 | .eql=>k.format.order x y ==some .eq
 | .neq=>k.format.order x y !=some .eq
 | .lss=>k.format.order x y ==some .lt
 | .leq=>k.format.order x y ==some .lt||k.format.order x y ==some .eq
 | .gtr=>k.format.order x y ==some .gt
 | .geq=>k.format.order x y ==some .gt||k.format.order x y ==some .eq
 | _=>false
theorem zHa {P:Program}{w:World}{op:BinOp}{k:FloatKind}{x y x' y':Nat}(ho:op=.eql∨op=.neq∨op=.lss∨op=.leq∨op=.gtr∨op=.geq)(h:FEq k x x')(h':FEq k y y'):
 (Op.floatCmp op k x' y').run P w=.ok (.bool (fcmp op k x y)) w:=by
 rcases ho with rfl|rfl|rfl|rfl|rfl|rfl<;>simp[Op.floatCmp,fcmp,zMg1 h h']
theorem zTt {k:FloatKind}{x:Nat}(h:isNaNb k x=true):isNaNb k (Op.negFloat k x)=true:=by
 have h1:=zVq h;apply zXk
 have:Op.negFloat k x%k.format.signWeight=x%k.format.signWeight:=by
  unfold Op.negFloat Ieee.Format.signWeight;rw[Nat.xor_mod_two_pow];simp
 rw[this];exact h1
theorem zMf {k:FloatKind}{x y:Nat}(h:FEq k x y):FEq k (Op.negFloat k x) (Op.negFloat k y):=by
 rcases h with rfl|⟨h1,h2⟩
 ·exact .inl rfl
 ·exact .inr ⟨zTt h1,zTt h2⟩
def fconv (s:FloatKind)(b:Nat)(k:FloatKind):Option Nat:=
 if s=k then some b else
 match s.decode b with
 | .nan _ _=>some (qn k)
 | .infinity sg=>some (k.encode (.infinity sg))
 | .number sg m e=>if (k.decode (k.encode (.number sg m e))).isInfinity then none else some (k.encode (.number sg m e))
theorem zWb {P:Program}{w:World}{s k:FloatKind}{b b' r:Nat}(h:FEq s b b')(hc:fconv s b k=some r):
 ∃r' w',(Conv.floatToFloat s b' k).run P w=.ok (.float k r') w'∧Qt w w'∧FEq k r r':=by
 unfold fconv at hc;by_cases hs:s=k
 ·subst hs;simp only[if_pos] at hc;injection hc with hc;subst hc;exact⟨b',w,by simp[Conv.floatToFloat],Qt.refl w,h⟩
 ·rw[if_neg hs] at hc;rcases h with rfl|⟨h1,h2⟩
  ·cases hd:s.decode b with
   | nan a c=>
    rw[hd] at hc;injection hc with hc;subst hc;exact⟨_,w.drew,by simp[Conv.floatToFloat,hs,hd,Question.forced],⟨rfl,rfl,rfl,rfl⟩,.inr ⟨zIv1 k,zXl k b (w.tape w.drawn (.nanConv k b))⟩⟩
   | infinity sg=>
    rw[hd] at hc;injection hc with hc;subst hc;exact⟨_,w,by simp[Conv.floatToFloat,hs,hd],Qt.refl w,.inl rfl⟩
   | number sg m e=>
    rw[hd] at hc;simp only at hc;split at hc
    ·cases hc
    ·rename_i hi;injection hc with hc;subst hc;exact⟨_,w,by simp[Conv.floatToFloat,hs,hd,hi],Qt.refl w,.inl rfl⟩
  ·obtain ⟨s1,t1,F⟩:=zKn h1;obtain ⟨s2,t2,E⟩:=zKn h2;have J:s.decode b=.nan s1 t1:=F;have G:s.decode b'=.nan s2 t2:=E;rw[J] at hc;injection hc with hc;subst hc;exact⟨_,w.drew,by simp[Conv.floatToFloat,hs,G,Question.forced],⟨rfl,rfl,rfl,rfl⟩,.inr ⟨zIv1 k,zXl k b' (w.tape w.drawn (.nanConv k b'))⟩⟩
def bitsI (op:BinOp)(k:IntKind)(x y:Int):Int:=
 match op with
 | .and=>k.wrap ((BitVec.ofInt k.bits x &&&BitVec.ofInt k.bits y).toNat)
 | .or=>k.wrap ((BitVec.ofInt k.bits x |||BitVec.ofInt k.bits y).toNat)
 | .xor=>k.wrap ((BitVec.ofInt k.bits x ^^^ BitVec.ofInt k.bits y).toNat)
 | _=>k.wrap ((BitVec.ofInt k.bits x &&&~~~BitVec.ofInt k.bits y).toNat)
def binI (op:BinOp)(x y:I):Option I:=
 match x,y with
 | .int k a,.int k' b=>
  match op with
  | .shl=>if b<0 then none else some (.int k (k.wrap (a*2^ min b.toNat k.bits)))
  | .shr=>if b<0 then none else some (.int k (a.fdiv (2^ min b.toNat k.bits)))
  | .add=>if k=k' then some (.int k (k.wrap (a+b))) else none
  | .sub=>if k=k' then some (.int k (k.wrap (a-b))) else none
  | .mul=>if k=k' then some (.int k (k.wrap (a*b))) else none
  | .quo=>if k=k' then if b=0 then none else some (.int k (k.wrap (a.tdiv b))) else none
  | .rem=>if k=k' then if b=0 then none else some (.int k (a.tmod b)) else none
  | .and=>if k=k' then some (.int k (bitsI .and k a b)) else none
  | .or=>if k=k' then some (.int k (bitsI .or k a b)) else none
  | .xor=>if k=k' then some (.int k (bitsI .xor k a b)) else none
  | .andNot=>if k=k' then some (.int k (bitsI .andNot k a b)) else none
  | .eql=>if k=k' then some (.bool (decide (a=b))) else none
  | .neq=>if k=k' then some (.bool (!decide (a=b))) else none
  | .lss=>if k=k' then some (.bool (decide (a<b))) else none
  | .leq=>if k=k' then some (.bool (decide (a≤b))) else none
  | .gtr=>if k=k' then some (.bool (decide (b<a))) else none
  | .geq=>if k=k' then some (.bool (decide (b≤a))) else none
 | .flt k a,.flt k' b=>
  if k=k' then
   match op with
   | .add=>some (.flt k (fop .add k a b))
   | .sub=>some (.flt k (fop .sub k a b))
   | .mul=>some (.flt k (fop .mul k a b))
   | .quo=>some (.flt k (fop .quo k a b))
   | .eql=>some (.bool (fcmp .eql k a b))
   | .neq=>some (.bool (fcmp .neq k a b))
   | .lss=>some (.bool (fcmp .lss k a b))
   | .leq=>some (.bool (fcmp .leq k a b))
   | .gtr=>some (.bool (fcmp .gtr k a b))
   | .geq=>some (.bool (fcmp .geq k a b))
   | _=>none
  else none
 | .cpx k a b,.cpx k' c d=>
  if k=k' then
   match op with
   | .eql=>some (.bool (fcmp .eql k a c&&fcmp .eql k b d))
   | .neq=>some (.bool (!(fcmp .eql k a c&&fcmp .eql k b d)))
   | .sub=>some (.cpx k (fop .sub k a c) (fop .sub k b d))
   | .add=>some (.cpx k (fop .add k a c) (fop .add k b d))
   | _=>none
  else none
 | .str a,.str b=>
  match op with
  | .eql=>some (.bool (a.toList ==b.toList))
  | .neq=>some (.bool (!(a.toList ==b.toList)))
  | .add=>if a.size+b.size≤4611686018427387904 then some (.str (a++b)) else none
  | _=>none
 | _,_=>none
theorem IR.int_inv {fz:Nat→Nat→Option Value}{k:IntKind}{n:Int}{v:Value}(h:IR fz (.int k n) v):v=.int k n:=by cases h;rfl
theorem IR.bool_inv {fz:Nat→Nat→Option Value}{b:Bool}{v:Value}(h:IR fz (.bool b) v):v=.bool b:=by cases h;rfl
theorem IR.flt_inv {fz:Nat→Nat→Option Value}{k:FloatKind}{x:Nat}{v:Value}(h:IR fz (.flt k x) v):∃y,v=.float k y∧FEq k x y:=by cases h with|flt _ _ y h=>exact⟨y,rfl,h⟩
theorem IR.cpx_inv {fz:Nat→Nat→Option Value}{k:FloatKind}{x y:Nat}{v:Value}(h:IR fz (.cpx k x y) v):∃x' y',v=.complex k x' y'∧FEq k x x'∧FEq k y y':=by
 cases h with|cpx _ _ _ x' y' h h'=>exact⟨x',y',rfl,h,h'⟩
theorem IR.str_inv {fz:Nat→Nat→Option Value}{s:ByteArray}{v:Value}(h:IR fz (.str s) v):v=.string s:=by cases h;rfl
theorem zGk1 (a b:Int):(a ==b)=decide (a=b):=by rw[Bool.eq_iff_iff];simp
theorem zJg2 {fz:Nat→Nat→Option Value}{P:Program}{w:World}{op:BinOp}{t:TypeId}{k k':IntKind}{a b:Int}{z:I}(hz:binI op (.int k a) (.int k' b)=some z):
 ∃v,(binOp op t (.int k a) (.int k' b)).run P w=.ok v w∧IR fz z v:=by
 cases op<;>simp only[binI] at hz<;>(repeat' (first|(split at hz)))
 all_goals first
  | (cases hz;done)
  | (injection hz with hz;subst hz;(try subst_vars);first
   | (refine⟨_,?_,.int _ _⟩;simp[binOp,Op.intArith];done)
   | (refine⟨_,?_,.int _ _⟩;simp[binOp,Op.intDiv, *];done)
   | (refine⟨_,?_,.int _ _⟩;simp[binOp,Op.shift, *];done)
   | (refine⟨_,?_,.int _ _⟩;simp[binOp,Op.intBits,bitsI];done)
   | (refine⟨_,?_,.bool _⟩;simp[binOp,Op.intCmp,zGk1,bne];done))
theorem zHj2 {fz:Nat→Nat→Option Value}{P:Program}{w:World}{op:BinOp}{t:TypeId}{x y z:I}{u v:Value}(hu:IR fz x u)(hv:IR fz y v)(hz:binI op x y=some z):
   ∃E w',(binOp op t u v).run P w=.ok E w'∧Qt w w'∧IR fz z E:=by
 cases x with
 | int k a=>
   cases y with
   | int k' b=>
     cases hu.int_inv;cases hv.int_inv
     obtain ⟨E,h1,h2⟩:=zJg2 (fz:=fz) (P:=P) (w:=w) (t:=t) hz;exact⟨E,w,h1,Qt.refl w,h2⟩
   | _=>simp[binI] at hz
 | flt k a=>
   cases y with
   | flt k' b=>
     obtain ⟨U,rfl,G⟩:=hu.flt_inv;obtain ⟨J,rfl,hb⟩:=hv.flt_inv;simp only[binI] at hz;split at hz
     · rename_i Z;subst Z
       have F:∀o:BinOp,(o=.add∨o=.sub∨o=.mul∨o=.quo)→op=o→z=.flt k (fop o k a b)→∃E w',(binOp op t (.float k U) (.float k J)).run P w=.ok E w'∧Qt w w'∧IR fz z E:=by
         intro o ho h1 h2;subst h1;subst h2;obtain ⟨r,w',h1,h2,h3⟩:=zFn (P:=P) (w:=w) ho G hb;refine⟨_,w',?_,h2,.flt _ _ _ h3⟩;rcases ho with rfl|rfl|rfl|rfl<;>simpa[binOp] using h1
       have a6:∀o:BinOp,(o=.eql∨o=.neq∨o=.lss∨o=.leq∨o=.gtr∨o=.geq)→op=o→z=.bool (fcmp o k a b)→∃E w',(binOp op t (.float k U) (.float k J)).run P w=.ok E w'∧Qt w w'∧IR fz z E:=by
         intro o ho h1 h2;subst h1;subst h2;refine⟨_,w,?_,Qt.refl w,.bool _⟩;have:=zHa (P:=P) (w:=w) ho G hb;rcases ho with rfl|rfl|rfl|rfl|rfl|rfl<;>simpa[binOp] using this
       cases op<;>simp only at hz<;>first
         | (cases hz;done)
         | (injection hz with hz;first|exact F _ (by simp) rfl hz.symm|exact a6 _ (by simp) rfl hz.symm)
     · cases hz
   | _=>simp[binI] at hz
 | cpx k a b=>
   cases y with
   | cpx k' c d=>
     obtain ⟨U,J,rfl,G,hb⟩:=hu.cpx_inv;obtain ⟨c',d',rfl,hc,hd⟩:=hv.cpx_inv;simp only[binI] at hz;split at hz
     · rename_i Z;subst Z;have e1:=zHa (P:=P) (w:=w) (op:=.eql) (by simp) G hc;have e2:=zHa (P:=P) (w:=w) (op:=.eql) (by simp) hb hd
       have F:∀o:BinOp,(o=.add∨o=.sub)→op=o→z=.cpx k (fop o k a c) (fop o k b d)→∃E w',(binOp op t (.complex k U J) (.complex k c' d')).run P w=.ok E w'∧Qt w w'∧IR fz z E:=by
         intro o ho h1 h2;subst h1;subst h2;obtain ⟨r,w1,h1,h2,h3⟩:=zFn (P:=P) (w:=w) (op:=op) (by rcases ho with rfl|rfl<;>simp) G hc;obtain ⟨s,w2,h4,h5,h6⟩:=zFn (P:=P) (w:=w1) (op:=op) (by rcases ho with rfl|rfl<;>simp) hb hd;refine⟨.complex k r s,w2,?_,h2.trans h5,.cpx _ _ _ _ _ h3 h6⟩;rcases ho with rfl|rfl<;>simp[binOp,Op.complexOp,Op.Complex.arith,h1,h4]
       cases op<;>simp only at hz<;>first
         | (cases hz;done)
         | (injection hz with hz;first
             | exact F _ (by simp) rfl hz.symm
             | (subst hz;refine⟨_,w,?_,Qt.refl w,.bool _⟩;cases hf:fcmp .eql k a c<;>simp[binOp,Op.complexOp,Op.Complex.cmp,e1,e2,asBool,hf];done))
     · cases hz
   | _=>simp[binI] at hz
 | str a=>
   cases y with
   | str b=>
     cases hu.str_inv;cases hv.str_inv
     simp only[binI] at hz
     cases op<;>simp only at hz<;>first
       | (cases hz;done)
       | (injection hz with hz;subst hz;refine⟨_,w,?_,Qt.refl w,.bool _⟩;simp[binOp,Op.stringOp];done)
       | (split at hz
          · rename_i b0
            injection hz with hz;subst hz
            have V:¬((a.size+b.size:Nat):Int)>IntKind.i64.max:=by
              have:IntKind.i64.max=9223372036854775807:=by decide
              rw[this];omega
            exact⟨_,w,by simp only[binOp,Op.stringOp];rw[if_neg V];rfl,Qt.refl w,.str _⟩
          · cases hz)
   | _=>simp[binI] at hz
 | _=>cases y<;>simp[binI] at hz
def unI (op:UnOp)(x:I):Option I:=
 match op,x with
 | .neg,.int k n=>some (.int k (k.wrap (0-n)))
 | .neg,.flt k x=>some (.flt k (Op.negFloat k x))
 | .neg,.cpx k x y=>some (.cpx k (Op.negFloat k x) (Op.negFloat k y))
 | .not,.bool b=>some (.bool (!b))
 | _,_=>none
theorem zJw2 {fz:Nat→Nat→Option Value}{P:Program}{w:World}{op:UnOp}{x z:I}{u:Value}(hu:IR fz x u)(hz:unI op x=some z):
 ∃v',(Op.unary op u).run P w=.ok v' w∧IR fz z v':=by
 cases x with
 | int k a=>
  cases hu.int_inv
  cases op<;>simp only[unI] at hz<;>first
   | (cases hz;done)
   | (injection hz with hz;subst hz;exact⟨_,by simp[Op.unary,Op.intArith],.int _ _⟩)
 | flt k a=>
  obtain ⟨F,rfl,E⟩:=hu.flt_inv
  cases op<;>simp only[unI] at hz<;>first
   | (cases hz;done)
   | (injection hz with hz;subst hz;exact⟨_,by simp[Op.unary],.flt _ _ _ (zMf E)⟩)
 | cpx k a b=>
  obtain ⟨F,G,rfl,E,hb⟩:=hu.cpx_inv
  cases op<;>simp only[unI] at hz<;>first
   | (cases hz;done)
   | (injection hz with hz;subst hz;exact⟨_,by simp[Op.unary],.cpx _ _ _ _ _ (zMf E) (zMf hb)⟩)
 | bool b=>
  cases hu.bool_inv
  cases op<;>simp only[unI] at hz<;>first
   | (cases hz;done)
   | (injection hz with hz;subst hz;exact⟨_,by simp[Op.unary],.bool _⟩)
 | _=>cases op<;>simp[unI] at hz
def convI (d:TypeDesc)(x:I):Option I:=
 match d,x with
 | .int k,.int _ n=>some (.int k (k.wrap n))
 | .float k,.int _ n=>some (.flt k (k.nearest n))
 | .float k,.flt s b=>match fconv s b k with
  | some r=>some (.flt k r)
  | none=>none
 | .int k,.flt s b=>if isNaNb s b then none else match (s.decode b).toInt .zero with
  | some n=>if k.min≤n∧n≤k.max then some (.int k n) else none
  | none=>none
 | .complex k,.cpx s a b=>match fconv s a k,fconv s b k with
  | some a',some b'=>some (.cpx k a' b')
  | _,_=>none
 | _,_=>none
theorem zBb2 {fz:Nat→Nat→Option Value}{P:Program}{w:World}{src dst:TypeId}{ds d:TypeDesc}{x z:I}{u:Value}(hs:P.underlying src=some ds)(hd:P.underlying dst=some d)(hu:IR fz x u)(hz:convI d x=some z):
 ∃v' w',(convert src dst u).run P w=.ok v' w'∧Qt w w'∧IR fz z v':=by
 cases x with
 | int k n=>
  cases hu.int_inv
  cases d<;>simp only[convI] at hz<;>first
   | (cases hz;done)
   | (injection hz with hz;subst hz;refine⟨_,w,?_,Qt.refl w,.int _ _⟩;simp[convert,run_underlying hs,run_underlying hd,Conv.intToInt];done)
   | (injection hz with hz;subst hz;refine⟨_,w,?_,Qt.refl w,.flt _ _ _ (.inl rfl)⟩;simp[convert,run_underlying hs,run_underlying hd,Conv.intToFloat];done)
 | flt s b=>
  obtain ⟨E,rfl,hb⟩:=hu.flt_inv
  cases d with
  | float k=>
   simp only[convI] at hz
   cases hc:fconv s b k with
   | none=>simp[hc] at hz
   | some r=>
    simp only[hc,yaC] at hz;subst hz;obtain ⟨r',w',h1,h2,h3⟩:=zWb (P:=P) (w:=w) hb hc;exact⟨_,w',by simp[convert,run_underlying hs,run_underlying hd,h1],h2,.flt _ _ _ h3⟩
  | int k=>
   simp only[convI] at hz;split at hz
   ·cases hz
   ·rename_i hn;have:b=E:=(by rcases hb with h|⟨h,_⟩;exact h;exact absurd h hn);subst this
    cases hc:(s.decode b).toInt .zero with
    | none=>simp[hc] at hz
    | some n=>
     simp only[hc] at hz;split at hz
     ·rename_i hr;injection hz with hz;subst hz;exact⟨_,w,by simp[convert,run_underlying hs,run_underlying hd,Conv.floatToInt,hc,hr],Qt.refl w,.int _ _⟩
     ·cases hz
  | _=>simp[convI] at hz
 | cpx s a b=>
  cases d with
  | complex k=>
   simp only[convI] at hz;split at hz
   ·rename_i a' E ha hb;injection hz with hz;subst hz;obtain ⟨y,z,rfl,e1,e2⟩:=hu.cpx_inv;obtain ⟨U,G,h1,Z,f1⟩:=zWb (P:=P) (w:=w) e1 ha;obtain ⟨J,F,h2,V,f2⟩:=zWb (P:=P) (w:=G) e2 hb;exact⟨.complex k U J,F,by simp[convert,run_underlying hs,run_underlying hd,Conv.complexToComplex,h1,h2],Z.trans V,.cpx _ _ _ _ _ f1 f2⟩
   ·cases hz
  | _=>simp[convI] at hz
 | _=>cases d<;>simp[convI] at hz
def cV:Value→Option C
 | .bool b=>some (.im (.bool b))
 | .int k n=>some (.im (.int k n))
 | .float k x=>some (.im (.flt k x))
 | .complex k x y=>some (.im (.cpx k x y))
 | .string s=>some (.im (.str s))
 | .slice none 0 0=>some .nil
 | .pointer none=>some (.im (.raw (.pointer none)))
 | .nilFunc=>some (.im (.raw .nilFunc))
 | .nilIface=>some (.im (.raw .nilIface))
 | _=>none
theorem zQf1 {g:Gh}{v:Value}{c:C}(h:cV v=some c):CV g c v:=by
 unfold cV at h
 split at h<;>first
  | (cases h;done)
  | (injection h with h;subst h;first
   | exact .im _ _ (.bool _)|exact .im _ _ (.int _ _)|exact .im _ _ (.flt _ _ _ (.inl rfl))|exact .im _ _ (.cpx _ _ _ _ _ (.inl rfl) (.inl rfl))|exact .im _ _ (.str _)
   | exact .nil|exact .im _ _ (.raw _ rfl)|exact .fn _ [] #[] rfl (fun j x v hj _=>by simp at hj))
def ev (S:Nat→Option D):Operand→Option D
 | .tmp t=>S t
 | .const v=>match cV v with|some c=>some (.c c)|none=>none
 | .func f=>some (.c (.fn (.func f) []))
 | .global _=>none
variable {en : En} {g : Gh} {S : Nat → Option D} {H : Nat → Option Root} {a : Act} {w : World} {P : Program}
theorem zBt (h:Rel en g S H a w){x:Operand}{d:D}(hd:ev S x=some d):DV g d (a.eval x):=by
 cases x with
 | tmp t=>
  obtain ⟨v,F,E⟩:=h.slots t d hd;have:a.eval (.tmp t)=v:=by simp[Act.eval,Array.getD_eq_getD_getElem?,F]
  rw[this];exact E
 | const v=>
  simp only[ev] at hd;split at hd
  ·rename_i c hc;injection hd with hd;subst hd;exact .c _ _ (zQf1 hc)
  ·cases hd
 | func f=>
  simp only[ev,yaC] at hd;subst hd;exact .c _ _ (.fn _ [] #[] rfl (fun j x v hj _=>by simp at hj))
 | global n=>simp[ev] at hd
def evI (S:Nat→Option D)(x:Operand):Option I:=
 match ev S x with
 | some (.c (.im i))=>some i
 | _=>none
theorem zCd (h:Rel en g S H a w){x:Operand}{i:I}(hd:evI S x=some i):IR g.fz i (a.eval x):=by
 unfold evI at hd;split at hd
 ·rename_i j hj;injection hd with hd;subst hd;have:=zBt h hj
  cases this with|c _ _ h=>cases h with|im _ _ h=>exact h
 ·cases hd
def evC (S:Nat→Option D)(x:Operand):Option C:=
 match ev S x with
 | some (.c c)=>some c
 | _=>none
theorem zCg (h:Rel en g S H a w){x:Operand}{c:C}(hd:evC S x=some c):CV g c (a.eval x):=by
 unfold evC at hd;split at hd
 ·rename_i j hj;injection hd with hd;subst hd;have:=zBt h hj
  cases this with|c _ _ h=>exact h
 ·cases hd
def tsz (P:Program)(t:TypeId):Option Nat:=match P.info? t with|some i=>some i.size|none=>none
def tag (P:Program)(t:TypeId):Option Bool:=match P.underlying t with
 | some (.struct _)=>some true
 | some (.array _ _)=>some true
 | some _=>some false
 | none=>none
def tel (P:Program)(t:TypeId):Option TypeId:=match P.underlying t with
 | some (.slice e)=>some e
 | _=>none
def tfd (P:Program)(t:TypeId)(f:Nat):Option (Nat×TypeId):=match P.underlying t with
 | some (.struct fs)=>match fs[f]? with
  | some fd=>some (fd.offset,fd.type)
  | none=>none
 | _=>none
theorem zCx {t:TypeId}{k:Nat}(h:tsz P t=some k)(w:World):(sizeOf t).run P w=.ok k w:=by
 unfold tsz at h;split at h
 ·rename_i i hi;injection h with h;subst h;simp[sizeOf,typeInfo,hi]
 ·cases h
theorem zJr {t:TypeId}{b:Bool}(h:tag P t=some b)(w:World):(isAgg t).run P w=.ok b w:=by
 unfold tag at h
 split at h<;>first
  | (cases h;done)
  | (injection h with h;subst h;rename_i E;first
   | (simp[isAgg,run_underlying E];done)
   | (rename_i d _ _;simp only[isAgg,Sem.run_bind,run_underlying E,Result.andThen_ok];cases d<;>simp_all))
theorem zFk {t e:TypeId}(h:tel P t=some e):P.underlying t=some (.slice e):=by
 unfold tel at h;split at h
 ·rename_i hu;injection h with h;subst h;exact hu
 ·cases h
theorem zVg {t:TypeId}{f o:Nat}{ft:TypeId}(h:tfd P t f=some (o,ft)):∃E fd,P.underlying t=some (.struct E)∧E[f]?=some fd∧fd.offset=o∧fd.type=ft:=by
 unfold tfd at h;split at h
 ·rename_i E F;split at h
  ·rename_i fd hf;injection h with h;injection h with h1 h2;exact⟨E,fd,F,hf,h1,h2⟩
  ·cases h
 ·cases h
def nI:I→C
 | .raw (.slice none 0 0)=>.nil
 | i=>.im i
theorem zOv1 {i:I}{v:Value}(h:IR g.fz i v):CV g (nI i) v:=by
 unfold nI;split
 ·cases h;exact .nil
 ·exact .im _ _ h
def bC:B→Option C
 | .t (.im i)=>some (nI i)
 | .t .nil=>some .nil
 | .t (.lent m sz len)=>some (.view m sz 0 len)
 | .v c=>some c
 | _=>none
theorem zEb2 {n:Nat}{q:Pth}{b:B}{c:C}{v:Value}(hb:BR w g n q b v)(h:bC b=some c):CV g c v:=by
 cases hb with
 | t x _ hx=>
  cases hx<;>simp only[bC] at h<;>first
   | (cases h;done)
   | (injection h with h;subst h;first|exact zOv1 ‹_›| exact .nil|assumption)
 | v x _ hx=>simp only[bC,yaC] at h;subst h;exact hx
def loadCs (r:Root)(i off:Nat):Nat→Option (List C)
 | 0=>some []
 | n+1=>match r.get i off with
  | some b=>match bC b with
   | some c=>match loadCs r i (off+1) n with
    | some cs=>some (c::cs)
    | none=>none
   | none=>none
  | none=>none
def loadIs (row:List I)(off:Nat):Nat→Option (List C)
 | 0=>some []
 | n+1=>match row[off]? with
  | some x=>match loadIs row (off+1) n with
   | some cs=>some (nI x::cs)
   | none=>none
  | none=>none
def At (w:World)(b o:Nat)(vs:List Value):Prop:=∀(j:Nat) (v:Value),vs[j]?=some v→w.cell? ⟨b,o+j,none⟩=some v
def CVs (g:Gh)(cs:List C)(vs:List Value):Prop:=vs.length=cs.length∧∀(j:Nat) (x:C) (v:Value),cs[j]?=some x→vs[j]?=some v→CV g x v
theorem CVs.nil:CVs g [] []:=⟨rfl,fun j x v h=>by simp at h⟩
theorem CVs.cons {x:C}{v:Value}{cs:List C}{vs:List Value}(h:CV g x v)(hs:CVs g cs vs):CVs g (x::cs) (v::vs):=by
 refine⟨by simp[hs.1],fun j y u E F=>?_⟩
 cases j with
 | zero=>simp at E F;subst E;subst F;exact h
 | succ j=>simp at E F;exact hs.2 j y u E F
theorem At.cons {b o:Nat}{v:Value}{vs:List Value}(h:w.cell? ⟨b,o,none⟩=some v)(hs:At w b (o+1) vs):At w b o (v::vs):=by
 intro j u E
 cases j with
 | zero=>simp at E;subst E;exact h
 | succ j=>simp at E;have:=hs j u E;rwa [Nat.add_assoc,Nat.add_comm 1 j] at this
theorem zTv {n:Nat}{r:Root}(hR:RootR w g n r)(i:Nat):∀(k off:Nat) (cs:List C),loadCs r i off k=some cs→
 ∃vs,At w (g.rb n) (g.base n+i*r.sz+off) vs∧CVs g cs vs∧cs.length=k
 | 0,off,cs,h=>by simp only[loadCs,yaC] at h;subst h;exact⟨[],fun j v E=>by simp at E,.nil,rfl⟩
 | k+1,off,cs,h=>by
  simp only[loadCs] at h;split at h
  ·rename_i b hb;split at h
   ·rename_i c hc;split at h
    ·rename_i cs' F;injection h with h;subst h;obtain ⟨vs,h1,h2,h3⟩:=zTv hR i k (off+1) cs' F
     cases hR with
     | arr0 sz hs h0=>simp[Root.get] at hb
     | mk _ ws e hh ho hf hr=>
      obtain ⟨v,E,G⟩:=hr i off b hb;exact⟨v::vs,.cons (by rw[cell_of_row w _ _ ws e _ hh];exact E) (by rw[Nat.add_assoc];exact h1),.cons (zEb2 G hc) h2,by simp[h3]⟩
    ·cases h
   ·cases h
  ·cases h
theorem zTu {row:List I} {b o:Nat} {us:Nat→Value} (hx:∀(j:Nat) (x:I),row[j]?=some x→w.cell? ⟨b,o+j,none⟩=some (us j))
 (hr:∀(j:Nat) (x:I),row[j]?=some x→IR g.fz x (us j)):∀(k off:Nat) (cs:List C),loadIs row off k=some cs→∃vs,At w b (o+off) vs∧CVs g cs vs∧cs.length=k
 | 0,off,cs,h=>by simp only[loadIs,yaC] at h;subst h;exact⟨[],fun j v G=>by simp at G,.nil,rfl⟩
 | k+1,off,cs,h=>by
  simp only[loadIs] at h;split at h
  ·rename_i x E;split at h
   ·rename_i cs' F;injection h with h;subst h;obtain ⟨vs,h1,h2,h3⟩:=zTu hx hr k (off+1) cs' F;exact⟨us off::vs,.cons (hx off x E) (by rw[Nat.add_assoc];exact h1),.cons (zOv1 (hr off x E)) h2,by simp[h3]⟩
   ·cases h
  ·cases h
def mkD (ag:Bool)(cs:List C):Option D:=
 match ag,cs with
 | true,cs=>some (.agg cs)
 | false,[c]=>some (.c c)
 | _,_=>none
theorem zVv {t:TypeId}{b o k:Nat}{ag:Bool}{vs:List Value}{cs:List C}{d:D}(hk:tsz P t=some k)(hag:tag P t=some ag)(hat:At w b o vs)(hcs:CVs g cs vs)(hl:cs.length=k)(hd:mkD ag cs=some d):
 ∃v,(Instr.loadAt t (.pointer (some ⟨b,o,none⟩))).run P w=.ok v w∧DV g d v:=by
 have F:(loadCells ⟨b,o,none⟩ k).run P w=.ok vs.toArray w:=by
  have:=run_loadCells_list (P:=P) w ⟨b,o,none⟩ vs (fun j v E=>by
   have:(⟨b,o,none⟩:Addr).add j=⟨b,o+j,none⟩:=by unfold Addr.add;split<;>simp_all
   rw[this];exact hat j v E)
  rwa [hcs.1,hl] at this
 cases ag with
 | true=>
  simp only[mkD,yaC] at hd;subst hd;exact⟨.agg vs.toArray,by simp[Instr.loadAt,Instr.sureAddr,loadVar,zJr hag,zCx hk,F],.agg _ _ (by simp[hcs.1]) (fun j x v hj E=>hcs.2 j x v hj (by simpa using E))⟩
 | false=>
  cases cs with
  | nil=>simp[mkD] at hd
  | cons c cs=>
   cases cs with
   | cons=>simp[mkD] at hd
   | nil=>
    simp only[mkD,yaC] at hd;subst hd
    obtain ⟨v,E⟩:∃v,vs=[v]:=by
     have:=hcs.1
     match vs,this with
     | [v],_=>exact⟨v,rfl⟩
    subst E;have hc:=hat 0 v rfl;exact⟨v,by simp[Instr.loadAt,Instr.sureAddr,loadVar,zJr hag];rw[show w.cell? ⟨b,o,none⟩=some v from hc],.c _ _ (hcs.2 0 c v rfl rfl)⟩
def loadD (P:Program)(t:TypeId)(S:Nat→Option D)(H:Nat→Option Root)(x:Operand):Option D:=
 match tsz P t,tag P t with
 | some k,some ag=>
  match ev S x with
  | some (.c (.ptr n sz i off))=>match H n with
   | some r=>if r.sz=sz then match loadCs r i off k with
    | some cs=>mkD ag cs
    | none=>none
    else none
   | none=>none
  | some (.c (.iptr row off))=>match loadIs row off k with
   | some cs=>mkD ag cs
   | none=>none
  | _=>none
 | _,_=>none
theorem zXo (h:Rel en g S H a w){t:TypeId}{x:Operand}{d:D}(hd:loadD P t S H x=some d):∃v,(Instr.loadAt t (a.eval x)).run P w=.ok v w∧DV g d v:=by
 unfold loadD at hd;split at hd
 ·rename_i k ag V G;split at hd
  ·rename_i n sz i off U;have E:=zBt h U;split at hd
   ·rename_i r hr;split at hd
    ·rename_i J;subst J;split at hd
     ·rename_i cs F;obtain ⟨Z,hR⟩:=h.roots n r hr;obtain ⟨vs,h1,h2,h3⟩:=zTv hR i k off cs F
      cases E with
      | c _ _ E=>
       generalize a.eval x=u at E
       cases E with
       | ptr _ _ _ _ Z=>exact zVv V G h1 h2 h3 hd
     ·cases hd
    ·cases hd
   ·cases hd
  ·rename_i row off U;have E:=zBt h U;split at hd
   ·rename_i cs F
    cases E with
    | c _ _ E=>
     generalize a.eval x=u at E
     cases E with
     | iptr _ _ b o us hx hr=>
      obtain ⟨vs,h1,h2,h3⟩:=zTu (w:=w) (fun j x hj=>(h.fz _ _ _ (hx j x hj)).1) hr k off cs F;exact zVv V G h1 h2 h3 hd
   ·cases hd
  ·cases hd
 ·cases hd
def fieldAddrD (P:Program)(s:TypeId)(S:Nat→Option D)(x:Operand)(f:Nat):Option D:=
 match tfd P s f with
 | some (o,ft)=>match tsz P ft with
  | some 0=>none
  | some _=>match ev S x with
   | some (.c (.ptr n sz i off))=>some (.c (.ptr n sz i (off+o)))
   | some (.c (.iptr row off))=>some (.c (.iptr row (off+o)))
   | _=>none
  | none=>none
 | none=>none
theorem zLy {s:TypeId}{f o:Nat}{ft:TypeId}{k b o0:Nat}(hf:tfd P s f=some (o,ft))(hk:tsz P ft=some k)(h0:k≠0):
 (Instr.fieldAt s (.pointer (some ⟨b,o0,none⟩)) f).run P w=.ok (.pointer (some ⟨b,o0+o,none⟩)) w:=by
 obtain ⟨G,fd,F,E,rfl,rfl⟩:=zVg hf;have:(⟨b,o0,none⟩:Addr).add fd.offset=⟨b,o0+fd.offset,none⟩:=by unfold Addr.add;split<;>simp_all
 simp[Instr.fieldAt,run_underlying F,E,Instr.sureAddr,fieldPlace,zCx hk,h0,this]
theorem zUn (h:Rel en g S H a w){s:TypeId}{x:Operand}{f:Nat}{d:D}(hd:fieldAddrD P s S x f=some d):∃v,(Instr.fieldAt s (a.eval x) f).run P w=.ok v w∧DV g d v:=by
 unfold fieldAddrD at hd;split at hd
 ·rename_i o U hf;split at hd
  ·cases hd
  ·rename_i k F J;split at hd
   ·rename_i n sz i off G;injection hd with hd;subst hd;have E:=zBt h G
    cases E with
    | c _ _ E=>
     generalize a.eval x=u at E
     cases E with
     | ptr _ _ _ _ hu=>exact⟨_,zLy hf J (fun e=>F e),.c _ _ (by have:=CV.ptr (g:=g) n sz i (off+o) hu;rwa [←Nat.add_assoc] at this)⟩
   ·rename_i row off G;injection hd with hd;subst hd;have E:=zBt h G
    cases E with
    | c _ _ E=>
     generalize a.eval x=u at E
     cases E with
     | iptr _ _ b o' us hx hr=>exact⟨_,zLy hf J (fun e=>F e),.c _ _ (by have:=CV.iptr (g:=g) row (off+o) b o' us hx hr;rwa [←Nat.add_assoc] at this)⟩
   ·cases hd
  ·cases hd
 ·cases hd
end Go.SX
namespace Go.SX
open Go Go.RowKit
variable {en : En} {g : Gh} {S : Nat → Option D} {H : Nat → Option Root} {a : Act} {w : World} {P : Program}
theorem IR.sl_inv {fz:Nat→Nat→Option Value}{sz:Nat}{rows:List (List I)}{v:Value}(h:IR fz (.sl sz rows) v):
 (rows=[]∧∃A c,v=.slice A 0 c)∨∃(b off c:Nat) (vs:Nat→Nat→Value),v=.slice (some ⟨b,off,none⟩) rows.length c∧rows.length≤c∧(∀(i:Nat) (r:List I),rows[i]?=some r→r.length=sz)∧
  (∀(i:Nat) (r:List I) (j:Nat) (x:I),rows[i]?=some r→r[j]?=some x→fz b (off+i*sz+j)=some (vs i j))∧
  (∀(i:Nat) (r:List I) (j:Nat) (x:I),rows[i]?=some r→r[j]?=some x→IR fz x (vs i j)):=by
 cases h with
 | sl0 _ a c=>exact .inl ⟨rfl,a,c,rfl⟩
 | sl _ _ b off c vs hc hl hx hr=>exact .inr ⟨b,off,c,vs,rfl,hc,hl,hx,hr⟩
def fieldD (P:Program)(s:TypeId)(S:Nat→Option D)(x:Operand)(f:Nat):Option D:=
 match tfd P s f with
 | some (o,ft)=>match tsz P ft,tag P ft with
  | some k,some ag=>match ev S x with
   | some (.agg cs)=>if o+k≤cs.length then mkD ag ((cs.drop o).take k) else none
   | _=>none
  | _,_=>none
 | none=>none
theorem zKi1 (h:Rel en g S H a w){s:TypeId}{x:Operand}{f:Nat}{d:D}(hd:fieldD P s S x f=some d):∃v,(Instr.field s (a.eval x) f).run P w=.ok v w∧DV g d v:=by
 unfold fieldD at hd;split at hd
 ·rename_i o ft hf;split at hd
  ·rename_i k ag hk J;split at hd
   ·rename_i cs he;split at hd
    ·rename_i Z;have E:=zBt h he;generalize a.eval x=u at E
     cases E with
     | agg _ vs hs hr=>
      obtain ⟨fs,fd,U,G,rfl,rfl⟩:=zVg hf
      cases ag with
      | true=>
       simp only[mkD,yaC] at hd;subst hd;refine⟨.agg (vs.extract fd.offset (fd.offset+k)),by simp[Instr.field,run_underlying U,G,asAgg,part,zJr J,zCx hk],.agg _ _ ?_ (fun j x v hj E=>?_)⟩
       ·simp;omega
       ·rw[List.getElem?_take] at hj;split at hj
        ·rw[List.getElem?_drop] at hj;refine hr _ x v hj ?_;rw[Array.getElem?_extract] at E;split at E
         ·exact E
         ·cases E
        ·cases hj
      | false=>
       have V:((cs.drop fd.offset).take k).length=k:=by simp;omega
       match hcs:(cs.drop fd.offset).take k,hd with
       | [c],hd=>
        simp only[mkD,yaC] at hd;subst hd
        have hc:cs[fd.offset]?=some c:=by
         have:((cs.drop fd.offset).take k)[0]?=some c:=(by rw[hcs];rfl);rw[List.getElem?_take] at this;split at this
         ·simpa using this
         ·cases this
        have F:fd.offset<vs.size:=(by rw[hs];exact (List.getElem?_eq_some_iff.1 hc).1);refine⟨vs[fd.offset],?_,.c _ _ (hr _ _ _ hc (Array.getElem?_eq_getElem F))⟩;simp[Instr.field,run_underlying U,G,asAgg,part,zJr J,Array.getElem?_eq_getElem F]
       | [],hd=>simp[mkD] at hd
       | _::_::_,hd=>simp[mkD] at hd
    ·cases hd
   ·cases hd
  ·cases hd
 ·cases hd
def indexAddrD (P:Program)(t:TypeId)(S:Nat→Option D)(x i:Operand):Option D:=
 match tel P t with
 | some e=>match tsz P e with
  | some k=>match evI S i with
   | some (.int _ n)=>match ev S x with
    | some (.c (.view m sz lo len))=>if sz=k∧0≤n∧n<(len:Int) then some (.c (.ptr m sz (lo+n.toNat) 0)) else none
    | some (.c (.im (.sl sz rows)))=>if sz=k∧0≤n then match rows[n.toNat]? with
     | some row=>some (.c (.iptr row 0))
     | none=>none
     else none
    | _=>none
   | _=>none
  | none=>none
 | none=>none
theorem zCw (b o n:Nat):(⟨b,o,none⟩:Addr).add n=⟨b,o+n,none⟩:=by unfold Addr.add;split<;>simp_all
theorem zUk (h:Rel en g S H a w){t:TypeId}{x i:Operand}{d:D}(hd:indexAddrD P t S x i=some d):∃v,(Instr.indexAt t (a.eval x) (a.eval i)).run P w=.ok v w∧DV g d v:=by
 unfold indexAddrD at hd;split at hd
 ·rename_i e Z;split at hd
  ·rename_i k hk;split at hd
   ·rename_i kk n hi;have J:=(zCd h hi).int_inv;rw[J];split at hd
    ·rename_i m sz lo len U;split at hd
     ·rename_i hc;obtain ⟨rfl,V,h1⟩:=hc;injection hd with hd;subst hd;have E:=zBt h U
      cases E with
      | c _ _ E=>
       generalize a.eval x=u at E
       cases E with
       | view0=>simp at h1;omega
       | view _ _ _ _ cap hu hb hl hc=>
        refine⟨.pointer (some ⟨g.rb m,lo*sz+n.toNat*sz,none⟩),?_,.c _ _ ?_⟩
        ·simp[Instr.indexAt,run_underlying (zFk Z),asIntOf,V,h1,zCx hk,zCw]
        ·have:=CV.ptr (g:=g) m sz (lo+n.toNat) 0 hu
         rwa [hb,Nat.zero_add,Nat.add_zero,Nat.add_mul] at this
     ·cases hd
    ·rename_i sz rows U;split at hd
     ·rename_i hc;obtain ⟨rfl,V⟩:=hc;split at hd
      ·rename_i row F;injection hd with hd;subst hd;have G:n.toNat<rows.length:=(List.getElem?_eq_some_iff.1 F).1;have E:=zBt h U
       cases E with
       | c _ _ E=>
        generalize a.eval x=u at E
        cases E with
        | im _ _ E=>
         generalize a7:rows.length=rl at E
         cases E with
         | sl0=>simp at G
         | sl _ _ b off c vs hc hl hx hr=>
          refine⟨.pointer (some ⟨b,off+n.toNat*sz,none⟩),?_,.c _ _ ?_⟩
          ·have h1:n<(rows.length:Int):=(by omega);simp[Instr.indexAt,run_underlying (zFk Z),asIntOf,V,h1,zCx hk,zCw]
          ·have:=CV.iptr (g:=g) row 0 b (off+n.toNat*sz) (fun j=>vs n.toNat j) (fun j x hj=>hx _ row j x F hj) (fun j x hj=>hr _ row j x F hj)
           rwa [Nat.add_zero] at this
      ·cases hd
     ·cases hd
    ·cases hd
   ·cases hd
  ·cases hd
 ·cases hd
def optI (S:Nat→Option D):Option Operand→Option (Option Int)
 | none=>some none
 | some x=>match evI S x with
  | some (.int _ n)=>some (some n)
  | _=>none
def sliceD (P:Program)(t:TypeId)(S:Nat→Option D)(x:Operand)(lo hi:Option Operand):Option D:=
 match tel P t with
 | some e=>match tsz P e with
  | some k=>match optI S lo,optI S hi with
   | some l?,some h?=>match ev S x with
    | some (.c (.view m sz b len))=>if sz=k∧0≤l?.getD 0∧l?.getD 0≤h?.getD len∧h?.getD len≤len then some (.c (.view m sz (b+(l?.getD 0).toNat) ((h?.getD len).toNat- (l?.getD 0).toNat))) else none
    | some (.c (.im (.sl sz rows)))=>if sz=k∧0≤l?.getD 0∧l?.getD 0≤h?.getD rows.length∧h?.getD rows.length≤rows.length then
     some (.c (.im (.sl sz ((rows.take (h?.getD rows.length).toNat).drop (l?.getD 0).toNat)))) else none
    | some (.c .nil)=>if l?.getD 0=0∧h?.getD 0=0 then some (.c .nil) else none
    | _=>none
   | _,_=>none
  | none=>none
 | none=>none
theorem zSb (h:Rel en g S H a w){o:Option Operand}{r:Option Int}(hr:optI S o=some r):(o=none∧r=none)∨∃x k n,o=some x∧r=some n∧a.eval x=.int k n:=by
 cases o with
 | none=>simp only[optI,yaC] at hr;exact .inl ⟨rfl,hr.symm⟩
 | some x=>
  simp only[optI] at hr;split at hr
  ·rename_i k n hi;injection hr with hr;exact .inr ⟨x,k,n,rfl,hr.symm,(zCd h hi).int_inv⟩
  ·cases hr
theorem zEe {t e:TypeId} {k:Nat} (ht:tel P t=some e) (hk:tsz P e=some k) (A:Option Addr) (len cap:Nat) (lo hi:Option Value) (l? h?: Option Int)
 (hlo:(lo=none∧l?=none)∨∃kk n,lo=some (.int kk n)∧l?=some n) (hhi:(hi=none∧h?=none)∨∃kk n,hi=some (.int kk n)∧h?=some n)
 (h0:0≤l?.getD 0) (h1:l?.getD 0≤h?.getD len) (h2:h?.getD len≤cap) (h3:(len:Int)≤cap):
 (Instr.sliceAt t (.slice A len cap) lo hi none).run P w=.ok (.slice (if cap=(l?.getD 0).toNat then A else A.map (·.add ((l?.getD 0).toNat*k))) ((h?.getD len).toNat- (l?.getD 0).toNat) (cap- (l?.getD 0).toNat)) w:=by
 have E:=zFk ht;rcases hlo with ⟨rfl,rfl⟩|⟨J,l,rfl,rfl⟩<;>rcases hhi with ⟨rfl,rfl⟩|⟨U,hh,rfl,rfl⟩
 ·simp only[Option.getD_none] at*;simp[Instr.sliceAt,Instr.slice,Instr.sliceBounds,run_underlying E,zCx hk]
 ·simp only[Option.getD_none,yaU] at*;simp[Instr.sliceAt,Instr.slice,Instr.sliceBounds,Instr.sliceBound,asIntOf,run_underlying E,zCx hk,h1,h2]
 ·simp only[Option.getD_none,yaU] at*;simp[Instr.sliceAt,Instr.slice,Instr.sliceBounds,Instr.sliceBound,asIntOf,run_underlying E,zCx hk,h0,h1]
 ·simp only[yaU] at*;have h4:0≤hh:=by omega
  have V:l≤(hh.toNat:Int):=by omega
  have G:¬max hh 0<l:=by omega
  simp[Instr.sliceAt,Instr.slice,Instr.sliceBounds,Instr.sliceBound,asIntOf,run_underlying E,zCx hk,h0,h2,h4];intro F;exact absurd F G
theorem optV (h:Rel en g S H a w){o:Option Operand}{r:Option Int}(hr:optI S o=some r):(o.map a.eval=none∧r=none)∨∃kk n,o.map a.eval=some (.int kk n)∧r=some n:=by
 rcases zSb h hr with ⟨rfl,rfl⟩|⟨x,k,n,rfl,rfl,E⟩
 ·exact .inl ⟨rfl,rfl⟩
 ·exact .inr ⟨k,n,by simp[E],rfl⟩
theorem zHx1 (h:Rel en g S H a w){t:TypeId}{x:Operand}{lo hi:Option Operand}{d:D}(hd:sliceD P t S x lo hi=some d):
 ∃v,(Instr.sliceAt t (a.eval x) (lo.map a.eval) (hi.map a.eval) none).run P w=.ok v w∧DV g d v:=by
 unfold sliceD at hd;split at hd
 ·rename_i e ht;split at hd
  ·rename_i k hk;split at hd
   ·rename_i l? h? hl hh;have hL:=optV h hl;have V:=optV h hh;split at hd
    ·rename_i m sz b len he;split at hd
     ·rename_i hc;obtain ⟨rfl,h0,h1,h2⟩:=hc;injection hd with hd;subst hd;have G:=zBt h he
      cases G with
      | c _ _ G=>
       generalize a.eval x=u at G
       cases G with
       | view0 _ _ _ A hu=>
        have e1:(l?.getD 0).toNat=0:=(by omega);have e2:(h?.getD ((0:Nat):Int)).toNat=0:=(by omega);refine⟨_,zEe ht hk A 0 0 _ _ l? h? hL V h0 h1 h2 (by omega),.c _ _ ?_⟩;rw[e1,e2];simp only[Nat.sub_self,if_pos];exact .view0 m sz _ A hu
       | view _ _ _ _ cap hu hb hl' hc'=>
        refine⟨_,zEe ht hk _ len cap _ _ l? h? hL V h0 h1 (by omega) (by omega),.c _ _ ?_⟩;by_cases J:cap=(l?.getD 0).toNat
        ·rw[if_pos J];have e1:(h?.getD (len:Int)).toNat- (l?.getD 0).toNat=0:=(by omega);rw[e1,show cap- (l?.getD 0).toNat=0 by omega];exact .view0 m sz _ _ hu
        ·rw[if_neg J];simp only[yak,zCw];rw[←Nat.add_mul]
         exact .view m sz (b+(l?.getD 0).toNat) _ _ hu hb (by omega) (by
          refine Nat.le_trans (Nat.mul_le_mul_right _ ?_) hc'
          omega)
     ·cases hd
    ·rename_i sz rows he;split at hd
     ·rename_i hc;obtain ⟨rfl,h0,h1,h2⟩:=hc;injection hd with hd;subst hd;have G:=zBt h he
      cases G with
      | c _ _ G=>
       generalize a.eval x=u at G
       cases G with
       | im _ _ G=>
        have F:∀(A:Option Addr) (c:Nat),(h?.getD (rows.length:Int)).toNat=(l?.getD 0).toNat→DV g (.c (.im (.sl sz ((rows.take (h?.getD rows.length).toNat).drop (l?.getD 0).toNat)))) (.slice A ((h?.getD rows.length).toNat- (l?.getD 0).toNat) c):=by
         intro A c hq
         have:(rows.take (h?.getD rows.length).toNat).drop (l?.getD 0).toNat=[]:=by
          apply List.drop_eq_nil_of_le;simp;omega
         rw[this,hq,Nat.sub_self];exact .c _ _ (.im _ _ (.sl0 sz A c))
        rcases G.sl_inv with ⟨h9,A,c,rfl⟩|⟨B,off,c,vs,rfl,hc,b4,hx,hr⟩
        ·have b2:rows.length=0:=(by rw[h9];rfl);rw[b2] at h1 h2 F ⊢;exact⟨_,zEe ht hk A 0 c _ _ l? h? hL V h0 h1 (by omega) (by omega),F _ _ (by omega)⟩
        ·refine⟨_,zEe ht hk _ rows.length c _ _ l? h? hL V h0 h1 (by omega) (by omega),?_⟩;by_cases hq:(h?.getD (rows.length:Int)).toNat=(l?.getD 0).toNat
         ·exact F _ _ hq
         ·have J:¬c=(l?.getD 0).toNat:=(by omega);rw[if_neg J];simp only[yak,zCw];have Z:((rows.take (h?.getD rows.length).toNat).drop (l?.getD 0).toNat).length=(h?.getD rows.length).toNat- (l?.getD 0).toNat:=(by simp;omega);rw[←Z]
          have U:∀i r,((rows.take (h?.getD rows.length).toNat).drop (l?.getD 0).toNat)[i]?=some r→rows[(l?.getD 0).toNat+i]?=some r:=by
           intro i r E;rw[List.getElem?_drop,List.getElem?_take] at E;split at E
           ·exact E
           ·cases E
          refine .c _ _ (.im _ _ (.sl sz _ B _ _ (fun i j=>vs ((l?.getD 0).toNat+i) j) (by rw[Z];omega) (fun i r E=>b4 _ r (U i r E)) (fun i r j x E hj=>?_) (fun i r j x E hj=>hr _ r j x (U i r E) hj)));have:=hx _ r j x (U i r E) hj;rw[Nat.add_mul] at this
          rwa [Nat.add_assoc off]
     ·cases hd
    ·rename_i he;split at hd
     ·rename_i hc;obtain ⟨h0,h1⟩:=hc;injection hd with hd;subst hd;have G:=zBt h he
      cases G with
      | c _ _ G=>
       generalize a.eval x=u at G
       cases G with
       | nil=>
        have b5:h?.getD ((0:Nat):Int)=0:=h1;refine⟨_,zEe ht hk none 0 0 _ _ l? h? hL V (by omega) (by omega) (by omega) (by omega),.c _ _ ?_⟩;rw[h0,b5];exact .nil
     ·cases hd
    ·cases hd
   ·cases hd
  ·cases hd
 ·cases hd
end Go.SX
namespace Go.SX
open Go Go.RowKit
variable {en : En} {g : Gh} {S : Nat → Option D} {H : Nat → Option Root} {a : Act} {w : World} {P : Program}
def dCs:D→Option (List C)
 | .c x=>some [x]
 | .agg xs=>some xs
 | .tup _=>none
theorem zRb {d:D}{cs:List C}{v:Value}(h:DV g d v)(hd:dCs d=some cs):CVs g cs v.cells.toList:=by
 cases h with
 | c x _ hx=>simp only[dCs,yaC] at hd;subst hd;rw[hx.cells];exact .cons hx .nil
 | agg xs vs hs hr=>simp only[dCs,yaC] at hd;subst hd;exact⟨by simpa[Value.cells] using hs,fun j x v hj E=>hr j x v hj (by simpa[Value.cells] using E)⟩
 | tup=>simp[dCs] at hd
def mapCV:List Value→Option (List C)
 | []=>some []
 | v::vs=>match cV v with
  | some c=>match mapCV vs with
   | some cs=>some (c::cs)
   | none=>none
  | none=>none
theorem zFb:∀{vs:List Value} {cs:List C},mapCV vs=some cs→CVs g cs vs
 | [],cs,h=>by simp only[mapCV,yaC] at h;subst h;exact .nil
 | v::vs,cs,h=>by
  simp only[mapCV] at h;split at h
  ·rename_i c hc;split at h
   ·rename_i cs' E;injection h with h;subst h;exact .cons (zQf1 hc) (zFb E)
   ·cases h
  ·cases h
def tzr (P:Program)(t:TypeId):Option (List C):=match P.info? t with
 | some i=>match i.zero with
  | some z=>mapCV z.cells.toList
  | none=>none
 | none=>none
theorem zHk1 {t:TypeId}{cs:List C}(h:tzr P t=some cs):∃z,(∀w,(zeroValue t).run P w=.ok z w)∧CVs g cs z.cells.toList:=by
 unfold tzr at h;split at h
 ·rename_i i hi;split at h
  ·rename_i z hz;exact⟨z,fun w=>by simp[zeroValue,typeInfo,hi,hz],zFb h⟩
  ·cases h
 ·cases h
def setL:List C→Nat→List C→List C
 | cs,_,[]=>cs
 | cs,o,x::xs=>setL (cs.set o x) (o+1) xs
theorem CVs.set {cs:List C}{vs:List Value}(h:CVs g cs vs){x:C}{v:Value}(hx:CV g x v)(o:Nat):CVs g (cs.set o x) (vs.set o v):=by
 refine⟨by simp[h.1],fun j y u E F=>?_⟩;rw[List.getElem?_set] at E F;split at E
 ·rename_i e;subst e;rw[if_pos rfl] at F;split at E
  ·rw[if_pos (by rw[h.1];assumption)] at F;injection E with E;injection F with F;subst E;subst F;exact hx
  ·cases E
 ·rename_i e;rw[if_neg e] at F;exact h.2 j y u E F
theorem zPq1:∀(l:List Value) (xs:List C) (k off:Nat) (cs:List C) (A:Array Value),CVs g xs l→CVs g cs A.toList→
 CVs g (setL cs (off+k) xs) ((l.zipIdx k).foldl (fun (cs:Array Value) (p:Value×Nat)=>cs.setIfInBounds (off+p.2) p.1) A).toList
 | [],xs,k,off,cs,A,h,hA=>by
  have:xs=[]:=List.eq_nil_of_length_eq_zero h.1.symm;subst this;simpa[setL] using hA
 | v::l,[],k,off,cs,A,h,hA=>by have:=h.1;simp at this
 | v::l,x::xs,k,off,cs,A,h,hA=>by
  simp only[List.zipIdx_cons,List.foldl_cons,setL];have h1:CV g x v:=h.2 0 x v rfl rfl;have h2:CVs g xs l:=⟨by have:=h.1;simpa using this,fun j y u E F=>h.2 (j+1) y u (by simpa using E) (by simpa using F)⟩;have:=zPq1 l xs (k+1) off (cs.set (off+k) x) (A.setIfInBounds (off+k) v) h2 (by rw[Array.toList_setIfInBounds];exact hA.set h1 _)
  rwa [←Nat.add_assoc] at this
def partsD (place:Nat→Option (Nat×Nat))(S:Nat→Option D):List (Nat×Operand)→List C→Option (List C)
 | [],cs=>some cs
 | (i,x)::r,cs=>match place i with
  | some (off,size)=>match ev S x with
   | some d=>match dCs d with
    | some xs=>if xs.length=size∧off+size≤cs.length then partsD place S r (setL cs off xs) else none
    | none=>none
   | none=>none
  | none=>none
theorem zTs (h:Rel en g S H a w){place place':Nat→Option (Nat×Nat)}(hp:∀i p,place i=some p→place' i=some p):∀(l:List (Nat×Operand)) (cs cs':List C) (A:Array Value),CVs g cs A.toList→partsD place S l cs=some cs'→
 ∃G,Instr.fill place' A (l.map fun (p:Nat×Operand)=>(p.1,a.eval p.2))=some G∧CVs g cs' G.toList
 | [],cs,cs',A,hA,hd=>by simp only[partsD,yaC] at hd;subst hd;exact⟨A,rfl,hA⟩
 | (i,x)::r,cs,cs',A,hA,hd=>by
  simp only[partsD] at hd;split at hd
  ·rename_i off size V;split at hd
   ·rename_i d he;split at hd
    ·rename_i xs J;split at hd
     ·rename_i hc;have F:=zRb (zBt h he) J;have U:(a.eval x).cells.size=size:=(by rw[←hc.1,←F.1];simp);have Z:A.size=cs.length:=(by rw[←hA.1];simp);have E:=zPq1 (a.eval x).cells.toList xs 0 off cs A F hA;have e1:(a.eval x).cells.zipIdx.foldl (fun (cs:Array Value) (p:Value×Nat)=>cs.setIfInBounds (off+p.2) p.1) A=((a.eval x).cells.toList.zipIdx 0).foldl (fun (cs:Array Value) (p:Value×Nat)=>cs.setIfInBounds (off+p.2) p.1) A:=(by rw[←Array.foldl_toList];simp);obtain ⟨G,h1,h2⟩:=zTs h hp r (setL cs off xs) cs' _ (by rw[Nat.add_zero] at E;exact E) hd;refine⟨G,?_,h2⟩;simp only[List.map_cons,Instr.fill,hp i _ V,U,Z];have h5:(size !=size||decide (cs.length<off+size))=false:=(by simp;omega);rw[if_neg (by simp;omega)];rw[←e1] at h1;exact h1
     ·cases hd
    ·cases hd
   ·cases hd
  ·cases hd
def buildD (P:Program)(t:TypeId)(S:Nat→Option D)(parts:List (Nat×Operand)):Option D:=
 match tzr P t with
 | some z=>match partsD (fun i=>match tfd P t i with
     | some (o,ft)=>match tsz P ft with
       | some k=>some (o,k)
       | none=>none
     | none=>none) S parts z with
   | some cs=>some (.agg cs)
   | none=>none
 | none=>none
def tok (P:Program)(t:TypeId):Bool:=match P.underlying t with
 | some (.struct fs)=>fs.all fun f=>(P.info? f.type).isSome
 | _=>false
theorem zQk1 {t:TypeId}(h:tok P t=true):∃J places,P.underlying t=some (.struct J)∧(∀w,(J.mapM fun f=>Prod.mk f.offset <$> sizeOf f.type).run P w=.ok places w)∧
 ∀i o ft k,tfd P t i=some (o,ft)→tsz P ft=some k→places[i]?=some (o,k):=by
 unfold tok at h;split at h
 ·rename_i J hu
  have Z:∀f∈J.toList,∃i,P.info? f.type=some i:=fun f hf=>by
   have:=Array.all_eq_true_iff_forall_mem.1 h f (by simpa using hf);exact Option.isSome_iff_exists.1 this
  have hm:∀l:List Field,(∀f∈l,∃i,P.info? f.type=some i)→∃G,l.mapM (fun (f:Field)=>(P.info? f.type).map fun i=>(f.offset,i.size))=some G∧
   ∀(i:Nat) (f:Field) (k:Nat),l[i]?=some f→tsz P f.type=some k→G[i]?=some (f.offset,k):=by
   intro l
   induction l with
   | nil=>intro _;exact⟨[],rfl,fun i f k h=>by simp at h⟩
   | cons f l ih=>
    intro hl;obtain ⟨i0,V⟩:=hl f (by simp);obtain ⟨G,h1,h2⟩:=ih (fun f' F=>hl f' (by simp[F]));refine⟨(f.offset,i0.size)::G,by simp[List.mapM_cons,V,h1],fun i f' k F U=>?_⟩
    cases i with
    | zero=>
     simp at F;subst F;simp only[tsz,V,yaC] at U;simp[U]
    | succ i=>simp at F ⊢;exact h2 i f' k F U
  obtain ⟨G,h1,h2⟩:=hm J.toList Z;refine⟨J,G.toArray,hu,fun w=>?_,fun i o ft k hf U=>?_⟩
  ·rw[Array.mapM_eq_mapM_toList];simp[run_places w _ _ h1]
  ·obtain ⟨b2,fd,E,a6,rfl,rfl⟩:=zVg hf;rw[hu] at E;injection E with E;injection E with E;subst E;simpa using h2 i fd k (by simpa using a6) U
 ·cases h
theorem zLc1 (h:Rel en g S H a w){t:TypeId}{parts:Array (Nat×Operand)}{d:D}(ht:tok P t=true)(hd:buildD P t S parts.toList=some d):
 ∃v,(Instr.build t (parts.map fun (p:Nat×Operand)=>(p.1,a.eval p.2))).run P w=.ok v w∧DV g d v:=by
 unfold buildD at hd;split at hd
 ·rename_i z hz;split at hd
  ·rename_i cs J;injection hd with hd;subst hd;obtain ⟨U,E,F⟩:=zHk1 (g:=g) hz;obtain ⟨fs,places,Z,G,hp⟩:=zQk1 ht
   obtain ⟨A',h1,h2⟩:=zTs h (place':=fun i=>places[i]?) (fun i p hi=>by
    split at hi
    ·rename_i o ft hf
     split at hi
     ·rename_i k hk
      injection hi with hi
      subst hi
      exact hp i o ft k hf hk
     ·cases hi
    ·cases hi) parts.toList z cs U.cells F J
   refine⟨.agg A',?_,.agg _ _ (by have:=h2.1;simpa using this) (fun j x v hj V=>h2.2 j x v hj (by simpa using V))⟩;have e1:(Array.map (fun (p:Nat×Operand)=>(p.1,a.eval p.2)) parts).toList=parts.toList.map fun (p:Nat×Operand)=>(p.1,a.eval p.2):=(by simp);simp[Instr.build,E,run_underlying Z,G,h1]
  ·cases hd
 ·cases hd
def evCs (S:Nat→Option D):List Operand→Option (List C)
 | []=>some []
 | x::xs=>match evC S x with
  | some c=>match evCs S xs with
   | some cs=>some (c::cs)
   | none=>none
  | none=>none
theorem zDa1 (h:Rel en g S H a w):∀{xs:List Operand} {cs:List C},evCs S xs=some cs→CVs g cs (xs.map a.eval)
 | [],cs,hd=>by simp only[evCs,yaC] at hd;subst hd;exact .nil
 | x::xs,cs,hd=>by
  simp only[evCs] at hd;split at hd
  ·rename_i c hc;split at hd
   ·rename_i cs' E;injection hd with hd;subst hd;exact .cons (zCg h hc) (zDa1 h E)
   ·cases hd
  ·cases hd
def isSlT (P:Program)(t:TypeId):Bool:=match P.underlying t with|some (.slice _)=>true|_=>false
def isStT (P:Program)(t:TypeId):Bool:=match P.underlying t with|some .string=>true|_=>false
def isBoT (P:Program)(t:TypeId):Bool:=match P.underlying t with|some .bool=>true|_=>false
def lenD (P:Program)(t:TypeId)(d:Option D):Option D:=
 match d with
 | some (.c (.view _ _ _ len))=>if isSlT P t then some (.c (.im (.int .i64 len))) else none
 | some (.c (.im (.sl _ rows)))=>if isSlT P t then some (.c (.im (.int .i64 rows.length))) else none
 | some (.c .nil)=>if isSlT P t then some (.c (.im (.int .i64 0))) else none
 | some (.c (.im (.str s)))=>if isStT P t then some (.c (.im (.int .i64 s.size))) else none
 | _=>none
theorem zRq1 {t ty:TypeId}{d d':D}{v:Value}(hv:DV g d v)(hd:lenD P t (some d)=some d'):∃v',(Builtin.len_ #[t] ty #[v]).run P w=.ok v' w∧DV g d' v':=by
 have F:∀{b:TypeId→Bool},isSlT P t=true→∃e,P.underlying t=some (.slice e):=by
  intro _ h;unfold isSlT at h;split at h
  ·exact⟨_,by assumption⟩
  ·cases h
 unfold lenD at hd
 split at hd<;>first
  | (cases hd;done)
  | (rename_i G;injection G with G;subst G;split at hd<;>first
   | (cases hd;done)
   | (rename_i hb;injection hd with hd;subst hd))
 ·obtain ⟨e,E⟩:=F (b:=fun _=>true) hb
  cases hv with
  | c _ _ hv=>
   cases hv with
   | view0=>exact⟨_,by simp[Builtin.len_,run_underlying E,goInt],.c _ _ (.im _ _ (.int _ _))⟩
   | view=>exact⟨_,by simp[Builtin.len_,run_underlying E,goInt],.c _ _ (.im _ _ (.int _ _))⟩
 ·obtain ⟨e,E⟩:=F (b:=fun _=>true) hb
  cases hv with
  | c _ _ hv=>
   cases hv with
   | im _ _ hv=>
    rcases hv.sl_inv with ⟨J,A,c,rfl⟩|⟨B,off,c,vs,rfl,_⟩
    ·rw[J];exact⟨_,by simp[Builtin.len_,run_underlying E,goInt],.c _ _ (.im _ _ (.int _ _))⟩
    ·exact⟨_,by simp[Builtin.len_,run_underlying E,goInt],.c _ _ (.im _ _ (.int _ _))⟩
 ·obtain ⟨e,E⟩:=F (b:=fun _=>true) hb
  cases hv with
  | c _ _ hv=>
   cases hv with
   | nil=>exact⟨_,by simp[Builtin.len_,run_underlying E,goInt],.c _ _ (.im _ _ (.int _ _))⟩
 ·have E:P.underlying t=some .string:=by
   unfold isStT at hb;split at hb
   ·assumption
   ·cases hb
  cases hv with
  | c _ _ hv=>
   cases hv with
   | im _ _ hv=>cases hv.str_inv;exact⟨_,by simp[Builtin.len_,run_underlying E,goInt],.c _ _ (.im _ _ (.int _ _))⟩
def biD (b:Builtin)(xs:List I):Option I:=
 match b,xs with
 | .real,[.cpx k x _]=>some (.flt k x)
 | .imag,[.cpx k _ y]=>some (.flt k y)
 | .complex,[.flt k x,.flt k' y]=>if k=k' then some (.cpx k x y) else none
 | .max,[.int k x,.int _ y]=>some (.int k (if y>x then y else x))
 | .min,[.int k x,.int _ y]=>some (.int k (if y<x then y else x))
 | _,_=>none
def evIs (S:Nat→Option D):List Operand→Option (List I)
 | []=>some []
 | x::xs=>match evI S x with
  | some c=>match evIs S xs with
   | some cs=>some (c::cs)
   | none=>none
  | none=>none
theorem zGi1 (h:Rel en g S H a w){xs:List Operand}{i:I}(hd:evIs S xs=some [i]):∃x,xs=[x]∧IR g.fz i (a.eval x):=by
 match xs,hd with
 | [],hd=>simp[evIs] at hd
 | [x],hd=>
  simp only[evIs] at hd;split at hd
  ·rename_i c hc;simp only[yaC,List.cons.injEq,and_true] at hd;subst hd;exact⟨x,rfl,zCd h hc⟩
  ·cases hd
 | x::y::zs,hd=>
  simp only[evIs] at hd;split at hd
  ·split at hd
   ·rename_i h1;split at h1
    ·split at h1
     ·injection h1 with h1;subst h1;injection hd with hd;cases hd
     ·cases h1
    ·cases h1
   ·cases hd
  ·cases hd
theorem zGh1 (h:Rel en g S H a w){xs:List Operand}{i j:I}(hd:evIs S xs=some [i,j]):∃x y,xs=[x,y]∧IR g.fz i (a.eval x)∧IR g.fz j (a.eval y):=by
 match xs,hd with
 | [],hd=>simp[evIs] at hd
 | x::ys,hd=>
  simp only[evIs] at hd;split at hd
  ·rename_i c hc;split at hd
   ·rename_i cs E;simp only[yaC,List.cons.injEq] at hd;obtain ⟨rfl,rfl⟩:=hd;obtain ⟨y,rfl,F⟩:=zGi1 h E;exact⟨x,y,rfl,zCd h hc,F⟩
   ·cases hd
  ·cases hd
theorem zAw2 (P:Program)(w:World)(ts:Array TypeId)(ty:TypeId)(cs:Array Bool)(k:FloatKind)(x y:Nat):(builtin .real ts ty cs #[.complex k x y]).run P w=.ok (.value (.float k x)) w:=rfl
theorem zAz2 (P:Program)(w:World)(ts:Array TypeId)(ty:TypeId)(cs:Array Bool)(k:FloatKind)(x y:Nat):(builtin .imag ts ty cs #[.complex k x y]).run P w=.ok (.value (.float k y)) w:=rfl
theorem zLt1 (P:Program)(w:World)(ts:Array TypeId)(ty:TypeId)(cs:Array Bool)(k:FloatKind)(x y:Nat):(builtin .complex ts ty cs #[.float k x,.float k y]).run P w=.ok (.value (.complex k x y)) w:=by cases k<;>rfl
theorem zZa1 (h:Rel en g S H a w){b:Builtin}{xs:List Operand}{is:List I}{z:I}{ts:Array TypeId}{ty:TypeId}{cs:Array Bool}(hi:evIs S xs=some is)(hd:biD b is=some z):
 ∃v,(builtin b ts ty cs (xs.map a.eval).toArray).run P w=.ok (.value v) w∧IR g.fz z v:=by
 unfold biD at hd;split at hd
 ·injection hd with hd;subst hd;obtain ⟨x,rfl,hx⟩:=zGi1 h hi;obtain ⟨x',y',F,h1,h2⟩:=hx.cpx_inv;refine⟨_,?_,.flt _ _ _ h1⟩;simp only[List.map_cons,List.map_nil,F];exact zAw2 ..
 ·injection hd with hd;subst hd;obtain ⟨x,rfl,hx⟩:=zGi1 h hi;obtain ⟨x',y',F,h1,h2⟩:=hx.cpx_inv;refine⟨_,?_,.flt _ _ _ h2⟩;simp only[List.map_cons,List.map_nil,F];exact zAz2 ..
 ·split at hd
  ·rename_i J;subst J;injection hd with hd;subst hd;obtain ⟨x,y,rfl,hx,E⟩:=zGh1 h hi;obtain ⟨x',F,h1⟩:=hx.flt_inv;obtain ⟨y',G,h2⟩:=E.flt_inv;refine⟨_,?_,.cpx _ _ _ _ _ h1 h2⟩;simp only[List.map_cons,List.map_nil,F,G];exact zLt1 ..
  ·cases hd
 ·injection hd with hd;subst hd;obtain ⟨x,y,rfl,hx,E⟩:=zGh1 h hi;exact⟨_,by simp[builtin,Builtin.max_,Builtin.max2,hx.int_inv,E.int_inv],.int _ _⟩
 ·injection hd with hd;subst hd;obtain ⟨x,y,rfl,hx,E⟩:=zGh1 h hi;exact⟨_,by simp[builtin,Builtin.min_,Builtin.min2,hx.int_inv,E.int_inv],.int _ _⟩
 ·cases hd
theorem zAl1 {t:TypeId}(hu:P.underlying t=some .bool)(b c:Bool)(w:World):(Op.equal t (.bool b) (.bool c)).run P w=.ok (b ==c) w:=by
 have h:∀d:Nat,(Op.equalIn (d+1) t (.bool b) (.bool c)).run P w=.ok (b ==c) w:=fun d=>by simp[Op.equalIn,run_underlying hu]
 unfold Op.equal Op.maxDepth;exact h 9999
def eqBo (P:Program)(op:BinOp)(t:TypeId)(x y:I):Option I:=
 match op,x,y with
 | .eql,.bool b,.bool c=>if isBoT P t then some (.bool (b ==c)) else none
 | .neq,.bool b,.bool c=>if isBoT P t then some (.bool (!(b ==c))) else none
 | _,_,_=>none
def isIntT (P:Program)(t:TypeId):Bool:=match P.underlying t with|some (.int _)=>true|_=>false
def isEqT (P:Program)(t:TypeId):Bool:=match P.underlying t with
 | some (.struct fs)=>match fs.toList with
  | [f, g] => (f.name != "_") && (g.name != "_") && (f.offset == 0) && (g.offset == 1) && isIntT P f.type && isIntT P g.type && (tag P f.type == some false) && (tag P g.type == some false) && !P.stoodInHeld t && !P.eqGuardType P.depth t
  | _=>false
 | _=>false
def eqAgD (P:Program)(op:BinOp)(t:TypeId)(a b:Option D):Option D:=match op,a,b with
 | .eql,some (.agg [.im (.int .i64 x),.im (.int .i64 y)]),some (.agg [.im (.int .i64 x'),.im (.int .i64 y')])=>if isEqT P t=true then some (.c (.im (.bool (decide (x=x')&&decide (y=y'))))) else none
 | .neq,some (.agg [.im (.int .i64 x),.im (.int .i64 y)]),some (.agg [.im (.int .i64 x'),.im (.int .i64 y')])=>if isEqT P t=true then some (.c (.im (.bool (!(decide (x=x')&&decide (y=y')))))) else none
 | _,_,_=>none
theorem zPk1 {t:TypeId}(h:isIntT P t=true):∃k,P.underlying t=some (.int k):=by
 unfold isIntT at h;split at h
 ·exact⟨_,by assumption⟩
 ·cases h
theorem zUt {t:TypeId}(h:isEqT P t=true)(x y x' y':Int)(d:Nat):(Op.equalIn (d+2) t (.agg #[.int .i64 x,.int .i64 y]) (.agg #[.int .i64 x',.int .i64 y'])).run P w=.ok (decide (x=x')&&decide (y=y')) w∧P.eqGuardType P.depth t=false:=by
 unfold isEqT at h;split at h
 ·rename_i fs hu;split at h
  ·rename_i f g V;simp only[yay,bne_iff_ne,ne_eq,beq_iff_eq,Bool.not_eq_true'] at h;obtain ⟨⟨⟨⟨⟨⟨⟨⟨⟨U,n2⟩,J⟩,o2⟩,i1⟩,i2⟩,t1⟩,t2⟩,hs⟩,hg⟩:=h;obtain ⟨k1,u1⟩:=zPk1 i1;obtain ⟨k2,u2⟩:=zPk1 i2;have E:P.fieldsOf t=fs:=(by simp[Program.fieldsOf,hu]);refine⟨?_,hg⟩;rw[run_equalIn_struct w (d+1) t _ _ (by rw[E];exact hu) hs,E,V];have G:∀(x x':Int) w',(Op.equalIn (d+1) f.type (.int .i64 x) (.int .i64 x')).run P w'=.ok (x ==x') w':=fun x x' w'=>run_equalIn_int w' d _ .i64 k1 _ _ u1;have p2:∀(y y':Int) w',(Op.equalIn (d+1) g.type (.int .i64 y) (.int .i64 y')).run P w'=.ok (y ==y') w':=fun y y' w'=>run_equalIn_int w' d _ .i64 k2 _ _ u2;have F:∀w',(isAgg f.type).run P w'=.ok false w':=zJr t1;have q2:∀w',(isAgg g.type).run P w'=.ok false w':=zJr t2;by_cases Z:x=x'
   ·by_cases e2:y=y'
    ·simp[Op.eqFields,U,n2,J,o2,part,F,q2,G,p2,Z,e2]
    ·simp[Op.eqFields,U,n2,J,o2,part,F,q2,G,p2,Z,e2]
   ·simp[Op.eqFields,U,J,part,F,G,Z]
  ·cases h
 ·cases h
theorem zHh1 {g:Gh}{x y:Int}{u:Value}(h:DV g (.agg [.im (.int .i64 x),.im (.int .i64 y)]) u):u=.agg #[.int .i64 x,.int .i64 y]:=by
 cases h with
 | agg _ vs hs hr=>
  have E:(0:Nat)<vs.size:=by rw[hs];simp
  have h1:(1:Nat)<vs.size:=by rw[hs];simp
  have a0:=hr 0 _ _ rfl (Array.getElem?_eq_getElem E);have a1:=hr 1 _ _ rfl (Array.getElem?_eq_getElem h1);have G:vs[0]=.int .i64 x:=by cases a0 with|im _ _ h=>exact h.int_inv
  have F:vs[1]=.int .i64 y:=by cases a1 with|im _ _ h=>exact h.int_inv
  congr 1;apply Array.ext
  ·simpa using hs
  ·intro i hi hj;have:i=0∨i=1:=(by simp at hj;omega);rcases this with rfl|rfl
   ·exact G
   ·exact F
theorem zSz1 {op:BinOp}{t:TypeId}{x y:Operand}{da db:D}{g:Gh}{u v:Value}{d:D}(h1:DV g da u)(h2:DV g db v)(hd:eqAgD P op t (some da) (some db)=some d):
 ∃r,(eqGuard op t x y u v).run P w=.ok () w∧(binOp op t u v).run P w=.ok r w∧DV g d r:=by
 unfold eqAgD at hd;split at hd
 ·rename_i F E;injection F with F;injection E with E;subst F;subst E;split at hd
  ·rename_i G;injection hd with hd;subst hd;have U:=zHh1 h1;have J:=zHh1 h2;subst U;subst J;refine⟨_,run_eqGuard_agg w _ t x y _ _ (zUt (w:=w) G 0 0 0 0 0).2,?_,.c _ _ (.im _ _ (.bool _))⟩
   ·rw[run_eql_struct,(zUt G _ _ _ _ 9998).1];rfl
  ·cases hd
 ·rename_i F E;injection F with F;injection E with E;subst F;subst E;split at hd
  ·rename_i G;injection hd with hd;subst hd;have U:=zHh1 h1;have J:=zHh1 h2;subst U;subst J;refine⟨_,run_eqGuard_agg w _ t x y _ _ (zUt (w:=w) G 0 0 0 0 0).2,?_,.c _ _ (.im _ _ (.bool _))⟩
   ·rw[run_neq_struct,(zUt G _ _ _ _ 9998).1];rfl
  ·cases hd
 ·cases hd
def indexS (P:Program)(S:Nat→Option D)(t:TypeId)(x i:Operand):Option D:=match evI S x,evI S i with
 | some (.str s),some (.int _ k)=>if isStT P t=true∧0≤k then match s[k.toNat]? with
  | some b=>some (.c (.im (.int .u8 b.toNat)))
  | none=>none
  else none
 | _,_=>none
theorem zNe1 {t:TypeId}(h:isStT P t=true):P.underlying t=some .string:=by
 unfold isStT at h;split at h
 ·assumption
 ·cases h
theorem zKd1 (h:Rel en g S H a w){t:TypeId}{x i:Operand}{d:D}(hd:indexS P S t x i=some d):∃v,(Instr.index t (a.eval x) (a.eval i)).run P w=.ok v w∧DV g d v:=by
 unfold indexS at hd;split at hd
 ·rename_i s k n hx hi;split at hd
  ·rename_i hc;obtain ⟨E,F⟩:=hc;split at hd
   ·rename_i b hb;injection hd with hd;subst hd;have J:=(zCd h hx).str_inv;have G:=(zCd h hi).int_inv;refine⟨.int .u8 b.toNat,?_,.c _ _ (.im _ _ (.int _ _))⟩;rw[J,G];simp[Instr.index,asIntOf,run_underlying (zNe1 E),F,hb]
   ·cases hd
  ·cases hd
 ·cases hd
def sliceX (P:Program)(t:TypeId)(S:Nat→Option D)(x:Operand)(lo hi:Option Operand):Option D:=match ev S x with
 | some (.c (.im (.str s)))=>match optI S lo,optI S hi with
  | some l,some h=>if isStT P t=true∧0≤l.getD 0∧l.getD 0≤h.getD s.size∧h.getD s.size≤s.size then some (.c (.im (.str (s.extract (l.getD 0).toNat (h.getD s.size).toNat)))) else none
  | _,_=>none
 | _=>sliceD P t S x lo hi
theorem zHw1 (h:Rel en g S H a w){t:TypeId}{x:Operand}{lo hi:Option Operand}{d:D}(hd:sliceX P t S x lo hi=some d):
 ∃v,(Instr.sliceAt t (a.eval x) (lo.map a.eval) (hi.map a.eval) none).run P w=.ok v w∧DV g d v:=by
 unfold sliceX at hd;split at hd
 ·rename_i s hx;split at hd
  ·rename_i l h' hl hh;split at hd
   ·rename_i hc;obtain ⟨ht,V,c2,c3⟩:=hc;injection hd with hd;subst hd;have F:=zNe1 ht
    have Z:a.eval x=.string s:=by
     have:=zBt h hx
     cases this with|c _ _ hc=>cases hc with|im _ _ hi=>exact hi.str_inv
    refine⟨.string (s.extract (l.getD 0).toNat (h'.getD s.size).toNat),?_,.c _ _ (.im _ _ (.str _))⟩;rw[Z];rcases zSb h hl with ⟨rfl,rfl⟩|⟨y,k,n,rfl,rfl,U⟩<;>rcases zSb h hh with ⟨rfl,rfl⟩|⟨z,k',m,rfl,rfl,J⟩<;>simp only[Option.getD_none,yaU,Option.map_none,yak] at*
    ·simp[Instr.sliceAt,Instr.slice,Instr.sliceBounds,run_underlying F]
    ·have E:0≤m:=(by omega);rw[J];simp[Instr.sliceAt,Instr.slice,Instr.sliceBounds,Instr.sliceBound,asIntOf,run_underlying F,E,c3]
    ·have E:n≤(s.size:Int):=(by omega);rw[U];simp[Instr.sliceAt,Instr.slice,Instr.sliceBounds,Instr.sliceBound,asIntOf,run_underlying F,E,V]
    ·have E:0≤m:=(by omega);have q2:n≤((m.toNat:Nat):Int):=(by omega);rw[U,J];simp[Instr.sliceAt,Instr.slice,Instr.sliceBounds,Instr.sliceBound,asIntOf,run_underlying F,E,V,c3];intro G;omega
   ·cases hd
  ·cases hd
 ·exact zHx1 h hd
def u8L:Nat→List (List T)→Option (List Int)
 | 0,_=>some []
 | k+1,[.im (.int .u8 n)]::rows=>match u8L k rows with
  | some ns=>some (n::ns)
  | none=>none
 | _+1,_=>none
theorem zEk2:∀{k:Nat} {rows:List (List T)} {ns:List Int},u8L k rows=some ns→ns.length=k∧∀(j:Nat) (n:Int),ns[j]?=some n→rows[j]?=some [.im (.int .u8 n)]
 | 0,rows,ns,h=>by
  simp only[u8L,yaC] at h;subst h;exact⟨rfl,fun j n hj=>by simp at hj⟩
 | k+1,rows,ns,h=>by
  unfold u8L at h;split at h
  ·rename_i E;cases E
  ·rename_i k' n F E;split at h
   ·rename_i J G;injection h with h;subst h
    cases E
    obtain ⟨h1,h2⟩:=zEk2 G;refine⟨by simp[h1],fun j U hj=>?_⟩
    cases j with
    | zero=>simp at hj;subst hj;rfl
    | succ j=>simp at hj;simpa using h2 j U hj
   ·cases h
  ·cases h
def bytesS (ns:List Int):ByteArray:=ns.foldl (fun r n=>r.push (UInt8.ofNat n.toNat)) ByteArray.empty
def isBsT (P:Program)(t:TypeId):Bool:=match P.underlying t with
 | some (.slice e)=>(match P.underlying e with|some (.int .u8)=>true|_=>false)
 | _=>false
def strD (P:Program)(S:Nat→Option D)(H:Nat→Option Root)(s d:TypeId)(x:Operand):Option D:=if isBsT P s=true∧isStT P d=true then match evC S x with
 | some (.view n 1 0 len)=>match H n with
  | some (.arr 1 rows)=>match u8L len rows with
   | some ns=>some (.c (.im (.str (bytesS ns))))
   | none=>none
  | _=>none
 | _=>none
 else none
theorem zQm1 (h:Rel en g S H a w){s d:TypeId}{x:Operand}{d0:D}(hd:strD P S H s d x=some d0):∃v,(convert s d (a.eval x)).run P w=.ok v w∧DV g d0 v:=by
 unfold strD at hd;split at hd;rotate_left
 ·cases hd
 rename_i hc;obtain ⟨hs,ht⟩:=hc
 obtain ⟨e,hu,U⟩:∃e,P.underlying s=some (.slice e)∧P.underlying e=some (.int .u8):=by
  unfold isBsT at hs;split at hs
  ·rename_i e U;split at hs
   ·exact⟨e,U,by assumption⟩
   ·cases hs
  ·cases hs
 have J:=zNe1 ht;split at hd
 ·rename_i n len hx;split at hd
  ·rename_i rows hr;split at hd
   ·rename_i F a8;injection hd with hd;subst hd;obtain ⟨h1,h2⟩:=zEk2 a8;have hv:=zCg h hx;generalize b4:a.eval x=u at hv;refine⟨.string (bytesS F),?_,.c _ _ (.im _ _ (.str _))⟩;subst h1;generalize hL:F.length=L at hv
    cases hv with
    | view0 _ _ _ A hu'=>
     have:F=[]:=List.eq_nil_of_length_eq_zero hL;subst this;rw[run_convert_bytes_string w s d e A 0 0 hu U J]
     cases A with
     | none=>simp[Conv.bytesToString,bytesS]
     | some A=>exact run_bytesToString w A 0 0 [] (by simp[loadCells,loadCellsFrom])
    | view _ _ _ _ cap hu' hb hl hcap=>
     subst hL;rw[run_convert_bytes_string w s d e _ _ _ hu U J];refine run_bytesToString w _ _ _ F ?_;obtain ⟨_,hR⟩:=h.roots n _ hr
     have E:∀(j:Nat) (m:Int),F[j]?=some m→w.cell? ⟨g.rb n,j,none⟩=some (.int .u8 m):=fun j m hj=>by
      cases hR with
      | arr0 sz hs0 hc0=>have:=h2 j m hj;simp at this
      | mk _ cs e' hh ho hf hrr=>
       have hg:(Root.arr 1 rows).get j 0=some (.t (.im (.int .u8 m))):=(by simp[Root.get,h2 j m hj]);obtain ⟨v,G,Z⟩:=hrr j 0 _ hg;have V:v=.int .u8 m:=(by cases Z with|t _ _ ht=>cases ht with|im _ _ _ hi=>exact hi.int_inv);subst V;simp only[Root.sz,hf.1,Nat.zero_add,Nat.mul_one,yal] at G;simp[World.cell?,hh,G]
     have:=run_loadCells_list (P:=P) (w:=w) ⟨g.rb n,0*1,none⟩ (F.map (Value.int .u8)) (fun j v hj=>by
      simp only[List.getElem?_map,Option.map_eq_some_iff] at hj
      obtain ⟨m,hm,rfl⟩:=hj
      rw[zCw]
      simpa using E j m hm)
     simpa using this
   ·cases hd
  ·cases hd
 ·cases hd
def qv (P:Program)(S:Nat→Option D)(H:Nat→Option Root)(o:Op):Option D:=
 match o with
 | .move x=>ev S x
 | .assign x=>ev S x
 | .pick c x y=>match evI S c with
  | some (.bool true)=>ev S x
  | some (.bool false)=>ev S y
  | _=>none
 | .load t x=>loadD P t S H x
 | .nilCheck x=>match evC S x with
  | some (.ptr n sz i off)=>some (.c (.ptr n sz i off))
  | some (.iptr row off)=>some (.c (.iptr row off))
  | _=>none
 | .binOp op t x y _=>match evI S x,evI S y with
  | some i,some j=>match binI op i j with
   | some z=>some (.c (.im z))
   | none=>match eqBo P op t i j with
    | some z=>some (.c (.im z))
    | none=>none
  | _,_=>eqAgD P op t (ev S x) (ev S y)
 | .unOp op _ x=>match evI S x with
  | some i=>match unI op i with
   | some z=>some (.c (.im z))
   | none=>none
  | none=>none
 | .convert s d x=>match P.underlying s,P.underlying d,evI S x with
  | some _,some dd,some i=>match convI dd i with
   | some z=>some (.c (.im z))
   | none=>none
  | _,_,_=>strD P S H s d x
 | .fieldAddr s x f=>fieldAddrD P s S x f
 | .field s x f=>fieldD P s S x f
 | .indexAddr t x i=>indexAddrD P t S x i
 | .slice t x lo hi none=>sliceX P t S x lo hi
 | .index t x i=>indexS P S t x i
 | .extract x k=>match ev S x with
  | some (.tup ds)=>ds[k]?
  | _=>none
 | .makeFunc f first caps=>match first.toList with
  | []=>match evCs S caps.toList with
   | some cs=>some (.c (.fn f cs))
   | none=>none
  | _=>none
 | .build t parts=>if tok P t then buildD P t S parts.toList else none
 | .call {callee:=.builtin .len,args:=args,argTypes:=ts}=>match args.toList,ts.toList with
  | [x],[t]=>lenD P t (ev S x)
  | _,_=>none
 | .call {callee:=.builtin b,args:=args,argTypes:=ts}=>match evIs S args.toList with
  | some is=>match biD b is with
   | some z=>some (.c (.im z))
   | none=>none
  | none=>none
 | _=>none
theorem zSy1 {op:BinOp}{t:TypeId}{x y:Operand}{u v:Value}{i j z:I}{fz:Nat→Nat→Option Value}(hu:IR fz i u)(hz:binI op i j=some z):eqGuard op t x y u v=pure ():=by
 cases i with
 | int=>cases hu.int_inv;exact eqGuard_at_int ..
 | flt=>obtain ⟨_,rfl,_⟩:=hu.flt_inv;exact eqGuard_at_float ..
 | cpx=>obtain ⟨_,_,rfl,_⟩:=hu.cpx_inv;exact eqGuard_at_complex ..
 | str=>cases hu.str_inv;exact eqGuard_at_string ..
 | _=>cases j<;>simp[binI] at hz
theorem zOm1 (h:Rel en g S H a w){o:Oper}{d:D}(hd:qv P S H o.op=some d):∃v w',(execOp a.eval o).run P w=.ok (.value v) w'∧Qt w w'∧DV g d v:=by
 obtain ⟨dst,op,type,pos,after,guard⟩:=o;simp only at hd;unfold qv at hd;split at hd
 case h_1 x=>exact⟨_,w,by simp[execOp],Qt.refl w,zBt h hd⟩
 case h_2 x=>exact⟨_,w,by simp[execOp],Qt.refl w,zBt h hd⟩
 case h_3 c x y=>
   split at hd
   · rename_i hc;exact⟨_,w,by simp[execOp,(zCd h hc).bool_inv,asBool],Qt.refl w,zBt h hd⟩
   · rename_i hc;exact⟨_,w,by simp[execOp,(zCd h hc).bool_inv,asBool],Qt.refl w,zBt h hd⟩
   · cases hd
 case h_4 t x=>
   obtain ⟨v,h1,h2⟩:=zXo h hd;exact⟨v,w,by simp[execOp,h1],Qt.refl w,h2⟩
 case h_5 x=>
   split at hd
   · rename_i hc;have E:=zCg h hc;injection hd with hd;subst hd;generalize hx:a.eval x=u at E
     cases E with
     | ptr _ _ _ _ hu=>exact⟨_,w,by simp[execOp,hx],Qt.refl w,.c _ _ (.ptr _ _ _ _ hu)⟩
   · rename_i hc;have E:=zCg h hc;injection hd with hd;subst hd;generalize hx:a.eval x=u at E
     cases E with
     | iptr _ _ _ _ _ h1 h2=>exact⟨_,w,by simp[execOp,hx],Qt.refl w,.c _ _ (.iptr _ _ _ _ _ h1 h2)⟩
   · cases hd
 case h_6 op t x y ty=>
   split at hd
   · rename_i i j hi hj;split at hd
     · rename_i z hz;injection hd with hd;subst hd;have h1:=zCd h hi;have h2:=zCd h hj;obtain ⟨v,w',h3,h4,h5⟩:=zHj2 (P:=P) (w:=w) (t:=t) h1 h2 hz;exact⟨v,w',by simp[execOp,zSy1 (x:=x) (y:=y) (t:=t) (v:=a.eval y) h1 hz,h3],h4,.c _ _ (.im _ _ h5)⟩
     · split at hd
       · rename_i z hz;injection hd with hd;subst hd;have h1:=zCd h hi;have h2:=zCd h hj
         have b2:isBoT P t=true→P.underlying t=some .bool:=fun hb=>by
           unfold isBoT at hb;split at hb
           · assumption
           · cases hb
         unfold eqBo at hz
         split at hz<;>first
           | (cases hz;done)
           | (split at hz<;>first
               | (cases hz;done)
               | (rename_i hb;injection hz with hz;subst hz
                  refine⟨_,w,?_,Qt.refl w,.c _ _ (.im _ _ (.bool _))⟩
                  simp[execOp,h1.bool_inv,h2.bool_inv,eqGuard_at_bool,binOp,zAl1 (b2 hb)]))
       · cases hd
   · cases hx:ev S x with
     | none=>rw[hx] at hd;cases op<;>cases hd
     | some da=>cases U:ev S y with
       | none=>rw[hx,U] at hd;simp[eqAgD] at hd
       | some db=>
         rw[hx,U] at hd;obtain ⟨r,g1,g2,g3⟩:=zSz1 (P:=P) (w:=w) (x:=x) (y:=y) (zBt h hx) (zBt h U) hd;exact⟨r,w,by simp[execOp,g1,g2],Qt.refl w,g3⟩
 case h_7 op t x=>
   split at hd
   · rename_i i hi;split at hd
     · rename_i z hz;injection hd with hd;subst hd;obtain ⟨v,h1,h2⟩:=zJw2 (P:=P) (w:=w) (zCd h hi) hz;exact⟨v,w,by simp[execOp,h1],Qt.refl w,.c _ _ (.im _ _ h2)⟩
     · cases hd
   · cases hd
 case h_8 s dt x=>
   split at hd
   · rename_i ds dd i hs b0 hi;split at hd
     · rename_i z hz;injection hd with hd;subst hd;obtain ⟨v,w',h1,h2,h3⟩:=zBb2 (P:=P) (w:=w) hs b0 (zCd h hi) hz;exact⟨v,w',by simp[execOp,h1],h2,.c _ _ (.im _ _ h3)⟩
     · cases hd
   · obtain ⟨v,h1,h2⟩:=zQm1 (P:=P) h hd;exact⟨v,w,by simp[execOp,h1],Qt.refl w,h2⟩
 case h_9 s x f=>
   obtain ⟨v,h1,h2⟩:=zUn h hd;exact⟨v,w,by simp[execOp,h1],Qt.refl w,h2⟩
 case h_10 s x f=>
   obtain ⟨v,h1,h2⟩:=zKi1 h hd;exact⟨v,w,by simp[execOp,h1],Qt.refl w,h2⟩
 case h_11 t x i=>
   obtain ⟨v,h1,h2⟩:=zUk h hd;exact⟨v,w,by simp[execOp,h1],Qt.refl w,h2⟩
 case h_12 t x lo hi=>
   obtain ⟨v,h1,h2⟩:=zHw1 h hd;exact⟨v,w,by simp[execOp,h1],Qt.refl w,h2⟩
 case h_13 t x i=>
   obtain ⟨v,h1,h2⟩:=zKd1 (P:=P) h hd;exact⟨v,w,by simp[execOp,h1],Qt.refl w,h2⟩
 case h_14 x k=>
   split at hd
   · rename_i ds a8;have E:=zBt h a8;generalize hx:a.eval x=u at E
     cases E with
     | tup _ vs hs hr=>
       have G:k<vs.size:=(by rw[hs];exact (List.getElem?_eq_some_iff.1 hd).1);exact⟨vs[k],w,by simp[execOp,hx,Instr.extract,Array.getElem?_eq_getElem G],Qt.refl w,hr k d _ hd (Array.getElem?_eq_getElem G)⟩
   · cases hd
 case h_15 f first caps=>
   split at hd
   · rename_i hf;split at hd
     · rename_i cs b1;injection hd with hd;subst hd;have F:first=#[]:=(by simpa using hf);subst F;have J:=zDa1 h b1;refine⟨.func f #[] (caps.map a.eval),w,by simp[execOp,Instr.makeFunc],Qt.refl w,.c _ _ (.fn _ _ _ ?_ (fun j x v hj E=>?_))⟩
       · have:=J.1;simpa using this
       · refine J.2 j x v hj ?_;have:(caps.map a.eval).toList[j]?=some v:=(by simpa using E);simpa using this
     · cases hd
   · cases hd
 case h_16 t parts=>
   split at hd
   · rename_i ht;obtain ⟨v,h1,h2⟩:=zLc1 h ht hd;exact⟨v,w,by simp[execOp,h1],Qt.refl w,h2⟩
   · cases hd
 case h_17 args ts=>
   split at hd
   · rename_i x t hx ht;have V:args=#[x]:=(by rw[←Array.toList_inj];simpa using hx);have Z:ts=#[t]:=(by rw[←Array.toList_inj];simpa using ht);subst V;subst Z
     cases he:ev S x with
     | none=>rw[he] at hd;simp[lenD] at hd
     | some d0=>
       rw[he] at hd;obtain ⟨v,h1,h2⟩:=zRq1 (w:=w) (ty:=type) (zBt h he) hd;exact⟨v,w,by simp[execOp,resolve,invoke,builtin,h1],Qt.refl w,h2⟩
   · cases hd
 case h_18 b args ts hne=>
   split at hd
   · rename_i is hi;split at hd
     · rename_i z hz;injection hd with hd;subst hd;obtain ⟨v,h1,h2⟩:=zZa1 (P:=P) (ts:=ts) (ty:=type) (cs:=args.map fun|.const _=>true|_=>false) h hi hz;refine⟨v,w,?_,Qt.refl w,.c _ _ (.im _ _ h2)⟩;have:(args.toList.map a.eval).toArray=args.map a.eval:=(by rw[←Array.toList_map]);rw[this] at h1;simp only[execOp,resolve,invoke,Sem.run_bind,Sem.run_pure,Result.andThen_ok];exact h1
     · cases hd
   · cases hd
 case h_19=>cases hd
end Go.SX
namespace Go.SX
open Go Go.RowKit
variable {en : En} {g : Gh} {S : Nat → Option D} {H : Nat → Option Root} {a : Act} {w : World} {P : Program}
def toT:C→Option T
 | .im i=>some (.im i)
 | .nil=>some .nil
 | .view n sz 0 len=>some (.lent n sz len)
 | _=>none
def toB (c:C):B:=match toT c with
 | some t=>.t t
 | none=>.v c
theorem zVe {c:C}{t:T}{v:Value}(h:CV g c v)(E:toT c=some t)(w:World)(n:Nat)(q:Pth):TR w g n q t v:=by
 unfold toT at E
 split at E<;>first
  | (cases E;done)
  | (injection E with E;subst E)
 ·cases h with|im _ _ h=>exact .im _ _ _ h
 ·cases h;exact .nil _
 ·exact .lent _ _ _ _ _ h
theorem zHl1 {c:C}{v:Value}(h:CV g c v)(w:World)(n:Nat)(q:Pth):BR w g n q (toB c) v:=by
 unfold toB;split
 ·rename_i t ht;exact .t _ _ (zVe h ht w n q)
 ·exact .v _ _ h
structure Made (en:En) (g g':Gh) (nm:Nat) (S:Nat→Option D) (H':Nat→Option Root) (a:Act) (w':World) (d:D) (v:Value):Prop where
 le:g.le g'
 us:∀m,g'.used m→m=nm∨g.used m
 rel:Rel en g' S H' a w'
 val:DV g' d v
theorem zVr1 (h:Rel en g S H a w){nm:Nat}(hn:¬g.used nm){cs:List C}{vs:List Value}(hc:CVs g cs vs)(e:TypeId):
 Made en g (g.new nm w.heap.size vs.toArray.size) nm S (upd H nm (some (.box (cs.map toB)))) a (w.alloc (.cells vs.toArray e)) (.c (.ptr nm 0 0 0)) (.pointer (some ⟨w.heap.size,0,none⟩)):=by
 have F:=Gh.new_le (g:=g) (nm:=nm) (b:=w.heap.size) (size:=vs.toArray.size) hn;refine⟨F,fun m G=>G,h.new hn _ _ (.mk _ vs.toArray e ?_ ?_ trivial (fun i j x hx=>?_)),.c _ _ ?_⟩
 ·rw[show (g.new nm w.heap.size vs.toArray.size).rb nm=w.heap.size from zBl _ _ _];exact heap_alloc_new w _
 ·rw[show (g.new nm w.heap.size vs.toArray.size).rb nm=w.heap.size from zBl _ _ _];exact zBl _ _ _
 ·cases i with
  | succ i=>simp[Root.get] at hx
  | zero=>
   simp only[Root.get,List.getElem?_map,Option.map_eq_some_iff] at hx;obtain ⟨c,hj,rfl⟩:=hx;have E:j<vs.length:=(by rw[hc.1];exact (List.getElem?_eq_some_iff.1 hj).1);refine⟨vs[j],?_,zHl1 ((hc.2 j c _ hj (List.getElem?_eq_getElem E)).mono F) _ _ _⟩;rw[show (g.new nm w.heap.size vs.toArray.size).base nm=0 from zBl _ _ _];simp[Root.sz,List.getElem?_eq_getElem E]
 ·have:=CV.ptr (g:=g.new nm w.heap.size vs.toArray.size) nm 0 0 0 (.inl rfl);rw[show (g.new nm w.heap.size vs.toArray.size).rb nm=w.heap.size from zBl _ _ _,show (g.new nm w.heap.size vs.toArray.size).base nm=0 from zBl _ _ _] at this;simpa using this
def mapT:List C→Option (List T)
 | []=>some []
 | c::cs=>match toT c with
  | some t=>match mapT cs with
   | some ts=>some (t::ts)
   | none=>none
  | none=>none
theorem zSg:∀{cs:List C} {ts:List T},mapT cs=some ts→ts.length=cs.length∧∀(j:Nat) (t:T),ts[j]?=some t→∃c,cs[j]?=some c∧toT c=some t
 | [],ts,h=>by simp only[mapT,yaC] at h;subst h;exact⟨rfl,fun j t G=>by simp at G⟩
 | c::cs,ts,h=>by
  simp only[mapT] at h;split at h
  ·rename_i t G;split at h
   ·rename_i J F;injection h with h;subst h;obtain ⟨h1,h2⟩:=zSg F;refine⟨by simp[h1],fun j u E=>?_⟩
    cases j with
    | zero=>simp at E;subst E;exact⟨c,rfl,G⟩
    | succ j=>simp at E ⊢;exact h2 j u E
   ·cases h
  ·cases h
def mapTs:List (List C)→Option (List (List T))
 | []=>some []
 | r::rs=>match mapT r with
  | some t=>match mapTs rs with
   | some ts=>some (t::ts)
   | none=>none
  | none=>none
theorem zOz1:∀{cs:List (List C)} {ts:List (List T)},mapTs cs=some ts→ts.length=cs.length∧∀(j:Nat) (t:List T),ts[j]?=some t→∃c,cs[j]?=some c∧mapT c=some t
 | [],ts,h=>by simp only[mapTs,yaC] at h;subst h;exact⟨rfl,fun j t G=>by simp at G⟩
 | c::cs,ts,h=>by
  simp only[mapTs] at h;split at h
  ·rename_i t G;split at h
   ·rename_i J F;injection h with h;subst h;obtain ⟨h1,h2⟩:=zOz1 F;refine⟨by simp[h1],fun j u E=>?_⟩
    cases j with
    | zero=>simp at E;subst E;exact⟨c,rfl,G⟩
    | succ j=>simp at E ⊢;exact h2 j u E
   ·cases h
  ·cases h
def Flat (g:Gh)(sz:Nat)(rows:List (List C))(A:Array Value):Prop:=
 A.size=rows.length*sz∧(∀(i:Nat) (r:List C),rows[i]?=some r→r.length=sz)∧∀(i:Nat) (r:List C) (j:Nat) (c:C),rows[i]?=some r→r[j]?=some c→∃v,A[i*sz+j]?=some v∧CV g c v
def TF (g:Gh)(x:T)(v:Value):Prop:=∃c,toT c=some x∧CV g c v
theorem TF.tr {x:T}{v:Value}(h:TF g x v)(w:World)(n:Nat)(q:Pth):TR w g n q x v:=by obtain ⟨c,h1,h2⟩:=h;exact zVe h2 h1 w n q
theorem TF.mono {g':Gh}(hg:g.le g'){x:T}{v:Value}(h:TF g x v):TF g' x v:=by obtain ⟨c,h1,h2⟩:=h;exact⟨c,h1,h2.mono hg⟩
theorem TF.one {x:T}{v:Value}(h:TF g x v):v.oneCell'=true:=by obtain ⟨c,h1,h2⟩:=h;exact h2.one
theorem zVs1 (h:Rel en g S H a w) {nm:Nat} (hn:¬g.used nm) {sz:Nat} {rows:List (List T)} {A:Array Value} (hz:∀(i:Nat) (r:List T),rows[i]?=some r→r.length=sz)
 (hr:∀(i:Nat) (r:List T) (j:Nat) (x:T),rows[i]?=some r→r[j]?=some x→∃v,A[i*sz+j]?=some v∧TF g x v) (e:TypeId) (cap:Nat) (hl:rows.length≤cap) (hcap:cap*sz≤A.size):
 Made en g (g.new nm w.heap.size A.size) nm S (upd H nm (some (.arr sz rows))) a (w.alloc (.cells A e)) (.c (.view nm sz 0 rows.length)) (.slice (some ⟨w.heap.size,0,none⟩) rows.length cap):=by
 have F:=Gh.new_le (g:=g) (nm:=nm) (b:=w.heap.size) (size:=A.size) hn;have U:(g.new nm w.heap.size A.size).rb nm=w.heap.size:=zBl _ _ _;have J:(g.new nm w.heap.size A.size).base nm=0:=zBl _ _ _;have G:(g.new nm w.heap.size A.size).rc nm=A.size:=zBl _ _ _;have hA:rows.length*sz≤A.size:=Nat.le_trans (Nat.mul_le_mul_right _ hl) hcap;refine⟨F,fun m Z=>Z,h.new hn _ _ (.mk _ A e ?_ ?_ ⟨J,G.symm,by rw[G];exact hA,hz⟩ (fun i j x hx=>?_)),.c _ _ ?_⟩
 ·rw[U];exact heap_alloc_new w _
 ·rw[U];exact zBl _ _ _
 ·simp only[Root.get] at hx
  cases E:rows[i]? with
  | none=>simp[E] at hx
  | some row=>
   simp only[E,Option.map_eq_some_iff] at hx;obtain ⟨y,V,rfl⟩:=hx;obtain ⟨v,h1,h2⟩:=hr i row j y E V;exact⟨v,by rw[J,Nat.zero_add];exact h1,.t _ _ ((h2.mono F).tr _ _ _)⟩
 ·have:=CV.view (g:=g.new nm w.heap.size A.size) nm sz 0 rows.length cap (.inl rfl) J hl (by rw[G];simpa using hcap)
  rwa [U,Nat.zero_mul] at this
theorem zYb1 {sz:Nat}{rows:List (List C)}{ts:List (List T)}{A:Array Value}(hf:Flat g sz rows A)(ht:mapTs rows=some ts):
 ts.length=rows.length∧(∀(i:Nat) (r:List T),ts[i]?=some r→r.length=sz)∧∀(i:Nat) (r:List T) (j:Nat) (x:T),ts[i]?=some r→r[j]?=some x→∃v,A[i*sz+j]?=some v∧TF g x v:=by
 obtain ⟨h1,h2⟩:=zOz1 ht;refine⟨h1,fun i r hr=>?_,fun i r j x hr hx=>?_⟩
 ·obtain ⟨c,hc,E⟩:=h2 i r hr;rw[(zSg E).1];exact hf.2.1 i c hc
 ·obtain ⟨c,hc,E⟩:=h2 i r hr;obtain ⟨F,h3,h4⟩:=(zSg E).2 j x hx;obtain ⟨v,J,G⟩:=hf.2.2 i c j F hc h3;exact⟨v,J,F,h4,G⟩
def rowsD (sz:Nat)(S:Nat→Option D):List (Nat×Operand)→List (List C)→Option (List (List C))
 | [],rs=>some rs
 | (i,x)::r,rs=>match ev S x with
  | some d=>match dCs d with
   | some xs=>if xs.length=sz∧i<rs.length then rowsD sz S r (rs.set i xs) else none
   | none=>none
  | none=>none
theorem zYa1 (l:List Value):∀(k off:Nat) (A:Array Value) (p:Nat),off+k+l.length≤A.size→
 ((l.zipIdx k).foldl (fun (cs:Array Value) (p:Value×Nat)=>cs.setIfInBounds (off+p.2) p.1) A)[p]?=if off+k≤p∧p<off+k+l.length then l[p- (off+k)]? else A[p]?:=by
 induction l with
 | nil=>intro k off A p _;simp;intro h1 h2;omega
 | cons v l ih=>
  intro k off A p hs;simp only[yab] at hs;simp only[List.zipIdx_cons,List.foldl_cons];have E:off+(k+1)+l.length≤(A.setIfInBounds (off+k) v).size:=by simp;omega
  rw[ih (k+1) off _ p E];by_cases h1:off+(k+1)≤p∧p<off+(k+1)+l.length
  ·have h2:off+k≤p∧p<off+k+(v::l).length:=(by simp only[yab];omega);rw[if_pos h1,if_pos h2];rw[show p- (off+k)=(p- (off+(k+1)))+1 by omega];simp
  ·rw[if_neg h1,Array.getElem?_setIfInBounds];by_cases h2:off+k=p
   ·subst h2;have h3:off+k≤off+k∧off+k<off+k+(v::l).length:=(by simp only[yab];omega);rw[if_pos rfl,if_pos (show off+k<A.size by omega),if_pos h3];simp
   ·have h3:¬(off+k≤p∧p<off+k+(v::l).length):=(by simp only[yab];omega);rw[if_neg h2,if_neg h3]
theorem zSw1 (l:List Value):∀(k off:Nat) (A:Array Value),((l.zipIdx k).foldl (fun (cs:Array Value) (p:Value×Nat)=>cs.setIfInBounds (off+p.2) p.1) A).size=A.size:=by
 induction l with
 | nil=>intro k off A;rfl
 | cons v l ih=>intro k off A;simp only[List.zipIdx_cons,List.foldl_cons];rw[ih];simp
theorem zQg1 {i i' j sz:Nat}(hj:j<sz):(i*sz≤i'* sz+j∧i'* sz+j<i*sz+sz)↔i=i':=by
 constructor
 ·intro ⟨h1,h2⟩;rcases Nat.lt_trichotomy i i' with h|h|h
  ·have:=Nat.mul_le_mul_right sz (show i+1≤i' by omega);rw[Nat.add_mul] at this;omega
  ·exact h
  ·have:=Nat.mul_le_mul_right sz (show i'+1≤i by omega);rw[Nat.add_mul] at this;omega
 ·rintro rfl;omega
theorem zWr (h:Rel en g S H a w){sz:Nat}:∀(l:List (Nat×Operand)) (rs rs':List (List C)) (A:Array Value),Flat g sz rs A→rowsD sz S l rs=some rs'→
 ∃Z,Instr.fill (fun i=>some (i*sz,sz)) A (l.map fun (p:Nat×Operand)=>(p.1,a.eval p.2))=some Z∧Flat g sz rs' Z∧rs'.length=rs.length
 | [],rs,rs',A,hA,hd=>by simp only[rowsD,yaC] at hd;subst hd;exact⟨A,rfl,hA,rfl⟩
 | (i,x)::r,rs,rs',A,hA,hd=>by
  simp only[rowsD] at hd;split at hd
  ·rename_i d he;split at hd
   ·rename_i xs a6;split at hd
    ·rename_i hc;have V:=zRb (zBt h he) a6;have J:(a.eval x).cells.size=sz:=(by rw[←hc.1,←V.1];simp);have F:(a.eval x).cells.toList.length=sz:=(by rw[←J];simp)
     have b0:i*sz+sz≤A.size:=by
      rw[hA.1];have:=Nat.mul_le_mul_right sz (show i+1≤rs.length by omega);rw[Nat.add_mul] at this;omega
     have e1:(a.eval x).cells.zipIdx.foldl (fun (cs:Array Value) (p:Value×Nat)=>cs.setIfInBounds (i*sz+p.2) p.1) A=((a.eval x).cells.toList.zipIdx 0).foldl (fun (cs:Array Value) (p:Value×Nat)=>cs.setIfInBounds (i*sz+p.2) p.1) A:=(by rw[←Array.foldl_toList];simp)
     have hF:Flat g sz (rs.set i xs) (((a.eval x).cells.toList.zipIdx 0).foldl (fun (cs:Array Value) (p:Value×Nat)=>cs.setIfInBounds (i*sz+p.2) p.1) A):=by
      refine⟨by rw[zSw1,hA.1];simp,fun G r' E=>?_,fun G r' j c E hj=>?_⟩
      ·rw[List.getElem?_set] at E;split at E
       ·split at E
        ·injection E with E;subst E;exact hc.1
        ·cases E
       ·exact hA.2.1 G r' E
      ·rw[zYa1 _ 0 _ _ _ (by rw[F];omega),F]
       have a7:j<sz:=by
        rw[List.getElem?_set] at E;split at E
        ·split at E
         ·injection E with E;subst E;have:=(List.getElem?_eq_some_iff.1 hj).1;omega
         ·cases E
        ·have h1:=hA.2.1 G r' E;have:=(List.getElem?_eq_some_iff.1 hj).1;omega
       rw[List.getElem?_set] at E;by_cases e2:i=G
       ·subst e2;rw[if_pos rfl,if_pos hc.2] at E;injection E with E;subst E;rw[if_pos (by omega),show i*sz+j- (i*sz+0)=j by omega];have U:j<(a.eval x).cells.toList.length:=(by omega);exact⟨_,List.getElem?_eq_getElem U,V.2 j c _ hj (List.getElem?_eq_getElem U)⟩
       ·rw[if_neg e2] at E;rw[if_neg (by rw[Nat.add_zero];intro hh;exact e2 ((zQg1 a7).1 hh))];exact hA.2.2 G r' j c E hj
     obtain ⟨Z,h1,h2,h3⟩:=zWr h r (rs.set i xs) rs' _ hF hd;refine⟨Z,?_,h2,by rw[h3];simp⟩;simp only[List.map_cons,Instr.fill,J];rw[if_neg (by simp;omega),e1];exact h1
    ·cases hd
   ·cases hd
  ·cases hd
theorem zYq {z:Value}{zc:List C}{sz:Nat}(hz:CVs g zc z.cells.toList)(hl:zc.length=sz)(hs:0<sz)(n:Nat):Flat g sz (List.replicate n zc) (madeCells z.cells (n*sz)):=by
 have F:z.cells.size=sz:=by rw[←hl,←hz.1];simp
 refine⟨by simp[size_madeCells],fun i r hr=>?_,fun i r j c hr hj=>?_⟩
 ·rw[List.getElem?_replicate] at hr;split at hr
  ·injection hr with hr;subst hr;exact hl
  ·cases hr
 ·rw[List.getElem?_replicate] at hr;split at hr
  ·rename_i hi;injection hr with hr;subst hr;have U:j<sz:=(by rw[←hl];exact (List.getElem?_eq_some_iff.1 hj).1)
   have G:i*sz+j<n*sz:=by
    have:=Nat.mul_le_mul_right sz (show i+1≤n by omega);rw[Nat.add_mul] at this;omega
   have E:j<z.cells.toList.length:=(by simp;omega);refine⟨z.cells.toList[j],?_,hz.2 j c _ hj (List.getElem?_eq_getElem E)⟩;have V:(i*sz+j)%sz=j:=(by rw[Nat.add_comm,Nat.add_mul_mod_self_right,Nat.mod_eq_of_lt U]);have J:j<z.cells.size:=(by omega);simp[madeCells,G,F,V];exact getElem!_pos z.cells j J
  ·cases hr
end Go.SX
namespace Go.SX
open Go Go.RowKit
variable {en : En} {g : Gh} {S : Nat → Option D} {H : Nat → Option Root} {a : Act} {w : World} {P : Program}
def Root.setB:Root→Nat→Nat→C→Option Root
 | .box cells,0,j,c=>if j<cells.length then some (.box (cells.set j (toB c))) else none
 | .box _,_+1,_,_=>none
 | .arr sz rows,i,j,c=>match toT c with
  | some t=>match rows[i]? with
   | some r=>if j<r.length then some (.arr sz (rows.set i (r.set j t))) else none
   | none=>none
  | none=>none
theorem Root.setB_spec {r r':Root}{i j:Nat}{c:C}(h:r.setB i j c=some r'):
 (∃y,r.get i j=some y)∧r'.sz=r.sz∧(∀G J,r'.get G J=if G=i∧J=j then some (toB c) else r.get G J)∧(∀base rc size,r.form base rc size→r'.form base rc size)∧
 (∀c0,r=.box c0→∃c1,r'=.box c1∧c1.length=c0.length)∧(∀sz rows,r=.arr sz rows→∃F,r'=.arr sz F):=by
 cases r with
 | box cells=>
  cases i with
  | succ i=>simp[Root.setB] at h
  | zero=>
   simp only[Root.setB] at h;split at h
   ·rename_i hj;injection h with h;subst h;have hy:(Root.box cells).get 0 j=some cells[j]:=(by simp[Root.get,List.getElem?_eq_getElem hj]);refine⟨⟨_,hy⟩,rfl,fun G J=>?_,fun _ _ _ h=>h,fun c0 hc=>?_,fun sz rows hc=>(by cases hc)⟩
    ·cases G with
     | zero=>
      simp only[Root.get,List.getElem?_set];by_cases e:j=J
      ·subst e;simp[hj]
      ·simp[e,Ne.symm e]
     | succ G=>simp[Root.get]
    ·cases hc;exact⟨_,rfl,by simp⟩
   ·cases h
 | arr sz rows=>
  simp only[Root.setB] at h;split at h
  ·rename_i t ht;split at h
   ·rename_i r hr;split at h
    ·rename_i hj;injection h with h;subst h;have hi:i<rows.length:=(List.getElem?_eq_some_iff.1 hr).1;have U:toB c=.t t:=(by simp[toB,ht]);refine⟨⟨.t r[j],by simp[Root.get,hr,List.getElem?_eq_getElem hj]⟩,rfl,fun G J=>?_,fun base rc size hf=>?_,fun c0 hc=>(by cases hc),fun Z F hc=>(by cases hc;exact⟨_,rfl⟩)⟩
     ·simp only[Root.get,List.getElem?_set];by_cases e:i=G
      ·subst e;simp only[if_pos,hi,hr,true_and];rw[List.getElem?_set];by_cases V:j=J
       ·subst V;simp[hj,U]
       ·simp[V,Ne.symm V]
      ·simp[e,Ne.symm e]
     ·obtain ⟨h1,h2,h3,h4⟩:=hf;refine⟨h1,h2,by simpa using h3,fun G r' E=>?_⟩;rw[List.getElem?_set] at E;split at E
      ·(try split at E)
       all_goals first
        | (injection E with E;subst E;simpa using h4 i r hr)
        | cases E
      ·exact h4 G r' E
    ·cases h
   ·cases h
  ·cases h
theorem Root.get_lt {r:Root}{base rc size:Nat}(hf:r.form base rc size){i j:Nat}{x:B}(h:r.get i j=some x):(∃c0,r=.box c0∧i=0∧j<c0.length)∨(∃sz rows,r=.arr sz rows∧j<sz):=by
 cases r with
 | box cells=>
  cases i with
  | zero=>exact .inl ⟨cells,rfl,rfl,by simp only[Root.get] at h;exact (List.getElem?_eq_some_iff.1 h).1⟩
  | succ i=>simp[Root.get] at h
 | arr sz rows=>
  refine .inr ⟨sz,rows,rfl,?_⟩;simp only[Root.get] at h
  cases hr:rows[i]? with
  | none=>simp[hr] at h
  | some row=>
   simp only[hr,Option.map_eq_some_iff] at h;obtain ⟨y,E,_⟩:=h;have:=hf.2.2.2 i row hr;have:=(List.getElem?_eq_some_iff.1 E).1;omega
theorem Root.get_inj {r:Root}{base rc size:Nat}(hf:r.form base rc size){i j i' j':Nat}{x y:B}(h:r.get i j=some x)(h':r.get i' j'=some y)(he:i*r.sz+j=i'* r.sz+j'):i'=i∧j'=j:=by
 rcases Root.get_lt hf h with ⟨c0,rfl,rfl,hj⟩|⟨sz,rows,rfl,hj⟩
 ·rcases Root.get_lt hf h' with ⟨J,hc,rfl,E⟩|⟨sz,rows,hc,E⟩
  ·simp only[Root.sz] at he;omega
  ·cases hc
 ·rcases Root.get_lt hf h' with ⟨J,hc,rfl,E⟩|⟨G,F,hc,E⟩
  ·cases hc
  ·cases hc
   simp only[Root.sz] at he;have:i=i':=(zQg1 E).1 (by omega);subst this;omega
def setCs (i:Nat):Root→Nat→List C→Option Root
 | r,_,[]=>some r
 | r,j,c::cs=>match r.setB i j c with
  | some r'=>setCs i r' (j+1) cs
  | none=>none
def setsA:Array Value→Nat→List Value→Array Value
 | A,_,[]=>A
 | A,k,v::vs=>setsA (A.setIfInBounds k v) (k+1) vs
theorem zGb:∀(vs:List Value) (A:Array Value) (k:Nat),(setsA A k vs).size=A.size
 | [],A,k=>rfl
 | v::vs,A,k=>by simp[setsA,zGb vs]
theorem zLs:∀(vs:List Value) (A:Array Value) (k o:Nat),(o<k∨k+vs.length≤o)→(setsA A k vs)[o]?=A[o]?
 | [],A,k,o,_=>rfl
 | v::vs,A,k,o,h=>by
  simp only[yab] at h;simp only[setsA];rw[zLs vs _ (k+1) o (by omega),Array.getElem?_setIfInBounds,if_neg (by omega)]
theorem zCe (P:Program)(b o:Nat)(e:TypeId):∀(vs:List Value) (i:Nat) (A:Array Value) (w:World),w.heap[b]?=some (.cells A e (0,0))→o+i+vs.length≤A.size→(∀v∈vs,v.oneCell'=true)→
 (storeCells ⟨b,o,none⟩ vs i).run P w=.ok () (w.setRow b (setsA A (o+i) vs))
 | [],i,A,w,hg,_,_=>by
  simp only[storeCells,setsA];rw[setRow_self w b A e (0,0) hg];rfl
 | v::rest,i,A,w,hg,hl,h1=>by
  have hi:o+i<A.size:=by simp at hl;omega
  have E:w.cell? ⟨b,o+i,none⟩=some A[o+i]:=by simp[World.cell?,hg,hi]
  have F:w.frozen? ⟨b,o+i,none⟩=false:=by simp[World.frozen?,hg]
  have G:(store ((⟨b,o,none⟩:Addr).add i) v).run P w=.ok () (w.setRow b (A.setIfInBounds (o+i) v)):=by
   rw[zCw,run_store P w _ v _ (h1 v (by simp)),E];simp[F,setCell_eq_setRow w b (o+i) A e (0,0) v hg]
  have J:=zCe P b o e rest (i+1) (A.setIfInBounds (o+i) v) (w.setRow b (A.setIfInBounds (o+i) v)) (setRow_heap w b A _ e _ hg) (by simp at hl ⊢;omega) (fun x hx=>h1 x (by simp[hx]));simp only[storeCells,Sem.run_bind,G,Result.andThen_ok,J,setRow_setRow,setsA];rfl
structure RowR (w:World) (g:Gh) (n:Nat) (r:Root) (A:Array Value):Prop where
 form:r.form (g.base n) (g.rc n) A.size
 cells:∀(i j:Nat) (x:B),r.get i j=some x→∃v,A[g.base n+i*r.sz+j]?=some v∧BR w g n [(i,j)] x v
theorem RowR.set {n:Nat}{r r':Root}{A:Array Value}(h:RowR w g n r A){i j:Nat}{c:C}(hs:r.setB i j c=some r'){v:Value}(hv:CV g c v):
 RowR w g n r' (A.setIfInBounds (g.base n+i*r.sz+j) v):=by
 obtain ⟨⟨y,G⟩,h1,h2,h3,h4,Z⟩:=Root.setB_spec hs;obtain ⟨u,V,_⟩:=h.cells i j y G;have E:g.base n+i*r.sz+j<A.size:=(Array.getElem?_eq_some_iff.1 V).1;refine⟨by simpa using h3 _ _ _ h.form,fun U J x hx=>?_⟩;rw[h2] at hx;rw[h1,Array.getElem?_setIfInBounds];split at hx
 ·rename_i F;obtain ⟨rfl,rfl⟩:=F;injection hx with hx;subst hx;rw[if_pos rfl,if_pos E];exact⟨v,rfl,zHl1 hv _ _ _⟩
 ·rename_i F;rw[if_neg (fun hc=>F (Root.get_inj h.form G hx (by omega)))];exact h.cells U J x hx
theorem RowR.sets {n i:Nat}:∀(cs:List C) (vs:List Value) (r r':Root) (j:Nat) (A:Array Value),RowR w g n r A→setCs i r j cs=some r'→CVs g cs vs→
 RowR w g n r' (setsA A (g.base n+i*r.sz+j) vs)∧(cs≠[]→g.base n+i*r.sz+j+vs.length≤A.size)∧(∀c0,r=.box c0→∃c1,r'=.box c1∧c1.length=c0.length∧(cs≠[]→j+cs.length≤c0.length))∧(∀sz rows,r=.arr sz rows→∃E,r'=.arr sz E)
 | [],vs,r,r',j,A,h,hs,hc=>by
  have:vs=[]:=List.eq_nil_of_length_eq_zero hc.1;subst this;simp only[setCs,yaC] at hs;subst hs;exact⟨h,fun hh=>absurd rfl hh,fun c0 G=>⟨c0,G,rfl,fun hh=>absurd rfl hh⟩,fun sz rows hr=>⟨rows,hr⟩⟩
 | c::cs,vs,r,r',j,A,h,hs,hc=>by
  simp only[setCs] at hs;split at hs
  ·rename_i r1 U
   match vs,hc with
   | [],hc=>have:=hc.1;simp at this
   | v::vs,hc=>
    have hv:CV g c v:=hc.2 0 c v rfl rfl;have V:CVs g cs vs:=⟨by have:=hc.1;simpa using this,fun j y u Z hu=>hc.2 (j+1) y u (by simpa using Z) (by simpa using hu)⟩;obtain ⟨⟨y,Z⟩,h1,h2,h3,h4,h5⟩:=Root.setB_spec U;obtain ⟨u,hu,_⟩:=h.cells i j y Z;have c6:g.base n+i*r.sz+j<A.size:=(Array.getElem?_eq_some_iff.1 hu).1;obtain ⟨k1,k2,k3,k4⟩:=RowR.sets cs vs r1 r' (j+1) _ (h.set U hv) hs V;rw[h1] at k1 k2;refine⟨by simpa[setsA,Nat.add_assoc] using k1,fun _=>?_,fun c0 G=>?_,fun sz rows hr=>?_⟩
    ·simp only[yab];by_cases F:cs=[]
     ·subst F;have:vs=[]:=List.eq_nil_of_length_eq_zero V.1;subst this;simp only[List.length_nil];omega
     ·have:=k2 F;simp only[Array.size_setIfInBounds] at this;omega
    ·obtain ⟨c1,b3,hl⟩:=h4 c0 G;obtain ⟨c2,b2,b1,b0⟩:=k3 c1 b3;refine⟨c2,b2,b1.trans hl,fun _=>?_⟩;simp only[yab];by_cases F:cs=[]
     ·subst F;subst G;rcases Root.get_lt h.form Z with ⟨c3,J,_,hj⟩|⟨sz,rows,J,_⟩
      ·cases J;simp only[List.length_nil];omega
      ·cases J
     ·have:=b0 F;omega
    ·obtain ⟨E,a8⟩:=h5 sz rows hr;exact k4 sz E a8
  ·cases hs
def storeH (P:Program)(t:TypeId)(S:Nat→Option D)(H:Nat→Option Root)(x y:Operand):Option (Nat×Root):=
 match tsz P t with
 | some k=>match evC S x with
  | some (.ptr n sz i off)=>match ev S y with
   | some d=>match dCs d with
    | some cs=>if cs.length=k∧0<k then match H n with
     | some r=>if r.sz=sz then match setCs i r off cs with
      | some r'=>some (n,r')
      | none=>none
      else none
     | none=>none
     else none
    | none=>none
   | none=>none
  | _=>none
 | none=>none
theorem zHs1 (h:Rel en g S H a w){t:TypeId}{x y:Operand}{n:Nat}{r':Root}(hd:storeH P t S H x y=some (n,r')):
 ∃w',(Instr.storeAt t (a.eval x) (a.eval y)).run P w=.ok () w'∧Rel en g S (upd H n (some r')) a w':=by
 unfold storeH at hd;split at hd
 ·rename_i k hk;split at hd
  ·rename_i m sz i off hx;split at hd
   ·rename_i d hy;split at hd
    ·rename_i cs b5;split at hd
     ·rename_i E;split at hd
      ·rename_i r hr;split at hd
       ·rename_i b2;subst b2;split at hd
        ·rename_i r1 J;simp only[yaC,Prod.mk.injEq] at hd;obtain ⟨rfl,rfl⟩:=hd;have U:=zRb (zBt h hy) b5;have F:cs≠[]:=(by intro hc;rw[hc] at E;simp at E;omega);have V:=zCg h hx;generalize a.eval x=u at V;obtain ⟨hu,hR⟩:=h.roots m r hr
         cases V with
         | ptr _ _ _ _ _=>
          cases hR with
          | arr0 sz' hs h0=>
           cases cs with
           | nil=>exact absurd rfl F
           | cons c cs=>
            have h9:Root.setB (.arr sz' []) i off c=none:=(by simp only[Root.setB];split<;>simp);simp[setCs,h9] at J
          | mk _ A e hh ho hf hrr=>
           obtain ⟨k1,k2,k3,k4⟩:=RowR.sets (w:=w) (g:=g) (n:=m) (i:=i) cs (a.eval y).cells.toList r r1 off A ⟨hf,hrr⟩ J U;have a7:=k2 F;have b0:(a.eval y).cells.toList.length=cs.length:=U.1
           have a6:∀v∈(a.eval y).cells.toList,v.oneCell'=true:=fun v hv=>by
            obtain ⟨j,hj,rfl⟩:=List.mem_iff_getElem.1 hv;have b3:j<cs.length:=(by omega);exact (U.2 j cs[j] _ (List.getElem?_eq_getElem b3) (List.getElem?_eq_getElem hj)).one
           have G:=zCe P (g.rb m) (g.base m+i*r.sz+off) e (a.eval y).cells.toList 0 A w hh (by simpa using a7) a6;rw[Nat.add_zero] at G;have Z:(a.eval y).cells.size=k:=(by rw[←E.1,←b0];simp);refine⟨w.setRow (g.rb m) (setsA A (g.base m+i*r.sz+off) (a.eval y).cells.toList),by simp[Instr.storeAt,Instr.sureAddr,storeVar,zCx hk,Z,G],h.store hr hh ho (zGb _ _ _) (fun b hb o d3=>zLs _ _ _ _ ?_) ?_ (fun b hb=>?_)⟩
           ·obtain ⟨c0,rfl,hl⟩:=h.wd m r b hr hb;obtain ⟨c1,_,_,b6⟩:=k3 c0 rfl;have:=b6 F;have b7:=h.fr.gle.base m (h.fr.place b m hb).1
            have b4:i=0:=by
             cases i with
             | zero=>rfl
             | succ i=>
              cases cs with
              | nil=>exact absurd rfl F
              | cons c cs=>simp[setCs,Root.setB] at J
            subst b4;simp only[Root.sz] at*;omega
           ·refine .mk _ (setsA A (g.base m+i*r.sz+off) (a.eval y).cells.toList) e (setRow_heap w _ A _ e _ hh) ho k1.form (fun i' j' x' a8=>?_);obtain ⟨v,hv,hb⟩:=k1.cells i' j' x' a8;refine⟨v,hv,?_⟩
            cases hb with
            | t x v ht=>exact .t _ _ (ht.keep (Gh.le.refl g) (fun b p V=>⟨V,setRow_other w _ _ _ (fun e'=>by rw[e',ho] at V;simp at V)⟩))
            | v x v hc=>exact .v _ _ hc
           ·obtain ⟨c0,rfl,hl⟩:=h.wd m r b hr hb;obtain ⟨c1,h1,h2,_⟩:=k3 c0 rfl;exact⟨c1,h1,by rw[h2];exact hl⟩
        ·cases hd
       ·cases hd
      ·cases hd
     ·cases hd
    ·cases hd
   ·cases hd
  ·cases hd
 ·cases hd
end Go.SX
namespace Go.SX
open Go Go.RowKit
variable {en : En} {g : Gh} {S : Nat → Option D} {H : Nat → Option Root} {a : Act} {w : World} {P : Program}
def Gh.ren (g:Gh)(n nm b size:Nat):Gh:=
 {used:=fun m=>m=nm∨g.used m,rb:=upd g.rb nm b,base:=upd g.base nm 0,rc:=upd g.rc nm size,fz:=g.fz,
  own:=fun E=>if E=b then some (nm,[]) else match g.own E with
   | some (m,x::p)=>if m=n then some (nm,x::p) else some (m,x::p)
   | o=>o}
theorem Gh.ren_le {g:Gh}{n nm b size:Nat}(h:¬g.used nm):g.le (g.ren n nm b size):=
 ⟨fun n E=>.inr E,fun n E=>zCl _ _ (fun e=>h (e▸E)),fun n E=>zCl _ _ (fun e=>h (e▸E)),fun n E=>zCl _ _ (fun e=>h (e▸E)),fun _ _ _ F=>F⟩
theorem Gh.ren_b {g:Gh}{n nm b size:Nat}:(g.ren n nm b size).own b=some (nm,[]):=by simp[Gh.ren]
theorem Gh.ren_n {g:Gh}{n nm b size b':Nat}{x:Nat×Nat}{p:Pth}(hb:b'≠b)(h:g.own b'=some (n,x::p)):(g.ren n nm b size).own b'=some (nm,x::p):=by simp[Gh.ren,hb,h]
theorem Gh.ren_m {g:Gh}{n nm b size b' m:Nat}{p:Pth}(hb:b'≠b)(hm:m≠n)(h:g.own b'=some (m,p)):(g.ren n nm b size).own b'=some (m,p):=by cases p<;>simp[Gh.ren,hb,h,hm]
theorem Gh.ren_none {g:Gh}{n nm b size b':Nat}(hb:b'≠b)(h:g.own b'=none):(g.ren n nm b size).own b'=none:=by simp[Gh.ren,hb,h]
theorem Rel.ren (h:Rel en g S H a w) {n nm b size:Nat} {r':Root} {w':World} (hnm:¬g.used nm) (hpl:∀E,en.g0.own E≠some (n,[]))
 (hb:b=w.heap.size∨g.own b=some (n,[])) (hlt:b<w'.heap.size) (hsz:w.heap.size≤w'.heap.size) (hos:w'.os=w.os) (htp:w'.tape=w.tape) (hout:w'.output=w.output)
 (hold:∀E,E< w.heap.size→E≠b→w'.heap[E]?=w.heap[E]?) (hr:RootR w' (g.ren n nm b size) nm r'):
 Rel en (g.ren n nm b size) S (upd (upd H n none) nm (some r')) a w':=by
 have V:=Gh.ren_le (n:=n) (b:=b) (size:=size) hnm
 have a6:∀E m p,g.own E=some (m,p)→m≠n→E≠b:=by
  rintro E m p h1 hm rfl;rcases hb with rfl|hb
  ·exact absurd (h.lt _ _ h1) (by omega)
  ·rw[hb] at h1;injection h1 with h1;injection h1 with h1 _;exact hm h1.symm
 have U:∀E,E< w.heap.size→g.own E=none→E≠b:=by
  rintro E hl h1 rfl;rcases hb with rfl|hb
  ·omega
  ·rw[hb] at h1;cases h1
 refine⟨⟨h.fr.laid,hos.trans h.fr.os,htp.trans h.fr.tape,hout.trans h.fr.output,Nat.le_trans h.fr.size hsz,h.fr.gle.trans V,fun E J b1=>?_,fun E k J=>?_,h.fr.fzn⟩,h.df,fun E x hx=>?_,fun E o v hv=>?_,fun t d ht=>?_,fun k r1 F=>?_,fun k r1 E F J=>?_⟩
 ·obtain ⟨h1,h2⟩:=h.fr.old E J b1;have hl:E< w.heap.size:=Nat.lt_of_lt_of_le J h.fr.size;have:=U E hl h1;exact⟨Gh.ren_none this h1,(hold E hl this).trans h2⟩
 ·obtain ⟨h0,h1,c1,c2,e1,h2,h3,h4⟩:=h.fr.place E k J;have F:k≠n:=fun e=>hpl E (e▸J);have G:=a6 E k [] h1 F;exact⟨h0,Gh.ren_m G F h1,c1,c2,e1,h2,(hold E (h.lt _ _ h1) G).trans h3,h4⟩
 ·by_cases e:E=b
  ·rw[e];exact hlt
  ·cases ho:g.own E with
   | none=>rw[Gh.ren_none e ho] at hx;cases hx
   | some y=>exact Nat.lt_of_lt_of_le (h.lt E y ho) hsz
 ·obtain ⟨h1,h2⟩:=h.fz E o v hv;have hl:E< w.heap.size:=World.block_lt_of_cell? w _ h1;have G:=U E hl h2;exact⟨(World.cell?_of_block (w:=w) (a:=⟨E,o,none⟩) (hold E hl G)).trans h1,Gh.ren_none G h2⟩
 ·obtain ⟨v,hv,hd⟩:=h.slots t d ht;exact⟨v,hv,hd.mono V⟩
 ·unfold upd at F;by_cases e:k=nm
  ·subst e;rw[if_pos rfl] at F;injection F with F;subst F;exact⟨.inl rfl,hr⟩
  ·rw[if_neg e] at F;by_cases Z:k=n
   ·rw[if_pos Z] at F;cases F
   ·rw[if_neg Z] at F;obtain ⟨hu,hR⟩:=h.roots k r1 F;exact⟨.inr hu,hR.keep hu V (fun E p hp=>by have h9:=a6 E k p hp Z;exact⟨Gh.ren_m h9 Z hp,hold E (h.lt _ _ hp) h9⟩)⟩
 ·unfold upd at F;by_cases e:k=nm
  ·subst e;exact absurd (h.fr.gle.used k (h.fr.place E k J).1) hnm
  ·rw[if_neg e] at F;by_cases Z:k=n
   ·rw[if_pos Z] at F;cases F
   ·rw[if_neg Z] at F;exact h.wd k r1 E F J
structure Src (g:Gh) (w:World) (sz:Nat) (src:List (List T)) (A:Option Addr) (news:List Value):Prop where
 len:news.length=src.length*sz
 row:∀(i:Nat) (r:List T),src[i]?=some r→r.length=sz
 at_:src.length=0∨∃b o,A=some ⟨b,o,none⟩∧At w b o news
 val:∀(i:Nat) (r:List T) (j:Nat) (x:T),src[i]?=some r→r[j]?=some x→∃v,news[i*sz+j]?=some v∧TF g x v
def okT:T→Bool
 | .im _=>true
 | .nil=>true
 | .lent _ _ _=>true
 | _=>false
theorem zEs2 {n:Nat}{q:Pth}{x:T}{v:Value}(h:TR w g n q x v)(hx:okT x=true):TF g x v:=by
 cases h with
 | im q i v h=>exact⟨.im i,rfl,.im _ _ h⟩
 | nil=>exact⟨.nil,rfl,.nil⟩
 | lent q m sz len v h=>exact⟨.view m sz 0 len,rfl,h⟩
 | _=>simp[okT] at hx
def srcRows (S:Nat→Option D)(H:Nat→Option Root)(x:Operand)(sz:Nat):Option (List (List T)):=
 match evC S x with
 | some (.view m sz' lo k)=>if sz'=sz then match H m with
  | some (.arr sz2 rows)=>if sz2=sz∧lo+k≤rows.length∧((rows.drop lo).take k).all (fun r=>r.all okT)=true then some ((rows.drop lo).take k) else none
  | _=>none
  else none
 | some (.im (.sl sz' rows))=>if sz'=sz then some (rows.map (fun r=>r.map T.im)) else none
 | some .nil=>some []
 | _=>none
theorem zAb1 {f:Nat→Option Value}{k:Nat}(h:∀p,p<k→∃v,f p=some v):∃vs:List Value,vs.length=k∧∀p,p<k→vs[p]?=f p:=by
 refine⟨(List.range k).map fun p=>(f p).getD undef,by simp,fun p E=>?_⟩;obtain ⟨v,F⟩:=h p E;simp[E,F]
theorem zPq (h:Rel en g S H a w){x:Operand}{sz:Nat}{src:List (List T)}(hs0:0<sz)(hd:srcRows S H x sz=some src):
 ∃A c news,a.eval x=.slice A src.length c∧Src g w sz src A news:=by
 have a6:∀A c,a.eval x=.slice A 0 c→src=[]→∃A c news,a.eval x=.slice A src.length c∧Src g w sz src A news:=by
  rintro A c h1 rfl;exact⟨A,c,[],h1,by simp,fun i r hr=>by simp at hr,.inl rfl,fun i r j x hr=>by simp at hr⟩
 unfold srcRows at hd;split at hd
 ·rename_i m F lo k hx;split at hd
  ·rename_i b2;subst b2;split at hd
   ·rename_i U rows hm;split at hd
    ·rename_i hc;obtain ⟨rfl,hk,c1⟩:=hc;injection hd with hd;have G:=zCg h hx;obtain ⟨hu,hR⟩:=h.roots m _ hm;generalize J:a.eval x=u at G
     cases G with
     | view0 _ _ _ A hu'=>exact J▸a6 A 0 J (by rw[←hd];simp)
     | view _ _ _ _ cap hu' hb hl hc'=>
      have V:src.length=k:=by rw[←hd];simp;omega
      cases hR with
      | arr0 _ hs' h0=>
       simp only[List.length_nil] at hk;have:k=0:=(by omega);subst this;exact J▸a6 _ cap J (by rw[←hd];simp)
      | mk _ cs e hh ho hf hr=>
       obtain ⟨c8,d5,d1,a8⟩:=hf
       have Z:∀p,p<k*U→∃v,cs[lo*U+p]?=some v:=by
        intro p hp
        have:lo*U+p<cs.size:=by
         have h1:=Nat.mul_le_mul_right U hk;rw[Nat.add_mul] at h1;omega
        exact⟨_,Array.getElem?_eq_getElem this⟩
       obtain ⟨news,b1,b0⟩:=zAb1 Z;refine⟨_,cap,news,by rw[V],by rw[b1,V],fun i r E=>?_,.inr ⟨_,_,rfl,fun j v G=>?_⟩,fun i r j y E hy=>?_⟩
       ·rw[←hd,List.getElem?_take] at E;split at E
        ·rw[List.getElem?_drop] at E;exact a8 _ r E
        ·cases E
       ·have hj:j<k*U:=(by rw[←b1];exact (List.getElem?_eq_some_iff.1 G).1);rw[b0 j hj] at G;rw[cell_of_row w _ _ cs e _ hh];exact G
       ·have b8:rows[lo+i]?=some r∧i<k:=by
         rw[←hd,List.getElem?_take] at E;split at E
         ·rename_i c6;rw[List.getElem?_drop] at E;exact⟨E,c6⟩
         ·cases E
        have d3:j<U:=(by rw[←a8 _ r b8.1];exact (List.getElem?_eq_some_iff.1 hy).1)
        have hp:i*U+j<k*U:=by
         have h1:=Nat.mul_le_mul_right U (show i+1≤k by omega);rw[Nat.add_mul] at h1;omega
        obtain ⟨v,G,c7⟩:=hr (lo+i) j (.t y) (by simp[Root.get,b8.1,hy]);rw[c8,Nat.zero_add] at G
        have b9:okT y=true:=by
         rw[List.all_eq_true] at c1;have h1:=c1 r (by rw[hd];exact List.mem_of_getElem? E);rw[List.all_eq_true] at h1;exact h1 y (List.mem_of_getElem? hy)
        refine⟨v,?_,by cases c7 with|t _ _ ht=>exact zEs2 ht b9⟩;rw[b0 _ hp,←G];simp only[Root.sz];rw[Nat.add_mul,Nat.add_assoc]
    ·cases hd
   ·cases hd
  ·cases hd
 ·rename_i F rows hx;split at hd
  ·rename_i b2;subst b2;injection hd with hd;have G:=zCg h hx;generalize J:a.eval x=u at G
   cases G with
   | im _ _ G=>
    rcases G.sl_inv with ⟨h9,A,c,rfl⟩|⟨b,off,c,vs,rfl,hc,b3,b7,hr⟩
    ·exact J▸a6 A c J (by rw[←hd,h9];rfl)
    ·have V:src.length=rows.length:=(by rw[←hd];simp)
     have Z:∀p,p<rows.length*F→∃v,w.cell? ⟨b,off+p,none⟩=some v:=by
      intro p hp;have hi:p / F< rows.length:=Nat.div_lt_of_lt_mul (by rw[Nat.mul_comm];exact hp);have hj:p%F< F:=Nat.mod_lt _ hs0;have h1:=b3 _ _ (List.getElem?_eq_getElem hi);have h2:=b7 (p / F) _ (p%F) _ (List.getElem?_eq_getElem hi) (List.getElem?_eq_getElem (show p%F< (rows[p / F]).length by omega));have h3:=(h.fz _ _ _ h2).1;rw[Nat.add_assoc,Nat.mul_comm,Nat.div_add_mod] at h3;exact⟨_,h3⟩
     obtain ⟨news,b1,b0⟩:=zAb1 Z;refine⟨_,c,news,by rw[V],by rw[b1,V],fun i r E=>?_,.inr ⟨_,_,rfl,fun j v G=>?_⟩,fun i r j y E hy=>?_⟩
     ·rw[←hd,List.getElem?_map,Option.map_eq_some_iff] at E;obtain ⟨r0,a7,rfl⟩:=E;simpa using b3 i r0 a7
     ·have hj:j<rows.length*F:=(by rw[←b1];exact (List.getElem?_eq_some_iff.1 G).1);rw[b0 j hj] at G;exact G
     ·rw[←hd,List.getElem?_map,Option.map_eq_some_iff] at E;obtain ⟨r0,a7,rfl⟩:=E;rw[List.getElem?_map,Option.map_eq_some_iff] at hy;obtain ⟨i0,b4,rfl⟩:=hy;have hj:j<F:=(by rw[←b3 i r0 a7];exact (List.getElem?_eq_some_iff.1 b4).1);have d4:i<rows.length:=(List.getElem?_eq_some_iff.1 a7).1
      have hp:i*F+j<rows.length*F:=by
       have h1:=Nat.mul_le_mul_right F (show i+1≤rows.length by omega);rw[Nat.add_mul] at h1;omega
      refine⟨vs i j,?_,.im i0,rfl,.im _ _ (hr i r0 j i0 a7 b4)⟩;rw[b0 _ hp,←(h.fz _ _ _ (b7 i r0 j i0 a7 b4)).1,Nat.add_assoc]
  ·cases hd
 ·rename_i hx;injection hd with hd;have G:=zCg h hx;generalize J:a.eval x=u at G
  cases G with
  | nil=>exact J▸a6 none 0 J hd.symm
 ·cases hd
end Go.SX
namespace Go.SX
open Go Go.RowKit
variable {en : En} {g : Gh} {S : Nat → Option D} {H : Nat → Option Root} {a : Act} {w : World} {P : Program}
theorem zPt:∀(vs:List Value) (A:Array Value) (k p:Nat),k+vs.length≤A.size→p<vs.length→(setsA A k vs)[k+p]?=vs[p]?
 | [],A,k,p,_,h=>by simp at h
 | v::vs,A,k,p,hf,hp=>by
  simp only[yab] at hf hp;simp only[setsA]
  cases p with
  | zero=>
   show (setsA (A.setIfInBounds k v) (k+1) vs)[k]?=some v;rw[zLs vs _ (k+1) k (by omega),Array.getElem?_setIfInBounds,if_pos rfl,if_pos (by omega)]
  | succ p=>
   have:=zPt vs (A.setIfInBounds k v) (k+1) p (by simp;omega) (by omega);rw[show k+(p+1)=k+1+p by omega,this];rfl
theorem Rel.new0 (h:Rel en g S H a w){nm:Nat}(hn:¬g.used nm){sz:Nat}(hs:0<sz)(n:Nat):
 ∃g',g.le g'∧g'.used nm∧(∀m,g'.used m→m=nm∨g.used m)∧Rel en g' S (upd (upd H n none) nm (some (.arr sz []))) a w:=by
 let g':Gh:={g with used:=fun m=>m=nm∨g.used m,rc:=upd g.rc nm 0}
 have F:g.le g':=⟨fun m G=>.inr G,fun m G=>rfl,fun m G=>rfl,fun m G=>zCl _ _ (fun e=>hn (e▸G)),fun _ _ _ Z=>Z⟩;refine⟨g',F,.inl rfl,fun m G=>G,⟨h.fr.laid,h.fr.os,h.fr.tape,h.fr.output,h.fr.size,h.fr.gle.trans F,h.fr.old,h.fr.place,h.fr.fzn⟩,h.df,h.lt,h.fz,fun t d ht=>?_,fun k V E=>?_,fun k V b' E J=>?_⟩
 ·obtain ⟨v,Z,hd⟩:=h.slots t d ht;exact⟨v,Z,hd.mono F⟩
 ·unfold upd at E;by_cases e:k=nm
  ·subst e;rw[if_pos rfl] at E;injection E with E;subst E;exact⟨.inl rfl,.arr0 sz hs (zBl _ _ _)⟩
  ·rw[if_neg e] at E;by_cases U:k=n
   ·rw[if_pos U] at E;cases E
   ·rw[if_neg U] at E;obtain ⟨hu,hR⟩:=h.roots k V E;exact⟨.inr hu,hR.keep hu F (fun b p hp=>⟨hp,rfl⟩)⟩
 ·unfold upd at E;by_cases e:k=nm
  ·subst e;exact absurd (h.fr.gle.used k (h.fr.place b' k J).1) hn
  ·rw[if_neg e] at E;by_cases U:k=n
   ·rw[if_pos U] at E;cases E
   ·rw[if_neg U] at E;exact h.wd k V b' E J
structure ElT (P:Program) (t e:TypeId) (sz bytes:Nat):Prop where
 under:P.underlying t=some (.slice e)
 info:∃i z,P.info? e=some i∧i.size=sz∧i.bytes=bytes∧i.zero=some z∧z.cells.size=sz
def Grown (en:En)(g:Gh)(nm:Nat)(S:Nat→Option D)(H':Nat→Option Root)(a:Act)(w':World)(sz:Nat)(rows:List (List T))(v:Value):Prop:=
 ∃g',g.le g'∧(∀m,g'.used m→m=nm∨g.used m)∧Rel en g' S (upd H' nm (some (.arr sz rows))) a w'∧CV g' (.view nm sz 0 rows.length) v
theorem zLz {t ty e:TypeId}{sz bytes:Nat}(he:ElT P t e sz bytes)(B A:Option Addr)(len cap c:Nat)(hl:len≤cap)(w:World):
 (Builtin.append_ #[t,t] ty #[.slice B len cap,.slice A 0 c]).run P w=.ok (.slice B len cap) w:=by
 obtain ⟨i,z,hi,rfl,rfl,hz,E⟩:=he.info
 cases A with
 | none=>cases B<;>simp[Builtin.append_,run_underlying he.under,sizeOf,typeInfo,hi,Builtin.lenOf,Builtin.firstCells,hl,storeCells]
 | some ad=>cases B<;>simp[Builtin.append_,run_underlying he.under,sizeOf,typeInfo,hi,Builtin.lenOf,Builtin.firstCells,hl,storeCells,loadCells,loadCellsFrom]
theorem zFp {t ty e:TypeId} {sz bytes:Nat} (he:ElT P t e sz bytes) {B:Option Addr} {len cap:Nat} {olds news:List Value} {b o k c:Nat} (w:World)
 (ho:olds.length=len*sz) (holds:len=0∨∃b o,B=some ⟨b,o,none⟩∧At w b o olds) (hB:B=none→cap=0) (hk:0<k) (hn:news.length=k*sz) (hnews:At w b o news)
 (hg:cap<len+k) (hby:0<bytes) (hb:(len+k)*bytes≤140737488355328):
 ∃cap',len+k≤cap'∧(Builtin.append_ #[t,t] ty #[.slice B len cap,.slice (some ⟨b,o,none⟩) k c]).run P w=
  .ok (.slice (some ⟨w.heap.size,0,none⟩) (len+k) cap') (w.drew.alloc (.cells (olds.toArray++news.toArray++Builtin.zeroCells (((P.info? e).bind (·.zero)).getD undef).cells (cap'- (len+k))) e)):=by
 obtain ⟨i,z,hi,rfl,rfl,hz,a6⟩:=he.info;have J:((P.info? e).bind (·.zero)).getD undef=z:=by simp[hi,hz]
 rw[J]
 have Z:((len+k:Nat):Int)≤9223372036854775807:=by
  have:(len+k)*1≤(len+k)*i.bytes:=Nat.mul_le_mul_left _ hby;omega
 have E:∀j v,news[j]?=some v→w.cell? ((⟨b,o,none⟩:Addr).add j)=some v:=fun j v G=>by rw[zCw];exact hnews j v G
 cases B with
 | none=>
  have hc:=hB rfl;subst hc
  have U:len=0:=by
   rcases holds with h|⟨b,o,h,_⟩
   ·exact h
   ·cases h
  subst U;have F:olds=[]:=List.eq_nil_of_length_eq_zero (by simpa using ho);subst F;refine⟨grownCap w k 0 e,by rw[Nat.zero_add];exact grownCap_ge w k 0 e,?_⟩;have:=run_append_nil (P:=P) w t ty e i z he.under hi hz ⟨b,o,none⟩ k c news hn E hk (by omega) (by rw[Nat.zero_add] at hb;omega);simpa using this
 | some ad=>
  refine⟨grownCap w (len+k) cap e,grownCap_ge w _ _ e,?_⟩
  exact run_append_grow (P:=P) w t ty e i z he.under hi hz ad len cap olds ho (fun j v G=>by
   rcases holds with h|⟨b',o',h,V⟩
   ·subst h
    have F:olds=[]:=List.eq_nil_of_length_eq_zero (by simpa using ho)
    subst F
    simp at G
   ·injection h with h;subst h;rw[zCw];exact V j v G) ⟨b,o,none⟩ k c news hn E hg Z (growslice_fits hg hb)
theorem zFy1 {rows src:List (List T)}{i:Nat}{r:List T}(h:(rows++src)[i]?=some r):(i<rows.length∧rows[i]?=some r)∨(rows.length≤i∧src[i-rows.length]?=some r):=by
 by_cases hi:i<rows.length
 ·exact .inl ⟨hi,by rwa [List.getElem?_append_left hi] at h⟩
 ·exact .inr ⟨by omega,by rwa [List.getElem?_append_right (by omega)] at h⟩
theorem zKt (h:Rel en g S H a w) {nm n sz bytes:Nat} {t ty e:TypeId} (he:ElT P t e sz bytes) (hs:0<sz) (hnm:¬g.used nm) (hpl:∀b',en.g0.own b'≠some (n,[]))
 {rows src:List (List T)} {olds news:List Value} {A:Option Addr} {w0:World} (hsrc:Src g w0 sz src A news) (hrl:∀(i:Nat) (r:List T),rows[i]?=some r→r.length=sz)
 (ho:olds.length=rows.length*sz) (hold:∀(i:Nat) (r:List T) (j:Nat) (x:T),rows[i]?=some r→r[j]?=some x→∃v,olds[i*sz+j]?=some v∧TR w g n [(i,j)] x v)
 {cap':Nat} (hcap:rows.length+src.length≤cap') (Z:Array Value) (hZ:Z.size=(cap'- (rows.length+src.length))*sz):
 Grown en g nm S (upd H n none) a (w.drew.alloc (.cells (olds.toArray++news.toArray++Z) e)) sz (rows++src) (.slice (some ⟨w.heap.size,0,none⟩) (rows.length+src.length) cap'):=by
 have J:=Gh.ren_le (n:=n) (b:=w.heap.size) (size:=(olds.toArray++news.toArray++Z).size) hnm
 have F:(olds.toArray++news.toArray++Z).size=cap'* sz:=by
  simp only[Array.size_append,yaS,ho,hsrc.len,hZ];rw[←Nat.add_mul,←Nat.add_mul];congr 1;omega
 have e1:(g.ren n nm w.heap.size (olds.toArray++news.toArray++Z).size).rb nm=w.heap.size:=zBl _ _ _;have e2:(g.ren n nm w.heap.size (olds.toArray++news.toArray++Z).size).base nm=0:=zBl _ _ _;have e3:(g.ren n nm w.heap.size (olds.toArray++news.toArray++Z).size).rc nm=(olds.toArray++news.toArray++Z).size:=zBl _ _ _;have a7:w.drew.heap.size=w.heap.size:=rfl;have E:(rows++src).length=rows.length+src.length:=by simp
 refine⟨g.ren n nm w.heap.size (olds.toArray++news.toArray++Z).size,J,fun m hm=>hm,h.ren (w':=w.drew.alloc (.cells (olds.toArray++news.toArray++Z) e)) hnm hpl (.inl rfl) (by simp[a7]) (by simp[a7]) rfl rfl rfl (fun b' b1 _=>heap_alloc_old w.drew _ _ b1) ?_,?_⟩
 ·refine .mk _ (olds.toArray++news.toArray++Z) e (by rw[e1];exact heap_alloc_new w.drew _) (by rw[e1];exact Gh.ren_b) ⟨e2,e3.symm,by rw[e3,F,E];exact Nat.mul_le_mul_right _ hcap,fun i r hr=>?_⟩ (fun i j x hx=>?_)
  ·rcases zFy1 hr with ⟨_,h1⟩|⟨_,h1⟩
   ·exact hrl i r h1
   ·exact hsrc.row _ r h1
  ·simp only[Root.get] at hx
   cases G:(rows++src)[i]? with
   | none=>simp[G] at hx
   | some row=>
    simp only[G,Option.map_eq_some_iff] at hx;obtain ⟨y,hy,rfl⟩:=hx;rw[e2,Nat.zero_add];simp only[Root.sz];rcases zFy1 G with ⟨hi,h1⟩|⟨hi,h1⟩
    ·obtain ⟨v,U,ht⟩:=hold i row j y h1 hy;refine⟨v,?_,.t _ _ ((ht.move J (fun b p hp=>⟨?_,?_⟩)))⟩
     ·have V:i*sz+j<olds.length:=(List.getElem?_eq_some_iff.1 U).1;rw[Array.getElem?_append_left (by simp;omega),Array.getElem?_append_left (by simpa using V)];simpa using U
     ·exact Gh.ren_n (by have:=h.lt _ _ hp;omega) hp
     ·exact heap_alloc_old w.drew _ _ (h.lt _ _ hp)
    ·obtain ⟨v,U,ht⟩:=hsrc.val _ row j y h1 hy;refine⟨v,?_,.t _ _ ((ht.mono J).tr _ _ _)⟩;have V:(i-rows.length)*sz+j<news.length:=(List.getElem?_eq_some_iff.1 U).1;have a6:i*sz+j=olds.length+((i-rows.length)*sz+j):=(by rw[ho,←Nat.add_assoc,←Nat.add_mul];congr 2;omega);rw[a6,Array.getElem?_append_left (by simp;omega),Array.getElem?_append_right (by simp)];simpa using U
 ·have:=CV.view (g:=g.ren n nm w.heap.size (olds.toArray++news.toArray++Z).size) nm sz 0 (rows++src).length cap' (.inl rfl) e2 (by rw[E];exact hcap) (by rw[e3,F];simp);rw[e1,Nat.zero_mul,E] at this;rw[E];exact this
theorem zEm1 (h:Rel en g S H a w) {nm n sz:Nat} (hs:0<sz) (hnm:¬g.used nm) (hpl:∀b',en.g0.own b'≠some (n,[])) {rows src:List (List T)} {news:List Value} {A:Option Addr} {w0:World} (hsrc:Src g w0 sz src A news)
 {cs:Array Value} {e:TypeId} (hh:w.heap[g.rb n]?=some (.cells cs e (0,0))) (hon:g.own (g.rb n)=some (n,[])) (hf:(Root.arr sz rows).form (g.base n) (g.rc n) cs.size)
 (hr:∀(i j:Nat) (x:B),(Root.arr sz rows).get i j=some x→∃v,cs[g.base n+i*(Root.arr sz rows).sz+j]?=some v∧BR w g n [(i,j)] x v)
 {cap:Nat} (hcap:rows.length+src.length≤cap) (hc:cap*sz≤g.rc n):
 Grown en g nm S (upd H n none) a (w.setRow (g.rb n) (setsA cs (rows.length*sz) news)) sz (rows++src) (.slice (some ⟨g.rb n,0,none⟩) (rows.length+src.length) cap):=by
 have U:=Gh.ren_le (n:=n) (b:=g.rb n) (size:=g.rc n) hnm;have e1:(g.ren n nm (g.rb n) (g.rc n)).rb nm=g.rb n:=zBl _ _ _;have e2:(g.ren n nm (g.rb n) (g.rc n)).base nm=0:=zBl _ _ _;have e3:(g.ren n nm (g.rb n) (g.rc n)).rc nm=g.rc n:=zBl _ _ _;obtain ⟨b5,a8,c6,F⟩:=hf;have E:(rows++src).length=rows.length+src.length:=by simp
 have a7:rows.length*sz+news.length≤cs.size:=by
  rw[hsrc.len,←Nat.add_mul,a8];exact Nat.le_trans (Nat.mul_le_mul_right _ hcap) hc
 refine⟨g.ren n nm (g.rb n) (g.rc n),U,fun m hm=>hm,h.ren (w':=w.setRow (g.rb n) (setsA cs (rows.length*sz) news)) hnm hpl (.inr hon) (by simpa using h.lt _ _ hon) (by simp) rfl rfl rfl (fun b' _ b6=>setRow_other w _ _ _ b6) ?_,?_⟩
 ·refine .mk _ (setsA cs (rows.length*sz) news) e (by rw[e1];exact setRow_heap w _ cs _ e _ hh) (by rw[e1];exact Gh.ren_b) ⟨e2,by rw[e3,zGb,a8],by rw[e3,E];exact Nat.le_trans (Nat.mul_le_mul_right _ hcap) hc,fun i r b2=>?_⟩ (fun i j x hx=>?_)
  ·rcases zFy1 b2 with ⟨_,h1⟩|⟨_,h1⟩
   ·exact F i r h1
   ·exact hsrc.row _ r h1
  ·simp only[Root.get] at hx
   cases G:(rows++src)[i]? with
   | none=>simp[G] at hx
   | some row=>
    simp only[G,Option.map_eq_some_iff] at hx;obtain ⟨y,hy,rfl⟩:=hx;rw[e2,Nat.zero_add];simp only[Root.sz];rcases zFy1 G with ⟨hi,h1⟩|⟨hi,h1⟩
    ·obtain ⟨v,V,b4⟩:=hr i j (.t y) (by simp[Root.get,h1,hy]);rw[b5,Nat.zero_add] at V;simp only[Root.sz] at V;have ht:TR w g n [(i,j)] y v:=(by cases b4 with|t _ _ h=>exact h);have c8:j<sz:=(by rw[←F i row h1];exact (List.getElem?_eq_some_iff.1 hy).1)
     have J:i*sz+j<rows.length*sz:=by
      have h2:=Nat.mul_le_mul_right sz (show i+1≤rows.length by omega);rw[Nat.add_mul] at h2;omega
     refine⟨v,by rw[zLs _ _ _ _ (.inl J)];exact V,.t _ _ (ht.move U (fun b p hp=>?_))⟩;have Z:b≠g.rb n:=(fun e'=>by rw[e',hon] at hp;simp at hp);exact⟨Gh.ren_n Z hp,setRow_other w _ _ _ Z⟩
    ·obtain ⟨v,V,ht⟩:=hsrc.val _ row j y h1 hy;refine⟨v,?_,.t _ _ ((ht.mono U).tr _ _ _)⟩;have J:(i-rows.length)*sz+j<news.length:=(List.getElem?_eq_some_iff.1 V).1;have a6:i*sz+j=rows.length*sz+((i-rows.length)*sz+j):=(by rw[←Nat.add_assoc,←Nat.add_mul];congr 2;omega);rw[a6,zPt _ _ _ _ a7 J];exact V
 ·have:=CV.view (g:=g.ren n nm (g.rb n) (g.rc n)) nm sz 0 (rows++src).length cap (.inl rfl) e2 (by rw[E];exact hcap) (by rw[e3];simpa using hc);rw[e1,Nat.zero_mul,E] at this;rw[E];exact this
end Go.SX
