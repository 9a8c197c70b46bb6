/-
  SX: the engine, parts K to T, in one text. Plain definitions and theorems over any program.
  No condition.
-/
import Derived.Test.YtfmpjhjnpeheeaaGreatDoorPkB
set_option maxRecDepth 100000
set_option maxHeartbeats 16000000
set_option linter.unusedVariables false
set_option linter.unusedSimpArgs false
namespace Go.SX
open Go Go.RowKit
variable {en : En} {g : Gh} {S : Nat → Option D} {H : Nat → Option Root} {a : Act} {w : World} {P : Program}
def lk {α:Type}:List (Nat×Option α)→Nat→Option α
 | [],_=>none
 | (k,x)::r,t=>if t=k then x else lk r t
theorem zMh {α:Type}(k:Nat)(x:Option α)(r:List (Nat×Option α)):lk ((k,x)::r)=upd (lk r) k x:=by funext t;simp[lk,upd]
def ins {α:Type}(n:Nat)(x:Option α):List (Nat×Option α)→List (Nat×Option α)
 | []=>[(n,x)]
 | (k,y)::r=>if k=n then (n,x)::r else (k,y)::ins n x r
theorem zJt {α:Type}(n:Nat)(x:Option α):∀l:List (Nat×Option α),lk (ins n x l)=upd (lk l) n x
 | []=>by funext t;simp[ins,lk,upd]
 | (k,y)::r=>by
  simp only[ins];split
  ·rename_i e;subst e;funext t;simp only[lk,upd];split<;>rfl
  ·rename_i e;rw[zMh,zJt n x r,zMh];funext t;simp only[upd];by_cases h1:t=k
   ·subst h1;simp[e]
   ·simp[h1]
def insW:List (Nat×Option Root)→List (Nat×Option Root)→List (Nat×Option Root)
 | [],h=>h
 | (n,r)::l,h=>ins n r (insW l h)
theorem zSh:∀(l h:List (Nat×Option Root)),lk (insW l h)=apH l (lk h)
 | [],h=>rfl
 | (n,r)::l,h=>by simp only[insW,apH];rw[zJt,zSh l h]
structure St where
 s:List (Nat×Option D)
 h:List (Nat×Option Root)
 n:Nat
 deriving Inhabited
def putS (dst:Option Nat)(val:Option D)(s:List (Nat×Option D)):List (Nat×Option D):=match dst with
 | some t=>(t,val)::s
 | none=>s
theorem zXp (dst:Option Nat)(val:Option D)(s:List (Nat×Option D)):lk (putS dst val s)=apS dst val (lk s):=by
 cases dst with
 | none=>rfl
 | some t=>exact zMh t val s
inductive Tag.{u} {α:Sort u} (K:α):Type where
 | mk:Tag K
def mC (o:Option Ct)(K:Ct→Prop)(A:Unit→Prop)(t:Tag K)(u:Tag A):Prop:=match o with
 | some c=>K c
 | none=>A ()
theorem zLo2 {o:Option Ct}{K:Ct→Prop}{A:Unit→Prop}{t:Tag K}{u:Tag A}(h:mC o K A t u):(∃c,o=some c∧K c)∨(o=none∧A ()):=by
 cases o with
 | none=>exact .inr ⟨rfl,h⟩
 | some c=>exact .inl ⟨c,rfl,h⟩
def mK.{u}{α:Type u}(o:Option α)(K:α→Prop)(t:Tag K):Prop:=match o with
 | some x=>K x
 | none=>False
theorem mK_ite.{u}{α:Type u}(c:Prop) [Decidable c] (x:Option α)(K:α→Prop)(t:Tag K):mK (if c then x else none) K t=(c∧mK x K t):=by
 by_cases h:c
 ·simp[h]
 ·simp[h,mK]
theorem mK_ex.{u}{α:Type u}{o:Option α}{K:α→Prop}{t:Tag K}(h:mK o K t):∃x,o=some x∧K x:=by
 cases o with
 | none=>exact h.elim
 | some x=>exact⟨x,rfl,h⟩
def gS (b want:Bool)(A B:Prop)(tA:Tag A)(tB:Tag B):Prop:=(b=want→A)∧(b=(!want)→B)
def plX (H:Nat→Option Root):List Plc→(K:List (List B)→Prop)→Tag K→Prop
 | [],K,_=>K []
 | p::ex,K,_=>match plCells H p with
  | some c=>(∀x∈c,MvB false x)∧plX H ex (fun hs=>K (c::hs)) .mk
  | _=>False
theorem zYk1:∀{l:List Plc} {x:Nat},x∈exN (dd l)→x∈exN l
 | [],x,h=>h
 | y::l,x,h=>by
  simp only[dd] at h;split at h
  ·exact .tail _ (zYk1 h)
  ·simp only[exN,List.map_cons,yac] at h ⊢;rcases h with h|h
   ·exact .inl h
   ·exact .inr (zYk1 h)
theorem zGl1:∀l:List Plc,(exN (dd l)).Nodup
 | []=>.nil
 | y::l=>by
  simp only[dd];split
  ·exact zGl1 l
  ·rename_i h;exact List.nodup_cons.2 ⟨fun hm=>h (zYk1 hm),zGl1 l⟩
def ownJs (r:Root)(i:Nat):Nat→Nat→List Nat
 | _,0=>[]
 | off,k+1=>match r.get i off with
  | some (.t (.own _ _))=>off::ownJs r i (off+1) k
  | _=>ownJs r i (off+1) k
def ldJs (P:Program)(S:Nat→Option D)(H:Nat→Option Root)(t:TypeId)(x:Operand):Option (Nat×Nat×Root×List Nat):=match evC S x,tsz P t with
 | some (.ptr n _ i off),some k=>match H n with
  | some r=>match ownJs r i off k with
   | []=>none
   | js=>some (n,i,r,js)
  | none=>none
 | _,_=>none
def nilOp:BinOp→Bool→Option Bool
 | .eql,b=>some b
 | .neq,b=>some (!b)
 | _,_=>none
def nilF (c:C)(b:Bool):Prop:=match c with
 | .nil=>b=true
 | .view _ _ _ len=>b=true→len=0
 | .im (.sl _ rows)=>b=true→rows=[]
 | _=>False
def nilC:C→Prop
 | .nil=>True
 | .view _ _ _ _=>True
 | .im (.sl _ _)=>True
 | _=>False
theorem zDv1 {t e:TypeId}(hu:P.underlying t=some (.slice e))(A:Option Addr)(l c:Nat)(w:World):(Op.equal t (.slice A l c) (.slice none 0 0)).run P w=.ok A.isNone w:=by
 have h:∀d:Nat,(Op.equalIn (d+1) t (.slice A l c) (.slice none 0 0)).run P w=.ok A.isNone w:=fun d=>by
  cases A<;>simp[Op.equalIn,run_underlying hu]
 unfold Op.equal Op.maxDepth;exact h 9999
theorem zVq1 {S':Nat→Option D} {H':Nat→Option Root} {N:Nat} {Q:Exit→Act→World→Prop} {o:Oper} (h:Rel en g S' H' a w) (hN:a.tmps.size=N) (hS:∀t d,S t=some d→S' t=some d) (hH:∀n r,H n=some r→H' n=some r)
   {op:BinOp} {t ty:TypeId} {x:Operand} {c:C} (hop:o.op=.binOp op t x (.const (.slice none 0 0)) ty) (hx:evC S x=some c) (ht:isSlT P t=true) (hdst:∀t,o.dst=some t→t<N) (hq:(∃b E,nilOp op b=some E)∧nilC c):
   o.wp P a w (fun Z w'=>∃b E,nilF c b∧nilOp op b=some E∧Rel en g (apS o.dst (some (.c (.im (.bool E)))) S') H' Z w'∧Z.tmps.size=N) Q:=by
 subst hN;have F:=zCg (h.less hS hH) hx
 obtain ⟨e,U⟩:∃e,P.underlying t=some (.slice e):=by
   unfold isSlT at ht;split at ht
   · exact⟨_,by assumption⟩
   · cases ht
 obtain ⟨A,l,k,hv,hb⟩:∃A l k,a.eval x=.slice A l k∧nilF c A.isNone:=by
   obtain ⟨_,hc⟩:=hq;generalize a.eval x=v at F
   cases F with
   | nil=>exact⟨none,0,0,rfl,rfl⟩
   | view0 n sz lo A U=>exact⟨A,0,0,rfl,fun _=>rfl⟩
   | view=>exact⟨_,_,_,rfl,fun h=>by simp at h⟩
   | im i v hi=>
     cases i with
     | sl sz rows=>
       rcases hi.sl_inv with ⟨h9,A,c,rfl⟩|⟨B,off,c,vs,rfl,_⟩
       · exact⟨A,0,c,rfl,fun _=>h9⟩
       · exact⟨_,_,_,rfl,fun h=>by simp at h⟩
     | _=>exact hc.elim
   | _=>exact hc.elim
 obtain ⟨⟨b0,b1,V⟩,_⟩:=hq;have J:a.eval (.const (.slice none 0 0))=.slice none 0 0:=rfl
 have G:∃E,nilOp op A.isNone=some E∧(execOp a.eval o).run P w=.ok (.value (.bool E)) w:=by
   cases op<;>simp only[nilOp] at V<;>first
     | (cases V;done)
     | (refine⟨_,rfl,?_⟩
        simp[execOp,hop,hv,J,eqGuard,binOp,zDv1 U])
 obtain ⟨E,k1,k2⟩:=G;simp only[Oper.wp,k2,Oper.upon];exact⟨_,E,hb,k1,h.putD hdst (.c _ _ (.im _ _ (.bool _))),zDc _ _ _⟩
def oK (o:Outs)(K:Res→Prop)(_:Tag K):Prop:=match o with
 | .one r=>K r
 | .any ι f=>Nonempty ι∧∀i,K (f i)
theorem zLb2 {o:Outs}{K:Res→Prop}{t:Tag K}(h:oK o K t):(∃r,o.mem r)∧∀r,o.mem r→K r:=by
 cases o with
 | one r=>exact⟨⟨r,rfl⟩,fun r' h'=>by cases h';exact h⟩
 | any ι f=>obtain ⟨⟨i⟩,h⟩:=h;exact⟨⟨f i,i,rfl⟩,fun r ⟨j,hj⟩=>hj▸h j⟩
def cK (o:Option Nat)(K:Nat→Prop)(_:Tag K):Prop:=match o with
 | some r=>K r
 | none=>∀r,r<4294967296→K r
def nK (c:C)(K:Bool→Prop)(_:Tag K):Prop:=match c with
 | .nil=>K true
 | .view _ _ _ len=>K false∧(len=0→K true)
 | .im (.sl _ rows)=>K false∧(rows=[]→K true)
 | _=>False
def opR (P:Program)(Φ:FuncId→Option Ct)(nm:Nat)(S:Nat→Option D)(H:Nat→Option Root)(o:Op)(K:Option D→List (Nat×Option Root)→Nat→Prop)(_:Tag K):Prop:=
 match o with
 | .load t x=>match ldJs P S H t x with
  | some (n,i,r,js)=>mK (hoistJ r i js nm) (fun p=>mK (qv P S (apH ((n,some p.1)::addR nm p.2) H) (.load t x)) (fun d=>K (some d) ((n,some p.1)::addR nm p.2) p.2.length) .mk) .mk
  | none=>mK (qv P S H (.load t x)) (fun d=>K (some d) [] 0) .mk
 | .store t x y=>mK (storeH P t S H x y) (fun p=>K none [(p.1,some p.2)] 0) .mk
 | .alloc t=>mK (mkOp P S (.alloc t) nm) (fun p=>K (some p.1) [(nm,some p.2)] 1) .mk
 | .box t x=>mK (mkOp P S (.box t x) nm) (fun p=>K (some p.1) [(nm,some p.2)] 1) .mk
 | .buildSlice t l ps=>mK (mkOp P S (.buildSlice t l ps) nm) (fun p=>K (some p.1) [(nm,some p.2)] 1) .mk
 | .makeSlice t l c=>mK (mkOp P S (.makeSlice t l c) nm) (fun p=>K (some p.1) [(nm,some p.2)] 1) .mk
 | .call {callee:=.builtin .append,args:=args,argTypes:=ts}=>match args.toList,ts.toList with
  | [s,x],[t,t']=>if t=t' then (if isTail S s=true then mK (appendT P t S H s x) (fun p=>p.rb.length*p.bytes≤140737488355328∧
   K (some (.c (.view nm p.sz 0 p.len))) [(nm,some (.arr p.sz p.ra)),(p.n,none)] 1∧K (some (.c (.view nm p.sz p.lo p.len))) [(nm,some (.arr p.sz p.rb)),(p.n,none)] 1) .mk
   else mK (appendH P t S H s x) (fun p=>p.2.2.1.length*p.2.1≤140737488355328∧
   K (some (.c (.view nm p.1 0 p.2.2.1.length))) ((nm,some (.arr p.1 p.2.2.1))::dropN p.2.2.2) 1) .mk)
   else AppZ P t t'∧mK (appendZ P t S H s x) (fun p=>p.2.2.1.length*p.2.1≤140737488355328∧
    K (some (.c (.view nm p.1 0 p.2.2.1.length))) ((nm,some (.arr p.1 p.2.2.1))::dropN p.2.2.2) 1) .mk
  | _,_=>False
 | .call {callee:=.builtin .clear,args:=args,argTypes:=ts}=>match args.toList,ts.toList with
  | [x],[t]=>mK (clearH P t S H x) (fun p=>K (some (.tup [])) [(p.1,some p.2)] 0) .mk
  | _,_=>False
 | .call {callee:=.value f,args:=args,argTypes:=_}=>match evC S f with
  | some (.fn (.func k) caps)=>mC (Φ k) (fun ct=>mK (evDs S args.toList) (fun F=>mK (some (frzL ct.sc H F [])) (fun fz=>mK (some (preW H (lentPs H (exDs (fz.1++caps.map D.c))) fz.2)) (fun E=>plX (apH E H) (exDs (fz.1++caps.map D.c)) (fun hs=>
   mK (mapO (loD (exDs (fz.1++caps.map D.c)) (if ct.sc then apH E H else fun _=>none)) (fz.1++caps.map D.c)) (fun G=>mK (ct.run G hs) (fun os=>oK os (fun res=>mK (reD (fun n=>nm+n) res.val) (fun d=>
    K (some d) (addR nm res.roots++(addP (apH E H) (exDs (fz.1++caps.map D.c)) res.places++E)) res.roots.length) .mk) .mk) .mk) .mk) .mk) .mk) .mk) .mk) (fun _=>SortLaw P k∧mK (sortH S H caps args.toList) (fun p=>K (some (.tup [])) [(p.1,some p.2)] 0) .mk) .mk .mk
  | _=>False
 | .convert s d x=>match P.underlying d,evI S x with
  | some (.float .f32),some (.flt .f64 b)=>(P.underlying s).isSome=true∧cK (fconv .f64 b .f32) (fun n=>K (some (.c (.im (.flt .f32 n)))) [] 0) .mk
  | _,_=>mK (qv P S H (.convert s d x)) (fun d=>K (some d) [] 0) .mk
 | .binOp op t x (.const (.slice none 0 0)) ty=>isSlT P t=true∧mK (evC S x) (fun c=>nK c (fun b=>mK (nilOp op b) (fun b=>K (some (.c (.im (.bool b)))) [] 0) .mk) .mk) .mk
 | o=>mK (qv P S H o) (fun d=>K (some d) [] 0) .mk
structure Oc where
 val:Option D
 wr:List (Nat×Option Root)
 cnt:Nat
def opc (o:Option Ct)(k:Ct→Option (Oc→Prop))(a:Option (Oc→Prop)):Option (Oc→Prop):=match o with
 | some x=>k x
 | none=>a
def opd.{u}{α:Type u}(o:Option α)(k:α→Option (Oc→Prop)):Option (Oc→Prop):=match o with
 | some x=>k x
 | none=>none
def opS (P:Program)(Φ:FuncId→Option Ct)(nm:Nat)(S:Nat→Option D)(H:Nat→Option Root)(o:Op):Option (Oc→Prop):=
 match o with
 | .load t x=>match ldJs P S H t x with
  | some (n,i,r,js)=>opd (hoistJ r i js nm) (fun p=>opd (qv P S (apH ((n,some p.1)::addR nm p.2) H) (.load t x)) (fun d=>some (fun e=>e=⟨some d,(n,some p.1)::addR nm p.2,p.2.length⟩)))
  | none=>opd (qv P S H (.load t x)) (fun d=>some (fun e=>e=⟨some d,[],0⟩))
 | .store t x y=>opd (storeH P t S H x y) (fun p=>some (fun e=>e=⟨none,[(p.1,some p.2)],0⟩))
 | .alloc t=>opd (mkOp P S (.alloc t) nm) (fun p=>some (fun e=>e=⟨some p.1,[(nm,some p.2)],1⟩))
 | .box t x=>opd (mkOp P S (.box t x) nm) (fun p=>some (fun e=>e=⟨some p.1,[(nm,some p.2)],1⟩))
 | .buildSlice t l ps=>opd (mkOp P S (.buildSlice t l ps) nm) (fun p=>some (fun e=>e=⟨some p.1,[(nm,some p.2)],1⟩))
 | .makeSlice t l c=>opd (mkOp P S (.makeSlice t l c) nm) (fun p=>some (fun e=>e=⟨some p.1,[(nm,some p.2)],1⟩))
 | .call {callee:=.builtin .append,args:=args,argTypes:=ts}=>match args.toList,ts.toList with
  | [s,x],[t,t']=>if t=t' then (if isTail S s=true then opd (appendT P t S H s x) (fun p=>some (fun e=>e=⟨some (.c (.view nm p.sz 0 p.len)),[(nm,some (.arr p.sz p.ra)),(p.n,none)],1⟩∨e=⟨some (.c (.view nm p.sz p.lo p.len)),[(nm,some (.arr p.sz p.rb)),(p.n,none)],1⟩))
   else opd (appendH P t S H s x) (fun p=>some (fun e=>e=⟨some (.c (.view nm p.1 0 p.2.2.1.length)),(nm,some (.arr p.1 p.2.2.1))::dropN p.2.2.2,1⟩)))
   else opd (appendZ P t S H s x) (fun p=>some (fun e=>e=⟨some (.c (.view nm p.1 0 p.2.2.1.length)),(nm,some (.arr p.1 p.2.2.1))::dropN p.2.2.2,1⟩))
  | _,_=>none
 | .call {callee:=.builtin .clear,args:=args,argTypes:=ts}=>match args.toList,ts.toList with
  | [x],[t]=>opd (clearH P t S H x) (fun p=>some (fun e=>e=⟨some (.tup []),[(p.1,some p.2)],0⟩))
  | _,_=>none
 | .call {callee:=.value f,args:=args,argTypes:=_}=>match evC S f with
  | some (.fn (.func k) caps)=>opc (Φ k) (fun (ct:Ct)=>opd (evDs S args.toList) (fun (F:List D)=>opd (some (frzL ct.sc H F [])) (fun (fz:List D×List (Nat×Option Root))=>opd (some (preW H (lentPs H (exDs (fz.1++caps.map D.c))) fz.2)) (fun (E:List (Nat×Option Root))=>opd (mapO (plCells (apH E H)) (exDs (fz.1++caps.map D.c))) (fun (hs:List (List B))=>
   opd (mapO (loD (exDs (fz.1++caps.map D.c)) (if ct.sc then apH E H else fun _=>none)) (fz.1++caps.map D.c)) (fun (G:List D)=>opd (ct.run G hs) (fun (os:Outs)=>some (fun e=>∃res,os.mem res∧∃d,reD (fun n=>nm+n) res.val=some d∧
    e=⟨some d,addR nm res.roots++(addP (apH E H) (exDs (fz.1++caps.map D.c)) res.places++E),res.roots.length⟩)))))))) (opd (sortH S H caps args.toList) (fun p=>some (fun e=>e=⟨some (.tup []),[(p.1,some p.2)],0⟩)))
  | _=>none
 | .convert s d x=>match P.underlying d,evI S x with
  | some (.float .f32),some (.flt .f64 b)=>some (fun e=>∃n,(fconv .f64 b .f32=some n∨(fconv .f64 b .f32=none∧n<4294967296))∧e=⟨some (.c (.im (.flt .f32 n))),[],0⟩)
  | _,_=>opd (qv P S H (.convert s d x)) (fun d=>some (fun e=>e=⟨some d,[],0⟩))
 | .binOp op t x (.const (.slice none 0 0)) ty=>opd (evC S x) (fun c=>some (fun e=>∃b b',nilF c b∧nilOp op b=some b'∧e=⟨some (.c (.im (.bool b'))),[],0⟩))
 | o=>opd (qv P S H o) (fun d=>some (fun e=>e=⟨some d,[],0⟩))
theorem zHm2:∀{ex:List Plc} {K:List (List B)→Prop} {t:Tag K},plX H ex K t→∃hs,mapO (plCells H) ex=some hs∧(hs.length=ex.length∧∀(k:Nat) (p:Plc) (c:List B),ex[k]?=some p→hs[k]?=some c→plCells H p=some c∧∀x∈c,MvB false x)∧K hs
 | [],K,_,h=>⟨[],rfl,⟨rfl,fun k n c F=>by simp at F⟩,h⟩
 | n::ex,K,_,h=>by
  simp only[plX] at h;split at h
  ·rename_i c hc;obtain ⟨h1,h2⟩:=h;obtain ⟨hs,J,⟨h3,h4⟩,G⟩:=zHm2 h2;refine⟨c::hs,by simp[mapO,hc,J],⟨by simp[h3],fun k m U F E=>?_⟩,G⟩
   cases k with
   | zero=>simp at F E;subst F;subst E;exact⟨hc,h1⟩
   | succ k=>simp at F E;exact h4 k m U F E
  ·exact h.elim
theorem zKk2 {Φ:FuncId→Option Ct}{nm:Nat}{o:Op}{K:Option D→List (Nat×Option Root)→Nat→Prop}{tg:Tag K}(h:opR P Φ nm S H o K tg):
 ∃X,opS P Φ nm S H o=some X∧(∃e,X e)∧∀e,X e→K e.val e.wr e.cnt:=by
 have one:∀{o:Option (Oc→Prop)} (e:Oc),o=some (fun e'=>e'=e)→K e.val e.wr e.cnt→∃X,o=some X∧(∃e,X e)∧∀e,X e→K e.val e.wr e.cnt:=fun e h1 h2=>⟨_,h1,⟨e,rfl⟩,fun e' he=>by cases he;exact h2⟩;unfold opR at h;split at h
 ·rename_i t x;split at h
  ·rename_i n i r js hl;obtain ⟨⟨r',rs⟩,h1,h⟩:=mK_ex h;obtain ⟨d,h2,h3⟩:=mK_ex h;exact one ⟨_,_,_⟩ (by simp only[opS,hl,h1,opd,h2]) h3
  ·rename_i hl;obtain ⟨d,h1,h2⟩:=mK_ex h;exact one ⟨_,_,_⟩ (by simp only[opS,hl,h1,opd]) h2
 ·obtain ⟨p,h1,h2⟩:=mK_ex h;exact one ⟨_,_,_⟩ (by simp only[opS,h1,opd]) h2
 ·obtain ⟨p,h1,h2⟩:=mK_ex h;exact one ⟨_,_,_⟩ (by simp only[opS,h1,opd]) h2
 ·obtain ⟨p,h1,h2⟩:=mK_ex h;exact one ⟨_,_,_⟩ (by simp only[opS,h1,opd]) h2
 ·obtain ⟨p,h1,h2⟩:=mK_ex h;exact one ⟨_,_,_⟩ (by simp only[opS,h1,opd]) h2
 ·obtain ⟨p,h1,h2⟩:=mK_ex h;exact one ⟨_,_,_⟩ (by simp only[opS,h1,opd]) h2
 ·rename_i args ts;split at h
  ·rename_i s x t t' ha V;by_cases E:t=t';rotate_left
   ·rw[if_neg E] at h;obtain ⟨_,h⟩:=h;obtain ⟨⟨sz,bytes,rows,on⟩,h1,h2,h3⟩:=mK_ex h;exact one ⟨_,_,_⟩ (by simp only[opS,ha,V,if_neg E,h1,opd]) h3
   rw[if_pos E] at h;subst E;split at h
   ·rename_i G;obtain ⟨p,h1,h2,h3,h4⟩:=mK_ex h;refine⟨fun e=>e=⟨some (.c (.view nm p.sz 0 p.len)),[(nm,some (.arr p.sz p.ra)),(p.n,none)],1⟩∨e=⟨some (.c (.view nm p.sz p.lo p.len)),[(nm,some (.arr p.sz p.rb)),(p.n,none)],1⟩,by simp only[opS,ha,V,eq_self,yav,G,yav,h1,opd],⟨_,Or.inl rfl⟩,?_⟩;rintro e (rfl|rfl)
    ·exact h3
    ·exact h4
   ·rename_i G;obtain ⟨⟨sz,bytes,rows,on⟩,h1,h2,h3⟩:=mK_ex h;exact one ⟨_,_,_⟩ (by simp only[opS,ha,V,eq_self,yav,G,yat,yau,h1,opd]) h3
  ·exact h.elim
 ·rename_i args ts;split at h
  ·rename_i x t ha V;obtain ⟨p,h1,h2⟩:=mK_ex h;exact one ⟨_,_,_⟩ (by simp only[opS,ha,V,h1,opd]) h2
  ·exact h.elim
 ·rename_i f args ts;split at h
  ·rename_i k caps hf;rcases zLo2 h with ⟨ct,h1,h⟩|⟨h1,_,h⟩;rotate_left
   ·obtain ⟨p,h2,h3⟩:=mK_ex h;exact one ⟨_,_,_⟩ (by simp only[opS,hf,h1,opc,opd,h2]) h3
   obtain ⟨ds,h2,h⟩:=mK_ex h;obtain ⟨ws,h9,h⟩:=mK_ex h;simp only[yaC] at h9;subst h9;obtain ⟨hs,h3,_,h⟩:=zHm2 h;obtain ⟨c8,h4,h⟩:=mK_ex h;obtain ⟨os,h5,h⟩:=mK_ex h;obtain ⟨⟨r0,Z⟩,h6⟩:=zLb2 h;refine⟨_,by simp only[opS,hf,h1,opc,opd,h2,h3,h4,h5];rfl,?_,?_⟩
   ·obtain ⟨d,F,h8⟩:=mK_ex (h6 r0 Z);exact⟨_,r0,Z,d,F,rfl⟩
   ·rintro e ⟨res,hm,d,hd,rfl⟩;obtain ⟨d',F,h8⟩:=mK_ex (h6 res hm);rw[hd] at F;injection F with F;subst F;exact h8
  ·exact h.elim
 ·rename_i s d x;split at h
  ·rename_i b hd hx;obtain ⟨_,h⟩:=h;refine⟨_,by simp only[opS,hd,hx];rfl,?_,?_⟩
   ·cases hc:fconv .f64 b .f32 with
    | some n=>exact⟨_,n,.inl rfl,rfl⟩
    | none=>exact⟨_,0,.inr ⟨rfl,by omega⟩,rfl⟩
   ·rintro e ⟨n,J,rfl⟩;rcases J with J|⟨J,b3⟩
    ·simp only[cK,J] at h;exact h
    ·simp only[cK,J] at h;exact h n b3
  ·rename_i c1;obtain ⟨d,h1,h2⟩:=mK_ex h;exact one ⟨_,_,_⟩ (by simp only[opS,h1,opd]) h2
 ·rename_i op t x ty;obtain ⟨_,h⟩:=h;obtain ⟨c,h1,h⟩:=mK_ex h;refine⟨_,by simp only[opS,h1,opd];rfl,?_,?_⟩
  ·cases c with
   | nil=>obtain ⟨U,h2,h3⟩:=mK_ex (t:=.mk) h;exact⟨_,true,U,rfl,h2,rfl⟩
   | view n sz lo len=>obtain ⟨U,h2,h3⟩:=mK_ex (t:=.mk) h.1;exact⟨_,false,U,(fun h=>by cases h),h2,rfl⟩
   | im i=>
    cases i with
    | sl sz rows=>obtain ⟨U,h2,h3⟩:=mK_ex (t:=.mk) h.1;exact⟨_,false,U,(fun h=>by cases h),h2,rfl⟩
    | _=>exact h.elim
   | _=>exact h.elim
  ·rintro e ⟨b,U,hb,J,rfl⟩
   have fin:mK (nilOp op b) (fun b=>K (some (.c (.im (.bool b)))) [] 0) .mk→K (some (.c (.im (.bool U)))) [] 0:=fun h=>by
    obtain ⟨b2,h2,h3⟩:=mK_ex h;rw[J] at h2;injection h2 with h2;subst h2;exact h3
   cases c with
   | nil=>have hb:b=true:=hb;subst hb;exact fin h
   | view n sz lo len=>
    cases b with
    | false=>exact fin h.1
    | true=>exact fin (h.2 (hb rfl))
   | im i=>
    cases i with
    | sl sz rows=>
     cases b with
     | false=>exact fin h.1
     | true=>exact fin (h.2 (hb rfl))
    | _=>exact h.elim
   | _=>exact h.elim
 ·rename_i o h1 h2 h3 h4 h5 h6 F h8 h9 a8 b5;obtain ⟨d,k1,k2⟩:=mK_ex h;refine one ⟨_,_,_⟩ ?_ k2;unfold opS
  split<;>first
   | (exfalso;first|exact h1 _ _ rfl|exact h2 _ _ _ rfl|exact h3 _ rfl|exact h4 _ _ rfl|exact h5 _ _ _ rfl|exact h6 _ _ _ rfl|exact F _ _ rfl|exact h8 _ _ _ rfl|exact h8 _ _ rfl|exact h9 _ _ _ rfl|exact a8 _ _ _ rfl|exact a8 _ _ _ _ rfl|exact b5 _ _ _ _ rfl)
   | simp only[k1,opd]
theorem zJa1 {Φ:FuncId→Option Ct} (hΦ:Env P Φ) {S':Nat→Option D} {H':Nat→Option Root} {N nm:Nat} {Q:Exit→Act→World→Prop} {o:Oper} {K:Option D→List (Nat×Option Root)→Nat→Prop} {tg:Tag K}
 (h:Rel en g S' H' a w) (hN:a.tmps.size=N) (hS:∀t d,S t=some d→S' t=some d) (hH:∀n r,H n=some r→H' n=some r)
 (ho:opR P Φ nm S H o.op K tg) (hnm:∀val wr cnt,K val wr cnt→∀m,g.used m→¬(nm≤m∧m<nm+cnt)) (hdst:∀t,o.dst=some t→t<N):
 o.wp P a w (fun V w'=>∃e:Oc,(∀X,opS P Φ nm S H o.op=some X→X e)∧K e.val e.wr e.cnt∧∃g',(∀m,g'.used m→g.used m∨(nm≤m∧m<nm+e.cnt))∧Rel en g' (apS o.dst e.val S') (apH e.wr H') V w'∧V.tmps.size=N) Q:=by
 obtain ⟨X0,U,_,hX⟩:=zKk2 ho
 have F:∀(e:Oc),X0=(fun e'=>e'=e)→OpSem P S H nm o.op e.val e.wr e.cnt→
  o.wp P a w (fun V w'=>∃e:Oc,(∀X,opS P Φ nm S H o.op=some X→X e)∧K e.val e.wr e.cnt∧∃g',(∀m,g'.used m→g.used m∨(nm≤m∧m<nm+e.cnt))∧Rel en g' (apS o.dst e.val S') (apH e.wr H') V w'∧V.tmps.size=N) Q:=by
  intro e he a6;have b9:K e.val e.wr e.cnt:=hX e (by rw[he]);refine Oper.wp_mono (fun V w' G=>⟨e,fun X hx=>?_,b9,G⟩) (OpSem.sound h hN hS hH a6 (hnm _ _ _ b9) hdst);rw[U] at hx;injection hx with hx;subst hx;rw[he]
 have fin:∀{o1:Option (Oc→Prop)} (e:Oc),opS P Φ nm S H o.op=o1→o1=some (fun e'=>e'=e)→X0=(fun e'=>e'=e):=fun e h1 h2=>by rw[U,h2] at h1;injection h1
 generalize J:o.op=op at*;unfold opR at ho;split at ho
 ·rename_i t x;split at ho
  ·rename_i n i r js hl;obtain ⟨⟨r',rs⟩,h1,ho⟩:=mK_ex ho;obtain ⟨d,h2,h3⟩:=mK_ex ho;refine F ⟨some d,(n,some r')::addR nm rs,rs.length⟩ (fin _ rfl (by simp only[opS,hl,h1,opd,h2])) ?_;unfold ldJs at hl;split at hl
   ·rename_i n' e4 i' d8 k' hx hk;split at hl
    ·rename_i r0 hr;split at hl
     ·cases hl
     ·simp only[yaC,Prod.mk.injEq] at hl;obtain ⟨rfl,rfl,rfl,rfl⟩:=hl;exact .ldh hx hr h1 h2
    ·cases hl
   ·cases hl
  ·rename_i hl;obtain ⟨d,h1,h2⟩:=mK_ex ho;exact F ⟨_,_,_⟩ (fin _ rfl (by simp only[opS,hl,h1,opd])) (.q h1)
 ·obtain ⟨p,h1,h2⟩:=mK_ex ho;exact F ⟨_,_,_⟩ (fin _ rfl (by simp only[opS,h1,opd])) (.st h1)
 ·obtain ⟨p,h1,h2⟩:=mK_ex ho;exact F ⟨_,_,_⟩ (fin _ rfl (by simp only[opS,h1,opd])) (.mk h1)
 ·obtain ⟨p,h1,h2⟩:=mK_ex ho;exact F ⟨_,_,_⟩ (fin _ rfl (by simp only[opS,h1,opd])) (.mk h1)
 ·obtain ⟨p,h1,h2⟩:=mK_ex ho;exact F ⟨_,_,_⟩ (fin _ rfl (by simp only[opS,h1,opd])) (.mk h1)
 ·obtain ⟨p,h1,h2⟩:=mK_ex ho;exact F ⟨_,_,_⟩ (fin _ rfl (by simp only[opS,h1,opd])) (.mk h1)
 ·rename_i args ts;split at ho
  ·rename_i s x t t' ha ht;have b4:args=#[s,x]:=(by rw[←Array.toList_inj];simpa using ha);have b2:ts=#[t,t']:=(by rw[←Array.toList_inj];simpa using ht);subst b4;subst b2;by_cases a7:t=t';rotate_left
   ·rw[if_neg a7] at ho;obtain ⟨hZ,ho⟩:=ho;obtain ⟨⟨sz,bytes,rows,on⟩,h1,h2,h3⟩:=mK_ex ho;exact F ⟨_,_,_⟩ (fin _ rfl (by simp only[opS,if_neg a7,h1,opd])) (.apz hZ h1 h2)
   rw[if_pos a7] at ho;subst a7;split at ho
   ·rename_i a8;obtain ⟨p,h1,h2,h3,h4⟩:=mK_ex ho;refine Oper.wp_mono (fun V w' G=>?_) (zZc1 h hN hS hH J h1 h2 (hnm _ _ _ h3) hdst);obtain ⟨g',q1,Z⟩:=G;rcases Z with ⟨Z,q3⟩|⟨Z,q3⟩
    ·refine⟨⟨_,_,_⟩,fun X hx=>?_,h3,g',q1,Z,q3⟩;simp only[opS,eq_self,yav,a8,h1,opd] at hx;injection hx with hx;subst hx;exact .inl rfl
    ·refine⟨⟨_,_,_⟩,fun X hx=>?_,h4,g',q1,Z,q3⟩;simp only[opS,eq_self,yav,a8,h1,opd] at hx;injection hx with hx;subst hx;exact .inr rfl
   ·rename_i a8;obtain ⟨⟨sz,bytes,rows,on⟩,h1,h2,h3⟩:=mK_ex ho;exact F ⟨_,_,_⟩ (fin _ rfl (by simp only[opS,eq_self,yav,a8,yat,yau,h1,opd])) (.app h1 h2)
  ·exact ho.elim
 ·rename_i args ts;split at ho
  ·rename_i x t ha ht;obtain ⟨p,h1,h2⟩:=mK_ex ho;have b4:args=#[x]:=(by rw[←Array.toList_inj];simpa using ha);have b2:ts=#[t]:=(by rw[←Array.toList_inj];simpa using ht);subst b4;subst b2;exact F ⟨_,_,_⟩ (fin _ rfl (by simp only[opS,h1,opd])) (.clr h1)
  ·exact ho.elim
 ·rename_i f args ts;split at ho
  ·rename_i k caps hf;rcases zLo2 ho with ⟨ct,h1,ho⟩|⟨h1,hL,ho⟩;rotate_left
   ·obtain ⟨⟨n9,r9⟩,h2,h3⟩:=mK_ex ho;refine Oper.wp_mono (fun V w' G=>?_) (zQo1 h hN hS hH J hf hL h2 hdst);refine⟨⟨some (.tup []),[(n9,some r9)],0⟩,fun X hx=>?_,h3,g,fun m hm=>.inl hm,G.1,G.2⟩;simp only[opS,hf,h1,opc,opd,h2] at hx;injection hx with hx;subst hx;rfl
   obtain ⟨f1,h2,ho⟩:=mK_ex ho;obtain ⟨⟨ds,fw⟩,b5,ho⟩:=mK_ex ho;obtain ⟨ws,h9,ho⟩:=mK_ex ho;simp only[yaC] at h9 b5;subst h9;obtain ⟨hs,h3,c6,ho⟩:=zHm2 ho;obtain ⟨f2,h4,ho⟩:=mK_ex ho;obtain ⟨os,h5,ho⟩:=mK_ex ho;obtain ⟨_,h6⟩:=zLb2 ho;refine Oper.wp_mono (fun V w' G=>?_) (zTe1 hΦ (nm:=nm) h hN hS hH J hf h1 h2 b5 rfl ⟨zGl1 _,c6.1,c6.2⟩ h4 h5 hdst);obtain ⟨res,hm,G⟩:=G;obtain ⟨d,h7,h8⟩:=mK_ex (h6 res hm);obtain ⟨g',q1,Z,q3⟩:=G d h7 (hnm _ _ _ h8);refine⟨⟨_,_,_⟩,fun X hx=>?_,h8,g',q1,Z,q3⟩;simp only[opS,hf,h1,opc,opd,h2,b5,h3,h4,h5] at hx;injection hx with hx;subst hx;exact⟨res,hm,d,h7,rfl⟩
  ·exact ho.elim
 ·rename_i s d x;split at ho
  ·rename_i b hd hx;obtain ⟨hs,ho⟩:=ho
   cases hc:fconv .f64 b .f32 with
   | some n=>
    simp only[cK,hc] at ho
    have a6:OpSem P S H nm o.op (some (.c (.im (.flt .f32 n)))) [] 0:=by
     obtain ⟨ss,b3⟩:=Option.isSome_iff_exists.1 hs;rw[J];exact .q (by simp only[qv,b3,hd,hx,convI,hc])
    refine Oper.wp_mono (fun V w' G=>⟨⟨_,_,_⟩,fun X E=>?_,ho,G⟩) (OpSem.sound h hN hS hH a6 (hnm _ _ _ ho) hdst);simp only[opS,hd,hx] at E;injection E with E;subst E;exact⟨n,.inl hc,rfl⟩
   | none=>
    simp only[cK,hc] at ho;obtain ⟨ss,b3⟩:=Option.isSome_iff_exists.1 hs;refine Oper.wp_mono (fun V w' G=>?_) (zTd1 h hN hS hH J hx b3 hd hc hdst);obtain ⟨n,q0,q1,Z⟩:=G;refine⟨⟨some (.c (.im (.flt .f32 n))),[],0⟩,fun X E=>?_,ho n q0,g,fun m hm=>.inl hm,q1,Z⟩;simp only[opS,hd,hx] at E;injection E with E;subst E;exact⟨n,.inr ⟨hc,q0⟩,rfl⟩
  ·rename_i e8;obtain ⟨d,h1,h2⟩:=mK_ex ho;exact F ⟨_,_,_⟩ (fin ⟨_,_,_⟩ rfl (by simp only[opS,h1,opd])) (.q h1)
 ·rename_i op t x ty;obtain ⟨ht,ho⟩:=ho;obtain ⟨c,h1,ho⟩:=mK_ex ho;refine Oper.wp_mono (fun V w' G=>?_) (zVq1 h hN hS hH J h1 ht hdst ?_)
  ·obtain ⟨b,b',hb,hn,q1,Z⟩:=G;refine⟨⟨some (.c (.im (.bool b'))),[],0⟩,fun X E=>?_,?_,g,fun m hm=>.inl hm,q1,Z⟩
   ·simp only[opS,h1,opd] at E;injection E with E;subst E;exact⟨b,b',hb,hn,rfl⟩
   ·refine hX ⟨_,_,_⟩ ?_;simp only[opS,h1,opd] at U;injection U with U;subst U;exact⟨b,b',hb,hn,rfl⟩
  ·cases c with
   | nil=>obtain ⟨b',h2,_⟩:=mK_ex (t:=.mk) ho;exact⟨⟨_,_,h2⟩,trivial⟩
   | view n sz lo len=>obtain ⟨b',h2,_⟩:=mK_ex (t:=.mk) ho.1;exact⟨⟨_,_,h2⟩,trivial⟩
   | im i=>
    cases i with
    | sl sz rows=>obtain ⟨b',h2,_⟩:=mK_ex (t:=.mk) ho.1;exact⟨⟨_,_,h2⟩,trivial⟩
    | _=>exact ho.elim
   | _=>exact ho.elim
 ·rename_i o' h1 h2 h3 h4 h5 h6 h7 h8 h9 c7 d5;obtain ⟨d,k1,k2⟩:=mK_ex ho;refine F ⟨_,_,_⟩ (fin _ rfl ?_) (.q k1);unfold opS
  split<;>first
   | (exfalso;first|exact h1 _ _ rfl|exact h2 _ _ _ rfl|exact h3 _ rfl|exact h4 _ _ rfl|exact h5 _ _ _ rfl|exact h6 _ _ _ rfl|exact h7 _ _ rfl|exact h8 _ _ _ rfl|exact h8 _ _ rfl|exact h9 _ _ _ rfl|exact c7 _ _ _ rfl|exact c7 _ _ _ _ rfl|exact d5 _ _ _ _ rfl)
   | simp only[k1,opd]
def St.eff (st:St)(dst:Option Nat)(val:Option D)(wr:List (Nat×Option Root))(cnt:Nat):St:=⟨putS dst val st.s,insW wr st.h,st.n+cnt⟩
def dOk (N:Nat):Option Nat→Prop
 | some t=>t<N
 | none=>True
def gSlot (ops:List Oper)(j:Nat):Option Nat:=match ops[j]? with
 | some o=>o.dst
 | none=>none
def regX (P:Program)(Φ:FuncId→Option Ct)(N:Nat)(ops:List Oper):List Oper→St→(K:St→Prop)→Tag K→Prop
 | [],st,K,_=>K st
 | o::r,st,K,t0=>dOk N o.dst∧match o.guard with
  | none=>opR P Φ st.n (lk st.s) (lk st.h) o.op (fun val wr cnt=>regX P Φ N ops r (st.eff o.dst val wr cnt) K t0) .mk
  | some (j,want)=>match gSlot ops j with
   | some t=>match lk st.s t with
    | some (.c (.im (.bool b)))=>gS b want (opR P Φ st.n (lk st.s) (lk st.h) o.op (fun val wr cnt=>regX P Φ N ops r (st.eff o.dst val wr cnt) K t0) .mk)
     (regX P Φ N ops r (st.eff o.dst (some (.tup [])) [] 0) K t0) .mk .mk
    | some (.tup _)=>regX P Φ N ops r (st.eff o.dst (some (.tup [])) [] 0) K t0
    | _=>False
   | none=>False
def RelS (en:En)(N:Nat)(st:St)(a:Act)(w:World):Prop:=∃g,(∀m,g.used m→m<st.n)∧Rel en g (lk st.s) (lk st.h) a w∧a.tmps.size=N
theorem RelS.eff {N:Nat}{st:St}{dst:Option Nat}{val:Option D}{wr:List (Nat×Option Root)}{cnt:Nat}(hu:∀m,g.used m→m<st.n+cnt)(h:Rel en g (apS dst val (lk st.s)) (apH wr (lk st.h)) a w){N:Nat}(hN:a.tmps.size=N):
 RelS en N (st.eff dst val wr cnt) a w:=by
 refine⟨g,hu,?_,hN⟩;simp only[St.eff];rw[zXp,zSh];exact h
theorem zTj {ops:List Oper}{j t:Nat}{b:Bool}(h:Rel en g S H a w)(hg:gSlot ops j=some t)(hs:S t=some (.c (.im (.bool b)))):yielded ops.toArray a.tmps j=some b:=by
 unfold gSlot at hg;split at hg
 ·rename_i o ho;obtain ⟨v,F,hd⟩:=h.slots t _ hs
  have E:v=.bool b:=by
   cases hd with|c _ _ hc=>cases hc with|im _ _ hi=>exact hi.bool_inv
  subst E;simp[yielded,ho,hg,F]
 ·cases hg
theorem DV.undef:DV g (.tup []) Go.undef:=.tup [] #[] rfl (fun j x v h=>by simp at h)
theorem zVc {ops:List Oper}{j t:Nat}{ds:List D}(h:Rel en g S H a w)(hg:gSlot ops j=some t)(hs:S t=some (.tup ds)):yielded ops.toArray a.tmps j=none:=by
 unfold gSlot at hg;split at hg
 ·rename_i o ho;obtain ⟨v,E,hd⟩:=h.slots t _ hs;obtain ⟨vs,rfl⟩:∃vs,v=.tuple vs:=by cases hd with|tup _ vs _ _=>exact⟨vs,rfl⟩
  simp[yielded,ho,hg,E]
 ·cases hg
theorem zNt {Φ:FuncId→Option Ct}(hΦ:Env P Φ){N:Nat}{ops:List Oper}{Q:Exit→Act→World→Prop}{K:St→Prop}(hK:∀st a w,RelS en N st a w→K st→Q .normal a w):
 ∀(l:List Oper) (st:St) (tg:Tag K) (a:Act) (w:World),RelS en N st a w→regX P Φ N ops l st K tg→wpList P ops.toArray Q l a w
 | [],st,_,a,w,h,hx=>hK st a w h hx
 | o::r,st,tg,a,w,⟨g,hu,h,hN⟩,hx=>by
  obtain ⟨hd,hx⟩:=hx;have F:∀t,o.dst=some t→t<N:=fun t G=>by rw[G] at hd;exact hd
  have run:opR P Φ st.n (lk st.s) (lk st.h) o.op (fun val wr cnt=>regX P Φ N ops r (st.eff o.dst val wr cnt) K tg) .mk→o.wp P a w (wpList P ops.toArray Q r) Q:=by
   intro hr;refine Oper.wp_mono (fun a' w' ⟨e,_,hk,g',k1,k2,Z⟩=>?_) (zJa1 hΦ h hN (fun _ _ h=>h) (fun _ _ h=>h) hr (fun val wr cnt _ m J hc=>by have:=hu m J;omega) F);exact zNt hΦ hK r _ tg a' w' (RelS.eff (N:=N) (fun m J=>(k1 m J).elim (fun h=>by have:=hu m h;omega) (fun h=>h.2)) k2 Z) hk
  unfold wpList
  cases U:o.guard with
  | none=>
   simp only[U] at hx;rw[if_pos (by simp[Region.wanted,U])];exact .inl (run hx)
  | some jw=>
   obtain ⟨j,E⟩:=jw;simp only[U] at hx;split at hx
   ·rename_i t G;split at hx
    ·rename_i b hb;have V:=zTj h G hb;by_cases e:b=E
     ·rw[if_pos (by simp[Region.wanted,U,V,e])];exact .inl (run (hx.1 e))
     ·rw[if_neg (by simp[Region.wanted,U,V,e])];have e':b=(!E):=(by cases b<;>cases E<;>simp_all);exact zNt hΦ hK r _ tg _ w (RelS.eff (N:=N) (cnt:=0) (fun m J=>hu m J) (h.putD (fun t G=>by rw[hN];exact F t G) DV.undef) ((zDc _ _ _).trans hN)) (hx.2 e')
    ·rename_i ds hb;have V:=zVc h G hb;rw[if_neg (by simp[Region.wanted,U,V])];exact zNt hΦ hK r _ tg _ w (RelS.eff (N:=N) (cnt:=0) (fun m J=>hu m J) (h.putD (fun t G=>by rw[hN];exact F t G) DV.undef) ((zDc _ _ _).trans hN)) hx
    ·exact hx.elim
   ·exact hx.elim
end Go.SX
namespace Go.SX
open Go Go.RowKit
variable {en : En} {g : Gh} {S : Nat → Option D} {H : Nat → Option Root} {a : Act} {w : World} {P : Program}
def Fg {κ V:Type}(W:Nat→κ→Option V)(X:Nat→Bool)(init:κ→V):Nat→κ→V
 | 0,k=>init k
 | n+1,k=>if X n=true then (match W n k with
  | some v=>v
  | none=>Fg W X init n k) else Fg W X init n k
theorem zTi {κ V:Type}{W:Nat→κ→Option V}{X Y:Nat→Bool}{init:κ→V}{k:κ}{i:Nat}:∀(n:Nat),i≤n→(∀j,j<n→i≤j→X j=true→W j k=none)→(∀j,j<i→X j≠Y j→W j k=none)→
 Fg W X init n k=Fg W Y init i k
 | 0,hi,h1,h2=>by
  have:i=0:=by omega
  subst this;rfl
 | n+1,hi,h1,h2=>by
  by_cases e:i=n+1
  ·subst e;simp only[Fg];have F:=zTi (W:=W) (X:=X) (Y:=Y) (init:=init) (k:=k) (i:=n) n (Nat.le_refl _) (fun j hj G=>by omega) (fun j hj=>h2 j (by omega));rw[F];by_cases E:X n=Y n
   ·rw[E]
   ·have:=h2 n (by omega) E;rw[this];simp
  ·have F:=zTi (W:=W) (X:=X) (Y:=Y) (init:=init) (k:=k) (i:=i) n (by omega) (fun j hj=>h1 j (by omega)) h2;simp only[Fg];split
   ·rename_i hx;rw[h1 n (by omega) (by omega) hx];exact F
   ·exact F
theorem zZm1 {κ V:Type}{W:Nat→κ→Option V}{X X':Nat→Bool}{init:κ→V}{k:κ}{i:Nat}(hX':∀j,X' j=if j=i then true else X j)(hi:X i=false):∀(n:Nat),(∀j,j<n→i<j→X j=true→W i k=none∨W j k=none)→
 Fg W X' init n k=if i<n then (match W i k with
  | some v=>v
  | none=>Fg W X init n k) else Fg W X init n k
 | 0,h=>by simp[Fg]
 | n+1,h=>by
  have F:=zZm1 (W:=W) (init:=init) (k:=k) hX' hi n (fun j hj=>h j (by omega));simp only[Fg];by_cases e:n=i
  ·subst e;have h1:X' n=true:=(by rw[hX'];simp);rw[if_neg (Nat.lt_irrefl _)] at F;rw[h1,hi,F,if_pos (Nat.lt_succ_self _)];simp
  ·have h1:X' n=X n:=(by rw[hX',if_neg e]);rw[h1];by_cases hx:X n=true
   ·rw[if_pos hx,if_pos hx,F];by_cases E:i<n
    ·rw[if_pos E,if_pos (by omega)];rcases h n (by omega) E hx with h2|h2
     ·rw[h2]
     ·rw[h2]
    ·rw[if_neg E,if_neg (by omega)]
   ·rw[if_neg hx,if_neg hx,F];by_cases E:i<n
    ·rw[if_pos E,if_pos (by omega)]
    ·rw[if_neg E,if_neg (by omega)]
def memb (t:Nat):List Nat→Bool
 | []=>false
 | x::xs=>if t=x then true else memb t xs
theorem zGp {t:Nat}:∀{l:List Nat},memb t l=true↔t∈l
 | []=>by simp[memb]
 | x::xs=>by
  simp only[memb];split
  ·rename_i e;simp[e]
  ·rename_i e;rw[zGp];simp[e]
def oT:Operand→List Nat
 | .tmp t=>[t]
 | _=>[]
def opTm:Op→List Nat
 | .build _ ps=>ps.toList.flatMap (fun p=>oT p.2)
 | .buildSlice _ _ ps=>ps.toList.flatMap (fun p=>oT p.2)
 | .call {callee:=.value f,args:=args,argTypes:=_}=>oT f++args.toList.flatMap oT
 | .call {callee:=.builtin _,args:=args,argTypes:=_}=>args.toList.flatMap oT
 | .move x|.assign x|.box _ x|.load _ x|.nilCheck x|.unOp _ _ x|.convert _ _ x|.fieldAddr _ x _|.field _ x _|.extract x _=>oT x
 | .pick c x y=>oT c++(oT x++oT y)
 | .store _ x y|.binOp _ _ x y _|.makeSlice _ x y|.indexAddr _ x y|.index _ x y=>oT x++oT y
 | .slice _ x lo hi _=>oT x++((match lo with|some y=>oT y|none=>[])++(match hi with|some y=>oT y|none=>[]))
 | .makeFunc _ _ caps=>caps.toList.flatMap oT
 | _=>[]
def lookT (ops:List Oper)(o:Oper):List Nat:=opTm o.op++(match o.guard with
 | some (j,_)=>(match gSlot ops j with|some t=>[t]|none=>[])
 | none=>[])
def vwC1:C→List Nat
 | .view n _ _ _=>[n]
 | .ptr n _ _ _=>[n]
 | _=>[]
def vwC:C→List Nat
 | .view n _ _ _=>[n]
 | .ptr n _ _ _=>[n]
 | .fn _ caps=>caps.flatMap vwC1
 | _=>[]
def vwO (S:Nat→Option D)(x:Operand):List Nat:=match ev S x with
 | some (.c c)=>vwC c
 | some (.agg cs)=>cs.flatMap vwC
 | _=>[]
def rdN (S:Nat→Option D):Op→List Nat
 | .load _ x=>vwO S x
 | .store _ x _=>vwO S x
 | .call {callee:=.value f,args:=args,argTypes:=_}=>vwO S f++args.toList.flatMap (vwO S)
 | .call {callee:=.builtin _,args:=args,argTypes:=_}=>args.toList.flatMap (vwO S)
 | _=>[]
def isCallO:Op→Bool
 | .call {callee:=.value _,args:=_,argTypes:=_}=>true
 | _=>false
def lentT:T→List Nat
 | .lent n _ _=>[n]
 | _=>[]
def lentR:Root→List Nat
 | .arr _ rows=>rows.flatMap fun r=>r.flatMap lentT
 | .box _=>[]
def nestH (H:Nat→Option Root)(L:List Nat):List Nat:=L.flatMap fun n=>match H n with
 | some r=>lentR r
 | none=>[]
def rdX (S:Nat→Option D)(H:Nat→Option Root)(o:Op):List Nat:=rdN S o++(if isCallO o=true then nestH H (rdN S o) else [])
def resF {α:Type}(L:List Nat)(S:Nat→Option α):Nat→Option α:=fun t=>if memb t L=true then S t else none
def resH (n0:Nat)(old:Bool)(L:List Nat)(H:Nat→Option Root):Nat→Option Root:=fun n=>if (old=true∧n<n0)∨memb n L=true then H n else none
structure DI where
 i:Nat
 old:Bool
 rd:List Nat
 wr:List Nat
 deriving Inhabited
def disj (n0:Nat)(x y:DI):Bool:=
 x.wr.all (fun n=>!(memb n y.wr)&&(!(memb n y.rd)&&!(y.old&&decide (n<n0))))&&y.wr.all (fun n=>!(memb n x.rd)&&!(x.old&&decide (n<n0)))
def bfB (bf:Array Nat)(i j:Nat):Bool:=(bf.getD j 0).testBit i
def rootsOk (ops:List Oper)(n0:Nat)(acc:List DI):Bool:=
 let bf:=Region.before ops.toArray
 acc.all fun y=>acc.all fun x=>decide (y.i≤x.i)||(bfB bf x.i y.i||disj n0 x y)
def apartT (ops:List Oper)(x y:Oper):Bool:=
 (match x.dst with
  | some d=>!(memb d (lookT ops y))&&(match y.dst with|some d'=>decide (d≠d')|none=>true)
  | none=>true)&&
 (match y.dst with
  | some d=>!(memb d (lookT ops x))
  | none=>true)
def slotsOk (ops:List Oper):Bool:=
 let bf:=Region.before ops.toArray
 ops.zipIdx.all fun (oj,j)=>
  (oj.after.toList.all fun e=>!(Region.binds .any e)||decide (e.on<j))&&
  ops.zipIdx.all fun (oi,i)=>decide (j≤i)||
   (if bfB bf i j then oj.after.toList.any fun e=>Region.binds .any e&&(decide (e.on=i)||(decide (i<e.on)&&bfB bf i e.on)) else apartT ops oi oj)
def drX (P:Program)(Φ:FuncId→Option Ct)(N n0:Nat)(ops:List Oper):List Oper→Nat→St→List DI→(K:St→List DI→Prop)→Tag K→Prop
 | [],_,st,acc,K,_=>K st acc
 | o::r,i,st,acc,K,t0=>dOk N o.dst∧match o.guard with
  | none=>opR P Φ (n0+8*i) (resF (lookT ops o) (lk st.s)) (resH n0 (isCallO o.op) (rdX (lk st.s) (lk st.h) o.op) (lk st.h)) o.op (fun val wr cnt=>cnt≤8∧drX P Φ N n0 ops r (i+1) (st.eff o.dst val wr 0) (⟨i,isCallO o.op,rdX (lk st.s) (lk st.h) o.op,wr.map (·.1)⟩::acc) K t0) .mk
  | some (j,want)=>match gSlot ops j with
   | some t=>match lk st.s t with
    | some (.c (.im (.bool b)))=>gS b want (opR P Φ (n0+8*i) (resF (lookT ops o) (lk st.s)) (resH n0 (isCallO o.op) (rdX (lk st.s) (lk st.h) o.op) (lk st.h)) o.op (fun val wr cnt=>cnt≤8∧drX P Φ N n0 ops r (i+1) (st.eff o.dst val wr 0) (⟨i,isCallO o.op,rdX (lk st.s) (lk st.h) o.op,wr.map (·.1)⟩::acc) K t0) .mk)
     (drX P Φ N n0 ops r (i+1) (st.eff o.dst (some (.tup [])) [] 0) (⟨i,false,[],[]⟩::acc) K t0) .mk .mk
    | some (.tup _)=>drX P Φ N n0 ops r (i+1) (st.eff o.dst (some (.tup [])) [] 0) (⟨i,false,[],[]⟩::acc) K t0
    | _=>False
   | none=>False
structure EI where
 val:Option D
 wr:List (Nat×Option Root)
 old:Bool
 rd:List Nat
 deriving Inhabited
def gOk (ops:List Oper)(s:List (Nat×Option D))(o:Oper)(b:Bool):Prop:=match o.guard with
 | none=>b=true
 | some (j,want)=>∃t,gSlot ops j=some t∧((∃b',lk s t=some (.c (.im (.bool b')))∧b=(b' ==want))∨(∃ds,lk s t=some (.tup ds)∧b=false))
structure Ok1 (P:Program) (Φ:FuncId→Option Ct) (N n0:Nat) (ops:List Oper) (o:Oper) (i:Nat) (st:St) (e:EI):Prop where
 dst:dOk N o.dst
 run:(gOk ops st.s o true∧e.old=isCallO o.op∧e.rd=rdX (lk st.s) (lk st.h) o.op∧
  (∃(K:Option D→List (Nat×Option Root)→Nat→Prop) (tg:Tag K),opR P Φ (n0+8*i) (resF (lookT ops o) (lk st.s)) (resH n0 (isCallO o.op) (rdX (lk st.s) (lk st.h) o.op) (lk st.h)) o.op K tg∧∀val wr cnt,K val wr cnt→cnt≤8)∧
  ∃X cnt,opS P Φ (n0+8*i) (resF (lookT ops o) (lk st.s)) (resH n0 (isCallO o.op) (rdX (lk st.s) (lk st.h) o.op) (lk st.h)) o.op=some X∧X ⟨e.val,e.wr,cnt⟩)∨(gOk ops st.s o false∧e=⟨some (.tup []),[],false,[]⟩)
inductive DRun (P:Program) (Φ:FuncId→Option Ct) (N n0:Nat) (ops:List Oper):List Oper→Nat→St→List EI→St→Prop where
 | nil (i:Nat) (st:St):DRun P Φ N n0 ops [] i st [] st
 | cons {o:Oper} {r:List Oper} {i:Nat} {st st':St} {e:EI} {es:List EI} (h:Ok1 P Φ N n0 ops o i st e) (hr:DRun P Φ N n0 ops r (i+1) (st.eff o.dst e.val e.wr 0) es st'):DRun P Φ N n0 ops (o::r) i st (e::es) st'
def accL:Nat→List EI→List DI→List DI
 | _,[],acc=>acc
 | i,e::es,acc=>accL (i+1) es (⟨i,e.old,e.rd,e.wr.map (·.1)⟩::acc)
theorem zNw {Φ:FuncId→Option Ct}{N n0:Nat}{ops:List Oper}{K:St→List DI→Prop}{o:Oper}{r:List Oper}{i:Nat}{st:St}{acc:List DI}{t0:Tag K}(h:drX P Φ N n0 ops (o::r) i st acc K t0):
 (gOk ops st.s o true∧∃X,opS P Φ (n0+8*i) (resF (lookT ops o) (lk st.s)) (resH n0 (isCallO o.op) (rdX (lk st.s) (lk st.h) o.op) (lk st.h)) o.op=some X∧(∃e,X e)∧
  ∀e,X e→Ok1 P Φ N n0 ops o i st ⟨e.val,e.wr,isCallO o.op,rdX (lk st.s) (lk st.h) o.op⟩∧drX P Φ N n0 ops r (i+1) (st.eff o.dst e.val e.wr 0) (⟨i,isCallO o.op,rdX (lk st.s) (lk st.h) o.op,e.wr.map (·.1)⟩::acc) K t0)∨
 (gOk ops st.s o false∧Ok1 P Φ N n0 ops o i st ⟨some (.tup []),[],false,[]⟩∧drX P Φ N n0 ops r (i+1) (st.eff o.dst (some (.tup [])) [] 0) (⟨i,false,[],[]⟩::acc) K t0):=by
 obtain ⟨hd,h⟩:=h
 have run:gOk ops st.s o true→opR P Φ (n0+8*i) (resF (lookT ops o) (lk st.s)) (resH n0 (isCallO o.op) (rdX (lk st.s) (lk st.h) o.op) (lk st.h)) o.op (fun val wr cnt=>cnt≤8∧drX P Φ N n0 ops r (i+1) (st.eff o.dst val wr 0) (⟨i,isCallO o.op,rdX (lk st.s) (lk st.h) o.op,wr.map (·.1)⟩::acc) K t0) .mk→
  ∃X,opS P Φ (n0+8*i) (resF (lookT ops o) (lk st.s)) (resH n0 (isCallO o.op) (rdX (lk st.s) (lk st.h) o.op) (lk st.h)) o.op=some X∧(∃e,X e)∧
  ∀e,X e→Ok1 P Φ N n0 ops o i st ⟨e.val,e.wr,isCallO o.op,rdX (lk st.s) (lk st.h) o.op⟩∧drX P Φ N n0 ops r (i+1) (st.eff o.dst e.val e.wr 0) (⟨i,isCallO o.op,rdX (lk st.s) (lk st.h) o.op,e.wr.map (·.1)⟩::acc) K t0:=by
  intro G hr;obtain ⟨X,h1,h2,h3⟩:=zKk2 hr;exact⟨X,h1,h2,fun e U=>⟨⟨hd,.inl ⟨G,rfl,rfl,⟨_,_,hr,fun _ _ _ V=>V.1⟩,X,e.cnt,h1,U⟩⟩,(h3 e U).2⟩⟩
 split at h
 ·rename_i G;have E:gOk ops st.s o true:=by simp[gOk,G]
  exact .inl ⟨E,run E h⟩
 ·rename_i j F G;split at h
  ·rename_i t J;split at h
   ·rename_i b hb;by_cases e:b=F
    ·have E:gOk ops st.s o true:=(by simp only[gOk,G];exact⟨t,J,.inl ⟨b,hb,by simp[e]⟩⟩);exact .inl ⟨E,run E (h.1 e)⟩
    ·have Z:b=(!F):=(by cases b<;>cases F<;>simp_all);have E:gOk ops st.s o false:=(by simp only[gOk,G];exact⟨t,J,.inl ⟨b,hb,by simp[e]⟩⟩);exact .inr ⟨E,⟨hd,.inr ⟨E,rfl⟩⟩,h.2 Z⟩
   ·rename_i ds hb;have E:gOk ops st.s o false:=(by simp only[gOk,G];exact⟨t,J,.inr ⟨ds,hb,trivial⟩⟩);exact .inr ⟨E,⟨hd,.inr ⟨E,rfl⟩⟩,h⟩
   ·exact h.elim
  ·exact h.elim
theorem zPv1 {Φ:FuncId→Option Ct}{N n0:Nat}{ops:List Oper}{K:St→List DI→Prop}:∀{l:List Oper} {i:Nat} {st:St} {acc:List DI} {t0:Tag K},drX P Φ N n0 ops l i st acc K t0→
 ∃es st',DRun P Φ N n0 ops l i st es st'∧K st' (accL i es acc)
 | [],i,st,acc,_,h=>⟨[],st,.nil i st,h⟩
 | o::r,i,st,acc,t0,h=>by
  rcases zNw h with ⟨_,X,_,⟨e,G⟩,h3⟩|⟨_,h2,h3⟩
  ·obtain ⟨h4,J⟩:=h3 e G;obtain ⟨es,st',F,E⟩:=zPv1 J;exact⟨_,st',.cons h4 F,E⟩
  ·obtain ⟨es,st',F,E⟩:=zPv1 h3;exact⟨_,st',.cons h2 F,E⟩
def wlk:List (Nat×Option Root)→Nat→Option (Option Root)
 | [],_=>none
 | (n,r)::l,m=>if m=n then some r else wlk l m
theorem zTg:∀(l:List (Nat×Option Root)) (H:Nat→Option Root) (m:Nat),apH l H m=match wlk l m with
   | some r=>r
   | none=>H m
 | [],H,m=>rfl
 | (n,r)::l,H,m=>by
   simp only[apH,upd,wlk];split
   · rfl
   · exact zTg l H m
theorem zPl:∀{l:List (Nat×Option Root)} {m:Nat},m ∉ l.map (·.1)→wlk l m=none
 | [],m,h=>rfl
 | (n,r)::l,m,h=>by
  simp only[List.map_cons,yac,not_or] at h;simp only[wlk];rw[if_neg h.1];exact zPl h.2
def Ws (ops:List Oper)(es:List EI)(k:Nat)(t:Nat):Option (Option D):=match gSlot ops k with
 | some d=>if t=d then some (es.getD k default).val else none
 | none=>none
def Wh (es:List EI)(k:Nat)(n:Nat):Option (Option Root):=wlk (es.getD k default).wr n
abbrev allT:Nat→Bool:=fun _=>true
theorem DRun.all {Φ:FuncId→Option Ct}{N n0:Nat}{ops:List Oper}{es:List EI}{S0:Nat→Option D}{H0:Nat→Option Root}{l:List Oper}{k:Nat}{st st':St}{es':List EI}(h:DRun P Φ N n0 ops l k st es' st'):
 l=ops.drop k→es'=es.drop k→lk st.s=Fg (Ws ops es) allT S0 k→lk st.h=Fg (Wh es) allT H0 k→k≤ops.length→es.length=ops.length∨True→
 (∀j o,k≤j→ops[j]?=some o→∃stj,Ok1 P Φ N n0 ops o j stj (es.getD j default)∧lk stj.s=Fg (Ws ops es) allT S0 j∧lk stj.h=Fg (Wh es) allT H0 j)∧
 lk st'.s=Fg (Ws ops es) allT S0 ops.length∧lk st'.h=Fg (Wh es) allT H0 ops.length:=by
 induction h with
 | nil i st=>
  intro hl he hs hh hk _;have:ops.length≤i:=by have:=congrArg List.length hl;simp at this;omega
  have hi:i=ops.length:=by omega
  subst hi;exact⟨fun j o hj ho=>by have:=(List.getElem?_eq_some_iff.1 ho).1;omega,hs,hh⟩
 | @cons o r i st st' e es'' h hr ih=>
  intro hl he hs hh hk _;have F:ops[i]?=some o:=by have:=congrArg (·[0]?) hl;simpa using this.symm
  have Z:es[i]?=some e:=by have:=congrArg (·[0]?) he;simpa using this.symm
  have G:es.getD i default=e:=by simp[List.getD,Z]
  have V:gSlot ops i=o.dst:=by simp[gSlot,F]
  have J:lk (st.eff o.dst e.val e.wr 0).s=Fg (Ws ops es) allT S0 (i+1):=by
   funext t;simp only[St.eff,zXp,Fg,yav,Ws,V,G,hs]
   cases o.dst with
   | none=>rfl
   | some d=>
    simp only[apS,upd];split<;>rfl
  have U:lk (st.eff o.dst e.val e.wr 0).h=Fg (Wh es) allT H0 (i+1):=by
   funext t;simp only[St.eff,zSh,Fg,yav,Wh,G,hh,zTg]
   cases wlk e.wr t<;>rfl
  have a7:i<ops.length:=(List.getElem?_eq_some_iff.1 F).1;obtain ⟨h1,h2⟩:=ih (by rw[←List.drop_drop,←hl];rfl) (by rw[←List.drop_drop,←he];rfl) J U (by omega) (.inr trivial);refine⟨fun j o' hj E=>?_,h2⟩;by_cases e1:j=i
  ·subst e1;rw[F] at E;injection E with E;subst E;exact⟨st,by rw[G];exact h,hs,hh⟩
  ·exact h1 j o' (by omega) E
theorem zOa:∀{es:List EI} {i:Nat} {acc:List DI},(∀x∈acc,x∈accL i es acc)∧∀(k:Nat) (e:EI),es[k]?=some e→(⟨i+k,e.old,e.rd,e.wr.map (·.1)⟩:DI)∈accL i es acc
 | [],i,acc=>⟨fun x h=>h,fun k e h=>by simp at h⟩
 | e0::es,i,acc=>by
  obtain ⟨h1,h2⟩:=zOa (es:=es) (i:=i+1) (acc:=⟨i,e0.old,e0.rd,e0.wr.map (·.1)⟩::acc);refine⟨fun x hx=>h1 x (.tail _ hx),fun k e E=>?_⟩
  cases k with
  | zero=>simp at E;subst E;exact h1 _ (.head _)
  | succ k=>simp at E;have:=h2 k e E;rw[show i+(k+1)=i+1+k by omega];exact this
end Go.SX
namespace Go.SX
open Go Go.RowKit
variable {en : En} {g : Gh} {S : Nat → Option D} {H : Nat → Option Root} {a : Act} {w : World} {P : Program}
theorem zPj {ops:List Oper}{x y:Oper}(h:apartT ops x y=true):(∀d,x.dst=some d→d ∉ lookT ops y)∧(∀d,x.dst=some d→y.dst≠some d)∧(∀d,y.dst=some d→d ∉ lookT ops x):=by
 refine⟨fun d hd E=>?_,fun d hd F=>?_,fun d hd E=>?_⟩
 ·rw[←zGp] at E;simp[apartT,hd,E] at h
 ·simp[apartT,hd,F] at h
 ·rw[←zGp] at E;simp[apartT,hd,E] at h
structure SlOk (ops:List Oper):Prop where
 lt:∀(j:Nat) (oj:Oper),ops[j]?=some oj→∀e∈oj.after,Region.binds .any e=true→e.on<j
 just:∀(i j:Nat) (oi oj:Oper),ops[i]?=some oi→ops[j]?=some oj→i<j→bfB (Region.before ops.toArray) i j=true→∃e∈oj.after,Region.binds .any e=true∧(e.on=i∨(i<e.on∧bfB (Region.before ops.toArray) i e.on=true))
 apart:∀(i j:Nat) (oi oj:Oper),ops[i]?=some oi→ops[j]?=some oj→i<j→bfB (Region.before ops.toArray) i j=false→apartT ops oi oj=true
theorem zHv1 {ops:List Oper}(h:slotsOk ops=true):SlOk ops:=by
 simp only[slotsOk,List.all_eq_true] at h;have hz:∀(j:Nat) (o:Oper),ops[j]?=some o→(o,j)∈ops.zipIdx:=fun j o ho=>List.mem_zipIdx_iff_getElem?.2 ho;refine⟨fun j oj hj e F hb=>?_,fun i j oi oj hi hj E hb=>?_,fun i j oi oj hi hj E hb=>?_⟩
 ·have:=h _ (hz j oj hj);simp only[yay,List.all_eq_true] at this;have:=this.1 e (by simpa using F);simp[hb] at this;exact this
 ·have:=h _ (hz j oj hj);simp only[yay,List.all_eq_true] at this;have:=this.2 _ (hz i oi hi);simp only[hb,yav,Bool.or_eq_true,yaG,List.any_eq_true,yay] at this;rcases this with h1|⟨e,F,h1,h2⟩
  ·omega
  ·exact⟨e,by simpa using F,h1,h2⟩
 ·have:=h _ (hz j oj hj);simp only[yay,List.all_eq_true] at this;have:=this.2 _ (hz i oi hi);simp only[hb,yat,yau,Bool.or_eq_true,yaG] at this;exact this.resolve_left (by omega)
theorem zQz {n0:Nat}{x y:DI}(h:disj n0 x y=true):(∀n∈x.wr,n ∉ y.wr∧n ∉ y.rd∧¬(y.old=true∧n<n0))∧(∀n∈y.wr,n ∉ x.rd∧¬(x.old=true∧n<n0)):=by
 simp only[disj,yay,List.all_eq_true,Bool.not_eq_true',Bool.and_eq_false_iff,decide_eq_false_iff_not] at h;have E:∀{n:Nat} {l:List Nat},memb n l=false→n ∉ l:=fun h E=>by rw[zGp.2 E] at h;cases h
 refine⟨fun n F=>?_,fun n F=>?_⟩
 ·obtain ⟨h1,h2,h3⟩:=h.1 n F;refine⟨E h1,E h2,fun hc=>?_⟩;rcases h3 with h3|h3
  ·rw[hc.1] at h3;cases h3
  ·exact h3 hc.2
 ·obtain ⟨h1,h3⟩:=h.2 n F;refine⟨E h1,fun hc=>?_⟩;rcases h3 with h3|h3
  ·rw[hc.1] at h3;cases h3
  ·exact h3 hc.2
theorem zYi1 {n0:Nat}{x y:DI}(h:(∀n∈x.wr,n ∉ y.wr∧n ∉ y.rd∧¬(y.old=true∧n<n0))∧(∀n∈y.wr,n ∉ x.rd∧¬(x.old=true∧n<n0))):
 (∀n∈y.wr,n ∉ x.wr∧n ∉ x.rd∧¬(x.old=true∧n<n0))∧(∀n∈x.wr,n ∉ y.rd∧¬(y.old=true∧n<n0)):=
 ⟨fun n E=>⟨fun hx=>(h.1 n hx).1 E,h.2 n E⟩,fun n E=>(h.1 n E).2⟩
section order
variable {Φ : FuncId → Option Ct} {N n0 : Nat} {ops : List Oper} {es : List EI} {S0 : Nat → Option D} {H0 : Nat → Option Root} {Q : Exit → Act → World → Prop}
def Xof (listed:Array Bool):Nat→Bool:=fun i=>listed.getD i false
def Dc (ops:List Oper)(X:Nat→Bool):Prop:=∀(j:Nat) (o:Oper),ops[j]?=some o→X j=true→∀e∈o.after,Region.binds .any e=true→X e.on=true
theorem Dc.anc (hs:SlOk ops){X:Nat→Bool}(hd:Dc ops X):∀(j i:Nat) (oi oj:Oper),ops[i]?=some oi→ops[j]?=some oj→i<j→X j=true→bfB (Region.before ops.toArray) i j=true→X i=true:=by
 intro j
 induction j using Nat.strongRecOn with
 | _ j ih=>
  intro i oi oj hi hj J hx hb;obtain ⟨e,U,F,h⟩:=hs.just i j oi oj hi hj J hb;have E:=hd j oj hj hx e U F;rcases h with h|⟨h1,h⟩
  ·rw[←h];exact E
  ·have G:=hs.lt j oj hj e U F;have V:j<ops.length:=(List.getElem?_eq_some_iff.1 hj).1;exact ih e.on G i oi ops[e.on] hi (List.getElem?_eq_getElem (by omega)) h1 E h
theorem zTc1 {p q:Nat→Bool}{i:Nat}(hq:∀j,q j=true→p j=true)(hi:p i=true)(hqi:q i=false):∀{l:List Nat},i∈l→(l.filter q).length<(l.filter p).length:=by
 have E:∀l:List Nat,(l.filter q).length≤(l.filter p).length:=by
  intro l
  induction l with
  | nil=>simp
  | cons x l ih=>
   simp only[List.filter_cons];by_cases h:q x=true
   ·rw[if_pos h,if_pos (hq x h)];simp;exact ih
   ·rw[if_neg h];split<;>(try simp)<;>omega
 intro l
 induction l with
 | nil=>intro h;cases h
 | cons x l ih=>
  intro h;simp only[List.filter_cons];by_cases e:x=i
  ·subst e;rw[if_pos hi,if_neg (by rw[hqi];simp)];have:=E l;simp;omega
  ·have F:i∈l:=by
    rcases List.mem_cons.1 h with h|h
    ·exact absurd h.symm e
    ·exact h
   have:=ih F;by_cases h2:q x=true
   ·rw[if_pos h2,if_pos (hq x h2)];simp;exact this
   ·rw[if_neg h2];split<;>(try simp)<;>omega
theorem zRj1 (hs:SlOk ops){listed:Array Bool}(hsz:listed.size=ops.length)(hr:Region.ready .any ops.toArray listed=[]):∀i,i<ops.length→Xof listed i=true:=by
 intro i
 induction i using Nat.strongRecOn with
 | _ i ih=>
  intro hi
  cases hx:Xof listed i with
  | true=>rfl
  | false=>
   have G:i∈Region.ready .any ops.toArray listed:=by
    have F:ops[i]?=some ops[i]:=List.getElem?_eq_getElem hi;refine mem_ready.2 ⟨?_,ops[i],by simp,fun e J hb=>?_⟩
    ·simp only[Xof] at hx;have E:i<listed.size:=(by omega);simp[E] at hx ⊢;exact hx
    ·have E:=hs.lt i _ F e J hb;exact ih e.on E (by omega)
   rw[hr] at G;cases G
theorem zDr2 {S S':Nat→Option D}{x:Operand}(h:∀t∈oT x,S t=S' t):ev S x=ev S' x:=by
 cases x with
 | tmp t=>exact h t (by simp[oT])
 | _=>rfl
theorem zPm {S S':Nat→Option D}{x:Operand}(h:∀t∈oT x,S t=S' t):vwO S x=vwO S' x:=by unfold vwO;rw[zDr2 h]
theorem zSq {S S':Nat→Option D}:∀{l:List Operand},(∀t∈l.flatMap oT,S t=S' t)→l.flatMap (vwO S)=l.flatMap (vwO S')
 | [],_=>rfl
 | x::l,h=>by
  simp only[List.flatMap_cons,List.mem_append] at h ⊢;rw[zPm (fun t E=>h t (.inl E)),zSq (fun t E=>h t (.inr E))]
theorem zIu1 {S S':Nat→Option D}{o:Op}(h:∀t∈opTm o,S t=S' t):rdN S o=rdN S' o:=by
 unfold rdN;split
 ·exact zPm (fun t E=>h t (by simpa[opTm] using E))
 ·exact zPm (fun t E=>h t (by simp only[opTm,List.mem_append];exact .inl E))
 ·rw[zPm (fun t E=>h t (by simp only[opTm,List.mem_append];exact .inl E)),zSq (fun t E=>h t (by simp only[opTm,List.mem_append];exact .inr E))]
 ·exact zSq (fun t E=>h t (by simpa only[opTm] using E))
 ·rfl
theorem zXe {H H':Nat→Option Root}:∀{L:List Nat},(∀n∈L,H n=H' n)→nestH H L=nestH H' L
 | [],_=>rfl
 | n::L,h=>by
  have E:=zXe (L:=L) (fun m F=>h m (.tail _ F));simp only[nestH,List.flatMap_cons] at E ⊢;rw[h n (.head _),E]
theorem zUx1 {S S':Nat→Option D}{H H':Nat→Option Root}{o:Op}(h:∀t∈opTm o,S t=S' t)(hH:∀n∈rdN S o,H n=H' n):rdX S H o=rdX S' H' o:=by
 unfold rdX;rw[←zIu1 h,zXe hH]
theorem zRi1 {α:Type}{L:List Nat}{S S':Nat→Option α}(h:∀t∈L,S t=S' t):resF L S=resF L S':=by
 funext t;simp only[resF];split
 ·rename_i hm;exact h t (zGp.1 hm)
 ·rfl
theorem zKf1 {s s':List (Nat×Option D)}{o:Oper}(h:∀t∈lookT ops o,lk s t=lk s' t){b:Bool}(F:gOk ops s o b):gOk ops s' o b:=by
 unfold gOk at F ⊢
 cases E:o.guard with
 | none=>simp only[E] at F ⊢;exact F
 | some jw=>
  obtain ⟨j,G⟩:=jw;simp only[E] at F ⊢;obtain ⟨t,J,F⟩:=F;have U:t∈lookT ops o:=by simp[lookT,E,J]
  refine⟨t,J,?_⟩;rw[←h t U];exact F
theorem zOw {s:List (Nat×Option D)}{o:Oper}(h:gOk ops s o true)(h':gOk ops s o false):False:=by
 unfold gOk at h h';split at h
 ·rename_i G;simp only[G] at h';cases h'
 ·rename_i j V G;simp only[G] at h';obtain ⟨t,Z,h⟩:=h;obtain ⟨t',F,h'⟩:=h';rw[Z] at F;injection F with F;subst F;rcases h with ⟨b,hb,U⟩|⟨ds,hb,U⟩
  ·rcases h' with ⟨b',E,J⟩|⟨a6,E,J⟩
   ·rw[hb] at E;simp only[yaC,D.c.injEq,C.im.injEq,I.bool.injEq] at E;subst E;rw[←U] at J;cases J
   ·rw[hb] at E;cases E
  ·cases U
theorem zIr {acc:List DI}(h:rootsOk ops n0 acc=true){x y:DI}(hx:x∈acc)(hy:y∈acc)(hlt:x.i<y.i)(hb:bfB (Region.before ops.toArray) x.i y.i=false):disj n0 x y=true:=by
 simp only[rootsOk,List.all_eq_true] at h;have:=h y hy x hx;simp only[Bool.or_eq_true,yaG,hb,yat,false_or] at this;exact this.resolve_left (by omega)
section again
variable {K : St → List DI → Prop} {X : Nat → Bool} {i : Nat}
structure Ag (ops:List Oper) (X:Nat→Bool) (i k:Nat) (st st2:St) (acc acc2:List DI):Prop where
 s:∀t,(∀j oj,j<k→i≤j→X j=false→ops[j]?=some oj→oj.dst≠some t)→lk st.s t=lk st2.s t
 h:∀n,(∀y∈acc,i≤y.i→X y.i=false→n ∉ y.wr)→(∀y∈acc2,i≤y.i→X y.i=false→n ∉ y.wr)→lk st.h n=lk st2.h n
 lt:∀y∈acc,y.i<k
 lt2:∀y∈acc2,y.i<k
theorem zPe1 {st:St}{dst:Option Nat}{val:Option D}{wr:List (Nat×Option Root)}{c t:Nat}(h:dst≠some t):lk (st.eff dst val wr c).s t=lk st.s t:=by
 simp only[St.eff,zXp]
 cases dst with
 | none=>rfl
 | some d=>simp only[apS];exact zCl _ _ (fun e=>h (by rw[e]))
theorem zWg1 {st st2:St}{dst:Option Nat}{val:Option D}{wr:List (Nat×Option Root)}{c t:Nat}(h:lk st.s t=lk st2.s t):lk (st.eff dst val wr c).s t=lk (st2.eff dst val wr c).s t:=by
 simp only[St.eff,zXp]
 cases dst with
 | none=>exact h
 | some d=>simp only[apS,upd];split;rfl;exact h
theorem zPf1 {st:St}{dst:Option Nat}{val:Option D}{wr:List (Nat×Option Root)}{c n:Nat}(h:n ∉ wr.map (·.1)):lk (st.eff dst val wr c).h n=lk st.h n:=by simp only[St.eff,zSh,zTg,zPl h]
theorem zWh1 {st st2:St}{dst:Option Nat}{val:Option D}{wr:List (Nat×Option Root)}{c n:Nat}(h:lk st.h n=lk st2.h n):lk (st.eff dst val wr c).h n=lk (st2.eff dst val wr c).h n:=by simp only[St.eff,zSh,zTg,h]
theorem Ag.same {k:Nat}{st st2:St}{acc acc2:List DI}(h:Ag ops X i k st st2 acc acc2)(o:Oper)(e:EI):
 Ag ops X i (k+1) (st.eff o.dst e.val e.wr 0) (st2.eff o.dst e.val e.wr 0) (⟨k,e.old,e.rd,e.wr.map (·.1)⟩::acc) (⟨k,e.old,e.rd,e.wr.map (·.1)⟩::acc2):=by
 refine⟨fun t F=>zWg1 (h.s t (fun j oj hj=>F j oj (by omega))),fun n h1 h2=>zWh1 (h.h n (fun y E=>h1 y (.tail _ E)) (fun y E=>h2 y (.tail _ E))),fun y E=>?_,fun y E=>?_⟩
 ·rcases List.mem_cons.1 E with rfl|E
  ·simp
  ·have:=h.lt y E;omega
 ·rcases List.mem_cons.1 E with rfl|E
  ·simp
  ·have:=h.lt2 y E;omega
theorem Ag.other {k:Nat}{st st2:St}{acc acc2:List DI}(h:Ag ops X i k st st2 acc acc2){o:Oper}(ho:ops[k]?=some o)(hx:X k=false)(hik:i≤k)(e e2:EI):
 Ag ops X i (k+1) (st.eff o.dst e.val e.wr 0) (st2.eff o.dst e2.val e2.wr 0) (⟨k,e.old,e.rd,e.wr.map (·.1)⟩::acc) (⟨k,e2.old,e2.rd,e2.wr.map (·.1)⟩::acc2):=by
 refine⟨fun t F=>?_,fun n h1 h2=>?_,fun y E=>?_,fun y E=>?_⟩
 ·have hd:=F k o (by omega) hik hx ho;rw[zPe1 hd,zPe1 hd];exact h.s t (fun j oj hj=>F j oj (by omega))
 ·rw[zPf1 (h1 _ (.head _) hik hx),zPf1 (h2 _ (.head _) hik hx)];exact h.h n (fun y E=>h1 y (.tail _ E)) (fun y E=>h2 y (.tail _ E))
 ·rcases List.mem_cons.1 E with rfl|E
  ·simp
  ·have:=h.lt y E;omega
 ·rcases List.mem_cons.1 E with rfl|E
  ·simp
  ·have:=h.lt2 y E;omega
theorem Ok1.ei {o:Oper}{k:Nat}{st:St}{e:EI}(h:Ok1 P Φ N n0 ops o k st e):(gOk ops st.s o true∧e=⟨e.val,e.wr,isCallO o.op,rdX (lk st.s) (lk st.h) o.op⟩)∨(gOk ops st.s o false∧e=⟨some (.tup []),[],false,[]⟩):=by
 rcases h.run with ⟨h1,h2,h3,_⟩|h1
 ·exact .inl ⟨h1,by cases e;simp_all⟩
 ·exact .inr h1
theorem par (hs:SlOk ops)(hd:Dc ops X)(hxi:X i=false)(hK:∀st acc,K st acc→rootsOk ops n0 acc=true):
 ∀(l:List Oper) (k:Nat) (st st2:St) (acc acc2:List DI) (es:List EI) (st':St) (tg:Tag K),l=ops.drop k→i<k→DRun P Φ N n0 ops l k st es st'→rootsOk ops n0 (accL k es acc)=true→
  drX P Φ N n0 ops l k st2 acc2 K tg→Ag ops X i k st st2 acc acc2→
  ∃G E,DRun P Φ N n0 ops l k st2 G E∧K E (accL k G acc2)∧G.length=es.length∧∀j e,X (k+j)=true→es[j]?=some e→G[j]?=some e
 | [],k,st,st2,acc,acc2,es,st',tg,hl,hik,hold,hro,hnew,hag=>by
  cases hold with
  | nil=>exact⟨[],st2,.nil _ _,hnew,rfl,fun j e _ h=>by simp at h⟩
 | o::r,k,st,st2,acc,acc2,es,st',tg,hl,hik,hold,hro,hnew,hag=>by
  have b6:ops[k]?=some o:=by have:=congrArg (·[0]?) hl;simpa using this.symm
  have hr:r=ops.drop (k+1):=by
   have:=congrArg List.tail hl;simpa[List.tail_drop] using this
  have f7:k<ops.length:=(List.getElem?_eq_some_iff.1 b6).1
  cases hold with
  | cons h1 hrest=>
   rename_i e es;by_cases hx:X k=true
   ·
    have d1:∀j oj,j<k→X j=false→ops[j]?=some oj→bfB (Region.before ops.toArray) j k=false:=fun j oj hj U Z=>by
     cases hb:bfB (Region.before ops.toArray) j k with
     | false=>rfl
     | true=>have:=Dc.anc hs hd k j oj o Z b6 hj hx hb;rw[U] at this;cases this
    have b4:∀t∈lookT ops o,lk st.s t=lk st2.s t:=fun t ht=>hag.s t (fun j oj hj f8 U Z f2=>
     (zPj (hs.apart j k oj o Z b6 hj (d1 j oj hj U Z))).1 t f2 ht)
    have b8:∀t∈opTm o.op,lk st.s t=lk st2.s t:=fun t ht=>b4 t (by simp only[lookT,List.mem_append];exact .inl ht);have hF:resF (lookT ops o) (lk st2.s)=resF (lookT ops o) (lk st.s):=(zRi1 b4).symm;rcases h1.ei with ⟨hg,b2⟩|⟨hg,b2⟩
    ·rcases zNw hnew with ⟨b1,X2,b3,⟨e0,d0⟩,V⟩|⟨b1,_⟩
     ·have a7:∀n,((isCallO o.op=true∧n<n0)∨(n∈rdX (lk st.s) (lk st.h) o.op∧n∈rdX (lk st2.s) (lk st2.h) o.op))→lk st2.h n=lk st.h n:=fun n hn=>by
       refine (hag.h n (fun y hy f0 c1 hw=>?_) (fun y hy f0 c1 hw=>?_)).symm
       ·have b0:=hag.lt y hy;obtain ⟨oj,Z⟩:∃oj,ops[y.i]?=some oj:=⟨_,List.getElem?_eq_getElem (by omega)⟩;have c7:y∈accL k (e::es) acc:=zOa.1 y hy
        have c6:(⟨k,e.old,e.rd,e.wr.map (·.1)⟩:DI)∈accL k (e::es) acc:=by
         have:=(zOa (es:=e::es) (i:=k) (acc:=acc)).2 0 e rfl;simpa using this
        have a8:=(zQz (zIr hro c7 c6 b0 (d1 y.i oj b0 c1 Z))).1 n hw;rw[b2] at a8;rcases hn with hn|hn
        ·exact a8.2.2 hn
        ·exact a8.2.1 hn.1
       ·have b0:=hag.lt2 y hy;obtain ⟨oj,Z⟩:∃oj,ops[y.i]?=some oj:=⟨_,List.getElem?_eq_getElem (by omega)⟩;obtain ⟨e4,f6,f9,e9⟩:=zPv1 (V e0 d0).2;have d9:=hK _ _ e9;have c7:y∈accL (k+1) e4 (⟨k,isCallO o.op,rdX (lk st2.s) (lk st2.h) o.op,e0.wr.map (·.1)⟩::acc2):=zOa.1 y (.tail _ hy);have c6:(⟨k,isCallO o.op,rdX (lk st2.s) (lk st2.h) o.op,e0.wr.map (·.1)⟩:DI)∈accL (k+1) e4 (⟨k,isCallO o.op,rdX (lk st2.s) (lk st2.h) o.op,e0.wr.map (·.1)⟩::acc2):=zOa.1 _ (.head _);have a8:=(zQz (zIr d9 c7 c6 b0 (d1 y.i oj b0 c1 Z))).1 n hw;rcases hn with hn|hn
        ·exact a8.2.2 hn
        ·exact a8.2.1 hn.2
      have b5:rdX (lk st2.s) (lk st2.h) o.op=rdX (lk st.s) (lk st.h) o.op:=(zUx1 b8 (fun n hn=>(a7 n (.inr ⟨List.mem_append_left _ hn,List.mem_append_left _ (by rw[←zIu1 b8];exact hn)⟩)).symm)).symm
      have hH:resH n0 (isCallO o.op) (rdX (lk st.s) (lk st.h) o.op) (lk st2.h)=resH n0 (isCallO o.op) (rdX (lk st.s) (lk st.h) o.op) (lk st.h):=by
       funext n;simp only[resH];split
       ·rename_i hn;rw[zGp] at hn;exact a7 n (hn.imp id (fun h=>⟨h,by rw[b5];exact h⟩))
       ·rfl
      rw[b5,hF,hH] at b3
      have c8:∃cnt,X2 ⟨e.val,e.wr,cnt⟩:=by
       rcases h1.run with ⟨_,_,_,_,X1,cnt,f3,e6⟩|⟨f1,_⟩
       ·rw[f3] at b3;injection b3 with b3;subst b3;exact⟨cnt,e6⟩
       ·exact (zOw hg f1).elim
      obtain ⟨cnt,c8⟩:=c8;obtain ⟨J,F⟩:=V _ c8;rw[b5,←b2] at J;have e3:=hag.same o e;rw[show (⟨k,isCallO o.op,rdX (lk st2.s) (lk st2.h) o.op,e.wr.map (·.1)⟩:DI)=⟨k,e.old,e.rd,e.wr.map (·.1)⟩ by rw[b5];rw[b2]] at F;obtain ⟨G,E,q1,q2,q3,q4⟩:=par hs hd hxi hK r (k+1) _ _ _ _ es st' tg hr (by omega) hrest hro F e3;refine⟨e::G,E,.cons J q1,q2,by simp[q3],fun j e1 U hj=>?_⟩
      cases j with
      | zero=>simpa using hj
      | succ j=>exact q4 j e1 (by rw[show k+1+j=k+(j+1) by omega];exact U) hj
     ·exact (zOw (zKf1 b4 hg) b1).elim
    ·rcases zNw hnew with ⟨b1,_⟩|⟨b1,J,F⟩
     ·exact (zOw b1 (zKf1 b4 hg)).elim
     ·subst b2;obtain ⟨G,E,q1,q2,q3,q4⟩:=par hs hd hxi hK r (k+1) _ _ _ _ es st' tg hr (by omega) hrest hro F (hag.same o ⟨some (.tup []),[],false,[]⟩);refine⟨_::G,E,.cons J q1,q2,by simp[q3],fun j e1 U hj=>?_⟩
      cases j with
      | zero=>simpa using hj
      | succ j=>exact q4 j e1 (by rw[show k+1+j=k+(j+1) by omega];exact U) hj
   ·have d8:X k=false:=(by simpa using hx)
    have go:∀(e2:EI),Ok1 P Φ N n0 ops o k st2 e2→drX P Φ N n0 ops r (k+1) (st2.eff o.dst e2.val e2.wr 0) (⟨k,e2.old,e2.rd,e2.wr.map (·.1)⟩::acc2) K tg→
     ∃G E,DRun P Φ N n0 ops (o::r) k st2 G E∧K E (accL k G acc2)∧G.length=(e::es).length∧∀j e1,X (k+j)=true→(e::es)[j]?=some e1→G[j]?=some e1:=fun e2 J F=>by
     obtain ⟨G,E,q1,q2,q3,q4⟩:=par hs hd hxi hK r (k+1) _ _ _ _ es st' tg hr (by omega) hrest hro F (hag.other b6 d8 (by omega) e e2);refine⟨e2::G,E,.cons J q1,q2,by simp[q3],fun j e1 U hj=>?_⟩
     cases j with
     | zero=>rw[Nat.add_zero,d8] at U;cases U
     | succ j=>exact q4 j e1 (by rw[show k+1+j=k+(j+1) by omega];exact U) hj
    rcases zNw hnew with ⟨_,X2,_,⟨e0,d0⟩,V⟩|⟨_,J,F⟩
    ·obtain ⟨h4,h5⟩:=V e0 d0;exact go _ h4 h5
    ·exact go _ J F
theorem pre {S0:Nat→Option D}{H0:Nat→Option Root}{es:List EI}(hi:i<ops.length):∀(n:Nat) (l:List Oper) (k:Nat) (st:St) (acc:List DI) (es1:List EI) (st':St) (tg:Tag K),n=i-k→l=ops.drop k→es1=es.drop k→k≤i→DRun P Φ N n0 ops l k st es1 st'→drX P Φ N n0 ops l k st acc K tg→
 lk st.s=Fg (Ws ops es) allT S0 k→lk st.h=Fg (Wh es) allT H0 k→(∀y∈acc,y.i<k)→
 ∃(o:Oper) (F:St) (E:List DI) (e:EI),ops[i]?=some o∧es[i]?=some e∧lk F.s=Fg (Ws ops es) allT S0 i∧lk F.h=Fg (Wh es) allT H0 i∧(∀y∈E,y.i<i)∧drX P Φ N n0 ops (ops.drop i) i F E K tg∧DRun P Φ N n0 ops (ops.drop i) i F (es.drop i) st'∧
  accL k es1 acc=accL i (es.drop i) E∧∀G st2,DRun P Φ N n0 ops (ops.drop i) i F G st2→DRun P Φ N n0 ops l k st ((es.drop k).take (i-k)++G) st2∧accL k ((es.drop k).take (i-k)++G) acc=accL i G E
 | 0,l,k,st,acc,es1,st',tg,hn,hl,he1,hk,hrun,hx,hs,hh,hlt=>by
  have:k=i:=by omega
  subst this;subst hl;subst he1;have Z:ops[k]?=some ops[k]:=List.getElem?_eq_getElem hi
  obtain ⟨e,c6⟩:∃e,es[k]?=some e:=by
   rw[List.drop_eq_getElem_cons hi] at hrun;generalize c7:es.drop k=ed at hrun
   cases hrun with
   | cons h1 h2=>
    rename_i e b1;exact⟨e,by have:=congrArg (·[0]?) c7;simpa using this⟩
  exact⟨_,st,acc,e,Z,c6,hs,hh,hlt,hx,hrun,rfl,fun G st2 h=>by simp;exact h⟩
 | n+1,l,k,st,acc,es1,st',tg,hn,hl,he1,hk,hrun,hx,hs,hh,hlt=>by
  have b3:k<ops.length:=by omega
  have e5:k<i:=by omega
  rw[List.drop_eq_getElem_cons b3] at hl;subst hl;have Z:ops[k]?=some ops[k]:=List.getElem?_eq_getElem b3;generalize ops[k]=o at*
  cases hrun with
  | cons h1 h2=>
   rename_i e b1;have c1:es[k]?=some e:=(by have:=congrArg (·[0]?) he1;simpa using this.symm);have b4:es.getD k default=e:=(by simp[List.getD,c1]);have b9:gSlot ops k=o.dst:=(by simp[gSlot,Z])
   have b7:lk (st.eff o.dst e.val e.wr 0).s=Fg (Ws ops es) allT S0 (k+1):=by
    funext t;simp only[St.eff,zXp,Fg,yav,Ws,b9,b4,hs]
    cases o.dst with
    | none=>rfl
    | some d=>
     simp only[apS,upd];split<;>rfl
   have b8:lk (st.eff o.dst e.val e.wr 0).h=Fg (Wh es) allT H0 (k+1):=by
    funext t;simp only[St.eff,zSh,Fg,yav,Wh,b4,hh,zTg]
    cases wlk e.wr t<;>rfl
   have b2:drX P Φ N n0 ops (ops.drop (k+1)) (k+1) (st.eff o.dst e.val e.wr 0) (⟨k,e.old,e.rd,e.wr.map (·.1)⟩::acc) K tg:=by
    rcases zNw hx with ⟨a7,X2,V,_,b0⟩|⟨a7,d1,a6⟩
    ·rcases h1.run with ⟨_,e1,e2,_,X1,cnt,d0,b6⟩|⟨a8,_⟩
     ·rw[d0] at V;injection V with V;subst V;have:=(b0 _ b6).2;rw[e1,e2];exact this
     ·exact (zOw a7 a8).elim
    ·rcases h1.run with ⟨a8,_⟩|⟨_,he⟩
     ·exact (zOw a8 a7).elim
     ·subst he;exact a6
   have J:b1=es.drop (k+1):=by
    have:=congrArg List.tail he1;simpa[List.tail_drop] using this
   obtain ⟨o',F,E,ei,q1,q2,q3,q4,q5,q6,q7,q8,q9⟩:=pre hi n _ (k+1) _ _ b1 st' tg (by omega) rfl J (by omega) h2 b2 b7 b8 (fun y hy=>by
    rcases List.mem_cons.1 hy with rfl|hy
    ·simp
    ·have:=hlt y hy;omega)
   refine⟨o',F,E,ei,q1,q2,q3,q4,q5,q6,q7,q8,fun G st2 c8=>?_⟩;obtain ⟨r1,r2⟩:=q9 G st2 c8;have U:(es.drop k).take (i-k)=e::(es.drop (k+1)).take (i- (k+1)):=(by rw[←he1,←J,show i-k=(i- (k+1))+1 by omega,List.take_succ_cons]);rw[U];exact⟨.cons h1 r1,r2⟩
end again
theorem zZl1 {κ V:Type}{W W':Nat→κ→Option V}{X:Nat→Bool}{init:κ→V}:∀(n:Nat),(∀j,j<n→X j=true→W j=W' j)→Fg W X init n=Fg W' X init n
 | 0,_=>rfl
 | n+1,h=>by
  funext k;simp only[Fg];rw[zZl1 n (fun j hj=>h j (by omega))];split
  ·rename_i hx;rw[h n (by omega) hx]
  ·rfl
theorem DRun.len {l:List Oper}{k:Nat}{st st':St}{es:List EI}(h:DRun P Φ N n0 ops l k st es st'):es.length=l.length:=by
 induction h with
 | nil=>rfl
 | cons _ _ ih=>simp[ih]
theorem zVf1 (hΦ:Env P Φ) (hs:SlOk ops) {st0:St} {Kf:St→Prop} {tg:Tag (fun st acc=>rootsOk ops n0 acc=true∧Kf st)}
 (hX:drX P Φ N n0 ops ops 0 st0 [] (fun st acc=>rootsOk ops n0 acc=true∧Kf st) tg)
 (hQ:∀st g a w,Kf st→(∀m,g.used m→m<n0+8*ops.length)→Rel en g (lk st.s) (lk st.h) a w→a.tmps.size=N→Q .normal a w):
 ∀(a8:Nat) (E:Array Bool) (es:List EI) (st':St) (g:Gh) (a:Act) (w:World),E.size=ops.length→Dc ops (Xof E)→((List.range ops.length).filter fun i=>!Xof E i).length≤a8→
  DRun P Φ N n0 ops ops 0 st0 es st'→rootsOk ops n0 (accL 0 es [])=true→Kf st'→
  Rel en g (Fg (Ws ops es) (Xof E) (lk st0.s) ops.length) (Fg (Wh es) (Xof E) (lk st0.h) ops.length) a w→(∀m,g.used m→m<n0∨∃i,i<ops.length∧Xof E i=true∧n0+8*i≤m∧m<n0+8*i+8)→a.tmps.size=N→
  wpAny P .any ops.toArray Q a8 E a w:=by
 have d7:∀(E:Array Bool) (es:List EI) (st':St) (g:Gh) (a:Act) (w:World),E.size=ops.length→DRun P Φ N n0 ops ops 0 st0 es st'→Kf st'→Rel en g (Fg (Ws ops es) (Xof E) (lk st0.s) ops.length) (Fg (Wh es) (Xof E) (lk st0.h) ops.length) a w→
  (∀m,g.used m→m<n0∨∃i,i<ops.length∧Xof E i=true∧n0+8*i≤m∧m<n0+8*i+8)→a.tmps.size=N→Region.ready .any ops.toArray E=[]→Q .normal a w:=by
  intro E es st' g a w c8 a6 hk h hu hN hr;have k0:=zRj1 hs c8 hr;obtain ⟨k1,k2,k3⟩:=DRun.all (es:=es) (S0:=lk st0.s) (H0:=lk st0.h) a6 rfl rfl rfl rfl (Nat.zero_le _) (.inr trivial);refine hQ st' g a w hk (fun m Z=>?_) ?_ hN
  ·rcases hu m Z with h1|⟨i,h1,_,_,h2⟩<;>omega
  ·rw[k2,k3];have e1:∀t,Fg (Ws ops es) (Xof E) (lk st0.s) ops.length t=Fg (Ws ops es) allT (lk st0.s) ops.length t:=fun t=>zTi _ (Nat.le_refl _) (fun j hj m3=>by omega) (fun j hj U=>absurd (k0 j hj) U);have e2:∀t,Fg (Wh es) (Xof E) (lk st0.h) ops.length t=Fg (Wh es) allT (lk st0.h) ops.length t:=fun t=>zTi _ (Nat.le_refl _) (fun j hj m3=>by omega) (fun j hj U=>absurd (k0 j hj) U);exact h.less (fun t d V=>by rw[e1];exact V) (fun t d V=>by rw[e2];exact V)
 intro a8
 induction a8 with
 | zero=>
  intro E es st' g a w c8 hd hc a6 b5 hk h hu hN
  have hr:Region.ready .any ops.toArray E=[]:=by
   cases hr:Region.ready .any ops.toArray E with
   | nil=>rfl
   | cons i l=>
    exfalso
    have Z:i∈Region.ready .any ops.toArray E:=(by rw[hr];exact .head _);obtain ⟨h1,o,ho,_⟩:=mem_ready.1 Z;have hi:i<ops.length:=(by simpa using (Array.getElem?_eq_some_iff.1 ho).1)
    have:i∈(List.range ops.length).filter fun i=>!Xof E i:=by
     refine List.mem_filter.2 ⟨List.mem_range.2 hi,?_⟩;have G:i<E.size:=(by omega);simp[G] at h1;simp[Xof,G,h1]
    have hl:=List.length_pos_of_mem this;omega
  exact⟨hr,d7 E es st' g a w c8 a6 hk h hu hN hr⟩
 | succ a8 ih=>
  intro E es st' g a w c8 hd hc a6 b5 hk h hu hN;refine⟨fun hr=>d7 E es st' g a w c8 a6 hk h hu hN hr,fun i hi=>?_⟩;obtain ⟨h1,o,j0,f0⟩:=mem_ready.1 hi;have ho:ops[i]?=some o:=by simpa using j0
  have a7:i<ops.length:=(List.getElem?_eq_some_iff.1 ho).1
  have b0:Xof E i=false:=by
   have G:i<E.size:=(by omega);simp[G] at h1;simp[Xof,G,h1]
  have c6:∀j oj,ops[j]?=some oj→i<j→Xof E j=true→bfB (Region.before ops.toArray) i j=false:=fun j oj hj b3 c7=>by
   cases hb:bfB (Region.before ops.toArray) i j with
   | false=>rfl
   | true=>have:=Dc.anc hs hd j i o oj ho hj b3 c7 hb;rw[b0] at this;cases this
  have b7:∀j oj,ops[j]?=some oj→j<i→Xof E j=false→bfB (Region.before ops.toArray) j i=false:=fun j oj hj b3 c7=>by
   cases hb:bfB (Region.before ops.toArray) j i with
   | false=>rfl
   | true=>
    obtain ⟨e,he,j7,h2⟩:=hs.just j i oj o hj ho b3 hb;have f4:Xof E e.on=true:=f0 e he j7;rcases h2 with h2|⟨h2,h3⟩
    ·rw[h2] at f4;rw[f4] at c7;cases c7
    ·have G:=hs.lt i o ho e he j7;have:=Dc.anc hs hd e.on j oj ops[e.on] hj (List.getElem?_eq_getElem (by omega)) h2 f4 h3;rw[this] at c7;cases c7
  have b8:∀(es:List EI) j t,j<ops.length→j≠i→((i<j∧Xof E j=true)∨(j<i∧Xof E j=false))→(t∈lookT ops o∨o.dst=some t)→Ws ops es j t=none:=fun es j t hj U b9 V=>by
   have b6:ops[j]?=some ops[j]:=List.getElem?_eq_getElem hj
   have l4:∀d,ops[j].dst=some d→t≠d:=fun d d1 l8=>by
    subst l8;rcases b9 with ⟨G,hx⟩|⟨G,hx⟩
    ·obtain ⟨k1,k2,k3⟩:=zPj (hs.apart i j o _ ho b6 G (c6 j _ b6 G hx));rcases V with V|V
     ·exact k3 t d1 V
     ·exact k2 t V d1
    ·obtain ⟨k1,k2,k3⟩:=zPj (hs.apart j i _ o b6 ho G (b7 j _ b6 G hx));rcases V with V|V
     ·exact k1 t d1 V
     ·exact k2 t d1 V
   have hg:gSlot ops j=ops[j].dst:=(by simp[gSlot,b6]);simp only[Ws,hg]
   cases d1:ops[j].dst with
   | none=>rfl
   | some d=>simp only[];rw[if_neg (l4 d d1)]
  have d5:∀(es:List EI),es.length=ops.length→rootsOk ops n0 (accL 0 es [])=true→∀j,j<ops.length→j≠i→((i<j∧Xof E j=true)∨(j<i∧Xof E j=false))→
   (∀n∈(es.getD j default).wr.map (·.1),n ∉ (es.getD i default).wr.map (·.1)∧n ∉ (es.getD i default).rd∧¬((es.getD i default).old=true∧n<n0)):=fun es f8 b5 j hj U b9 n hn=>by
   have e9:∀(k:Nat),k<ops.length→(⟨k,(es.getD k default).old,(es.getD k default).rd,(es.getD k default).wr.map (·.1)⟩:DI)∈accL 0 es []:=fun k hk=>by
    have j3:es[k]?=some es[k]:=List.getElem?_eq_getElem (by omega);have:=(zOa (es:=es) (i:=0) (acc:=[])).2 k _ j3;simpa[List.getD,j3] using this
   have b6:ops[j]?=some ops[j]:=List.getElem?_eq_getElem hj;rcases b9 with ⟨G,hx⟩|⟨G,hx⟩
   ·exact (zYi1 (zQz (zIr b5 (e9 i a7) (e9 j hj) G (c6 j _ b6 G hx)))).1 n hn
   ·exact (zQz (zIr b5 (e9 j hj) (e9 i a7) G (b7 j _ b6 G hx))).1 n hn
  obtain ⟨o9,J,e3,ei,e5,d8,l9,m4,e0,j9,k5,j8,f9⟩:=pre (K:=fun st acc=>rootsOk ops n0 acc=true∧Kf st) (es:=es) (S0:=lk st0.s) (H0:=lk st0.h) a7 i ops 0 st0 [] es st' tg (by omega) rfl rfl (Nat.zero_le _) a6 hX rfl rfl (by simp);rw[ho] at e5;injection e5 with e5;subst e5;have e6:es.length=ops.length:=DRun.len a6;have j5:es.getD i default=ei:=by simp[List.getD,d8]
  have g8:ops.drop i=o::ops.drop (i+1):=by
   rw[List.drop_eq_getElem_cons a7];rw[List.getElem?_eq_getElem a7] at ho;injection ho with ho;rw[ho]
  have k7:es.drop i=ei::es.drop (i+1):=by
   have j1:i<es.length:=(by omega);rw[List.drop_eq_getElem_cons j1];rw[List.getElem?_eq_getElem j1] at d8;injection d8 with d8;rw[d8]
  obtain ⟨f6,n3⟩:Ok1 P Φ N n0 ops o i J ei∧DRun P Φ N n0 ops (ops.drop (i+1)) (i+1) (J.eff o.dst ei.val ei.wr 0) (es.drop (i+1)) st':=by
   rw[g8,k7] at k5
   cases k5 with
   | cons a b=>exact⟨a,b⟩
  rw[g8] at j9;have i1:rootsOk ops n0 (accL (i+1) (es.drop (i+1)) (⟨i,ei.old,ei.rd,ei.wr.map (·.1)⟩::e3))=true:=by rw[j8,k7] at b5;exact b5
  have k4:∀j,j<i→Xof E j≠allT j→Xof E j=false:=fun j _ U=>by
   cases hx:Xof E j with
   | false=>rfl
   | true=>exact absurd hx U
  have g7:∀t d,resF (lookT ops o) (lk J.s) t=some d→Fg (Ws ops es) (Xof E) (lk st0.s) ops.length t=some d:=fun t d V=>by
   simp only[resF] at V;split at V
   ·rename_i Z;rw[zGp] at Z;rw[l9] at V;rw[←V];refine zTi _ (Nat.le_of_lt a7) (fun j hj b3 hx=>?_) (fun j hj U=>?_)
    ·have U:j≠i:=(fun e=>by subst e;rw[b0] at hx;cases hx);exact b8 es j t hj U (.inl ⟨by omega,hx⟩) (.inl Z)
    ·exact b8 es j t (by omega) (by omega) (.inr ⟨hj,k4 j hj U⟩) (.inl Z)
   ·cases V
  have k6:∀n r,resH n0 (es.getD i default).old (es.getD i default).rd (lk J.h) n=some r→Fg (Wh es) (Xof E) (lk st0.h) ops.length n=some r:=fun n r V=>by
   simp only[resH] at V;split at V
   ·rename_i Z;rw[zGp] at Z;rw[m4] at V;rw[←V]
    have hw:∀j,j<ops.length→j≠i→((i<j∧Xof E j=true)∨(j<i∧Xof E j=false))→Wh es j n=none:=fun j hj U b9=>zPl (fun hn=>by
     obtain ⟨_,k2,k3⟩:=d5 es e6 b5 j hj U b9 n hn
     rcases Z with Z|Z
     ·exact k3 Z
     ·exact k2 Z)
    refine zTi _ (Nat.le_of_lt a7) (fun j hj b3 hx=>?_) (fun j hj U=>?_)
    ·have U:j≠i:=(fun e=>by subst e;rw[b0] at hx;cases hx);exact hw j hj U (.inl ⟨by omega,hx⟩)
    ·exact hw j (by omega) (by omega) (.inr ⟨hj,k4 j hj U⟩)
   ·cases V
  have c1:∀j,Xof (E.setIfInBounds i true) j=if j=i then true else Xof E j:=fun j=>by
   simp only[Xof,Array.getD_eq_getD_getElem?,Array.getElem?_setIfInBounds];by_cases e:i=j
   ·subst e;simp[show i<E.size by omega]
   ·simp[e,Ne.symm e]
  have d9:∀(F:List EI),F.length=ops.length→rootsOk ops n0 (accL 0 F [])=true→(∀j,j<ops.length→Xof E j=true→F.getD j default=es.getD j default)→
   Fg (Ws ops F) (Xof (E.setIfInBounds i true)) (lk st0.s) ops.length=apS o.dst (F.getD i default).val (Fg (Ws ops es) (Xof E) (lk st0.s) ops.length)∧
   Fg (Wh F) (Xof (E.setIfInBounds i true)) (lk st0.h) ops.length=apH (F.getD i default).wr (Fg (Wh es) (Xof E) (lk st0.h) ops.length):=fun F m1 i6 d4=>by
   have q1:Fg (Ws ops es) (Xof E) (lk st0.s) ops.length=Fg (Ws ops F) (Xof E) (lk st0.s) ops.length:=zZl1 _ (fun j hj hx=>by funext t;simp only[Ws,d4 j hj hx]);have q2:Fg (Wh es) (Xof E) (lk st0.h) ops.length=Fg (Wh F) (Xof E) (lk st0.h) ops.length:=zZl1 _ (fun j hj hx=>by funext t;simp only[Wh,d4 j hj hx]);rw[q1,q2];refine⟨?_,?_⟩
   ·funext t;have hg:gSlot ops i=o.dst:=by simp[gSlot,ho]
    rw[zZm1 c1 b0 ops.length (fun j hj b3 hx=>by
     by_cases hw:Ws ops F i t=none
     ·exact .inl hw
     ·refine .inr (b8 F j t hj (by omega) (.inl ⟨b3,hx⟩) (.inr ?_))
      simp only[Ws,hg] at hw
      cases hd:o.dst with
      | none=>simp[hd] at hw
      | some d=>
       simp only[hd] at hw
       by_cases e:t=d
       ·rw[e]
       ·rw[if_neg e] at hw;exact absurd rfl hw),if_pos a7]
    simp only[Ws,hg]
    cases hd:o.dst with
    | none=>rfl
    | some d=>
     simp only[apS,upd];by_cases e:t=d
     ·rw[if_pos e,if_pos e]
     ·rw[if_neg e,if_neg e]
   ·funext n
    rw[zZm1 c1 b0 ops.length (fun j hj b3 hx=>by
     by_cases hw:n∈(F.getD i default).wr.map (·.1)
     ·exact .inr (zPl (fun hn=>(d5 F m1 i6 j hj (by omega) (.inl ⟨b3,hx⟩) n hn).1 hw))
     ·exact .inl (zPl hw)),if_pos a7,zTg]
    simp only[Wh]
    cases wlk (F.getD i default).wr n<;>rfl
  have h7:(E.setIfInBounds i true).size=ops.length:=by simpa using c8
  have m8:Dc ops (Xof (E.setIfInBounds i true)):=fun j oj hj hx e he hb=>by
   rw[c1] at hx ⊢;by_cases e1:e.on=i
   ·rw[if_pos e1]
   ·rw[if_neg e1];by_cases e2:j=i
    ·subst e2;rw[ho] at hj;injection hj with hj;subst hj;exact f0 e he hb
    ·rw[if_neg e2] at hx;exact hd j oj hj hx e he hb
  have b9:((List.range ops.length).filter fun l5=>!Xof (E.setIfInBounds i true) l5).length≤a8:=by
   have:=zTc1 (p:=fun j=>!Xof E j) (q:=fun j=>!Xof (E.setIfInBounds i true) j) (i:=i) (fun j hj=>by
    simp only[c1] at hj
    by_cases e:j=i
    ·simp[e] at hj
    ·simpa[e] using hj) (by simp[b0]) (by simp[c1]) (l:=List.range ops.length) (List.mem_range.2 a7)
   omega
  have d6:∀{F:List EI} {st2:St} {g':Gh} {a':Act} {w':World},DRun P Φ N n0 ops ops 0 st0 F st2→rootsOk ops n0 (accL 0 F [])=true→Kf st2→(∀j,j<ops.length→Xof E j=true→F.getD j default=es.getD j default)→
   (∀m,g'.used m→g.used m∨(n0+8*i≤m∧m<n0+8*i+8))→Rel en g' (apS o.dst (F.getD i default).val (Fg (Ws ops es) (Xof E) (lk st0.s) ops.length)) (apH (F.getD i default).wr (Fg (Wh es) (Xof E) (lk st0.h) ops.length)) a' w'→a'.tmps.size=N→
   wpAny P .any ops.toArray Q a8 (E.setIfInBounds i true) a' w':=fun {F st2 g' a' w'} r1 r2 r3 r4 k1 k2 k3=>by
   obtain ⟨b1,b2⟩:=d9 F (DRun.len r1) r2 r4;refine ih (E.setIfInBounds i true) F st2 _ _ _ h7 m8 b9 r1 r2 r3 (by rw[b1,b2];exact k2) (fun m Z=>?_) k3;rcases k1 m Z with Z|Z
   ·rcases hu m Z with Z|⟨j,h1,h2,h3⟩
    ·exact .inl Z
    ·exact .inr ⟨j,h1,by rw[c1];split<;>simp[h2],h3⟩
   ·exact .inr ⟨i,a7,by rw[c1];simp,Z⟩
  have f1:∀t,o.dst=some t→t<N:=fun t V=>by have:=f6.dst;rw[V] at this;exact this
  have j2:∀b,gOk ops J.s o b→Region.wanted o (yielded ops.toArray a.tmps)=b:=fun b hg=>by
   unfold gOk at hg
   cases d0:o.guard with
   | none=>rw[d0] at hg;simp only[] at hg;simp[Region.wanted,d0,hg]
   | some jw=>
    obtain ⟨j,n5⟩:=jw;rw[d0] at hg;obtain ⟨t,V,hg⟩:=hg;have G:t∈lookT ops o:=(by simp[lookT,d0,V]);rcases hg with ⟨b',g5,rfl⟩|⟨ds,g5,rfl⟩
    ·have hv:=g7 t _ (by simp only[resF];rw[if_pos (zGp.2 G)];exact g5);have hy:=zTj h V hv;simp[Region.wanted,d0,hy]
    ·have hv:=g7 t _ (by simp only[resF];rw[if_pos (zGp.2 G)];exact g5);have hy:=zVc h V hv;simp[Region.wanted,d0,hy]
  unfold wpOp;simp only[j0];rcases f6.ei with ⟨hg,e8⟩|⟨hg,e8⟩
  ·rw[if_pos (j2 true hg)];have hold:ei.old=isCallO o.op:=(by rw[e8]);have m0:ei.rd=rdX (lk J.s) (lk J.h) o.op:=(by rw[e8]);rw[j5,hold,m0] at k6;rcases f6.run with ⟨_,_,_,⟨K',n6,i7,f8⟩,_⟩|⟨m7,_⟩
   ·refine .inl (Oper.wp_mono (fun a' w' hq=>?_) (zJa1 hΦ h hN g7 k6 i7 (fun val wr cnt m2 m Z hc=>?_) f1))
    ·obtain ⟨e,n1,n4,g',k1,k2,k3⟩:=hq;rcases zNw j9 with ⟨_,X2,n2,_,g6⟩|⟨m6,_⟩
     ·obtain ⟨i8,f7⟩:=g6 e (n1 X2 n2);have m9:Ag ops (Xof E) i i J J e3 e3:=⟨fun _ _=>rfl,fun _ _ _=>rfl,e0,e0⟩;obtain ⟨F,st2,q1,⟨q2,l1⟩,q3,q4⟩:=par hs hd b0 (fun st acc hk=>hk.1) _ (i+1) _ _ _ _ _ st' tg rfl (by omega) n3 i1 f7 (m9.other ho b0 (Nat.le_refl _) ei ⟨e.val,e.wr,isCallO o.op,rdX (lk J.s) (lk J.h) o.op⟩);obtain ⟨r1,r2⟩:=f9 (⟨e.val,e.wr,isCallO o.op,rdX (lk J.s) (lk J.h) o.op⟩::F) st2 (by rw[g8];exact .cons i8 q1);simp only[List.drop_zero,Nat.sub_zero] at r1 r2;have h6:(es.take i).length=i:=(by rw[List.length_take];omega);have m5:(es.take i++(⟨e.val,e.wr,isCallO o.op,rdX (lk J.s) (lk J.h) o.op⟩:EI)::F).getD i default=⟨e.val,e.wr,isCallO o.op,rdX (lk J.s) (lk J.h) o.op⟩:=(by simp[List.getD,h6]);refine d6 r1 (by rw[r2];exact q2) l1 (fun j hj hx=>?_) (fun m Z=>(k1 m Z).imp id (fun h=>⟨h.1,by have:=f8 _ _ _ n4;omega⟩)) (by rw[m5];exact k2) k3;have o1:j≠i:=(fun e=>by subst e;rw[b0] at hx;cases hx);by_cases G:j<i
      ·simp only[List.getD];rw[List.getElem?_append_left (by omega),List.getElem?_take,if_pos G]
      ·have j4:es[j]?=some es[j]:=List.getElem?_eq_getElem (by omega);have h9:(es.drop (i+1))[j- (i+1)]?=some es[j]:=(by rw[List.getElem?_drop,show i+1+(j- (i+1))=j by omega];exact j4);have h8:=q4 (j- (i+1)) es[j] (by rw[show i+1+(j- (i+1))=j by omega];exact hx) h9;simp only[List.getD];rw[List.getElem?_append_right (by omega),h6,show j-i=(j- (i+1))+1 by omega,List.getElem?_cons_succ,h8,j4]
     ·exact (zOw hg m6).elim
    ·have:=f8 _ _ _ m2;rcases hu m Z with Z|⟨j,h1,h2,h3,h4⟩
     ·omega
     ·have:j=i:=(by omega);subst this;rw[b0] at h2;cases h2
   ·exact (zOw hg m7).elim
  ·rw[if_neg (by rw[j2 false hg];simp)];refine d6 a6 b5 hk (fun j _ _=>rfl) (fun m Z=>.inl Z) ?_ ((zDc _ _ _).trans hN);rw[j5,e8];exact h.putD (fun t V=>by rw[hN];exact f1 t V) DV.undef
end order
end Go.SX
namespace Go.SX
open Go Go.RowKit
variable {en : En} {g : Gh} {S : Nat → Option D} {H : Nat → Option Root} {a : Act} {w : World} {P : Program}
def mapC1 (f:Nat→Nat):C→C
 | .view n sz lo len=>.view (f n) sz lo len
 | .ptr n sz i off=>.ptr (f n) sz i off
 | c=>c
def mapC (f:Nat→Nat):C→C
 | .view n sz lo len=>.view (f n) sz lo len
 | .ptr n sz i off=>.ptr (f n) sz i off
 | .fn k caps=>.fn k (caps.map (mapC1 f))
 | c=>c
def NmC1 (H:Nat→Option Root):C→Prop
 | .view n _ _ _=>(H n).isSome=true
 | .ptr n _ _ _=>(H n).isSome=true
 | .fn _ caps=>caps=[]
 | _=>True
def NmC (H:Nat→Option Root):C→Prop
 | .view n _ _ _=>(H n).isSome=true
 | .ptr n _ _ _=>(H n).isSome=true
 | .fn _ caps=>∀c∈caps,NmC1 H c
 | _=>True
def mapD (f:Nat→Nat):D→D
 | .c x=>.c (mapC f x)
 | .agg xs=>.agg (xs.map (mapC f))
 | d=>d
def NmD (H:Nat→Option Root):D→Prop
 | .c x=>NmC H x
 | .agg xs=>∀x∈xs,NmC H x
 | .tup _=>False
def mapTt (f:Nat→Nat):T→T
 | .lent n sz len=>.lent (f n) sz len
 | t=>t
def NmT (H:Nat→Option Root):T→Prop
 | .lent n _ _=>(H n).isSome=true
 | .own _ rows=>∀r∈rows,∀t∈r,Mv false t
 | _=>True
def mapB (f:Nat→Nat):B→B
 | .t x=>.t (mapTt f x)
 | .v x=>.v (mapC f x)
def NmB (H:Nat→Option Root):B→Prop
 | .t x=>NmT H x
 | .v x=>NmC H x
def mapR (f:Nat→Nat):Root→Root
 | .box cells=>.box (cells.map (mapB f))
 | .arr sz rows=>.arr sz (rows.map (fun r=>r.map (mapTt f)))
def NmR (H:Nat→Option Root):Root→Prop
 | .box cells=>∀x∈cells,NmB H x
 | .arr _ rows=>∀r∈rows,∀t∈r,NmT H t
theorem zCf2 {f:Nat→Nat}{r:Root}{i j:Nat}{x:B}(h:r.get i j=some x):(mapR f r).get i j=some (mapB f x):=by
 cases r with
 | box cells=>cases i<;>simp_all [Root.get,mapR]
 | arr sz rows=>
  simp only[Root.get] at h
  cases hr:rows[i]? with
  | none=>simp[hr] at h
  | some row=>
   simp only[hr,Option.map_eq_some_iff] at h;obtain ⟨y,E,rfl⟩:=h;simp[Root.get,mapR,hr,E,mapB]
theorem zJk2 {r:Root}(hm:NmR H r){i j:Nat}{x:B}(h:r.get i j=some x):NmB H x:=by
 cases r with
 | box cells=>
  cases i with
  | zero=>exact hm x (List.mem_of_getElem? (by simpa[Root.get] using h))
  | succ i=>simp[Root.get] at h
 | arr sz rows=>
  simp only[Root.get] at h
  cases hr:rows[i]? with
  | none=>simp[hr] at h
  | some row=>
   simp only[hr,Option.map_eq_some_iff] at h;obtain ⟨y,E,rfl⟩:=h;exact hm row (List.mem_of_getElem? hr) y (List.mem_of_getElem? E)
open Classical in
noncomputable def Gh.rn (g:Gh)(U:Nat→Prop)(f:Nat→Nat):Gh:=
 {used:=U,rb:=fun n=>g.rb (f n),base:=fun n=>g.base (f n),rc:=fun n=>g.rc (f n),fz:=g.fz
  own:=fun b=>match g.own b with
   | some (m,p)=>if h:∃n,U n∧f n=m then some (Classical.choose h,p) else none
   | none=>none}
theorem Gh.rn_own {U:Nat→Prop}{f:Nat→Nat}(hinj:∀n m,U n→U m→f n=f m→n=m){b n:Nat}{p:Pth}(hn:U n)(h:g.own b=some (f n,p)):(g.rn U f).own b=some (n,p):=by
 have E:∃n',U n'∧f n'=f n:=⟨n,hn,rfl⟩;simp only[Gh.rn,h];rw[dif_pos E];have:=Classical.choose_spec E;rw[hinj _ _ this.1 hn this.2]
theorem Gh.rn_none {U:Nat→Prop}{f:Nat→Nat}{b:Nat}(h:g.own b=none):(g.rn U f).own b=none:=by simp only[Gh.rn,h]
theorem CV.rn1 {U:Nat→Prop}{f:Nat→Nat}(hU:∀n,(H n).isSome=true→U n){c:C}{v:Value}(hn:NmC1 H c)(h:CV g (mapC1 f c) v):CV (g.rn U f) c v:=by
 cases c with
 | im i=>cases h with|im _ _ hi=>exact .im _ _ hi
 | nil=>cases h;exact .nil
 | view n sz lo len=>
  have E:=hU n hn;simp only[mapC1] at h
  cases h with
  | view0 _ _ _ A _=>exact .view0 _ _ _ A E
  | view _ _ _ _ cap _ hb hl hc=>exact CV.view (g:=g.rn U f) n sz lo len cap E hb hl hc
 | ptr n sz i off=>
  simp only[mapC1] at h
  cases h with|ptr _ _ _ _ _=>exact CV.ptr (g:=g.rn U f) n sz i off (hU n hn)
 | iptr row off=>cases h with|iptr _ _ b o vs hx hr=>exact .iptr row off b o vs hx hr
 | fn k caps=>
  simp only[NmC1] at hn;subst hn
  cases h with|fn _ _ vs hs hr=>exact .fn k [] vs hs (fun j x v hj=>by simp at hj)
theorem CV.rn {U:Nat→Prop}{f:Nat→Nat}(hU:∀n,(H n).isSome=true→U n){c:C}{v:Value}(hn:NmC H c)(h:CV g (mapC f c) v):CV (g.rn U f) c v:=by
 cases c with
 | fn k caps=>
  simp only[mapC] at h
  cases h with
  | fn _ _ vs hs hr=>
   refine .fn k caps vs (by simpa using hs) (fun j x v hj E=>?_);exact CV.rn1 hU (hn x (List.mem_of_getElem? hj)) (hr j (mapC1 f x) v (by simp[hj]) E)
 | im i=>exact CV.rn1 (c:=.im i) hU trivial h
 | nil=>exact CV.rn1 (c:=.nil) hU trivial h
 | view n sz lo len=>exact CV.rn1 (c:=.view n sz lo len) hU hn h
 | ptr n sz i off=>exact CV.rn1 (c:=.ptr n sz i off) hU hn h
 | iptr row off=>exact CV.rn1 (c:=.iptr row off) hU trivial h
theorem DV.rn {U:Nat→Prop}{f:Nat→Nat}(hU:∀n,(H n).isSome=true→U n){d:D}{v:Value}(hn:NmD H d)(h:DV g (mapD f d) v):DV (g.rn U f) d v:=by
 cases d with
 | c x=>cases h with|c _ _ hc=>exact .c _ _ (hc.rn hU hn)
 | agg xs=>
  simp only[mapD] at h
  cases h with
  | agg _ vs hs hr=>exact .agg _ _ (by simpa using hs) (fun j x v hj E=>(hr j (mapC f x) v (by simp[hj]) E).rn hU (hn x (List.mem_of_getElem? hj)))
 | tup ds=>exact hn.elim
theorem Rel.rename (h:Rel en g S H a w) (f:Nat→Nat) {S':Nat→Option D} {H':Nat→Option Root} (hp:∀k,en.g0.used k→f k=k)
 (hinj:∀n m r r',H' n=some r→H' m=some r'→f n=f m→n=m) (hinjp:∀n r k,H' n=some r→en.g0.used k→f n=k→n=k)
 (hs:∀t d,S' t=some d→S t=some (mapD f d)∧NmD H' d)
 (hh:∀n r,H' n=some r→(H (f n)=some r∧MvR false r)∨(H (f n)=some (mapR f r)∧NmR H' r)):
 ∃g',(∀m,g'.used m→en.g0.used m∨∃r,H' m=some r)∧Rel en g' S' H' a w:=by
 let U:Nat→Prop:=fun m=>en.g0.used m∨∃r,H' m=some r
 have hU:∀n,(H' n).isSome=true→U n:=fun n E=>.inr (Option.isSome_iff_exists.1 E)
 have hi:∀n m,U n→U m→f n=f m→n=m:=by
  rintro n m (E|⟨r,E⟩) (V|⟨r',V⟩) e
  ·rw[hp n E,hp m V] at e;exact e
  ·rw[hp n E] at e;exact (hinjp m r' n V E e.symm).symm
  ·rw[hp m V] at e;exact hinjp n r m E V e
  ·exact hinj n m r r' E V e
 refine⟨g.rn U f,fun m V=>V,⟨⟨h.fr.laid,h.fr.os,h.fr.tape,h.fr.output,h.fr.size,⟨fun n E=>.inl E,fun n E=>?_,fun n E=>?_,fun n E=>?_,h.fr.gle.fz⟩,fun b hb ho=>?_,fun b k hb=>?_,h.fr.fzn⟩,h.df,fun b x hx=>?_,fun b o v hv=>?_,fun t d J=>?_,fun n r E=>?_,fun n r b E hb=>?_⟩⟩
 ·simp only[Gh.rn];rw[hp n E];exact h.fr.gle.rb n E
 ·simp only[Gh.rn];rw[hp n E];exact h.fr.gle.base n E
 ·simp only[Gh.rn];rw[hp n E];exact h.fr.gle.rc n E
 ·obtain ⟨h1,h2⟩:=h.fr.old b hb ho;exact⟨Gh.rn_none h1,h2⟩
 ·obtain ⟨h0,h1,h2⟩:=h.fr.place b k hb;exact⟨h0,Gh.rn_own hi (.inl h0) (by rw[hp k h0];exact h1),h2⟩
 ·cases ho:g.own b with
  | none=>rw[Gh.rn_none ho] at hx;cases hx
  | some y=>exact h.lt b y ho
 ·obtain ⟨h1,h2⟩:=h.fz b o v hv;exact⟨h1,Gh.rn_none h2⟩
 ·obtain ⟨h1,h2⟩:=hs t d J;obtain ⟨v,hv,hd⟩:=h.slots t _ h1;exact⟨v,hv,hd.rn hU h2⟩
 ·have F:U n:=.inr ⟨r,E⟩;refine⟨F,?_⟩;rcases hh n r E with ⟨h1,h2⟩|⟨h1,h2⟩
  ·exact RootR.mv (g:=g) (n:=f n) (g':=g.rn U f) h2 (fun _ _ _ _ h=>h) rfl rfl rfl (h.roots _ _ h1).2 (fun ho=>Gh.rn_own hi F ho) (fun b x p ho=>Gh.rn_own hi F ho)
  ·obtain ⟨hu,hR⟩:=h.roots _ _ h1;generalize G:mapR f r=r' at hR
   cases hR with
   | mk _ cs e hh' ho hf hr=>
    subst G;have b0:(mapR f r).sz=r.sz:=(by cases r<;>rfl);refine .mk r cs e hh' (Gh.rn_own hi F ho) ?_ (fun i j x hx=>?_)
    ·cases r with
     | box cells=>exact trivial
     | arr sz rows=>
      obtain ⟨f1,f2,f3,f4⟩:=hf;refine⟨f1,f2,by simp at f3;exact f3,fun i r b1=>?_⟩;have:=f4 i (r.map (mapTt f)) (by simp[b1]);simpa using this
    ·obtain ⟨v,hv,hb⟩:=hr i j _ (zCf2 hx);rw[b0] at hv;refine⟨v,hv,?_⟩;have Z:=zJk2 h2 hx
     cases x with
     | t x=>
      simp only[mapB] at hb;refine .t _ _ ?_
      cases hb with
      | t _ _ J=>
       cases x with
       | im i=>cases J with|im _ _ _ hi'=>exact .im _ _ _ hi'
       | nil=>cases J;exact .nil _
       | dead=>exact .dead _ _
       | own sz rows=>
        simp only[mapTt] at J;exact TR.mv (g:=g) (g':=g.rn U f) (n:=f n) (.own sz rows Z) (fun _ _ _ _ h=>h) J (fun b p b2=>Gh.rn_own hi F b2)
       | lent m sz len=>
        simp only[mapTt] at J
        cases J with|lent _ _ _ _ _ hc=>exact .lent _ _ _ _ _ (CV.rn (c:=.view m sz 0 len) hU Z hc)
     | v x=>
      simp only[mapB] at hb
      cases hb with|v _ _ hc=>exact .v _ _ (hc.rn hU Z)
   | arr0 sz hs0 hc=>
    cases r with
    | box cells=>simp[mapR] at G
    | arr sz' rows=>
     simp only[mapR,Root.arr.injEq,List.map_eq_nil_iff] at G;obtain ⟨rfl,rfl⟩:=G;exact .arr0 _ hs0 hc
 ·have h0:=(h.fr.place b n hb).1;have a7:=hp n h0;rcases hh n r E with ⟨h1,h2⟩|⟨h1,h2⟩
  ·rw[a7] at h1;exact h.wd n r b h1 hb
  ·rw[a7] at h1;obtain ⟨c,hc,hl⟩:=h.wd n _ b h1 hb
   cases r with
   | box cells=>simp only[mapR,Root.box.injEq] at hc;subst hc;exact⟨cells,rfl,by simpa using hl⟩
   | arr sz rows=>simp[mapR] at hc
end Go.SX
namespace Go.SX
open Go Go.RowKit
variable {en : En} {g : Gh} {S : Nat → Option D} {H : Nat → Option Root} {a : Act} {w : World} {P : Program}
def rho:List (Nat×Option Root)→List Nat→Nat→Nat
 | (k,_)::h,m::ρ,n=>if n=k then m else rho h ρ n
 | _,_,n=>n
def reF (pn:Nat)(h:List (Nat×Option Root))(ρ:List Nat):Nat→Nat:=fun n=>if n<pn then n else rho h ρ n
def sOk (S:Nat→Option D)(H':Nat→Option Root)(f:Nat→Nat):List (Nat×Option D)→Prop
 | []=>True
 | (_,none)::r=>sOk S H' f r
 | (t,some d)::r=>S t=some (mapD f d)∧NmD H' d∧sOk S H' f r
def hOk (H H':Nat→Option Root)(f:Nat→Nat):List (Nat×Option Root)→Prop
 | []=>True
 | (_,none)::r=>hOk H H' f r
 | (n,some x)::r=>((H (f n)=some x∧MvR false x)∨(H (f n)=some (mapR f x)∧NmR H' x))∧hOk H H' f r
def nms:List (Nat×Option Root)→List Nat
 | []=>[]
 | (_,none)::r=>nms r
 | (n,some _)::r=>n::nms r
def subOk (pn:Nat)(st st':St)(ρ:List Nat):Prop:=
 sOk (lk st.s) (lk st'.h) (reF pn st'.h ρ) st'.s∧hOk (lk st.h) (lk st'.h) (reF pn st'.h ρ) st'.h∧((nms st'.h).map (reF pn st'.h ρ)).Nodup∧(∀n∈nms st'.h,pn≤n→pn≤reF pn st'.h ρ n)∧pn≤st'.n∧(∀n∈nms st'.h,n<st'.n)
inductive Fl where
 | s (t:Nat)
 | a (t j:Nat)
 | b (m i j:Nat)
def frC (o:Option Nat)(sz len:Nat)(is:List (List I)):C→Option C
 | .view n' sz' lo l=>match o with
  | some n=>if n'=n∧sz'=sz∧lo=0∧l=len then some (.im (.sl sz is)) else none
  | none=>none
 | .nil=>match o with
  | none=>some (.im (.sl sz []))
  | some _=>none
 | _=>none
def frT (o:Option Nat)(sz len:Nat)(is:List (List I)):T→Option T
 | .lent n' sz' l=>match o with
  | some n=>if n'=n∧sz'=sz∧l=len then some (.im (.sl sz is)) else none
  | none=>none
 | .nil=>match o with
  | none=>some (.im (.sl sz []))
  | some _=>none
 | _=>none
def frzLs (o:Option Nat)(sz len:Nat)(is:List (List I)):List Fl→St→Option St
 | [],st=>some st
 | .s t::ls,st=>match lk st.s t with
  | some (.c c)=>match frC o sz len is c with
   | some c'=>frzLs o sz len is ls ⟨(t,some (.c c'))::st.s,st.h,st.n⟩
   | none=>none
  | _=>none
 | .a t j::ls,st=>match lk st.s t with
  | some (.agg cs)=>match cs[j]? with
   | some c=>match frC o sz len is c with
    | some c'=>frzLs o sz len is ls ⟨(t,some (.agg (cs.set j c')))::st.s,st.h,st.n⟩
    | none=>none
   | none=>none
  | _=>none
 | .b m i j::ls,st=>match lk st.h m with
  | some r=>match r.get i j with
   | some (.t x)=>match frT o sz len is x with
    | some x'=>frzLs o sz len is ls ⟨st.s,ins m (some (r.setT i j x')) st.h,st.n⟩
    | none=>none
   | _=>none
  | none=>none
inductive Wk where
 | fold (n i j:Nat)
 | nilT (n i j sz:Nat)
 | nilS (t sz:Nat)
 | unf (n i j:Nat)
 | nilA (t j sz:Nat)
 | frz (n:Nat) (ls:List Fl)
 | nilI (sz:Nat) (ls:List Fl)
 | frzB (n:Nat) (ts:List Nat)
 | trn (n k:Nat)
def frzPs (n:Nat)(row:List I):List Nat→St→Option St
 | [],st=>some st
 | t::ts,st=>match lk st.s t with
  | some (.c (.ptr n' _ i off))=>if n'=n∧i=0 then frzPs n row ts ⟨(t,some (.c (.iptr row off)))::st.s,st.h,st.n⟩ else none
  | _=>none
def wk1 (pn:Nat)(st:St):Wk→Option St
 | .fold n i j=>match lk st.h n with
  | some r=>match r.get i j with
   | some (.t (.lent m sz len))=>match lk st.h m with
    | some (.arr sz' rows)=>if sz'=sz∧rows.length=len∧m≠n∧pn≤m then some ⟨st.s,ins n (some (r.setT i j (.own sz rows))) (ins m none st.h),st.n⟩ else none
    | _=>none
   | _=>none
  | none=>none
 | .nilT n i j sz=>match lk st.h n with
  | some r=>match r.get i j with
   | some (.t .nil)=>some ⟨st.s,ins n (some (r.setT i j (.own sz []))) st.h,st.n⟩
   | _=>none
  | none=>none
 | .nilS t sz=>match lk st.s t with
  | some (.c .nil)=>if 0<sz∧pn≤st.n then some ⟨(t,some (.c (.view st.n sz 0 0)))::st.s,ins st.n (some (.arr sz [])) st.h,st.n+1⟩ else none
  | _=>none
 | .unf n i j=>match lk st.h n with
  | some r=>match r.get i j with
   | some (.t (.own sz rows))=>if 0<sz then some ⟨st.s,ins st.n (some (.arr sz rows)) (ins n (some (r.setT i j (.lent st.n sz rows.length))) st.h),st.n+1⟩ else none
   | _=>none
  | none=>none
 | .nilA t j sz=>match lk st.s t with
  | some (.agg cs)=>match cs[j]? with
   | some .nil=>if 0<sz then some ⟨(t,some (.agg (cs.set j (.view st.n sz 0 0))))::st.s,ins st.n (some (.arr sz [])) st.h,st.n+1⟩ else none
   | _=>none
  | _=>none
 | .frz n ls=>match lk st.h n with
  | some (.arr sz rows)=>match mapO (mapO imT) rows with
   | some is=>frzLs (some n) sz rows.length is ls ⟨st.s,ins n none st.h,st.n⟩
   | none=>none
  | _=>none
 | .nilI sz ls=>frzLs none sz 0 [] ls st
 | .frzB n ts=>match lk st.h n with
  | some (.box cells)=>if pn≤n then match mapO boxI cells with
   | some row=>frzPs n row ts ⟨st.s,ins n none st.h,st.n⟩
   | none=>none
   else none
  | _=>none
 | .trn n k=>match lk st.h n with
  | some (.arr sz rows)=>some ⟨st.s,ins n (some (.arr sz (rows.take k))) st.h,st.n⟩
  | _=>none
def folds (pn:Nat):List Wk→St→Option St
 | [],st=>some st
 | f::fs,st=>match wk1 pn st f with
  | some st'=>folds pn fs st'
  | none=>none
def subF (pn:Nat)(st st':St)(fs:List Wk)(ρ:List Nat):Prop:=match folds pn fs st with
 | some st1=>subOk pn st1 st' ρ
 | none=>False
def Sub (pn:Nat)(st st':St):Prop:=∃fs ρ,subF pn st st' fs ρ
theorem Rel.nilT (h:Rel en g S H a w){n i j sz:Nat}{r:Root}(hn:H n=some r)(hc:r.get i j=some (.t .nil)):Rel en g S (upd H n (some (r.setT i j (.own sz [])))) a w:=by
 refine⟨h.fr,h.df,h.lt,h.fz,h.slots,fun k F E=>?_,fun k F b E hb=>?_⟩
 ·unfold upd at E;by_cases e:k=n
  ·subst e;rw[if_pos rfl] at E;injection E with E;subst E;obtain ⟨V,hR⟩:=h.roots k r hn;refine⟨V,?_⟩
   cases hR with
   | mk r cs e hh ho hf hr=>
    refine .mk _ cs e hh ho (Root.setT_form i j _ hf) (fun J G x hx=>?_);rw[Root.setT_sz];rw[Root.setT_get _ hc] at hx;split at hx
    ·rename_i Z;obtain ⟨rfl,rfl⟩:=Z;injection hx with hx;subst hx;obtain ⟨v,U,hb⟩:=hr J G _ hc;refine⟨v,U,.t _ _ ?_⟩
     cases hb with
     | t _ _ ht=>cases ht;exact .own0 _ _ _
    ·exact hr J G x hx
   | arr0 sz hs hc0=>simp[Root.get] at hc
  ·rw[if_neg e] at E;exact h.roots k F E
 ·unfold upd at E;by_cases e:k=n
  ·subst e;rw[if_pos rfl] at E;injection E with E;subst E;obtain ⟨c0,rfl,hl⟩:=h.wd k r b hn hb;obtain ⟨c1,h1,h2⟩:=Root.setT_box c0 i j (.own sz []);exact⟨c1,h1,by rw[h2];exact hl⟩
  ·rw[if_neg e] at E;exact h.wd k F b E hb
theorem Rel.cellT (h:Rel en g S H a w){n i j:Nat}{r:Root}{x x':T}(hn:H n=some r)(hc:r.get i j=some (.t x))(hx0:∀v,TR w g n [(i,j)] x v→TR w g n [(i,j)] x' v):Rel en g S (upd H n (some (r.setT i j x'))) a w:=by
 refine⟨h.fr,h.df,h.lt,h.fz,h.slots,fun k F E=>?_,fun k F b E hb=>?_⟩
 ·unfold upd at E;by_cases e:k=n
  ·subst e;rw[if_pos rfl] at E;injection E with E;subst E;obtain ⟨V,hR⟩:=h.roots k r hn;refine⟨V,?_⟩
   cases hR with
   | mk r cs e hh ho hf hr=>
    refine .mk _ cs e hh ho (Root.setT_form i j _ hf) (fun J G x hx=>?_);rw[Root.setT_sz];rw[Root.setT_get _ hc] at hx;split at hx
    ·rename_i Z;obtain ⟨rfl,rfl⟩:=Z;injection hx with hx;subst hx;obtain ⟨v,U,hb⟩:=hr J G _ hc;refine⟨v,U,.t _ _ ?_⟩
     cases hb with
     | t _ _ ht=>exact hx0 v ht
    ·exact hr J G x hx
   | arr0 sz hs hc0=>simp[Root.get] at hc
  ·rw[if_neg e] at E;exact h.roots k F E
 ·unfold upd at E;by_cases e:k=n
  ·subst e;rw[if_pos rfl] at E;injection E with E;subst E;obtain ⟨c0,rfl,hl⟩:=h.wd k r b hn hb;obtain ⟨c1,h1,h2⟩:=Root.setT_box c0 i j x';exact⟨c1,h1,by rw[h2];exact hl⟩
  ·rw[if_neg e] at E;exact h.wd k F b E hb
def frO (g:Gh)(o:Option Nat)(sz len:Nat)(is:List (List I)):Prop:=match o with
 | some n=>∀v,CV g (.view n sz 0 len) v→CV g (.im (.sl sz is)) v
 | none=>True
theorem zKg1 {o:Option Nat}{sz len:Nat}{is:List (List I)}(h:frO g o sz len is){c c':C}(hc:frC o sz len is c=some c'){v:Value}(hv:CV g c v):CV g c' v:=by
 cases c with
 | view n' sz' lo l=>
  cases o with
  | none=>simp[frC] at hc
  | some n=>
   simp only[frC] at hc;split at hc
   ·rename_i e;obtain ⟨rfl,rfl,rfl,rfl⟩:=e;injection hc with hc;subst hc;exact h v hv
   ·cases hc
 | nil=>
  cases o with
  | some n=>simp[frC] at hc
  | none=>
   simp only[frC,yaC] at hc;subst hc
   cases hv
   exact .im _ _ (.sl0 _ _ _)
 | im i=>simp[frC] at hc
 | ptr _ _ _ _=>simp[frC] at hc
 | iptr _ _=>simp[frC] at hc
 | fn _ _=>simp[frC] at hc
theorem zXz1 {o:Option Nat}{sz len:Nat}{is:List (List I)}(h:frO g o sz len is){x x':T}(hc:frT o sz len is x=some x'){n:Nat}{q:Pth}{v:Value}(hv:TR w g n q x v):TR w g n q x' v:=by
 cases x with
 | lent n' sz' l=>
  cases o with
  | none=>simp[frT] at hc
  | some n0=>
   simp only[frT] at hc;split at hc
   ·rename_i e;obtain ⟨rfl,rfl,rfl⟩:=e;injection hc with hc;subst hc
    cases hv with
    | lent _ _ _ _ _ hv=>cases h v hv with|im _ _ hi=>exact .im _ _ _ hi
   ·cases hc
 | nil=>
  cases o with
  | some n0=>simp[frT] at hc
  | none=>
   simp only[frT,yaC] at hc;subst hc
   cases hv
   exact .im _ _ _ (.sl0 _ _ _)
 | im i=>simp[frT] at hc
 | dead=>simp[frT] at hc
 | own _ _=>simp[frT] at hc
theorem zId {o:Option Nat}{sz len:Nat}{is:List (List I)}(hO:frO g o sz len is):∀{ls:List Fl} {st st':St},Rel en g (lk st.s) (lk st.h) a w→frzLs o sz len is ls st=some st'→Rel en g (lk st'.s) (lk st'.h) a w∧st'.n=st.n
 | [],st,st',hR,hf=>by simp only[frzLs,yaC] at hf;subst hf;exact⟨hR,rfl⟩
 | .s t::ls,st,st',hR,hf=>by
  simp only[frzLs] at hf;split at hf
  ·rename_i c U;split at hf
   ·rename_i Z hc;refine zId hO (ls:=ls) (st:=⟨(t,some (.c Z))::st.s,st.h,st.n⟩) ?_ hf;simp only[];rw[zMh];refine hR.moreS (fun F d hd=>?_);simp only[upd] at hd;split at hd
    ·rename_i e;subst e;injection hd with hd;subst hd;obtain ⟨v,J,E⟩:=hR.slots F _ U;refine⟨v,J,?_⟩
     cases E with|c _ _ h=>exact .c _ _ (zKg1 hO hc h)
    ·exact hR.slots F d hd
   ·cases hf
  ·cases hf
 | .a t j::ls,st,st',hR,hf=>by
  simp only[frzLs] at hf;split at hf
  ·rename_i cs U;split at hf
   ·rename_i c hj;split at hf
    ·rename_i Z hc;refine zId hO (ls:=ls) (st:=⟨(t,some (.agg (cs.set j Z)))::st.s,st.h,st.n⟩) ?_ hf;simp only[];rw[zMh];refine hR.moreS (fun F d hd=>?_);simp only[upd] at hd;split at hd
     ·rename_i e;subst e;injection hd with hd;subst hd;obtain ⟨v,J,E⟩:=hR.slots F _ U;refine⟨v,J,?_⟩
      cases E with
      | agg _ vs hsz hr=>
       refine .agg _ vs (by simp[hsz]) (fun j' x v' hx G=>?_);by_cases e:j=j'
       ·subst e;have V:j<cs.length:=(List.getElem?_eq_some_iff.1 hj).1;rw[List.getElem?_set_self V] at hx;injection hx with hx;subst hx;exact zKg1 hO hc (hr j _ v' hj G)
       ·rw[List.getElem?_set_ne e] at hx;exact hr j' x v' hx G
     ·exact hR.slots F d hd
    ·cases hf
   ·cases hf
  ·cases hf
 | .b m i j::ls,st,st',hR,hf=>by
  simp only[frzLs] at hf;split at hf
  ·rename_i r hm;split at hf
   ·rename_i x hx;split at hf
    ·rename_i x' hc;refine zId hO (ls:=ls) (st:=⟨st.s,ins m (some (r.setT i j x')) st.h,st.n⟩) ?_ hf;simp only[];rw[zJt];exact hR.cellT hm hx (fun v J=>zXz1 hO hc J)
    ·cases hf
   ·cases hf
  ·cases hf
theorem zYp {n:Nat}{row:List I}(hP:∀sz off v,CV g (.ptr n sz 0 off) v→CV g (.iptr row off) v):∀{ts:List Nat} {st st':St},Rel en g (lk st.s) (lk st.h) a w→frzPs n row ts st=some st'→Rel en g (lk st'.s) (lk st'.h) a w∧st'.n=st.n
 | [],st,st',hR,hf=>by simp only[frzPs,yaC] at hf;subst hf;exact⟨hR,rfl⟩
 | t::ts,st,st',hR,hf=>by
  simp only[frzPs] at hf;split at hf
  ·rename_i U sz i off J;split at hf
   ·rename_i hc;obtain ⟨rfl,rfl⟩:=hc;refine zYp hP (ts:=ts) (st:=⟨(t,some (.c (.iptr row off)))::st.s,st.h,st.n⟩) ?_ hf;simp only[];rw[zMh];obtain ⟨v0,E,F⟩:=hR.slots t _ J;refine⟨hR.fr,hR.df,hR.lt,hR.fz,fun G d hd=>?_,hR.roots,hR.wd⟩;simp only[upd] at hd;split at hd
    ·rename_i e;injection hd with hd;subst hd;subst e;exact⟨v0,E,by cases F with|c _ _ hc=>exact .c _ _ (hP _ _ _ hc)⟩
    ·exact hR.slots G d hd
   ·cases hf
  ·cases hf
theorem _root_.List.mem_of_take_at {α:Type}{l:List α}{k i:Nat}{x:α}(h:(l.take k)[i]?=some x):l[i]?=some x:=by
 rw[List.getElem?_take] at h;split at h
 ·exact h
 ·cases h
theorem Rel.trn (h:Rel en g S H a w){n sz:Nat}{rows:List (List T)}(hn:H n=some (.arr sz rows))(k:Nat):Rel en g S (upd H n (some (.arr sz (rows.take k)))) a w:=by
 refine⟨h.fr,h.df,h.lt,h.fz,h.slots,fun m r E=>?_,fun m r b E hb=>?_⟩
 ·unfold upd at E;split at E
  ·rename_i e;subst e;injection E with E;subst E;obtain ⟨h1,h2⟩:=h.roots _ _ hn;refine⟨h1,?_⟩
   cases h2 with
   | arr0 _ hs hc=>rw[List.take_nil];exact .arr0 sz hs hc
   | mk _ cs e hh ho hf hr=>
    obtain ⟨V,U,J,G⟩:=hf;refine .mk _ cs e hh ho ⟨V,U,Nat.le_trans (Nat.mul_le_mul_right _ (by rw[List.length_take];omega)) J,fun i r hi=>G i r (List.mem_of_take_at hi)⟩ (fun i j x hx=>hr i j x ?_);simp only[Root.get] at hx ⊢;split at hx
    ·rename_i r0 F;rw[List.mem_of_take_at F];exact hx
    ·cases hx
  ·exact h.roots m r E
 ·unfold upd at E;split at E
  ·rename_i e;subst e;obtain ⟨c,hc,_⟩:=h.wd _ _ b hn hb
   cases hc
  ·exact h.wd m r b E hb
theorem zTj1 {N pn:Nat}(hpn:∀n,en.g0.used n→n<pn){st st':St}{f:Wk}(U:RelS en N st a w)(hf:wk1 pn st f=some st'):RelS en N st' a w:=by
 obtain ⟨g,J,U,hN⟩:=U
 cases f with
 | fold n i j=>
  simp only[wk1] at hf;split at hf
  ·rename_i r hr;split at hf
   ·rename_i m sz len hc;split at hf
    ·rename_i d4 rows E;split at hf
     ·rename_i b2;obtain ⟨rfl,rfl,c1,hp⟩:=b2;injection hf with hf;subst hf;have:=U.fold hr E c1 hc;refine⟨g.into m n [(i,j)],J,?_,hN⟩;simp only[];rw[zJt,zJt];exact this
     ·cases hf
    ·cases hf
   ·cases hf
  ·cases hf
 | nilT n i j sz=>
  simp only[wk1] at hf;split at hf
  ·rename_i r hr;split at hf
   ·rename_i hc;injection hf with hf;subst hf;refine⟨g,J,?_,hN⟩;simp only[];rw[zJt];exact U.nilT hr hc
   ·cases hf
  ·cases hf
 | nilS t sz=>
  simp only[wk1] at hf;split at hf
  ·rename_i ht;split at hf
   ·rename_i b2;injection hf with hf;subst hf;have Z:¬g.used st.n:=(fun E=>by have:=J _ E;omega);obtain ⟨g',k1,V,k3,G⟩:=U.new0 Z b2.1 st.n;refine⟨g',fun m E=>?_,?_,hN⟩
    ·rcases k3 m E with e|E
     ·simp only[];omega
     ·have:=J m E;simp only[];omega
    ·simp only[];rw[zJt,zMh];have e1:upd (upd (lk st.h) st.n none) st.n (some (.arr sz []))=upd (lk st.h) st.n (some (.arr sz [])):=(by funext m;simp only[upd];split<;>rfl);rw[e1] at G;refine G.moreS (fun t' d hd=>?_);simp only[upd] at hd;split at hd
     ·rename_i e;subst e;injection hd with hd;subst hd;obtain ⟨v,hv,b1⟩:=G.slots t' _ ht;refine⟨v,hv,.c _ _ ?_⟩
      cases b1 with|c _ _ hc=>cases hc;exact .view0 _ _ _ _ V
     ·exact G.slots t' d hd
   ·cases hf
  ·cases hf
 | unf n i j=>
  simp only[wk1] at hf;split at hf
  ·rename_i r hr;split at hf
   ·rename_i sz rows hc;split at hf
    ·rename_i hs;injection hf with hf;subst hf;have Z:¬g.used st.n:=(fun E=>by have:=J _ E;omega);obtain ⟨g',k1,V,k3,G⟩:=U.hoist hr Z hs hc;refine⟨g',fun m E=>?_,?_,hN⟩
     ·rcases k3 m E with e|E
      ·simp only[];omega
      ·have:=J m E;simp only[];omega
     ·simp only[];rw[zJt,zJt];exact G
    ·cases hf
   ·cases hf
  ·cases hf
 | nilA t j sz=>
  simp only[wk1] at hf;split at hf
  ·rename_i cs ht;split at hf
   ·rename_i hj;split at hf
    ·rename_i hs;injection hf with hf;subst hf;have Z:¬g.used st.n:=(fun E=>by have:=J _ E;omega);obtain ⟨g',k1,V,k3,G⟩:=U.new0 Z hs st.n;refine⟨g',fun m E=>?_,?_,hN⟩
     ·rcases k3 m E with e|E
      ·simp only[];omega
      ·have:=J m E;simp only[];omega
     ·simp only[];rw[zJt,zMh];have e1:upd (upd (lk st.h) st.n none) st.n (some (.arr sz []))=upd (lk st.h) st.n (some (.arr sz [])):=(by funext m;simp only[upd];split<;>rfl);rw[e1] at G;refine G.moreS (fun t' d hd=>?_);simp only[upd] at hd;split at hd
      ·rename_i e;subst e;injection hd with hd;subst hd;obtain ⟨v,hv,b1⟩:=G.slots t' _ ht;refine⟨v,hv,?_⟩
       cases b1 with
       | agg _ vs hsz hr=>
        refine .agg _ vs (by simp[hsz]) (fun j' x v' hx b7=>?_);by_cases e:j=j'
        ·subst e;have c6:j<cs.length:=(List.getElem?_eq_some_iff.1 hj).1;rw[List.getElem?_set_self c6] at hx;injection hx with hx;subst hx;have hc:=hr j _ v' hj b7
         cases hc
         exact .view0 _ _ _ _ V
        ·rw[List.getElem?_set_ne e] at hx;exact hr j' x v' hx b7
      ·exact G.slots t' d hd
    ·cases hf
   ·cases hf
  ·cases hf
 | frz n ls=>
  simp only[wk1] at hf;split at hf
  ·rename_i sz rows hr;split at hf
   ·rename_i is c7;obtain ⟨g',k1,V,k3,G⟩:=U.frz hr c7;generalize rows.length=L at G hf
    have hO:frO g' (some n) sz L is:=fun v hv=>by
     refine G v ?_
     cases hv with
     | view0 _ _ _ A hu'=>exact .view0 _ _ _ A (by rw[←V];exact hu')
     | view _ _ _ _ cap hu' hb hl hc=>
      have F:g.used n:=(by rw[←V];exact hu');rw[k1.base n F] at hb;rw[k1.rc n F] at hc;rw[k1.rb n F];exact .view _ _ _ _ cap F hb hl hc
    have b3:Rel en g' (lk st.s) (lk (ins n none st.h)) a w:=(by rw[zJt];exact k3);obtain ⟨q1,q2⟩:=zId (st:=⟨st.s,ins n none st.h,st.n⟩) hO b3 hf;exact⟨g',fun m E=>by rw[q2];exact J m (by rw[←V];exact E),q1,hN⟩
   ·cases hf
  ·cases hf
 | nilI sz ls=>
  simp only[wk1] at hf;obtain ⟨q1,q2⟩:=zId (o:=none) (g:=g) trivial U hf;exact⟨g,fun m E=>by rw[q2];exact J m E,q1,hN⟩
 | frzB n ts=>
  simp only[wk1] at hf;split at hf
  ·rename_i cells hr;split at hf
   ·rename_i d3;split at hf
    ·rename_i row b8
     obtain ⟨g',k1,V,k3,G⟩:=U.frzBox hr (fun b' c8=>by
      have:=hpn _ (U.fr.place b' n c8).1
      omega) b8
     have b3:Rel en g' (lk st.s) (lk (ins n none st.h)) a w:=(by rw[zJt];exact k3)
     have hP:∀sz off v,CV g' (.ptr n sz 0 off) v→CV g' (.iptr row off) v:=fun sz off v hv=>by
      refine G sz off v ?_
      cases hv with
      | ptr _ _ _ _ hu'=>
       have F:g.used n:=(by rw[←V];exact hu');rw[k1.base n F,k1.rb n F];exact .ptr _ _ _ _ F
     obtain ⟨q1,q2⟩:=zYp hP b3 hf;exact⟨g',fun m E=>by rw[q2];exact J m (by rw[←V];exact E),q1,hN⟩
    ·cases hf
   ·cases hf
  ·cases hf
 | trn n k=>
  simp only[wk1] at hf;split at hf
  ·rename_i sz rows hr;injection hf with hf;subst hf;refine⟨g,J,?_,hN⟩;simp only[];rw[zJt];exact U.trn hr k
  ·cases hf
theorem zKu {N pn:Nat}(hpn:∀n,en.g0.used n→n<pn):∀{fs:List Wk} {st st':St},RelS en N st a w→folds pn fs st=some st'→RelS en N st' a w
 | [],st,st',hR,hf=>by simp only[folds,yaC] at hf;subst hf;exact hR
 | f::fs,st,st',hR,hf=>by
  simp only[folds] at hf;split at hf
  ·rename_i F E;exact zKu hpn (zTj1 hpn hR E) hf
  ·cases hf
theorem zXq {α:Type}:∀{l:List (Nat×Option α)} {t:Nat} {d:α},lk l t=some d→(t,some d)∈l
 | [],t,d,h=>by cases h
 | (k,x)::r,t,d,h=>by
  simp only[lk] at h;split at h
  ·rename_i e;subst e;subst h;exact .head _
  ·exact .tail _ (zXq h)
theorem zUa1 {H':Nat→Option Root}{f:Nat→Nat}:∀{l:List (Nat×Option D)} {t:Nat} {d:D},sOk S H' f l→(t,some d)∈l→S t=some (mapD f d)∧NmD H' d
 | (k,none)::r,t,d,h,E=>by
  rcases List.mem_cons.1 E with e|E
  ·cases e
  ·exact zUa1 (l:=r) h E
 | (k,some x)::r,t,d,h,E=>by
  rcases List.mem_cons.1 E with e|E
  ·cases e;exact⟨h.1,h.2.1⟩
  ·exact zUa1 (l:=r) h.2.2 E
theorem zXw1 {H':Nat→Option Root}{f:Nat→Nat}:∀{l:List (Nat×Option Root)} {t:Nat} {d:Root},hOk H H' f l→(t,some d)∈l→(H (f t)=some d∧MvR false d)∨(H (f t)=some (mapR f d)∧NmR H' d)
 | (k,none)::r,t,d,h,E=>by
  rcases List.mem_cons.1 E with e|E
  ·cases e
  ·exact zXw1 (l:=r) h E
 | (k,some x)::r,t,d,h,E=>by
  rcases List.mem_cons.1 E with e|E
  ·cases e;exact h.1
  ·exact zXw1 (l:=r) h.2 E
theorem zCj1:∀{l:List (Nat×Option Root)} {t:Nat} {d:Root},(t,some d)∈l→t∈nms l
 | (k,none)::r,t,d,E=>by
  rcases List.mem_cons.1 E with e|E
  ·cases e
  ·exact zCj1 (l:=r) E
 | (k,some x)::r,t,d,E=>by
  rcases List.mem_cons.1 E with e|E
  ·cases e;exact .head _
  ·exact .tail _ (zCj1 (l:=r) E)
theorem zJd1 {f:Nat→Nat}:∀{l:List Nat} {n m:Nat},(l.map f).Nodup→n∈l→m∈l→f n=f m→n=m
 | x::l,n,m,hd,F,E,e=>by
  simp only[List.map_cons,List.nodup_cons] at hd;rcases List.mem_cons.1 F with F|F
  ·rcases List.mem_cons.1 E with E|E
   ·rw[F,E]
   ·rw[F] at e;exact absurd (List.mem_map.2 ⟨m,E,e.symm⟩) hd.1
  ·rcases List.mem_cons.1 E with E|E
   ·rw[E] at e;exact absurd (List.mem_map.2 ⟨n,F,e⟩) hd.1
   ·exact zJd1 hd.2 F E e
theorem RelS.sub {N pn:Nat}{st st':St}(hpn:∀n,en.g0.used n→n<pn)(h:RelS en N st a w)(hs:Sub pn st st'):RelS en N st' a w:=by
 obtain ⟨fs,ρ,hs⟩:=hs;unfold subF at hs;split at hs;rotate_left
 ·exact hs.elim
 rename_i Z V;obtain ⟨g,hu,hR,hN⟩:=zKu hpn h V;obtain ⟨h1,h2,h3,h4,h5,h6⟩:=hs;have F:∀n,n<pn→reF pn st'.h ρ n=n:=fun n E=>by simp only[reF];rw[if_pos E]
 obtain ⟨g',k1,k2⟩:=hR.rename (reF pn st'.h ρ) (S':=lk st'.s) (H':=lk st'.h) (fun k U=>F k (hpn k U))
  (fun n m r r' E G e=>zJd1 h3 (zCj1 (zXq E)) (zCj1 (zXq G)) e)
  (fun n r k E U e=>by
   by_cases J:n<pn
   ·rw[F n J] at e;exact e
   ·have:=h4 n (zCj1 (zXq E)) (by omega)
    have:=hpn k U
    omega)
  (fun t d ht=>zUa1 h1 (zXq ht)) (fun n r E=>zXw1 h2 (zXq E))
 exact⟨g',fun m G=>(k1 m G).elim (fun h=>by have:=hpn m h;omega) (fun ⟨r,hr⟩=>h6 m (zCj1 (zXq hr))),k2,hN⟩
inductive Ex where
 | norm
 | exit (id:Nat)
 | ret
def loopP (pn:Nat)(body:(Ex→St→Prop)→St→Prop)(K:Ex→St→Prop)(_:Tag body)(_:Tag K)(st:St):Prop:=
 ∃(ι:Type) (F:ι→St) (μ:ι→Nat) (i0:ι),Sub pn st (F i0)∧∀i,body (fun e st'=>match e with
  | .norm=>∃j,μ j<μ i∧Sub pn st' (F j)
  | e=>K e st') (F i)
def sx (P:Program)(Φ:FuncId→Option Ct)(N pn:Nat):Code→(K:Ex→St→Prop)→Tag K→St→Prop
 | .skip,K,_,st=>K .norm st
 | .region _ ops draw,K,_,st=>match draw with
  | false=>regX P Φ N ops.toList ops.toList st (fun st'=>K .norm st') .mk
  | true=>slotsOk ops.toList=true∧drX P Φ N st.n ops.toList ops.toList 0 st [] (fun st' acc=>rootsOk ops.toList st.n acc=true∧K .norm ⟨st'.s,st'.h,st.n+8*ops.toList.length⟩) .mk
 | .seq x y,K,t0,st=>sx P Φ N pn x (fun e st'=>match e with
  | .norm=>sx P Φ N pn y K t0 st'
  | e=>K e st') .mk st
 | .cond c x y,K,t0,st=>match evI (lk st.s) c with
  | some (.bool b)=>gS b true (sx P Φ N pn x K t0 st) (sx P Φ N pn y K t0 st) .mk .mk
  | _=>False
 | .block id c,K,_,st=>sx P Φ N pn c (fun e st'=>match e with
  | .exit id'=>if id'=id then K .norm st' else K (.exit id') st'
  | e=>K e st') .mk st
 | .loop c,K,_,st=>loopP pn (fun E st'=>sx P Φ N pn c E .mk st') K .mk .mk st
 | .scope c,K,t0,st=>sx P Φ N pn c K t0 st
 | .exit id,K,_,st=>K (.exit id) st
 | .ret,K,_,st=>K .ret st
 | _,_,_,_=>False
def post (en:En)(N:Nat)(K:Ex→St→Prop):Exit→Act→World→Prop
 | .normal,a,w=>∃st,RelS en N st a w∧K .norm st
 | .exit id,a,w=>∃st,RelS en N st a w∧K (.exit id) st
 | .ret,a,w=>∃st,RelS en N st a w∧K .ret st
 | _,_,_=>False
theorem RelS.world {N:Nat}{st:St}(h:RelS en N st a w){w':World}(h1:w'.heap=w.heap)(h2:w'.os=w.os)(h3:w'.tape=w.tape)(h4:w'.output=w.output):RelS en N st a w':=by
 obtain ⟨g,E,F,G⟩:=h;exact⟨g,E,F.world h1 h2 h3 h4,G⟩
theorem zIk {Φ:FuncId→Option Ct}(hΦ:Env P Φ)(J:P.follows .mixedOrders=true){N pn:Nat}(hpn:∀n,en.g0.used n→n<pn):
 ∀(c:Code) (K:Ex→St→Prop) (t0:Tag K) (st:St) (a:Act) (w:World),RelS en N st a w→sx P Φ N pn c K t0 st→c.wp P (post en N K) a w
 | .skip,K,t0,st,a,w,h,hx=>wp_skip ⟨st,h,hx⟩
 | .region id ops false,K,t0,st,a,w,h,hx=>by
  refine wp_region_list (zNt hΦ (K:=fun st'=>K .norm st') (fun st a w h1 h2=>⟨st,h1,h2⟩) ops.toList st .mk a w h ?_);simpa[sx] using hx
 | .region id ops true,K,t0,st,a,w,h,hx=>by
  simp only[sx] at hx;obtain ⟨c1,hx⟩:=hx;obtain ⟨es,st',a8,c6,hk⟩:=zPv1 hx;have hs:=zHv1 c1;obtain ⟨g,hu,hR,hN⟩:=h;have b0:ops=ops.toList.toArray:=by simp
  have Z:=(RelS.world (en:=en) (N:=N) ⟨g,hu,hR,hN⟩ (w':={w with drawn:=w.drawn+1}) rfl rfl rfl rfl);obtain ⟨g1,b8,d2,d4⟩:=Z;rw[b0];refine wp_region_any J ?_
  have U:∀j,Xof (Array.replicate ops.toList.toArray.size false) j=false:=fun j=>by
   simp only[Xof,Array.getD_eq_getD_getElem?,Array.getElem?_replicate];split<;>rfl
  have e1:∀{κ V:Type} (W:Nat→κ→Option V) (init:κ→V) (n:Nat),Fg W (Xof (Array.replicate ops.toList.toArray.size false)) init n=init:=fun W init n=>by
   funext k
   induction n with
   | zero=>rfl
   | succ n ih=>simp only[Fg,U n];simp[ih]
  refine zVf1 (n0:=st.n) (N:=N) (Kf:=fun st'=>K .norm ⟨st'.s,st'.h,st.n+8*ops.toList.length⟩) hΦ hs hx (fun st2 g a w hk b7 d1 d3=>⟨⟨st2.s,st2.h,st.n+8*ops.toList.length⟩,⟨g,b7,d1,d3⟩,hk⟩) _ _ es st' g1 a _ (by simp) (fun j o _ hx=>by rw[U] at hx;cases hx) (Nat.le_trans (List.length_filter_le _ _) (by simp)) a8 c6 hk (by rw[e1,e1];exact d2) (fun m J=>.inl (b8 m J)) d4
 | .seq x y,K,t0,st,a,w,h,hx=>by
  refine wp_seq (Code.wp_mono (fun e a w E=>?_) (zIk hΦ J hpn x _ .mk st a w h hx))
  cases e with
  | normal=>obtain ⟨st',h1,h2⟩:=E;exact zIk hΦ J hpn y K t0 st' a w h1 h2
  | exit id=>exact E
  | ret=>exact E
  | _=>exact E.elim
 | .cond c x y,K,t0,st,a,w,h,hx=>by
  simp only[sx] at hx;split at hx
  ·rename_i b hb;obtain ⟨g,hu,hR,hN⟩:=h;have hv:=(zCd hR hb).bool_inv;exact wp_cond_split hv (fun ht=>zIk hΦ J hpn x K t0 st a w ⟨g,hu,hR,hN⟩ (hx.1 ht)) (fun ht=>zIk hΦ J hpn y K t0 st a w ⟨g,hu,hR,hN⟩ (hx.2 ht))
  ·exact hx.elim
 | .block id c,K,t0,st,a,w,h,hx=>by
  refine wp_block (Code.wp_mono (fun e a w E=>?_) (zIk hΦ J hpn c _ .mk st a w h hx))
  cases e with
  | normal=>exact E
  | exit id'=>
   obtain ⟨st',h1,h2⟩:=E;simp only[Exit.inBlock];split
   ·rename_i e;simp only[e,yav] at h2;exact⟨st',h1,h2⟩
   ·rename_i e;simp only[e,yau] at h2;exact⟨st',h1,h2⟩
  | ret=>exact E
  | _=>exact E.elim
 | .loop c,K,t0,st,a,w,h,hx=>by
  obtain ⟨ι,F,μ,i0,h0,hr⟩:=hx
  have b6:∀(n:Nat) (i:ι) (a:Act) (w:World),μ i=n→RelS en N (F i) a w→∀(b:Frame) (k:List Item) (cs:List Frame),
   ∃e a' w',post en N K e a' w'∧Arrives P (lone (b.at a (.code c::.inLoop c::k)) cs w) b k cs e a' w':=by
   intro n
   induction n using Nat.strongRecOn with
   | _ n ih=>
    intro i a w hn hi b k cs;obtain ⟨e,a₁,w₁,E,G⟩:=zIk hΦ J hpn c _ .mk (F i) a w hi (hr i) b (.inLoop c::k) cs
    cases e with
    | normal=>
     obtain ⟨st',h1,j,c8,a7⟩:=E;obtain ⟨e₂,a₂,w₂,c7,a6⟩:=ih (μ j) (hn▸c8) j a₁ w₁ rfl (h1.sub hpn a7) b k cs;exact⟨e₂,a₂,w₂,c7,.of_steps (Steps.trans G (.one step_inLoop)) a6⟩
    | exit id=>exact⟨.exit id,a₁,w₁,E,.pass (x:=.inLoop c) rfl (fun _ _=>.inl (by simp)) G⟩
    | goto l=>exact E.elim
    | ret=>exact⟨.ret,a₁,w₁,E,.pass (x:=.inLoop c) rfl (fun _ _=>.inl (by simp)) G⟩
    | panic ch=>exact E.elim
    | outgrown=>exact E.elim
  intro b k cs;obtain ⟨e,a',w',E,G⟩:=b6 _ i0 a w rfl (h.sub hpn h0) b k cs;exact⟨e,a',w',E,.of_steps (.one step_loop) G⟩
 | .scope c,K,t0,st,a,w,h,hx=>by
  refine wp_scope_straight (Code.wp_mono (fun e a w E=>?_) (zIk hΦ J hpn c K t0 st a w h hx))
  cases e<;>first|exact E|exact E.elim
 | .exit id,K,t0,st,a,w,h,hx=>wp_exit ⟨st,h,hx⟩
 | .ret,K,t0,st,a,w,h,hx=>wp_ret ⟨st,h,hx⟩
 | .rangeFunc _ _ _ _,K,t0,st,a,w,h,hx=>by simp[sx] at hx
 | .label _,K,t0,st,a,w,h,hx=>by simp[sx] at hx
 | .goto _,K,t0,st,a,w,h,hx=>by simp[sx] at hx
 | .refuse _,K,t0,st,a,w,h,hx=>by simp[sx] at hx
theorem zWe1 {t:TypeId}{v u:Value}{w':World}(h:(Instr.loadAt t v).run P w=.ok u w'):(do loadVar t (←asAddr v)).run P w=.ok u w':=by
 cases v with
 | pointer o=>
  cases o with
  | some ad=>simpa[Instr.loadAt,Instr.sureAddr,asAddr] using h
  | none=>simp[Instr.loadAt,Instr.sureAddr] at h
 | _=>simp[Instr.loadAt,Instr.sureAddr] at h
def resD (P:Program)(S:Nat→Option D)(H:Nat→Option Root):ResultVar→Option D
 | .tmp t=>S t
 | .cell t ty=>loadD P ty S H (.tmp t)
def resV:List D→D
 | [d]=>d
 | ds=>.tup ds
def resM (a:Act)(r:ResultVar):Sem Value:=match r with
 | .tmp t=>pure (a.tmps.getD t undef)
 | .cell c t=>do loadVar t (←asAddr (a.tmps.getD c undef))
theorem zCf1 (h:Rel en g S H a w):∀{rs:List ResultVar} {ds:List D},mapO (resD P S H) rs=some ds→
 ∃vs:List Value,(rs.mapM (resM a)).run P w=.ok vs w∧vs.length=ds.length∧∀(j:Nat) (d:D) (v:Value),ds[j]?=some d→vs[j]?=some v→DV g d v
 | [],ds,hd=>by simp only[mapO,yaC] at hd;subst hd;exact⟨[],by simp,rfl,fun j d v h=>by simp at h⟩
 | r::rs,ds,hd=>by
  simp only[mapO] at hd;split at hd
  ·rename_i d0 Z;split at hd
   ·rename_i a8 V;injection hd with hd;subst hd;obtain ⟨vs,h1,h2,h3⟩:=zCf1 h V
    have E:∃v,(resM a r).run P w=.ok v w∧DV g d0 v:=by
     cases r with
     | tmp t=>
      obtain ⟨v,hv,U⟩:=h.slots t d0 Z;exact⟨v,by simp[resM,Array.getD_eq_getD_getElem?,hv],U⟩
     | cell c t=>
      obtain ⟨v,J,G⟩:=zXo h Z;exact⟨v,zWe1 J,G⟩
    obtain ⟨v,J,G⟩:=E;refine⟨v::vs,?_,by simp[h2],fun j d u hj F=>?_⟩
    ·rw[List.mapM_cons];simp only[Sem.run_bind,J,Result.andThen_ok,h1];rfl
    ·cases j with
     | zero=>simp at hj F;subst hj;subst F;exact G
     | succ j=>simp at hj F;exact h3 j d u hj F
   ·cases hd
  ·cases hd
theorem zMa1 {fn:Func}(h:Rel en g S H a w){ds:List D}(hd:mapO (resD P S H) fn.results.toList=some ds):∃v,(results fn a.tmps).run P w=.ok v w∧DV g (resV ds) v:=by
 obtain ⟨vs,h1,h2,h3⟩:=zCf1 h hd;refine⟨if h:vs.toArray.size=1 then vs.toArray[0] else .tuple vs.toArray,?_,?_⟩
 ·have hr:results fn a.tmps=(do
   let vs ←fn.results.mapM (resM a)
   pure (if h:vs.size=1 then vs[0] else .tuple vs)):=by
   unfold results;congr 1
  rw[hr,Array.mapM_eq_mapM_toList];simp only[Sem.run_bind,Sem.run_map,h1];rfl
 ·by_cases e:vs.toArray.size=1
  ·rw[dif_pos e];have F:vs.length=1:=(by simpa using e);obtain ⟨v,rfl⟩:=List.length_eq_one_iff.1 F;obtain ⟨d,rfl⟩:=List.length_eq_one_iff.1 (h2.symm.trans F);exact h3 0 d v rfl rfl
  ·rw[dif_neg e];have E:ds.length≠1:=(by rw[←h2];simpa using e)
   have:resV ds=.tup ds:=by
    match ds,E with
    | [],_=>rfl
    | [d],h=>simp at h
    | _::_::_,_=>rfl
   rw[this];exact .tup _ _ (by simp[h2]) (fun j x v hj G=>h3 j x v hj (by simpa using G))
def rtOk (H:Nat→Option Root):List Root→List Nat→Prop
 | [],[]=>True
 | r::rs,m::ns=>H m=some r∧rtOk H rs ns
 | _,_=>False
def plK (H:Nat→Option Root):Nat→List (List B)→Prop
 | _,[]=>True
 | k,c::cs=>H k=some (.box c)∧plK H (k+1) cs
def finX (P:Program)(rs:List ResultVar)(pn:Nat)(res:Res)(st:St):Prop:=
 mK (mapO (resD P (lk st.s) (lk st.h)) rs) (fun ds=>plK (lk st.h) 0 res.places∧match res.roots with
  | []=>reD (fun n=>([]:List Nat).getD n 0) res.val=some (resV ds)
  | _=>∃ns:List Nat,ns.Nodup∧(∀m∈ns,pn≤m)∧rtOk (lk st.h) res.roots ns∧reD (fun n=>ns.getD n 0) res.val=some (resV ds)) .mk
theorem zUr1:∀{rs:List Root} {ns:List Nat},rtOk H rs ns→ns.length=rs.length∧∀(k:Nat) (r:Root) (m:Nat),rs[k]?=some r→ns[k]?=some m→H m=some r
 | [],[],_=>⟨rfl,fun k r m h=>by simp at h⟩
 | r::rs,m::ns,h=>by
  obtain ⟨h1,h2⟩:=zUr1 h.2;refine⟨by simp[h1],fun k r' F hr E=>?_⟩
  cases k with
  | zero=>simp at hr E;subst hr;subst E;exact h.1
  | succ k=>simp at hr E;exact h2 k r' F hr E
 | [],_::_,h=>h.elim
 | _::_,[],h=>h.elim
theorem zVa1:∀{cs:List (List B)} {k:Nat},plK H k cs→∀(j:Nat) (c:List B),cs[j]?=some c→H (k+j)=some (.box c)
 | [],k,_,j,c,h=>by simp at h
 | c0::cs,k,h,j,c,hc=>by
  cases j with
  | zero=>simp at hc;subst hc;exact h.1
  | succ j=>simp at hc;have:=zVa1 h.2 j c hc;rw[show k+(j+1)=k+1+j by omega];exact this
def entS {α β:Type}(f:α→β):Nat→List α→List (Nat×Option β)
 | _,[]=>[]
 | i,d::ds=>(i,some (f d))::entS f (i+1) ds
theorem zEw1 {α β:Type}(f:α→β):∀(l:List α) (i t:Nat),lk (entS f i l) t=if i≤t then (l[t-i]?).map f else none
 | [],i,t=>by simp[entS,lk]
 | d::l,i,t=>by
  simp only[entS,lk];by_cases e:t=i
  ·subst e;simp
  ·rw[if_neg e,zEw1 f l (i+1) t];by_cases h:i+1≤t
   ·rw[if_pos h,if_pos (by omega),show t-i=(t- (i+1))+1 by omega];simp
   ·rw[if_neg h,if_neg (by omega)]
def St.entry (ds:List D)(hs:List (List B)):St:=⟨entS id 0 ds,entS Root.box 0 hs,hs.length⟩
def finO (P:Program)(rs:List ResultVar)(pn:Nat)(o:Outs)(st:St):Prop:=match o with
 | .one r=>finX P rs pn r st
 | .any _ f=>∃i,finX P rs pn (f i) st
def finF (P:Program)(rs:List ResultVar)(pn:Nat)(o:Outs)(st:St):Prop:=∃fs st1,folds pn fs st=some st1∧finO P rs pn o st1
def finK (P:Program)(rs:List ResultVar)(pn:Nat)(o:Outs):Ex→St→Prop
 | .norm,st=>finO P rs pn o st
 | .ret,st=>finO P rs pn o st
 | .exit _,_=>False
def finKF (P:Program)(rs:List ResultVar)(pn:Nat)(o:Outs):Ex→St→Prop
 | .norm,st=>finF P rs pn o st
 | .ret,st=>finF P rs pn o st
 | .exit _,_=>False
theorem zFx1 {Φ : FuncId → Option Ct} (hΦ : Env P Φ) (hm : P.follows .mixedOrders = true) {f : FuncId} {fn : Func} {c : Code} (hf : P.funcs[f]? = some fn) (hb : fn.body = some c) (hnm : (fn.name == "runtime.NumGoroutine") = false) {ct : Ct}
 (KK:Nat→Outs→Ex→St→Prop) (hKK:∀pn o e st,KK pn o e st→finKF P fn.results.toList pn o e st)
 (h:∀ds hs o,ct.run ds hs=some o→(∀res,o.mem res→OkR ct.sc res)∧ds.length≤fn.ntmps∧∃fs st0,folds hs.length fs (St.entry ds hs)=some st0∧sx P Φ fn.ntmps hs.length c (KK hs.length o) .mk st0):
 Good P f ct ∧ ∃ fn : Func, P.funcs[f]? = some fn ∧ (fn.name == "runtime.NumGoroutine") = false ∧ fn.body.isNone = false := by
 refine⟨⟨fun ds hs o hr=>(h ds hs o hr).1,fun ds hs o hr en args hal hpn hR=>?_⟩,fn,hf,hnm,by rw[hb];rfl⟩
 obtain ⟨hok,hlen,fs0,st0,hf0,hx⟩:=h ds hs o hr
 have hN:args.toArray.size≤fn.ntmps:=by simpa[hal] using hlen
 have hS:RelS en fn.ntmps (St.entry ds hs) {tmps:=args.toArray++Array.replicate (fn.ntmps-args.toArray.size) undef,defers:=[]} en.w0:=by
  refine⟨en.g0,hpn,⟨hR.fr,rfl,hR.lt,hR.fz,fun t d ht=>?_,fun n r hn=>?_,fun n r b hn hb=>?_⟩,by simp;omega⟩
  ·simp only[St.entry,zEw1,yai,yav,Nat.sub_zero] at ht
   obtain ⟨v,hv,hd⟩:=hR.slots t d (by simpa using ht)
   refine⟨v,?_,hd⟩
   simp only[] at hv
   have hlt:t<args.toArray.size:=(Array.getElem?_eq_some_iff.1 hv).1
   rw[Array.getElem?_append_left hlt];exact hv
  ·simp only[St.entry,zEw1,yai,yav,Nat.sub_zero] at hn
   exact hR.roots n r hn
  ·simp only[St.entry,zEw1,yai,yav,Nat.sub_zero] at hn
   exact hR.wd n r b hn hb
 refine calls_of_wp hf hb (Code.wp_mono (fun e a w hq=>?_) (zIk hΦ hm hpn c _ .mk _ _ _ (zKu hpn hS hf0) hx))
 have fin0:∀st res,RelS en fn.ntmps st a w→finX P fn.results.toList hs.length res st→a.defers=[]∧∃v,(results fn a.tmps).run P w=.ok v w∧∃v',Ending.returned v=.returned v'∧Done en res v' w:=by
  rintro st res ⟨g,hu,hRg,hNg⟩ hfin
  obtain ⟨dl,h1,h2,h3⟩:=mK_ex hfin
  obtain ⟨v,k1,k2⟩:=zMa1 hRg h1
  refine⟨hRg.df,v,k1,v,rfl,?_⟩
  split at h3
  ·rename_i hr0
   refine⟨g,[],lk st.s,lk st.h,a,_,hRg,.nil,by simp[hr0],fun m hm=>by simp at hm,fun k r m hr _=>?_,fun k c hc=>by have:=zVa1 h2 k c hc;simpa using this,h3,k2⟩
   rw[hr0] at hr;simp at hr
  ·obtain ⟨ns,q1,q2,q3,q4⟩:=h3
   obtain ⟨q5,q6⟩:=zUr1 q3
   refine⟨g,ns,lk st.s,lk st.h,a,_,hRg,q1,q5,fun m hm hu'=>?_,q6,fun k c hc=>by have:=zVa1 h2 k c hc;simpa using this,q4,k2⟩
   have:=q2 m hm;have:=hpn m hu';omega
 have fin:∀st,RelS en fn.ntmps st a w→finF P fn.results.toList hs.length o st→a.defers=[]∧∃v,(results fn a.tmps).run P w=.ok v w∧∃v',Ending.returned v=.returned v'∧∃res,o.mem res∧Done en res v' w:=by
  rintro st hst ⟨fs,st1,hfo,hfin⟩
  have hst1:=zKu hpn hst hfo
  cases o with
  | one r=>
   obtain ⟨k1,v,k2,v',k3,k4⟩:=fin0 st1 r hst1 hfin
   exact⟨k1,v,k2,v',k3,r,rfl,k4⟩
  | any ι f=>
   obtain ⟨i,hfin⟩:=hfin
   obtain ⟨k1,v,k2,v',k3,k4⟩:=fin0 st1 (f i) hst1 hfin
   exact⟨k1,v,k2,v',k3,f i,⟨i,rfl⟩,k4⟩
 cases e with
 | normal=>obtain ⟨st,h1,h2⟩:=hq;exact fin st h1 (hKK _ _ _ _ h2)
 | ret=>obtain ⟨st,h1,h2⟩:=hq;exact fin st h1 (hKK _ _ _ _ h2)
 | exit id=>obtain ⟨st,h1,h2⟩:=hq;exact (hKK _ _ _ _ h2).elim
 | _=>exact hq.elim
theorem zDl2 {Φ : FuncId → Option Ct} (hΦ : Env P Φ) (hm : P.follows .mixedOrders = true) {f : FuncId} {fn : Func} {c : Code} (hf : P.funcs[f]? = some fn) (hb : fn.body = some c) (hnm : (fn.name == "runtime.NumGoroutine") = false) {ct : Ct}
 (h:∀ds hs o,ct.run ds hs=some o→(∀res,o.mem res→OkR ct.sc res)∧ds.length≤fn.ntmps∧sx P Φ fn.ntmps hs.length c (finKF P fn.results.toList hs.length o) .mk (St.entry ds hs)):
 Good P f ct ∧ ∃ fn : Func, P.funcs[f]? = some fn ∧ (fn.name == "runtime.NumGoroutine") = false ∧ fn.body.isNone = false :=
 zFx1 hΦ hm hf hb hnm (fun pn o=>finKF P fn.results.toList pn o) (fun _ _ _ _ h=>h) (fun ds hs o hr=>⟨(h ds hs o hr).1,(h ds hs o hr).2.1,[],_,rfl,(h ds hs o hr).2.2⟩)
theorem zIu2 {Φ : FuncId → Option Ct} (hΦ : Env P Φ) (hm : P.follows .mixedOrders = true) {f : FuncId} {fn : Func} {c : Code} (hf : P.funcs[f]? = some fn) (hb : fn.body = some c) (hnm : (fn.name == "runtime.NumGoroutine") = false) {ct : Ct}
 (h:∀ds hs o,ct.run ds hs=some o→(∀res,o.mem res→OkR ct.sc res)∧ds.length≤fn.ntmps∧sx P Φ fn.ntmps hs.length c (finK P fn.results.toList hs.length o) .mk (St.entry ds hs)):
 Good P f ct ∧ ∃ fn : Func, P.funcs[f]? = some fn ∧ (fn.name == "runtime.NumGoroutine") = false ∧ fn.body.isNone = false :=
 zFx1 hΦ hm hf hb hnm (fun pn o=>finK P fn.results.toList pn o) (fun pn o e st h=>by
  cases e with
  | norm=>exact⟨[],st,rfl,h⟩
  | ret=>exact⟨[],st,rfl,h⟩
  | exit id=>exact h.elim) (fun ds hs o hr=>⟨(h ds hs o hr).1,(h ds hs o hr).2.1,[],_,rfl,(h ds hs o hr).2.2⟩)
end Go.SX
