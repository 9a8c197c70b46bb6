/-
  SX: the engine, parts U to Z, in one text. Plain definitions and theorems over any program.
  SX, part AA: a function whose contract was proved by other means, for arguments and results that hold no memory of the call's own. Plain definitions and theorems over any program.
  Whole numbers as numbers of single precision: below 2^24 their sums and products are exact.
  Binary floating point: what is exact stays exact; a word and the number that it stands for.
  Decimal numerals, and the text of a number of single precision: plain words.
  Numbers m * 2 ^ e of double precision; the text of a number of single precision.
  The text of a number of single precision tells the number.
  Texts cut at a byte.
  The types' sizes, fields, zero values. Printed by wip/tools/types.py.
  The types' sizes, fields, zero values. Printed by wip/tools/types.py.
  Numbers and points of single precision: the small functions.
  A number of single precision is one of double precision.
  Points: isNoughts, EqualPoints, add, scaled, DistanceOf, size, MultiplyPoints.
  place, IsTable.
  No condition.
-/
import Derived.KernelRfl
import Derived.Below
import Derived.Attr
import Derived.Lib.ItoaNum
import Derived.Lib.AtoiAll
import Derived.Lib.AtoiAllCases
import Derived.Lib.IndexMore
import Derived.Lib.Split
import Derived.Test.YtfmpjhjnpeheeaaGreatDoorProg
import Derived.Laws.Externs
import Derived.Test.YtfmpjhjnpeheeaaGreatDoorPkC
set_option maxRecDepth 100000
set_option maxHeartbeats 16000000
set_option linter.unusedVariables false
set_option linter.unusedSimpArgs false
namespace Go.SX
open Go Go.RowKit
variable {P : Program}
def Law (P : Program) (f : FuncId) (ct : Ct) : Prop := Good P f ct ∧ ∃ fn : Func, P.funcs[f]? = some fn ∧ (fn.name == "runtime.NumGoroutine") = false ∧ fn.body.isNone = false
def phi:List (FuncId×Ct)→FuncId→Option Ct
 | [],_=>none
 | (f,ct)::l,k=>if k=f then some ct else phi l k
theorem zAd:Env P (phi []):=fun f ct h=>by cases h
theorem zAa {f:FuncId}{ct:Ct}{l:List (FuncId×Ct)}(h:Law P f ct)(hl:Env P (phi l)):Env P (phi ((f,ct)::l)):=fun k c E=>by
 simp only[phi] at E;split at E
 ·rename_i e;subst e;injection E with E;subst E;exact .inl h
 ·exact hl k c E
theorem zDn {f:FuncId}{ct:Ct}{l:List (FuncId×Ct)}(h:ExtLaw P f ct)(hl:Env P (phi l)):Env P (phi ((f,ct)::l)):=fun k c E=>by
 simp only[phi] at E;split at E
 ·rename_i e;subst e;injection E with E;subst E;exact .inr h
 ·exact hl k c E
theorem zQi {sc:Bool}{k:Nat}{i:I}(h:scI i=true):OkD sc k (.c (.im i)):=.c _ (.im _ (.inr h))
theorem zVj1 {sc:Bool}{i:I}(h:scI i=true):OkR sc {val:=.c (.im i)}:=⟨zQi h,by simp,by simp⟩
theorem okO {sc:Bool}{r:Res}(h:OkR sc r):∀res,Outs.mem (.one r) res→OkR sc res:=fun res hm=>by cases hm;exact h
theorem okA {sc:Bool}{ι:Type}{f:ι→Res}(h:∀i,OkR sc (f i)):∀res,Outs.mem (.any ι f) res→OkR sc res:=fun res ⟨i,hm⟩=>hm▸h i
theorem zAv {sc:Bool}{i:I}(h:scI i=true):∀res,Outs.mem (.one {val:=.c (.im i)}) res→OkR sc res:=okO (zVj1 h)
theorem zBr {sc:Bool}{k:Nat}{i:I}(h:scI i=true):OkC sc k (.im i):=.im _ (.inr h)
theorem zAn (i:I):MvB false (.t (.im i))=True:=eq_true (.t _ (.im _ (.inl rfl)))
theorem zTh:MvB false (.t .nil)=True:=eq_true (.t _ .nil)
theorem zNk2 (i:I):Mv false (.im i)=True:=eq_true (.im _ (.inl rfl))
theorem zLs2 (A B:Prop)(tA:Tag A)(tB:Tag B):gS true true A B tA tB=A:=by simp[gS]
theorem zLv2 (A B:Prop)(tA:Tag A)(tB:Tag B):gS false false A B tA tB=A:=by simp[gS]
theorem zLt2 (A B:Prop)(tA:Tag A)(tB:Tag B):gS true false A B tA tB=B:=by simp[gS]
theorem zLu2 (A B:Prop)(tA:Tag A)(tB:Tag B):gS false true A B tA tB=B:=by simp[gS]
theorem gS_i {b want:Bool}{A B:Prop}{tA:Tag A}{tB:Tag B}(h1:b=want→A)(h2:b=(!want)→B):gS b want A B tA tB:=⟨h1,h2⟩
theorem gS_d {p:Prop} [Decidable p] {A B:Prop}{tA:Tag A}{tB:Tag B}(h1:p→A)(h2:¬p→B):gS (decide p) true A B tA tB:=⟨fun h=>h1 (by simpa using h),fun h=>h2 (by simpa using h)⟩
theorem zQx {p:Prop} [Decidable p] {A B:Prop}{tA:Tag A}{tB:Tag B}(h1:p→B)(h2:¬p→A):gS (decide p) false A B tA tB:=⟨fun h=>h2 (by simpa using h),fun h=>h1 (by simpa using h)⟩
theorem zAp {pn:Nat} {body:(Ex→St→Prop)→St→Prop} {K:Ex→St→Prop} {tb:Tag body} {tK:Tag K} {st:St} {ι:Type} (F:ι→St) (μ:ι→Nat) (i0:ι) (h0:Sub pn st (F i0))
 (h:∀i,body (fun e st'=>match e with
  | .norm=>∃j,μ j<μ i∧Sub pn st' (F j)
  | e=>K e st') (F i)):loopP pn body K tb tK st:=⟨ι,F,μ,i0,h0,h⟩
theorem zAi {n:Int}(h1 : -9223372036854775808≤n)(h2:n≤9223372036854775807):IntKind.i64.wrap n=n:=by rw[IntKind.wrap_i64];omega
end Go.SX
namespace Go.SX
open Go Go.RowKit
variable {P : Program}
def stayG (w:World):Gh:={used:=fun _=>False,rb:=fun _=>0,base:=fun _=>0,rc:=fun _=>0,own:=fun _=>none,fz:=fun b o=>w.cell? ⟨b,o,none⟩}
theorem zXc1 {f:FuncId} {ct:Ct} (hL:Law P f ct) {ds:List D} {args:List Value} {i:I} (hi:scI i=true) (w:World) (hlaid:Laid (fun _=>none) w) (hrun:ct.run ds []=some (.one {val:=.c (.im i)})) (hl:args.length=ds.length)
 (hv:∀(t:Nat) (d:D) (v:Value),ds[t]?=some d→args[t]?=some v→DV (stayG w) d v):
 Calls P f args.toArray w (fun e w'=>∃v,e=.returned v∧IR (fun _ _=>none) i v∧Below w.heap.size w w'):=by
 refine (hL.1.at_ ds [] _ hrun ⟨stayG w,w,fun _=>0⟩ args hl (fun n V=>V.elim) ?_).mono fun e w' ⟨v,he,res,Z,hd⟩=>⟨v,he,?_⟩
 ·refine⟨⟨hlaid,rfl,rfl,rfl,Nat.le_refl _,Gh.le.refl _,fun b _ h=>⟨h,rfl⟩,fun b n h=>(by cases h),fun b o v _ h=>.inl h⟩,rfl,fun b x h=>(by cases h),fun b o v h=>⟨h,rfl⟩,fun t d U=>?_,fun n r h=>(by simp at h),fun n r b h=>(by simp at h)⟩;have F:t<args.length:=by rw[hl];exact (List.getElem?_eq_some_iff.1 U).1
  exact⟨args[t],by simp[F],hv t d _ U (List.getElem?_eq_getElem F)⟩
 ·cases Z
  obtain ⟨g,ns,S,H,a,d,G,_,_,_,_,_,E,J⟩:=hd;simp only[reD,reC,yaC] at E;subst E;refine⟨?_,G.fr.os,G.fr.tape,G.fr.output,G.fr.size,fun k hk=>(G.fr.old k hk rfl).2⟩
  cases J with|c _ _ hc=>cases hc with|im _ _ hir=>exact hir.sc hi
end Go.SX
namespace Go.SX
open Go Go.RowKit
variable {P : Program}
open Classical in
noncomputable def fam {α:Type}(sc:Bool)(args:α→List D×List (List B))(out:α→Outs):Ct:=
 ⟨sc,fun ds hs=>if h:∃a,args a=(ds,hs) then some (out (Classical.choose h)) else none⟩
theorem zYe1 {α:Type}{sc:Bool}{args:α→List D×List (List B)}{out:α→Outs}(hinj:∀a b,args a=args b→out a=out b)(a:α):(fam sc args out).run (args a).1 (args a).2=some (out a):=by
 have h:∃b,args b=((args a).1,(args a).2):=⟨a,rfl⟩;simp only[fam];rw[dif_pos h];congr 1;exact hinj _ _ (Classical.choose_spec h)
theorem zBd {α:Type}{sc:Bool}{args:α→List D×List (List B)}{out:α→Outs}(hinj:∀a b,args a=args b→a=b)(a:α):(fam sc args out).run (args a).1 (args a).2=some (out a):=
 zYe1 (fun a b h=>by rw[hinj a b h]) a
theorem zAf {Φ : FuncId → Option Ct} (hΦ : Env P Φ) (hm : P.follows .mixedOrders = true) {f : FuncId} {fn : Func} {c : Code} (hf : P.funcs[f]? = some fn) (hb : fn.body = some c) (hnm : (fn.name == "runtime.NumGoroutine") = false)
 {α:Type} {sc:Bool} {args:α→List D×List (List B)} {out:α→Outs}
 (h:∀a,(∀res,(out a).mem res→OkR sc res)∧(args a).1.length≤fn.ntmps∧sx P Φ fn.ntmps (args a).2.length c (finK P fn.results.toList (args a).2.length (out a)) .mk (St.entry (args a).1 (args a).2)):Law P f (fam sc args out):=by
 refine zIu2 hΦ hm hf hb hnm (fun ds hs o hr=>?_)
 simp only[fam] at hr
 split at hr
 ·rename_i hex
  injection hr with hr
  subst hr
  have hc:=Classical.choose_spec hex
  have:=h (Classical.choose hex)
  rw[hc] at this
  exact this
 ·cases hr
theorem zAw {Φ : FuncId → Option Ct} (hΦ : Env P Φ) (hm : P.follows .mixedOrders = true) {f : FuncId} {fn : Func} {c : Code} (hf : P.funcs[f]? = some fn) (hb : fn.body = some c) (hnm : (fn.name == "runtime.NumGoroutine") = false)
 {α:Type} {sc:Bool} {args:α→List D×List (List B)} {out:α→Outs}
 (h:∀a,(∀res,(out a).mem res→OkR sc res)∧(args a).1.length≤fn.ntmps∧sx P Φ fn.ntmps (args a).2.length c (finKF P fn.results.toList (args a).2.length (out a)) .mk (St.entry (args a).1 (args a).2)):Law P f (fam sc args out):=by
 refine zDl2 hΦ hm hf hb hnm (fun ds hs o hr=>?_)
 simp only[fam] at hr
 split at hr
 ·rename_i hex
  injection hr with hr
  subst hr
  have hc:=Classical.choose_spec hex
  have:=h (Classical.choose hex)
  rw[hc] at this
  exact this
 ·cases hr
theorem zPt1 {Φ : FuncId → Option Ct} (hΦ : Env P Φ) (hm : P.follows .mixedOrders = true) {f : FuncId} {fn : Func} {c : Code} (hf : P.funcs[f]? = some fn) (hb : fn.body = some c) (hnm : (fn.name == "runtime.NumGoroutine") = false)
 {α:Type} {sc:Bool} {args:α→List D×List (List B)} {out:α→Outs} (fs:α→List Wk)
 (h:∀a,(∀res,(out a).mem res→OkR sc res)∧(args a).1.length≤fn.ntmps∧match folds (args a).2.length (fs a) (St.entry (args a).1 (args a).2) with
  | some st0=>sx P Φ fn.ntmps (args a).2.length c (finKF P fn.results.toList (args a).2.length (out a)) .mk st0
  | none=>False):Law P f (fam sc args out):=by
 refine zFx1 hΦ hm hf hb hnm (fun pn o=>finKF P fn.results.toList pn o) (fun _ _ _ _ h=>h) (fun ds hs o hr=>?_)
 simp only[fam] at hr
 split at hr
 ·rename_i hex
  injection hr with hr
  subst hr
  have hc:=Classical.choose_spec hex
  have:=h (Classical.choose hex)
  rw[hc] at this
  obtain ⟨h1,h2,h3⟩:=this
  split at h3
  ·rename_i st0 h4
   exact⟨h1,h2,_,st0,h4,h3⟩
  ·exact h3.elim
 ·cases hr
theorem zGf1 {f:FuncId} {α:Type} {sc:Bool} {args:α→List D×List (List B)} {out:α→Outs} (h:∀a,(args a).2=[]∧(∀d∈(args a).1,∃i,d=.c (.im i)∧scI i=true)∧
 ∀(fz:Nat→Nat→Option Value) (vs:List Value) (w:World),vs.length=(args a).1.length→(∀(t:Nat) (i:I) (v:Value),(args a).1[t]?=some (.c (.im i))→vs[t]?=some v→IR fz i v)→
  ∃v z,(callFunc f vs.toArray).run P w=.ok (.value v) w∧(out a).mem {val:=.c (.im z)}∧IR fz z v):ExtLaw P f (fam sc args out):=by
 intro ds hs o hr;simp only[fam] at hr;split at hr
 ·rename_i E;injection hr with hr;subst hr;have hc:=Classical.choose_spec E;have:=h (Classical.choose E);rw[hc] at this;exact this
 ·cases hr
theorem sl_i {ops:List Oper}{Q:Prop}(h2:Q)(h:slotsOk ops=true:=by kernel_rfl):slotsOk ops=true∧Q:=⟨h,h2⟩
theorem ro_i {ops:List Oper}{n:Nat}{acc:List DI}{Q:Prop}(h2:Q)(h:rootsOk ops n acc=true:=by kernel_rfl):rootsOk ops n acc=true∧Q:=⟨h,h2⟩
theorem ro_e {ops:List Oper}{n:Nat}{acc:List DI}(h:rootsOk ops n acc=true:=by kernel_rfl):rootsOk ops n acc=true:=h
theorem zAh {rs:List ResultVar}{pn:Nat}{o:Outs}{st:St}(fs:List Wk)(h:match folds pn fs st with|some E=>finO P rs pn o E|none=>False):finF P rs pn o st:=by
 split at h
 ·rename_i E h1;exact⟨fs,E,h1,h⟩
 ·exact h.elim
def tI (rows:List (List I)):List (List T):=rows.map (fun r=>r.map T.im)
theorem zAg (rows:List (List I)):(tI rows).length=rows.length:=by simp[tI]
theorem zBj (ex:List Nat)(H:Nat→Option Root)(k:Nat)(rows:List (List I)):mapO (mapO (toI ex H k)) (tI rows)=some rows:=zZu1 ex H k rows
theorem zPn {rows:List (List I)}{k:Nat}{r:List I}(h:rows[k]?=some r):(tI rows)[k]?=some (r.map T.im):=by simp[tI,h]
end Go.SX
namespace Go.SX
open Go Go.RowKit
variable {P : Program} {Φ : FuncId → Option Ct} {N pn nm : Nat} {S : Nat → Option D} {H : Nat → Option Root}
theorem mKs.{u}{α:Type u}(x:α)(K:α→Prop)(t:Tag K):mK (some x) K t=K x:=by simp only[mK]
theorem mCs (c:Ct)(K:Ct→Prop)(A:Unit→Prop)(t:Tag K)(u:Tag A):mC (some c) K A t u=K c:=by simp only[mC]
theorem mCn (K:Ct→Prop)(A:Unit→Prop)(t:Tag K)(u:Tag A):mC none K A t u=A ():=by simp only[mC]
theorem mKn.{u}{α:Type u}(K:α→Prop)(t:Tag K):mK none K t=False:=by simp only[mK]
theorem oKo (r:Res)(K:Res→Prop)(t:Tag K):oK (.one r) K t=K r:=by simp only[oK]
theorem oKa (ι:Type)(f:ι→Res)(K:Res→Prop)(t:Tag K):oK (.any ι f) K t=(Nonempty ι∧∀i,K (f i)):=by simp only[oK]
theorem cKs (r:Nat)(K:Nat→Prop)(t:Tag K):cK (some r) K t=K r:=by simp only[cK]
theorem nKn (K:Bool→Prop)(t:Tag K):nK .nil K t=K true:=by simp only[nK]
theorem nKv (n sz lo len:Nat)(K:Bool→Prop)(t:Tag K):nK (.view n sz lo len) K t=(K false∧(len=0→K true)):=by simp only[nK]
theorem nKs (sz:Nat)(rows:List (List I))(K:Bool→Prop)(t:Tag K):nK (.im (.sl sz rows)) K t=(K false∧(rows=[]→K true)):=by simp only[nK]
theorem plXn (K:List (List B)→Prop)(t:Tag K):plX H [] K t=K []:=by simp only[plX]
def pM (c:Option (List B))(A:List B→Prop)(_:Tag A):Prop:=match c with
 | some c=>(∀x∈c,MvB false x)∧A c
 | none=>False
theorem pMs (c:List B)(A:List B→Prop)(t:Tag A):pM (some c) A t=((∀x∈c,MvB false x)∧A c):=by simp only[pM]
theorem plXc (p:Plc)(ex:List Plc)(K:List (List B)→Prop)(t:Tag K):plX H (p::ex) K t=pM (plCells H p) (fun c=>plX H ex (fun hs=>K (c::hs)) .mk) .mk:=by simp only[plX,pM];cases plCells H p<;>rfl
theorem xskip {K:Ex→St→Prop}{t0:Tag K}{st:St}:sx P Φ N pn .skip K t0 st=K .norm st:=by rw[sx]<;>rfl
theorem xreg0 {K:Ex→St→Prop}{t0:Tag K}{st:St}{id:Nat}{ops:Array Oper}:sx P Φ N pn (.region id ops false) K t0 st=regX P Φ N ops.toList ops.toList st (fun st'=>K .norm st') .mk:=by rw[sx]<;>rfl
theorem xreg1 {K:Ex→St→Prop}{t0:Tag K}{st:St}{id:Nat}{ops:Array Oper}:sx P Φ N pn (.region id ops true) K t0 st=
 (slotsOk ops.toList=true∧drX P Φ N st.n ops.toList ops.toList 0 st [] (fun st' acc=>rootsOk ops.toList st.n acc=true∧K .norm ⟨st'.s,st'.h,st.n+8*ops.toList.length⟩) .mk):=by rw[sx]<;>rfl
theorem xseq {K:Ex→St→Prop}{t0:Tag K}{st:St}{x y:Code}:sx P Φ N pn (.seq x y) K t0 st=sx P Φ N pn x (fun e st'=>match e with
 | .norm=>sx P Φ N pn y K t0 st'
 | e=>K e st') .mk st:=by rw[sx]<;>rfl
theorem xcond {K:Ex→St→Prop}{t0:Tag K}{st:St}{c:Operand}{x y:Code}:sx P Φ N pn (.cond c x y) K t0 st=(match evI (lk st.s) c with
 | some (.bool b)=>gS b true (sx P Φ N pn x K t0 st) (sx P Φ N pn y K t0 st) .mk .mk
 | _=>False):=by rw[sx]<;>rfl
theorem xblock {K:Ex→St→Prop}{t0:Tag K}{st:St}{id:Nat}{c:Code}:sx P Φ N pn (.block id c) K t0 st=sx P Φ N pn c (fun e st'=>match e with
 | .exit id'=>if id'=id then K .norm st' else K (.exit id') st'
 | e=>K e st') .mk st:=by rw[sx]<;>rfl
theorem xloop {K:Ex→St→Prop}{t0:Tag K}{st:St}{c:Code}:sx P Φ N pn (.loop c) K t0 st=loopP pn (fun K' st'=>sx P Φ N pn c K' .mk st') K .mk .mk st:=by rw[sx]<;>rfl
theorem xscope {K:Ex→St→Prop}{t0:Tag K}{st:St}{c:Code}:sx P Φ N pn (.scope c) K t0 st=sx P Φ N pn c K t0 st:=by rw[sx]<;>rfl
theorem xexit {K:Ex→St→Prop}{t0:Tag K}{st:St}{id:Nat}:sx P Φ N pn (.exit id) K t0 st=K (.exit id) st:=by rw[sx]<;>rfl
theorem xret {K:Ex→St→Prop}{t0:Tag K}{st:St}:sx P Φ N pn .ret K t0 st=K .ret st:=by rw[sx]<;>rfl
theorem zJq2 {ops:List Oper}{st:St}{K:St→Prop}{t0:Tag K}:regX P Φ N ops [] st K t0=K st:=by rw[regX]<;>rfl
theorem zFq2 {ops r:List Oper}{dst:Option Nat}{op:Op}{ty:TypeId}{pos:String}{after:Array Edge}{s:List (Nat×Option D)}{h:List (Nat×Option Root)}{n:Nat}{K:St→Prop}{t0:Tag K}:
 regX P Φ N ops ({dst:=dst,op:=op,type:=ty,pos:=pos,after:=after,guard:=none}::r) ⟨s,h,n⟩ K t0=
  (dOk N dst∧opR P Φ n (lk s) (lk h) op (fun val wr cnt=>regX P Φ N ops r ⟨putS dst val s,insW wr h,n+cnt⟩ K t0) .mk):=by rw[regX]<;>rfl
def gV (ops:List Oper)(s:List (Nat×Option D))(j:Nat):Option (Option Bool):=match gSlot ops j with
 | some t=>match lk s t with
  | some (.c (.im (.bool b)))=>some (some b)
  | some (.tup _)=>some none
  | _=>none
 | none=>none
def gM (v:Option (Option Bool))(want:Bool)(A B:Prop)(tA:Tag A)(tB:Tag B):Prop:=match v with
 | some (some b)=>gS b want A B tA tB
 | some none=>B
 | none=>False
theorem zMz2 (A B:Prop)(tA:Tag A)(tB:Tag B):gM (some (some true)) true A B tA tB=A:=by unfold gM;exact zLs2 A B tA tB
theorem zNc2 (A B:Prop)(tA:Tag A)(tB:Tag B):gM (some (some false)) false A B tA tB=A:=by unfold gM;exact zLv2 A B tA tB
theorem zNa2 (A B:Prop)(tA:Tag A)(tB:Tag B):gM (some (some true)) false A B tA tB=B:=by unfold gM;exact zLt2 A B tA tB
theorem zNb2 (A B:Prop)(tA:Tag A)(tB:Tag B):gM (some (some false)) true A B tA tB=B:=by unfold gM;exact zLu2 A B tA tB
theorem gM_u (want:Bool)(A B:Prop)(tA:Tag A)(tB:Tag B):gM (some none) want A B tA tB=B:=by unfold gM;rfl
theorem gM_s (b want:Bool)(A B:Prop)(tA:Tag A)(tB:Tag B):gM (some (some b)) want A B tA tB=gS b want A B tA tB:=by unfold gM;rfl
theorem zFp2 {ops r:List Oper}{dst:Option Nat}{op:Op}{ty:TypeId}{pos:String}{after:Array Edge}{s:List (Nat×Option D)}{h:List (Nat×Option Root)}{n:Nat}{K:St→Prop}{t0:Tag K}{j:Nat}{want:Bool}:
 regX P Φ N ops ({dst:=dst,op:=op,type:=ty,pos:=pos,after:=after,guard:=some (j,want)}::r) ⟨s,h,n⟩ K t0=
  (dOk N dst∧gM (gV ops s j) want (opR P Φ n (lk s) (lk h) op (fun val wr cnt=>regX P Φ N ops r ⟨putS dst val s,insW wr h,n+cnt⟩ K t0) .mk) (regX P Φ N ops r ⟨putS dst (some (.tup [])) s,h,n⟩ K t0) .mk .mk):=by
 rw[regX];simp only[gV,gM,St.eff];congr 1
 cases gSlot ops j with
 | none=>rfl
 | some t=>
  cases h1:lk s t with
  | none=>simp[h1]
  | some d=>
   cases d with
   | c x=>
    cases x with
    | im i=>cases i<;>simp[h1,insW]
    | _=>simp[h1]
   | agg xs=>simp[h1]
   | tup ds=>simp[h1,insW]
theorem zJr2 {ops:List Oper}{n0 i:Nat}{st:St}{acc:List DI}{K:St→List DI→Prop}{t0:Tag K}:drX P Φ N n0 ops [] i st acc K t0=K st acc:=by rw[drX]<;>rfl
theorem zFs2 {ops r:List Oper}{dst:Option Nat}{op:Op}{ty:TypeId}{pos:String}{after:Array Edge}{s:List (Nat×Option D)}{h:List (Nat×Option Root)}{n n0 i:Nat}{acc:List DI}{K:St→List DI→Prop}{t0:Tag K}:
 drX P Φ N n0 ops ({dst:=dst,op:=op,type:=ty,pos:=pos,after:=after,guard:=none}::r) i ⟨s,h,n⟩ acc K t0=
  (dOk N dst∧opR P Φ (n0+8*i) (resF (opTm op++[]) (lk s)) (resH n0 (isCallO op) (rdX (lk s) (lk h) op) (lk h)) op (fun val wr cnt=>cnt≤8∧drX P Φ N n0 ops r (i+1) ⟨putS dst val s,insW wr h,n⟩ (⟨i,isCallO op,rdX (lk s) (lk h) op,wr.map (·.1)⟩::acc) K t0) .mk):=by rw[drX]<;>rfl
theorem zFr2 {ops r:List Oper}{dst:Option Nat}{op:Op}{ty:TypeId}{pos:String}{after:Array Edge}{s:List (Nat×Option D)}{h:List (Nat×Option Root)}{n n0 i:Nat}{acc:List DI}{K:St→List DI→Prop}{t0:Tag K}{j:Nat}{want:Bool}:
 drX P Φ N n0 ops ({dst:=dst,op:=op,type:=ty,pos:=pos,after:=after,guard:=some (j,want)}::r) i ⟨s,h,n⟩ acc K t0=
  (dOk N dst∧match gSlot ops j with
   | some t=>match lk s t with
    | some (.c (.im (.bool b)))=>gS b want (opR P Φ (n0+8*i) (resF (opTm op++(match gSlot ops j with|some t=>[t]|none=>[])) (lk s)) (resH n0 (isCallO op) (rdX (lk s) (lk h) op) (lk h)) op (fun val wr cnt=>cnt≤8∧drX P Φ N n0 ops r (i+1) ⟨putS dst val s,insW wr h,n⟩ (⟨i,isCallO op,rdX (lk s) (lk h) op,wr.map (·.1)⟩::acc) K t0) .mk)
     (drX P Φ N n0 ops r (i+1) ⟨putS dst (some (.tup [])) s,h,n⟩ (⟨i,false,[],[]⟩::acc) K t0) .mk .mk
    | some (.tup _)=>drX P Φ N n0 ops r (i+1) ⟨putS dst (some (.tup [])) s,h,n⟩ (⟨i,false,[],[]⟩::acc) K t0
    | _=>False
   | none=>False):=by rw[drX]<;>rfl
theorem MvRb {cells:List B}:MvR false (.box cells)=(∀x∈cells,MvB false x):=by simp only[MvR]
theorem MvRn {sz:Nat}:MvR false (.arr sz [])=True:=by simp[MvR]
theorem MvRt {sz:Nat}{rows:List (List I)}:MvR false (.arr sz (tI rows))=True:=by
 refine eq_true ?_;intro r hr t E;simp only[tI,List.mem_map] at hr;obtain ⟨r0,F,rfl⟩:=hr;simp only[List.mem_map] at E;obtain ⟨i,hi,rfl⟩:=E;exact .im _ (.inl rfl)
section ops
variable {K : Option D → List (Nat × Option Root) → Nat → Prop} {tg : Tag K}
theorem xload {t:TypeId}{x:Operand}:opR P Φ nm S H (.load t x) K tg=(match ldJs P S H t x with
 | some (n,i,r,js)=>mK (hoistJ r i js nm) (fun p=>mK (qv P S (apH ((n,some p.1)::addR nm p.2) H) (.load t x)) (fun d=>K (some d) ((n,some p.1)::addR nm p.2) p.2.length) .mk) .mk
 | none=>mK (loadD P t S H x) (fun d=>K (some d) [] 0) .mk):=by rw[opR]<;>rfl
theorem xstore {t:TypeId}{x y:Operand}:opR P Φ nm S H (.store t x y) K tg=mK (storeH P t S H x y) (fun p=>K none [(p.1,some p.2)] 0) .mk:=by rw[opR]<;>rfl
theorem xalloc {t:TypeId}:opR P Φ nm S H (.alloc t) K tg=mK (mkOp P S (.alloc t) nm) (fun p=>K (some p.1) [(nm,some p.2)] 1) .mk:=by rw[opR]<;>rfl
theorem xbox {t:TypeId}{x:Operand}:opR P Φ nm S H (.box t x) K tg=mK (mkOp P S (.box t x) nm) (fun p=>K (some p.1) [(nm,some p.2)] 1) .mk:=by rw[opR]<;>rfl
theorem xbuildS {t:TypeId}{l:Nat}{ps:Array (Nat×Operand)}:opR P Φ nm S H (.buildSlice t l ps) K tg=mK (mkOp P S (.buildSlice t l ps) nm) (fun p=>K (some p.1) [(nm,some p.2)] 1) .mk:=by rw[opR]<;>rfl
theorem xmakeS {t:TypeId}{l c:Operand}:opR P Φ nm S H (.makeSlice t l c) K tg=mK (mkOp P S (.makeSlice t l c) nm) (fun p=>K (some p.1) [(nm,some p.2)] 1) .mk:=by rw[opR]<;>rfl
theorem xappend {s x:Operand}{t t':TypeId}:opR P Φ nm S H (.call {callee:=.builtin .append,args:=#[s,x],argTypes:=#[t,t']}) K tg=(if t=t' then (if isTail S s=true then mK (appendT P t S H s x) (fun p=>p.rb.length*p.bytes≤140737488355328∧K (some (.c (.view nm p.sz 0 p.len))) [(nm,some (.arr p.sz p.ra)),(p.n,none)] 1∧K (some (.c (.view nm p.sz p.lo p.len))) [(nm,some (.arr p.sz p.rb)),(p.n,none)] 1) .mk
 else mK (appendH P t S H s x) (fun p=>p.2.2.1.length*p.2.1≤140737488355328∧
  K (some (.c (.view nm p.1 0 p.2.2.1.length))) ((nm,some (.arr p.1 p.2.2.1))::dropN p.2.2.2) 1) .mk)
 else AppZ P t t'∧mK (appendZ P t S H s x) (fun p=>p.2.2.1.length*p.2.1≤140737488355328∧
  K (some (.c (.view nm p.1 0 p.2.2.1.length))) ((nm,some (.arr p.1 p.2.2.1))::dropN p.2.2.2) 1) .mk):=by rw[opR]<;>rfl
theorem xcall {f:Operand}{args:Array Operand}{ts:Array TypeId}:opR P Φ nm S H (.call {callee:=.value f,args:=args,argTypes:=ts}) K tg=(match evC S f with
 | some (.fn (.func k) caps)=>mC (Φ k) (fun ct=>mK (evDs S args.toList) (fun F=>mK (some (frzL ct.sc H F [])) (fun fz=>mK (some (preW H (lentPs H (exDs (fz.1++caps.map D.c))) fz.2)) (fun E=>plX (apH E H) (exDs (fz.1++caps.map D.c)) (fun hs=>
  mK (mapO (loD (exDs (fz.1++caps.map D.c)) (if ct.sc then apH E H else fun _=>none)) (fz.1++caps.map D.c)) (fun G=>mK (ct.run G hs) (fun os=>oK os (fun res=>mK (reD (fun n=>nm+n) res.val) (fun d=>
   K (some d) (addR nm res.roots++(addP (apH E H) (exDs (fz.1++caps.map D.c)) res.places++E)) res.roots.length) .mk) .mk) .mk) .mk) .mk) .mk) .mk) .mk) (fun _=>SortLaw P k∧mK (sortH S H caps args.toList) (fun p=>K (some (.tup [])) [(p.1,some p.2)] 0) .mk) .mk .mk
 | _=>False):=by rw[opR]<;>rfl
theorem xconv {s d:TypeId}{x:Operand}:opR P Φ nm S H (.convert s d x) K tg=(match P.underlying d,evI S x with
 | some (.float .f32),some (.flt .f64 b)=>(P.underlying s).isSome=true∧cK (fconv .f64 b .f32) (fun n=>K (some (.c (.im (.flt .f32 n)))) [] 0) .mk
 | _,_=>mK (qv P S H (.convert s d x)) (fun d=>K (some d) [] 0) .mk):=by rw[opR];split<;>simp_all
theorem xnil {op:BinOp}{t ty:TypeId}{x:Operand}:opR P Φ nm S H (.binOp op t x (.const (.slice none 0 0)) ty) K tg=(isSlT P t=true∧mK (evC S x) (fun c=>nK c (fun b=>mK (nilOp op b) (fun b=>K (some (.c (.im (.bool b)))) [] 0) .mk) .mk) .mk):=by rw[opR]<;>rfl
theorem xbinT {op:BinOp}{t ty:TypeId}{x:Operand}{y:Nat}:opR P Φ nm S H (.binOp op t x (.tmp y) ty) K tg=mK (qv P S H (.binOp op t x (.tmp y) ty)) (fun d=>K (some d) [] 0) .mk:=by rw[opR]<;>(intros;simp_all)
theorem xbinI {op:BinOp}{t ty:TypeId}{x:Operand}{k:IntKind}{y:Int}:opR P Φ nm S H (.binOp op t x (.const (.int k y)) ty) K tg=mK (qv P S H (.binOp op t x (.const (.int k y)) ty)) (fun d=>K (some d) [] 0) .mk:=by rw[opR]<;>(intros;simp_all)
theorem xbinF {op:BinOp}{t ty:TypeId}{x:Operand}{k:FloatKind}{y:Nat}:opR P Φ nm S H (.binOp op t x (.const (.float k y)) ty) K tg=mK (qv P S H (.binOp op t x (.const (.float k y)) ty)) (fun d=>K (some d) [] 0) .mk:=by rw[opR]<;>(intros;simp_all)
theorem xbinC {op:BinOp}{t ty:TypeId}{x:Operand}{k:FloatKind}{y z:Nat}:opR P Φ nm S H (.binOp op t x (.const (.complex k y z)) ty) K tg=mK (qv P S H (.binOp op t x (.const (.complex k y z)) ty)) (fun d=>K (some d) [] 0) .mk:=by rw[opR]<;>(intros;simp_all)
theorem xbinB {op:BinOp}{t ty:TypeId}{x:Operand}{y:Bool}:opR P Φ nm S H (.binOp op t x (.const (.bool y)) ty) K tg=mK (qv P S H (.binOp op t x (.const (.bool y)) ty)) (fun d=>K (some d) [] 0) .mk:=by rw[opR]<;>(intros;simp_all)
theorem xbinS {op:BinOp}{t ty:TypeId}{x:Operand}{y:ByteArray}:opR P Φ nm S H (.binOp op t x (.const (.string y)) ty) K tg=mK (qv P S H (.binOp op t x (.const (.string y)) ty)) (fun d=>K (some d) [] 0) .mk:=by rw[opR]<;>(intros;simp_all)
theorem xmove {x:Operand}:opR P Φ nm S H (.move x) K tg=mK (ev S x) (fun d=>K (some d) [] 0) .mk:=by rw[opR]<;>(intros;simp_all [qv])
theorem xassign {x:Operand}:opR P Φ nm S H (.assign x) K tg=mK (ev S x) (fun d=>K (some d) [] 0) .mk:=by rw[opR]<;>(intros;simp_all [qv])
theorem xpick {c x y:Operand}:opR P Φ nm S H (.pick c x y) K tg=mK (qv P S H (.pick c x y)) (fun d=>K (some d) [] 0) .mk:=by rw[opR]<;>(intros;simp_all)
theorem xnilC {x:Operand}:opR P Φ nm S H (.nilCheck x) K tg=mK (qv P S H (.nilCheck x)) (fun d=>K (some d) [] 0) .mk:=by rw[opR]<;>(intros;simp_all)
theorem xunOp {op:UnOp}{t:TypeId}{x:Operand}:opR P Φ nm S H (.unOp op t x) K tg=mK (qv P S H (.unOp op t x)) (fun d=>K (some d) [] 0) .mk:=by rw[opR]<;>(intros;simp_all)
theorem xfieldA {t:TypeId}{x:Operand}{f:Nat}:opR P Φ nm S H (.fieldAddr t x f) K tg=mK (fieldAddrD P t S x f) (fun d=>K (some d) [] 0) .mk:=by rw[opR]<;>(intros;simp_all [qv])
theorem xfield {t:TypeId}{x:Operand}{f:Nat}:opR P Φ nm S H (.field t x f) K tg=mK (fieldD P t S x f) (fun d=>K (some d) [] 0) .mk:=by rw[opR]<;>(intros;simp_all [qv])
theorem xindexA {t:TypeId}{x i:Operand}:opR P Φ nm S H (.indexAddr t x i) K tg=mK (indexAddrD P t S x i) (fun d=>K (some d) [] 0) .mk:=by rw[opR]<;>(intros;simp_all [qv])
theorem xslice {t:TypeId}{x:Operand}{lo hi:Option Operand}:opR P Φ nm S H (.slice t x lo hi none) K tg=mK (sliceX P t S x lo hi) (fun d=>K (some d) [] 0) .mk:=by rw[opR]<;>(intros;simp_all [qv])
theorem xindex {t:TypeId}{x i:Operand}:opR P Φ nm S H (.index t x i) K tg=mK (indexS P S t x i) (fun d=>K (some d) [] 0) .mk:=by rw[opR]<;>(intros;simp_all [qv])
theorem xextract {x:Operand}{k:Nat}:opR P Φ nm S H (.extract x k) K tg=mK (qv P S H (.extract x k)) (fun d=>K (some d) [] 0) .mk:=by rw[opR]<;>(intros;simp_all)
theorem xmakeF {f:Fn}{first caps:Array Operand}:opR P Φ nm S H (.makeFunc f first caps) K tg=mK (qv P S H (.makeFunc f first caps)) (fun d=>K (some d) [] 0) .mk:=by rw[opR]<;>(intros;simp_all)
theorem xbuild {t:TypeId}{ps:Array (Nat×Operand)}:opR P Φ nm S H (.build t ps) K tg=mK (qv P S H (.build t ps)) (fun d=>K (some d) [] 0) .mk:=by rw[opR]<;>(intros;simp_all)
theorem xlen {x:Operand}{t:TypeId}:opR P Φ nm S H (.call {callee:=.builtin .len,args:=#[x],argTypes:=#[t]}) K tg=mK (lenD P t (ev S x)) (fun d=>K (some d) [] 0) .mk:=by rw[opR]<;>(intros;simp_all [qv])
theorem xclear {x:Operand}{t:TypeId}:opR P Φ nm S H (.call {callee:=.builtin .clear,args:=#[x],argTypes:=#[t]}) K tg=mK (clearH P t S H x) (fun p=>K (some (.tup [])) [(p.1,some p.2)] 0) .mk:=by rw[opR]<;>rfl
theorem xreal {x:Operand}{ts:Array TypeId}:opR P Φ nm S H (.call {callee:=.builtin .real,args:=#[x],argTypes:=ts}) K tg=mK (qv P S H (.call {callee:=.builtin .real,args:=#[x],argTypes:=ts})) (fun d=>K (some d) [] 0) .mk:=by rw[opR]<;>(intros;simp_all)
theorem ximag {x:Operand}{ts:Array TypeId}:opR P Φ nm S H (.call {callee:=.builtin .imag,args:=#[x],argTypes:=ts}) K tg=mK (qv P S H (.call {callee:=.builtin .imag,args:=#[x],argTypes:=ts})) (fun d=>K (some d) [] 0) .mk:=by rw[opR]<;>(intros;simp_all)
theorem xcomplex {x y:Operand}{ts:Array TypeId}:opR P Φ nm S H (.call {callee:=.builtin .complex,args:=#[x,y],argTypes:=ts}) K tg=mK (qv P S H (.call {callee:=.builtin .complex,args:=#[x,y],argTypes:=ts})) (fun d=>K (some d) [] 0) .mk:=by rw[opR]<;>(intros;simp_all)
theorem xmax {x y:Operand}{ts:Array TypeId}:opR P Φ nm S H (.call {callee:=.builtin .max,args:=#[x,y],argTypes:=ts}) K tg=mK (qv P S H (.call {callee:=.builtin .max,args:=#[x,y],argTypes:=ts})) (fun d=>K (some d) [] 0) .mk:=by rw[opR]<;>(intros;simp_all)
theorem xmin {x y:Operand}{ts:Array TypeId}:opR P Φ nm S H (.call {callee:=.builtin .min,args:=#[x,y],argTypes:=ts}) K tg=mK (qv P S H (.call {callee:=.builtin .min,args:=#[x,y],argTypes:=ts})) (fun d=>K (some d) [] 0) .mk:=by rw[opR]<;>(intros;simp_all)
end ops
end Go.SX
namespace Go.SX
open Go
variable {P : Program}
inductive NlC:C→C→Prop where
 | same (x:C):NlC x x
 | nil (sz:Nat):NlC .nil (.im (.sl sz []))
inductive NlD:D→D→Prop where
 | same (d:D):NlD d d
 | c (x y:C) (h:NlC x y):NlD (.c x) (.c y)
 | agg (xs ys:List C) (hl:xs.length=ys.length) (h:∀(j:Nat) (x y:C),xs[j]?=some x→ys[j]?=some y→NlC x y):NlD (.agg xs) (.agg ys)
theorem NlC.cv {g:Gh}{x y:C}{v:Value}(h:NlC x y)(hv:CV g x v):CV g y v:=by
 cases h with
 | same=>exact hv
 | nil sz=>cases hv with|nil=>exact .im _ _ (.sl0 _ _ _)
theorem NlD.dv {g:Gh}{x y:D}{v:Value}(h:NlD x y)(hv:DV g x v):DV g y v:=by
 cases h with
 | same=>exact hv
 | c a b h=>cases hv with|c _ _ hc=>exact .c _ _ (h.cv hc)
 | agg xs ys hl h=>
  cases hv with
  | agg _ vs hs hr=>
   refine .agg _ _ (hs.trans hl) (fun j y v G F=>?_);have E:j<xs.length:=(by rw[hl];exact (List.getElem?_eq_some_iff.1 G).1);exact (h j _ y (List.getElem?_eq_getElem E) G).cv (hr j _ v (List.getElem?_eq_getElem E) F)
inductive NlDs:List D→List D→Prop where
 | nil:NlDs [] []
 | cons {d d':D} {l l':List D} (h:NlD d d') (hl:NlDs l l'):NlDs (d::l) (d'::l')
theorem NlDs.len {l l':List D}(h:NlDs l l'):l.length=l'.length:=by
 induction h with
 | nil=>rfl
 | cons _ _ ih=>simp[ih]
theorem NlDs.at_ {l l':List D}(h:NlDs l l'):∀(t:Nat) (d':D),l'[t]?=some d'→∃d,l[t]?=some d∧NlD d d':=by
 induction h with
 | nil=>intro t d' h;simp at h
 | cons h _ ih=>
  intro t d' E
  cases t with
  | zero=>simp at E;subst E;exact⟨_,rfl,h⟩
  | succ t=>simp at E;simpa using ih t d' E
theorem zIl2 {f:FuncId}{ct ct':Ct}(hL:Law P f ct)(hsc:ct'.sc=ct.sc)(h:∀ds hs o,ct'.run ds hs=some o→∃E,NlDs ds E∧ct.run E hs=some o):Law P f ct':=by
 refine⟨⟨fun ds hs o hr=>?_,fun ds hs o hr=>?_⟩,hL.2⟩
 ·obtain ⟨E,_,h2⟩:=h ds hs o hr;rw[hsc];exact hL.1.ok E hs o h2
 ·obtain ⟨E,h1,h2⟩:=h ds hs o hr;intro en args hl V F;refine hL.1.at_ E hs o h2 en args (hl.trans h1.len) V ⟨F.fr,F.df,F.lt,F.fz,fun t d' J=>?_,F.roots,F.wd⟩;obtain ⟨d,hd,Z⟩:=h1.at_ t d' J;obtain ⟨v,U,G⟩:=F.slots t d hd;exact⟨v,U,Z.dv G⟩
theorem zJc2 {f:FuncId} {α β:Type} {sc:Bool} {args:α→List D×List (List B)} {out:α→Outs} {args':β→List D×List (List B)} {out':β→Outs} (hL:Law P f (fam sc args out))
 (hrun:∀a,(fam sc args out).run (args a).1 (args a).2=some (out a)) (g:β→α) (hN:∀b,NlDs (args' b).1 (args (g b)).1∧(args' b).2=(args (g b)).2) (ho:∀b,out' b=out (g b)):Law P f (fam sc args' out'):=by
 refine zIl2 hL rfl (fun ds hs o hr=>?_);simp only[fam] at hr;split at hr
 ·rename_i E;injection hr with hr;subst hr;have hc:=E.choose_spec;refine⟨(args (g E.choose)).1,?_,?_⟩
  ·have:=(hN E.choose).1;rw[hc] at this;exact this
  ·have h2:=(hN E.choose).2;rw[hc] at h2;rw[ho];have:=hrun (g E.choose);rw[←h2] at this;exact this
 ·cases hr
end Go.SX
namespace Go.SX
open Go
theorem zWi1 {sz:Nat}:lentR (.arr sz [])=[]:=by simp only[lentR,yaP]
theorem zRp1 {sz:Nat}{r:List T}{rows:List (List T)}:lentR (.arr sz (r::rows))=r.flatMap lentT++lentR (.arr sz rows):=by simp only[lentR,List.flatMap_cons]
theorem zWk1 {sz:Nat}{r rows:List (List T)}:lentR (.arr sz (r++rows))=lentR (.arr sz r)++lentR (.arr sz rows):=by simp only[lentR,List.flatMap_append]
theorem zWj1 {cs:List B}:lentR (.box cs)=[]:=by simp only[lentR]
theorem zCj2 {sz:Nat}{rows:List (List I)}:lentR (.arr sz (tI rows))=[]:=by
 simp only[lentR,tI,List.flatMap_eq_nil_iff,List.mem_map];rintro r ⟨q,_,rfl⟩ t ht;obtain ⟨i,_,rfl⟩:=List.mem_map.1 ht;rfl
attribute [go_sem] xskip xreg0 xreg1 xseq xcond xblock xloop xscope xexit xret zJq2 zFq2 zFp2 zJr2 zFs2 zFr2 xload xstore xalloc xbox xbuildS xmakeS xappend xcall xconv xnil
attribute [go_sem] xbinT xbinI xbinF xbinC xbinB xbinS xmove xassign xpick xnilC xunOp xfieldA xfield xindexA xslice xextract xmakeF xbuild xlen xreal ximag xcomplex xmax xmin oKo oKa nKn nKv
attribute [go_sem] nKs nilOp cKs lentCs lentPs preW plXn plXc pMs finO finKF folds wk1 ldJs ownJs hoistJ apH qv ev evC evI evIs evCs evDs cV lk ins insW dOk gSlot mKs mKn mK_ite St.eff
attribute [go_sem] St.entry entS putS binI unI eqBo eqAgD convI finK finX mapO resD resV reD reC plK mkOp dCs toB toT mapT mapTs storeH Root.sz Root.get Root.setB Root.setT setCs loadD loadCs
attribute [go_sem] loadIs nI bC mkD fieldAddrD fieldD indexAddrD sliceD optI lenD biD buildD partsD setL rowsD exDs exD exC exC1 dd exN plCells plBack unB loD loC toI pos phi addR addP dropN
attribute [go_sem] mCs mCn isTail frzPs boxI sortH imTN lentsT nones xclear clearH frzL frzD imT frzLs frC frT xindex indexS sliceX strD u8L
attribute [go_sem] upd gV rdX nestH lentT zWi1 zRp1 zCj2 zWj1 zWk1 zMz2 zNc2 zNa2 zNb2 gM_u gM_s zLs2 zLv2 zLt2 zLu2 rdN vwO vwC vwC1 isCallO lookT opTm oT resF resH memb rtOk List.map_map zAn zTh zNk2
attribute [go_sem] List.getElem?_cons_zero List.getElem?_cons_succ List.getElem?_nil id true_and and_true Nat.zero_add Nat.add_zero Bool.not_true Bool.not_false List.length_nil
attribute [go_sem] List.length_cons List.map_cons List.map_nil List.append_nil List.nil_append List.cons_append List.flatMap_cons List.flatMap_nil List.mem_cons List.not_mem_nil
attribute [go_sem] List.replicate List.set_cons_zero List.set_cons_succ List.forall_mem_cons decide_eq_true_eq decide_true decide_false not_false_eq_true not_true_eq_false
attribute [go_sem] and_false false_and and_self true_or or_true false_or or_false Option.some.injEq D.c.injEq D.agg.injEq D.tup.injEq C.im.injEq I.bool.injEq I.int.injEq I.flt.injEq
attribute [go_sem] I.cpx.injEq I.str.injEq List.cons.injEq Bool.false_eq_true implies_true Bool.true_eq_false if_false if_true forall_const exists_const forall_eq forall_eq_or_imp
attribute [go_sem] Option.isSome_some Option.map_some Option.map_none Option.getD_some Option.getD_none List.drop_zero Int.le_refl Int.toNat_zero ne_eq Nat.le_refl List.getD_cons_zero
attribute [go_sem] List.getD_cons_succ subF subOk sOk hOk nms reF rho mapD mapC mapC1 NmD NmC NmC1 mapR mapB mapTt NmR NmB NmT
attribute [go_sem] eq_self MvRb MvRn MvRt List.nodup_cons List.nodup_nil Nat.reduceEqDiff Nat.reduceLT Nat.reduceLeDiff Nat.reduceAdd Nat.reduceMul reduceCtorEq false_implies List.mem_singleton
attribute [go_sem ↓] reduceIte
theorem zAc {ct:Ct}{ι:Type}{sc:Bool}{args:ι→List D×List (List B)}{out:ι→Outs}(e:ct=fam sc args out)(hinj:∀a b,args a=args b→a=b)(i:ι):ct.run (args i).1 (args i).2=some (out i):=by
 subst e;exact zBd hinj i
theorem zHd {ct:Ct}{ι:Type}{sc:Bool}{args:ι→List D×List (List B)}{out:ι→Outs}(e:ct=fam sc args out)(hinj:∀a b,args a=args b→out a=out b)(i:ι):ct.run (args i).1 (args i).2=some (out i):=by
 subst e;exact zYe1 hinj i
end Go.SX
namespace Go.SX
open Go Go.RowKit
variable {P : Program}
theorem zFc1 {f : FuncId} {fn : Func} (hf : P.funcs[f]? = some fn) (hb : fn.body.isNone = false) (hnm : (fn.name == "runtime.NumGoroutine") = false) {α : Type} {sc : Bool} {ds : α → List D} {out : α → Outs}
 (hok:∀a res,(out a).mem res→OkR sc res)
 (h:∀a (args:List Value) (w:World),args.length=(ds a).length→(∀(t:Nat) (d:D) (v:Value),(ds a)[t]?=some d→args[t]?=some v→∃g:Gh,DV g d v)→Laid (fun _=>none) w→
  Calls P f args.toArray w (fun e w'=>∃v,e=.returned v∧(∃res,(out a).mem res∧res.roots=[]∧res.places=[]∧(∀ρ,reD ρ res.val=some res.val)∧∀g,DV g res.val v)∧Below w.heap.size w w')):
 Law P f (fam sc (fun a=>(ds a,[])) out):=by
 refine⟨⟨fun dss hs o hr res hm=>?_,fun dss hs o hr=>?_⟩,fn,hf,hnm,hb⟩
 ·simp only[fam] at hr
  split at hr
  ·injection hr with hr;subst hr;exact hok _ _ hm
  ·cases hr
 ·simp only[fam] at hr
  split at hr
  ·rename_i hex
   injection hr with hr
   subst hr
   have hc:=Classical.choose_spec hex
   generalize Classical.choose hex=a0 at hc ⊢
   simp only[Prod.mk.injEq] at hc
   obtain ⟨hd,hh⟩:=hc
   subst hh
   intro en args hl hu hR
   refine (h a0 args en.w0 (by rw[hd];exact hl) (fun t d v h1 h2=>⟨en.g0,?_⟩) (hR.fr.laid.move (fun b _ _=>⟨rfl,rfl⟩))).mono ?_
   ·rw[hd] at h1
    obtain ⟨v',h3,h4⟩:=hR.slots t d h1
    have h5:args.toArray[t]?=some v:=by simpa using h2
    have h6:args.toArray[t]?=some v':=h3
    rw[h5] at h6;injection h6 with h6;subst h6
    exact h4
   ·rintro e w' ⟨v,he,⟨res,hm,hr0,hp0,hre,hdv⟩,hB⟩
    refine⟨v,he,res,hm,en.g0,[],fun _=>none,fun _=>none,⟨#[],[]⟩,res.val,?_,by simp,by simp[hr0],by simp,by simp[hr0],by simp[hp0],hre _,hdv _⟩
    refine⟨⟨hR.fr.laid,hB.os,hB.tape,hB.output,hB.size,Gh.le.refl _,fun b hb ho=>⟨ho,hB.block b hb⟩,fun b n ho=>?_,fun b o v _ hv=>.inl hv⟩,rfl,fun b x hx=>Nat.lt_of_lt_of_le (hR.lt b x hx) hB.size,fun b o v hv=>?_,by simp,by simp,by simp⟩
    ·have:=hu n (hR.fr.place b n ho).1
     simp at this
    ·obtain ⟨h1,h2⟩:=hR.fz b o v hv
     refine⟨?_,h2⟩
     have hlt:b<en.w0.heap.size:=World.block_lt_of_cell? _ _ h1
     rw[hB.cell (p:=⟨b,o,none⟩) hlt];exact h1
  ·cases hr
theorem zCt2 {f : FuncId} {fn : Func} (hf : P.funcs[f]? = some fn) (hb : fn.body.isNone = false) (hnm : (fn.name == "runtime.NumGoroutine") = false) {α : Type} {ds : α → List D} {out : α → List ByteArray}
 (h:∀a (args:List Value) (w:World),args.length=(ds a).length→(∀(t:Nat) (d:D) (v:Value),(ds a)[t]?=some d→args[t]?=some v→∃g:Gh,DV g d v)→Laid (fun _=>none) w→
  Calls P f args.toArray w (fun e w'=>∃t c,e=.returned (.slice (some ⟨w.heap.size,0,none⟩) (out a).length c)∧(out a).length≤c∧w'=w.alloc (.cells ((out a).map Value.string).toArray t))):
 Law P f (fam false (fun a=>(ds a,[])) (fun a=>.one {val:=.c (.im (.sl 1 ((out a).map fun s=>[I.str s])))})):=by
 refine⟨⟨fun dss hs o hr res hm=>?_,fun dss hs o hr=>?_⟩,fn,hf,hnm,hb⟩
 ·simp only[fam] at hr
  split at hr
  ·injection hr with hr;subst hr
   cases hm
   exact⟨.c _ (.im _ (.inl rfl)),by simp,by simp⟩
  ·cases hr
 ·simp only[fam] at hr
  split at hr
  ·rename_i hex
   injection hr with hr
   subst hr
   have hc:=Classical.choose_spec hex
   generalize Classical.choose hex=a0 at hc ⊢
   simp only[Prod.mk.injEq] at hc
   obtain ⟨hd,hh⟩:=hc
   subst hh
   intro en args hl hu hR
   refine (h a0 args en.w0 (by rw[hd];exact hl) (fun t d v h1 h2=>⟨en.g0,?_⟩) (hR.fr.laid.move (fun b _ _=>⟨rfl,rfl⟩))).mono ?_
   ·rw[hd] at h1
    obtain ⟨v',h3,h4⟩:=hR.slots t d h1
    have h5:args.toArray[t]?=some v:=by simpa using h2
    have h6:args.toArray[t]?=some v':=h3
    rw[h5] at h6;injection h6 with h6;subst h6
    exact h4
   ·rintro e w' ⟨t,c,he,hle,rfl⟩
    have hnew:∀o,(en.w0.alloc (.cells ((out a0).map Value.string).toArray t)).cell? ⟨en.w0.heap.size,o,none⟩=((out a0).map Value.string)[o]?:=fun o=>by
     unfold World.cell? World.alloc
     simp only[Array.getElem?_push_size]
     cases h9:((out a0)[o]?)<;>simp[h9]
    have hold:∀b,b<en.w0.heap.size→(en.w0.alloc (.cells ((out a0).map Value.string).toArray t)).heap[b]?=en.w0.heap[b]?:=fun b hb=>by
     simp only[World.alloc]
     rw[Array.getElem?_push_lt hb,Array.getElem?_eq_getElem hb]
    have hown:en.g0.own en.w0.heap.size=none:=by
     cases ho:en.g0.own en.w0.heap.size with
     | none=>rfl
     | some x=>exact absurd (hR.lt _ _ ho) (Nat.lt_irrefl _)
    have hfzlt:∀b o v,en.g0.fz b o=some v→b<en.w0.heap.size:=fun b o v hv=>World.block_lt_of_cell? _ _ (hR.fz b o v hv).1
    refine⟨_,he,_,rfl,{en.g0 with fz:=fun b o=>if b=en.w0.heap.size then ((out a0).map Value.string)[o]? else en.g0.fz b o},[],fun _=>none,fun _=>none,⟨#[],[]⟩,_,?_,by simp,by simp,by simp,by simp,by simp,rfl,?_⟩
    ·refine⟨⟨hR.fr.laid,rfl,rfl,rfl,by simp,⟨fun _ h=>h,fun _ _=>rfl,fun _ _=>rfl,fun _ _=>rfl,fun b o v hv=>?_⟩,fun b hb ho=>⟨ho,hold b hb⟩,fun b n ho=>?_,fun b o v hb hv=>?_⟩,rfl,fun b x hx=>?_,fun b o v hv=>?_,by simp,by simp,by simp⟩
     ·have:=hfzlt b o v hv
      simp only
      rw[if_neg (by omega)];exact hv
     ·have:=hu n (hR.fr.place b n ho).1
      simp at this
     ·simp only at hv
      rw[if_neg (by omega)] at hv;exact .inl hv
     ·have:=hR.lt b x hx
      simp;omega
     ·simp only at hv ⊢
      by_cases hb:b=en.w0.heap.size
      ·subst hb
       rw[if_pos rfl] at hv
       exact⟨(hnew o).trans hv,hown⟩
      ·rw[if_neg hb] at hv
       obtain ⟨h1,h2⟩:=hR.fz b o v hv
       refine⟨?_,h2⟩
       rw[←h1]
       exact World.cell?_of_block (hold b (hfzlt b o v hv))
    ·refine .c _ _ (.im _ _ ?_)
     have:=IR.sl (fz:=fun b o=>if b=en.w0.heap.size then ((out a0).map Value.string)[o]? else en.g0.fz b o) 1 ((out a0).map fun s=>[I.str s]) en.w0.heap.size 0 c (fun i _=>.string ((out a0).getD i default)) (by simpa using hle) (fun i r hr=>by
      simp only[List.getElem?_map,Option.map_eq_some_iff] at hr
      obtain ⟨p,_,rfl⟩:=hr;rfl) (fun i r j x h1 h2=>?_) (fun i r j x h1 h2=>?_)
     ·simpa using this
     ·simp only[List.getElem?_map,Option.map_eq_some_iff] at h1
      obtain ⟨p,hp,rfl⟩:=h1
      match j,h2 with
      | 0,h2=>
       simp only[yav,Nat.zero_add,Nat.mul_one,yal,List.getElem?_map,hp,yak,List.getD_eq_getElem?_getD,yaU]
      | j+1,h2=>simp at h2
     ·simp only[List.getElem?_map,Option.map_eq_some_iff] at h1
      obtain ⟨p,hp,rfl⟩:=h1
      match j,h2 with
      | 0,h2=>
       simp only[List.getElem?_cons_zero,yaC] at h2
       subst h2
       simp only[List.getD_eq_getElem?_getD,hp,yaU]
       exact .str _
      | j+1,h2=>simp at h2
  ·cases hr
end Go.SX
namespace Go.SX
open Go Ieee
theorem zGa (m k:Nat):m <<< k=m*2^ k:=Nat.shiftLeft_eq m k
theorem zEv1 (m k:Nat)(h:0<m):(m*2^ k).log2=m.log2+k:=by
 rw[Nat.log2_eq_iff (Nat.ne_of_gt (Nat.mul_pos h (Nat.two_pow_pos k)))];have h1:=Nat.log2_self_le (Nat.ne_of_gt h);have h2:=Nat.lt_log2_self (n:=m);constructor
 ·rw[Nat.pow_add];exact Nat.mul_le_mul_right _ h1
 ·rw[show m.log2+k+1=(m.log2+1)+k by omega,Nat.pow_add];exact Nat.mul_lt_mul_of_pos_right h2 (Nat.two_pow_pos k)
theorem log2_lt {m:Nat}(h:m<16777216):m.log2≤23:=by
 by_cases h0:m=0
 ·subst h0;decide
 ·have:=(Nat.log2_lt h0 (k:=24)).2 (by omega);omega
theorem zKr1 (neg:Bool)(k d:Nat)(hk:0<k):Toward.even.cut neg (k*2^ d) d=k:=by
 unfold Toward.cut;have hl:d≤(k*2^ d).log2+2:=by rw[zEv1 _ _ hk];omega
 rw[Nat.min_eq_left hl];have F:1 <<< d=2^ d:=by rw[zGa,Nat.one_mul]
 have E:=Nat.two_pow_pos d;simp only[F,Nat.mul_mod_left,Nat.mul_div_cancel _ E,Nat.mul_zero];have h1:decide (2^ d<0)=false:=by simp
 have h2:((2:Nat)^ d ==0)=false:=by simp
 simp[h2]
def wI (n:Int):Nat:=FloatKind.f32.nearest n
def SV (m:Nat)(e:Int)(M:Nat)(E:Int):Prop:=∃c:Int,c≤e∧c≤E∧m*2^ (e-c).toNat=M*2^ (E-c).toNat
theorem SV.refl (m:Nat)(e:Int):SV m e m e:=⟨e,by omega,by omega,rfl⟩
theorem SV.symm {m M:Nat}{e E:Int}(h:SV m e M E):SV M E m e:=by
 obtain ⟨c,h1,h2,h3⟩:=h;exact⟨c,h2,h1,h3.symm⟩
theorem SV.lower {m M:Nat}{e E c:Int}(h1:c≤e)(h2:c≤E)(h:m*2^ (e-c).toNat=M*2^ (E-c).toNat){d:Int}(hd:d≤c):m*2^ (e-d).toNat=M*2^ (E-d).toNat:=by
 have G:(e-d).toNat=(e-c).toNat+(c-d).toNat:=by omega
 have F:(E-d).toNat=(E-c).toNat+(c-d).toNat:=by omega
 rw[G,F,Nat.pow_add,Nat.pow_add,←Nat.mul_assoc,←Nat.mul_assoc,h]
theorem SV.trans {m M n:Nat}{e E j:Int}(h:SV m e M E)(k:SV M E n j):SV m e n j:=by
 obtain ⟨c,h1,h2,h3⟩:=h;obtain ⟨d,J,G,F⟩:=k;refine⟨min c d,by omega,by omega,?_⟩;rw[SV.lower h1 h2 h3 (d:=min c d) (by omega),SV.lower J G F (d:=min c d) (by omega)]
theorem SV.shl (m:Nat)(e:Int)(k:Nat):SV m e (m*2^ k) (e-k):=by
 refine⟨e-k,by omega,by omega,?_⟩;have F:(e- (e- (k:Int))).toNat=k:=by omega
 have E:(e- (k:Int)- (e- (k:Int))).toNat=0:=by omega
 rw[F,E];simp
theorem SV.pos {m M:Nat}{e E:Int}(h:SV m e M E)(h0:0<m):0<M:=by
 obtain ⟨c,h1,h2,h3⟩:=h;have:=Nat.mul_pos h0 (Nat.two_pow_pos (e-c).toNat);rw[h3] at this;exact Nat.pos_of_mul_pos_right this
theorem SV.log {m M:Nat}{e E:Int}(h:SV m e M E)(h0:0<m):e+m.log2=E+M.log2:=by
 have hM:=h.pos h0;obtain ⟨c,h1,h2,h3⟩:=h;have:=congrArg Nat.log2 h3;rw[zEv1 _ _ h0,zEv1 _ _ hM] at this;omega
theorem SV.eq {m M:Nat}{e:Int}(h:SV m e M e):m=M:=by
 obtain ⟨c,h1,h2,h3⟩:=h;exact Nat.eq_of_mul_eq_mul_right (Nat.two_pow_pos _) h3
theorem SV.le {m M:Nat}{e E:Int}(h:SV m e M E)(hle:E≤e):M=m*2^ (e-E).toNat:=by
 have h2:=SV.shl m e (e-E).toNat;have e1:e- ((e-E).toNat:Int)=E:=by omega
 rw[e1] at h2;exact (h.symm.trans h2).eq
theorem SV.add {m M:Nat}{e E:Int}(h:SV m e M E)(k:Int):SV m (e+k) M (E+k):=by
 obtain ⟨c,h1,h2,h3⟩:=h;refine⟨c+k,by omega,by omega,?_⟩;have G:(e+k- (c+k)).toNat=(e-c).toNat:=by omega
 have F:(E+k- (c+k)).toNat=(E-c).toNat:=by omega
 rw[G,F,h3]
theorem SV.mul {m M n N:Nat}{e E i I:Int}(h:SV m e M E)(k:SV n i N I):SV (m*n) (e+i) (M*N) (E+I):=by
 obtain ⟨c,h1,h2,h3⟩:=h;obtain ⟨d,V,U,F⟩:=k;refine⟨c+d,by omega,by omega,?_⟩;have J:(e+i- (c+d)).toNat=(e-c).toNat+(i-d).toNat:=by omega
 have G:(E+I- (c+d)).toNat=(E-c).toNat+(I-d).toNat:=by omega
 rw[J,G,Nat.pow_add,Nat.pow_add]
 calc m*n*(2^ (e-c).toNat*2^ (i-d).toNat)=(m*2^ (e-c).toNat)*(n*2^ (i-d).toNat):=by ac_rfl
   _=(M*2^ (E-c).toNat)*(N*2^ (I-d).toNat):=by rw[h3,F]
   _=_:=by ac_rfl
structure Can (f:Format) (M:Nat) (last:Int):Prop where
 pos:0<M
 lt:M<2^ (f.fractionBits+1)
 ge:f.leastPlace≤last
 form:last=f.leastPlace∨2^ f.fractionBits≤M
theorem zDd {M k:Nat}(h0:0<M)(h:M<2^ (k+1)):M.log2≤k:=by
 have:=(Nat.log2_lt (Nat.ne_of_gt h0) (k:=k+1)).2 h;omega
theorem zQl {M k:Nat}(h:2^ k≤M):k≤M.log2:=by
 have h0:M≠0:=by have:=Nat.two_pow_pos k;omega
 exact (Nat.le_log2 h0).2 h
theorem zFg {f:Format}{M:Nat}{last:Int}(hc:Can f M last){m:Nat}{e:Int}(hv:SV m e M last)(neg:Bool):
 f.nearest neg m e=f.word neg (min ((last-f.leastPlace).toNat*f.binade+M) f.infRung):=by
 have G:=hv.symm.pos hc.pos;have J:=hv.log G;have U:=zDd hc.pos hc.lt
 have E:max (e+(m.log2:Int)- (f.fractionBits:Int)) f.leastPlace=last:=by
  have Z:=hc.ge;rcases hc.form with h|h
  ·omega
  ·have:=zQl h;omega
 unfold Format.nearest;rw[if_neg (Nat.ne_of_gt G)];simp only[E]
 have V:Toward.even.cut neg (m <<< (e-last).toNat) (last-e).toNat=M:=by
  by_cases F:last≤e
  ·have h1:=hv.le F;have h2:(last-e).toNat=0:=(by omega);rw[h2,zGa,←h1];have:=zKr1 neg M 0 hc.pos;simpa using this
  ·have h1:=hv.symm.le (show e≤last by omega);have h2:(e-last).toNat=0:=(by omega);rw[h2,Nat.shiftLeft_zero,h1];exact zKr1 neg M _ hc.pos
 rw[V]
def rgM (f:Format)(r:Nat):Nat:=if r<f.binade then r else f.binade+r%f.binade
def rgE (f:Format)(r:Nat):Int:=if r<f.binade then f.leastPlace else f.leastPlace+(r / f.binade-1:Nat)
theorem zQe1 {f:Format}{r:Nat}(h0:0<r):Can f (rgM f r) (rgE f r):=by
 have hb:0<f.binade:=Nat.two_pow_pos _;have E:2^ (f.fractionBits+1)=f.binade+f.binade:=by unfold Format.binade;omega
 unfold rgM rgE;split
 ·exact⟨h0,by omega,by omega,.inl rfl⟩
 ·have:=Nat.mod_lt r hb;exact⟨by omega,by omega,by omega,.inr (by show f.binade≤_;omega)⟩
theorem zUb1 {f:Format}(r:Nat):((rgE f r)-f.leastPlace).toNat*f.binade+rgM f r=r:=by
 have hb:0<f.binade:=Nat.two_pow_pos _;unfold rgM rgE;split
 ·simp
 ·rename_i h;have E:(f.leastPlace+((r / f.binade-1:Nat):Int)-f.leastPlace).toNat=r / f.binade-1:=by omega
  rw[E];have h1:1≤r / f.binade:=(Nat.le_div_iff_mul_le hb).2 (by omega);have h2:=Nat.div_add_mod r f.binade;have h3:(r / f.binade-1)*f.binade=r / f.binade*f.binade-f.binade:=by rw[Nat.sub_mul];omega
  have h4:f.binade≤r / f.binade*f.binade:=Nat.le_mul_of_pos_left _ h1;rw[h3,Nat.mul_comm (r / f.binade)] at*;omega
theorem zXf {f:Format}{r:Nat}(h0:0<r)(h1:r<f.infRung){m:Nat}{e:Int}(hv:SV m e (rgM f r) (rgE f r))(neg:Bool):f.nearest neg m e=f.word neg r:=by rw[zFg (zQe1 h0) hv,zUb1,Nat.min_eq_left (by omega)]
theorem zNf1 (f:Format)(h:1≤f.exponentBits):f.infRung<f.signWeight:=by
 unfold Format.infRung Format.signWeight Format.binade;rw[Nat.pow_add];exact Nat.mul_lt_mul_of_pos_right (by have:=Nat.two_pow_pos f.exponentBits;omega) (Nat.two_pow_pos _)
theorem zGs {f:Format}(he:1≤f.exponentBits){r:Nat}(h1:r<f.infRung)(neg:Bool):f.read (f.word neg r)=.number neg (rgM f r) (rgE f r):=by
 have hi:=zNf1 f he
 have F:f.word neg r%f.signWeight=r:=by
  unfold Format.word;split
  ·rw[Nat.add_mod_left];exact Nat.mod_eq_of_lt (by omega)
  ·exact Nat.mod_eq_of_lt (by omega)
 have E:(f.word neg r / f.signWeight%2 ==1)=neg:=by
  unfold Format.word
  cases neg
  ·rw[if_neg (by simp),Nat.div_eq_of_lt (by omega)];rfl
  ·rw[if_pos rfl,Nat.add_div_left _ (by omega),Nat.div_eq_of_lt (by omega)];rfl
 unfold Format.read;simp only[F,E];unfold rgM rgE;split
 ·rfl
 ·rfl
theorem zMj2 {f:Format}{m:Nat}{e:Int}(h0:0<m)(h:m<2^ (f.fractionBits+1))(he:f.leastPlace≤e):∃M last,Can f M last∧SV m e M last∧last≤e∧e-f.fractionBits≤last:=by
 have hl:=zDd h0 h
 have E:∀k:Nat,k≤f.fractionBits-m.log2→f.leastPlace≤e-k→(e- (k:Int)=f.leastPlace∨k=f.fractionBits-m.log2)→∃M last,Can f M last∧SV m e M last∧last≤e∧e-f.fractionBits≤last:=by
   intro k U J G;have F:=Nat.lt_log2_self (n:=m);refine⟨m*2^ k,e-k,⟨Nat.mul_pos h0 (Nat.two_pow_pos k),?_,J,?_⟩,SV.shl m e k,by omega,by omega⟩
   · calc m*2^ k<2^ (m.log2+1)*2^ k:=Nat.mul_lt_mul_of_pos_right F (Nat.two_pow_pos k)
       _=2^ (m.log2+1+k):=(Nat.pow_add 2 (m.log2+1) k).symm
       _≤_:=Nat.pow_le_pow_right (by omega) (by omega)
   · rcases G with h|h
     · exact .inl h
     · refine .inr ?_;subst h
       calc 2^ f.fractionBits=2^ m.log2*2^ (f.fractionBits-m.log2):=by rw[←Nat.pow_add,show m.log2+(f.fractionBits-m.log2)=f.fractionBits by omega]
         _≤_:=Nat.mul_le_mul_right _ (Nat.log2_self_le (Nat.ne_of_gt h0))
 by_cases hc:f.leastPlace≤e- ((f.fractionBits-m.log2:Nat):Int)
 · exact E _ (Nat.le_refl _) hc (.inr rfl)
 · exact E (e-f.leastPlace).toNat (by omega) (by omega) (.inl (by omega))
def RD (f:Format)(w:Nat)(s:Bool)(m:Nat)(e:Int):Prop:=∃M E,f.read w=.number s M E∧SV M E m e
theorem RD.sv {f:Format}{w:Nat}{s:Bool}{m n:Nat}{e j:Int}(h:RD f w s m e)(k:SV m e n j):RD f w s n j:=by
 obtain ⟨M,E,h1,h2⟩:=h;exact⟨M,E,h1,h2.trans k⟩
def i64B (n:Int):Prop := -9223372036854775808≤n∧n≤9223372036854775807
def isDig (b:UInt8):Prop:=48≤b.toNat∧b.toNat≤57
theorem zDc1 {d:Nat}(h:d<10):(UInt8.ofNat (48+d)).toNat=48+d:=by rw[UInt8.toNat_ofNat'];omega
theorem zHh:∀(u:Nat),∀b∈Lib.decDigits u,isDig b:=by
 intro u
 induction u using Nat.strongRecOn with
 | ind u ih=>
  intro b hb;unfold Lib.decDigits at hb;split at hb
  ·rename_i h;simp only[yaz] at hb;subst hb;rw[isDig,zDc1 h];omega
  ·rename_i h;rcases List.mem_append.1 hb with hb|hb
   ·exact ih (u / 10) (by omega) b hb
   ·simp only[yaz] at hb;subst hb;rw[isDig,zDc1 (Nat.mod_lt _ (by omega))];omega
theorem zMo (u:Nat):Lib.decDigits u≠[]:=by
 unfold Lib.decDigits;split<;>simp
theorem zIy1:∀(l:List UInt8) (acc v:Nat) (c:UInt8),Lib.parseUint10 acc l=.ok v→isDig c→v<1844674407370955162→v*10+(c.toNat-48)<18446744073709551616→Lib.parseUint10 acc (l++[c])=.ok (v*10+(c.toNat-48))
 | [],acc,v,c,h,hc,h1,h2=>by
  simp only[Lib.parseUint10,Lib.NumEnd.ok.injEq] at h;subst h;simp only[List.nil_append,Lib.parseUint10];rw[if_pos (show 48≤c.toNat∧c.toNat≤57 from hc),if_neg (by omega),if_neg (by omega)]
 | b::l,acc,v,c,h,hc,h1,h2=>by
  simp only[Lib.parseUint10] at h;simp only[List.cons_append,Lib.parseUint10];split at h
  ·rename_i hb;rw[if_pos hb];split at h
   ·cases h
   ·rename_i h3;rw[if_neg h3];split at h
    ·cases h
    ·rename_i h4;rw[if_neg h4];exact zIy1 l _ v c h hc h1 h2
  ·cases h
theorem zIx1:∀(u:Nat),u<18446744073709551616→Lib.parseUint10 0 (Lib.decDigits u)=.ok u:=by
 intro u
 induction u using Nat.strongRecOn with
 | ind u ih=>
  intro E;unfold Lib.decDigits;split
  ·rename_i h;simp only[Lib.parseUint10];rw[zDc1 h,if_pos (by omega),if_neg (by omega),if_neg (by omega)];congr 1;omega
  ·rename_i h;have:=zIy1 (Lib.decDigits (u / 10)) 0 (u / 10) (UInt8.ofNat (48+u%10)) (ih (u / 10) (by omega) (by omega)) (by rw[isDig,zDc1 (Nat.mod_lt _ (by omega))];omega) (by omega) (by rw[zDc1 (Nat.mod_lt _ (by omega))];omega);rw[this,zDc1 (Nat.mod_lt _ (by omega))];congr 1;omega
theorem zAa1 {n:Int}(h0 : -9223372036854775808≤n)(h1:n≤9223372036854775807):Lib.atoiAll (Lib.itoa n)=.ok n:=by
 unfold Lib.itoa;split
 ·rename_i G;have E:=zIx1 n.natAbs (by omega);unfold Lib.atoiAll;have F:(45:UInt8).toNat=45:=rfl;simp only[F,or_true,yav,Lib.parseMag,if_neg (zMo _),E,not_true_eq_false,false_and,yau,true_and];rw[if_neg (by omega)];congr 1;omega
 ·rename_i G;have E:=zIx1 n.toNat (by omega);have hd:=zHh n.toNat
  cases hl:Lib.decDigits n.toNat with
  | nil=>exact absurd hl (zMo _)
  | cons c r=>
   rw[hl] at E hd;have hc:=hd c (by simp);unfold isDig at hc;unfold Lib.atoiAll;have Z:¬c.toNat=43:=(by omega);have V:¬c.toNat=45:=(by omega);have U:¬9223372036854775808≤n.toNat:=(by omega);have J:((n.toNat:Nat):Int)=n:=(by omega);simp only[Z,or_self,Lib.parseMag,List.cons_ne_nil,yau,E,V,U,J,not_false_eq_true,false_and,and_false]
theorem zPj1 {a b:Int}(ha0 : -9223372036854775808≤a)(ha1:a≤9223372036854775807)(hb0 : -9223372036854775808≤b)(hb1:b≤9223372036854775807)(h:Lib.itoa a=Lib.itoa b):a=b:=by
 have h1:=zAa1 ha0 ha1;rw[h,zAa1 hb0 hb1] at h1;injection h1 with h1;exact h1.symm
theorem zDb2 {n:Int}{b:UInt8}(h:b∈Lib.itoa n):b=45∨isDig b:=by
 unfold Lib.itoa at h;split at h
 ·rcases List.mem_cons.1 h with h|h
  ·exact .inl h
  ·exact .inr (zHh _ b h)
 ·exact .inr (zHh _ b h)
theorem zXl1 (n:Int):Lib.itoa n≠[]:=by
 unfold Lib.itoa;split
 ·simp
 ·exact zMo _
theorem zDa2 {n:Int}(h:0≤n):∀b∈Lib.itoa n,isDig b:=by
 unfold Lib.itoa;rw[if_neg (by omega)];exact zHh _
def numF (s:List UInt8):Int×Bool:=match Lib.atoiAll s with
 | .ok v=>(v,decide (Lib.itoa v=s))
 | .range=>(Lib.atoiSat s,false)
 | _=>(0,false)
theorem zJc1 {n:Int}(h0 : -9223372036854775808≤n)(h1:n≤9223372036854775807):numF (Lib.itoa n)=(n,true):=by simp[numF,zAa1 h0 h1]
theorem zMl1 (s:List UInt8) : -9223372036854775808≤(numF s).1∧(numF s).1≤9223372036854775807:=by
 unfold numF;split
 ·rename_i v E;exact Lib.atoiAll_bounds E
 ·unfold Lib.atoiSat;split<;>simp
 ·simp
theorem zGm1 {s:List UInt8}{c:UInt8}(h:c ∉ s):Lib.cut s [c]=(s,[],false):=by
 have hi:Lib.index s [c] = -1:=by
  refine Lib.index_none fun j hj=>?_;unfold Lib.occAt
  cases hd:s.drop j with
  | nil=>rfl
  | cons a t=>
   have:a∈s:=List.mem_of_mem_drop (by rw[hd];simp);have E:¬c=a:=fun e=>h (e▸this);simp[List.isPrefixOf,E]
 simp[Lib.cut,hi]
theorem zPz1 {a b:List UInt8}{c:UInt8}(h:c ∉ a):Lib.cut (a++c::b) [c]=(a,b,true):=by
 have hi:Lib.index (a++c::b) [c]=(a.length:Int):=by
  refine Lib.index_first (by simp) ?_ fun j hj=>?_
  ·simp[Lib.occAt,List.isPrefixOf]
  ·unfold Lib.occAt;rw[List.drop_append_of_le_length (by omega)]
   cases hd:a.drop j with
   | nil=>have:=congrArg List.length hd;simp at this;omega
   | cons x t=>
    have:x∈a:=List.mem_of_mem_drop (by rw[hd];simp);have E:¬c=x:=fun e=>h (e▸this);simp[List.isPrefixOf,E]
 simp only[Lib.cut,hi];simp;try omega
theorem ep1:single.leastPlace = -149:=by decide
theorem ep2:double.leastPlace = -1074:=by decide
theorem bn1:single.binade=8388608:=by decide
theorem bn2:double.binade=4503599627370496:=by decide
theorem ir1:single.infRung=2139095040:=by decide
theorem ir2:double.infRung=2047*4503599627370496:=by decide
theorem sw1:single.signWeight=2147483648:=by decide
theorem zHa1 {f:Format}{M:Nat}{last:Int}(hc:Can f M last):rgM f ((last-f.leastPlace).toNat*f.binade+M)=M∧rgE f ((last-f.leastPlace).toNat*f.binade+M)=last:=by
 have hb:0<f.binade:=Nat.two_pow_pos _
 have F:M<f.binade+f.binade:=by
  have:=hc.lt;have e:2^ (f.fractionBits+1)=f.binade+f.binade:=by unfold Format.binade;omega
  omega
 by_cases E:M<f.binade
 ·have hl:last=f.leastPlace:=by
   rcases hc.form with h|h
   ·exact h
   ·exfalso;unfold Format.binade at E;omega
  subst hl;have e:(f.leastPlace-f.leastPlace).toNat=0:=by omega
  rw[e,Nat.zero_mul,Nat.zero_add];unfold rgM rgE;rw[if_pos E,if_pos E];exact⟨rfl,rfl⟩
 ·have J:=hc.ge;generalize G:(last-f.leastPlace).toNat=k
  have h1:¬k*f.binade+M<f.binade:=by
   have:=Nat.zero_le (k*f.binade);omega
  have h2:(k*f.binade+M)%f.binade=M-f.binade:=by
   rw[Nat.add_comm,Nat.add_mul_mod_self_right];have:M=(M-f.binade)+f.binade:=(by omega);rw[this,Nat.add_mod_right,Nat.mod_eq_of_lt (by omega)];omega
  have h3:(k*f.binade+M) / f.binade=k+1:=by
   rw[Nat.add_comm,Nat.add_mul_div_right _ _ hb];have:M / f.binade=1:=Nat.div_eq_of_lt_le (by omega) (by omega);omega
  unfold rgM rgE;rw[if_neg h1,if_neg h1,h2,h3];exact⟨by omega,by omega⟩
def dW (m:Nat)(e:Int):Nat:=double.nearest false m e
structure Dr (m:Nat) (e:Int):Prop where
 pos:0<m
 lt:m<9007199254740992
 lo : -900≤e
 hi:e≤900
theorem zPu1 {m:Nat}{e:Int}(h:Dr m e):∃M last,Can double M last∧SV m e M last∧last≤900 ∧ -952≤last∧4503599627370496≤M:=by
 have h1:=h.lo;have h2:=h.hi;obtain ⟨M,last,a,b,c,d⟩:=zMj2 (f:=double) (e:=e) h.pos (by have:=h.lt;exact this) (by rw[ep2];omega);have E:(double.fractionBits:Int)=52:=rfl;rw[E] at d;refine⟨M,last,a,b,by omega,by omega,?_⟩;rcases a.form with hf|hf
 ·rw[ep2] at hf;omega
 ·exact hf
theorem zMm1 {m:Nat}{e:Int}(h:Dr m e){n:Nat}{j:Int}(hv:SV m e n j):double.nearest false n j=dW m e:=by
 obtain ⟨M,last,a,b,_,_,_⟩:=zPu1 h;rw[dW,zFg a b,zFg a (hv.symm.trans b)]
theorem zKd2 {m:Nat}{e:Int}(h:Dr m e):∃M last,double.read (dW m e)=.number false M last∧SV M last m e∧4503599627370496≤M∧M<9007199254740992∧last≤900 ∧ -952≤last:=by
 obtain ⟨M,last,a,b,c,d,g⟩:=zPu1 h;have E:M<9007199254740992:=a.lt
 have hr:(last-double.leastPlace).toNat*double.binade+M<double.infRung:=by
  rw[ep2,bn2,ir2];omega
 have J:dW m e=double.word false ((last-double.leastPlace).toNat*double.binade+M):=by rw[dW,zFg a b,Nat.min_eq_left (by omega)]
 obtain ⟨G,F⟩:=zHa1 a;refine⟨M,last,?_,b.symm,g,E,c,d⟩;rw[J,zGs (by decide) hr,G,F]
theorem zNg2 {m n:Nat}{e j:Int}(h:Dr m e)(hv:SV m e n j):dW n j=dW m e:=zMm1 h hv
theorem Dr.nat {m:Nat}(h0:0<m)(h:m<9007199254740992):Dr m 0:=⟨h0,h,by omega,by omega⟩
theorem zKl1 {m:Nat}{e:Int}(h:Dr m e){r:Nat}(h0:0<r)(h1:r<2139095040)(hv:SV m e (rgM single r) (rgE single r)):fconv .f64 (dW m e) .f32=some r:=by
 obtain ⟨M,last,a,b,_,_,_,_⟩:=zKd2 h
 have E:FloatKind.f32.encode (.number false M last)=r:=by
  show single.nearest false M last=r;rw[zXf h0 (by rw[ir1];exact h1) (b.trans hv)];rfl
 unfold fconv;have hd:FloatKind.f64.decode (dW m e)=.number false M last:=a;rw[if_neg (by decide),hd];simp only[E]
 have hr:FloatKind.f32.decode r=.number false (rgM single r) (rgE single r):=by
  have:=zGs (f:=single) (by decide) (r:=r) (by rw[ir1];exact h1) false;exact this
 rw[hr];rfl
theorem zPv {r:Nat}(h1:r<2139095040) : -149≤rgE single r∧rgE single r≤104:=by
 unfold rgE;rw[bn1,ep1];split
 ·omega
 ·omega
theorem zNp {r:Nat}:rgM single r<16777216:=by
 unfold rgM;rw[bn1];split
 ·omega
 ·have:=Nat.mod_lt r (show 0<8388608 by omega);omega
theorem zHq {r:Nat}(h:0<r):0<rgM single r:=(zQe1 h).pos
theorem zYh1 {r:Nat}(h0:0<r)(h1:r<2139095040):Dr (rgM single r) (rgE single r):=by
 have a:=zPv h1;have b:=zNp (r:=r);exact⟨zHq h0,by omega,by omega,by omega⟩
theorem zSx1 {r:Nat}(h0:0<r)(h1:r<2139095040):fconv .f32 r .f64=some (dW (rgM single r) (rgE single r)):=by
 have hr:FloatKind.f32.decode r=.number false (rgM single r) (rgE single r):=by
  have:=zGs (f:=single) (by decide) (r:=r) (by rw[ir1];exact h1) false;exact this
 obtain ⟨M,last,a,b,_,_,_,_⟩:=zKd2 (zYh1 h0 h1);have E:FloatKind.f64.encode (.number false (rgM single r) (rgE single r))=dW (rgM single r) (rgE single r):=rfl;unfold fconv;rw[if_neg (by decide),hr];simp only[E];have hd:FloatKind.f64.decode (dW (rgM single r) (rgE single r))=.number false M last:=a;rw[hd];rfl
theorem zSd {m:Nat}:FloatKind.f64.nearest (m:Int)=dW m 0:=by
 unfold FloatKind.nearest;show double.nearest (decide ((m:Int)<0)) (m:Int).natAbs 0=_;have:decide ((m:Int)<0)=false:=by simp
 rw[this,Int.natAbs_natCast];rfl
def tz (m:Nat):Nat:=if h:m=0∨m%2=1 then 0 else tz (m / 2)+1
termination_by m
decreasing_by omega
theorem zTl1:∀(m:Nat),0<m→m=m / 2^ tz m*2^ tz m∧m / 2^ tz m%2=1:=by
 intro m
 induction m using Nat.strongRecOn with
 | ind m ih=>
  intro F;unfold tz;split
  ·rename_i h;simp;omega
  ·rename_i h;obtain ⟨E,i2⟩:=ih (m / 2) (by omega) (by omega);have e:m / 2^ (tz (m / 2)+1)=m / 2 / 2^ tz (m / 2):=(by rw[Nat.pow_succ,Nat.mul_comm,Nat.div_div_eq_div_mul]);rw[e];refine⟨?_,i2⟩;rw[Nat.pow_succ,←Nat.mul_assoc,←E];omega
theorem zEl2 {m k:Nat}(h0:0<m)(hk:m<2^ k):tz m<k:=by
 obtain ⟨h1,h2⟩:=zTl1 m h0;have E:1≤m / 2^ tz m:=Nat.pos_of_ne_zero fun e=>by rw[e] at h2;cases h2
 have h3:2^ tz m≤m:=by
   calc 2^ tz m=1*2^ tz m:=by omega
     _≤m / 2^ tz m*2^ tz m:=Nat.mul_le_mul_right _ E
     _=m:=h1.symm
 exact (Nat.pow_lt_pow_iff_right (by omega)).1 (Nat.lt_of_le_of_lt h3 hk)
def mdM (r:Nat):Nat:=rgM single r / 2^ tz (rgM single r)
def mdE (r:Nat):Int:=rgE single r+tz (rgM single r)
structure Md (r:Nat):Prop where
 pos:0<mdM r
 lt:mdM r<16777216
 odd:mdM r%2=1
 lo : -149≤mdE r
 hi:mdE r≤127
 sv:SV (mdM r) (mdE r) (rgM single r) (rgE single r)
theorem zMo1 {r:Nat}(h0:0<r)(h1:r<2139095040):Md r:=by
 have E:=zHq h0;obtain ⟨h2,h3⟩:=zTl1 (rgM single r) E;obtain ⟨h4,V⟩:=zPv h1;have U:=zEl2 (k:=24) E (zNp (r:=r));have F:0<mdM r:=Nat.pos_of_ne_zero fun e=>by unfold mdM at e;rw[e] at h3;cases h3
 refine⟨F,Nat.lt_of_le_of_lt (Nat.div_le_self _ _) zNp,h3,by unfold mdE;omega,by unfold mdE;omega,?_⟩;have:=SV.shl (mdM r) (mdE r) (tz (rgM single r));have J:mdM r*2^ tz (rgM single r)=rgM single r:=h2.symm;have G:mdE r- (tz (rgM single r):Int)=rgE single r:=by unfold mdE;omega
 rw[J,G] at this;exact this
theorem zRm1 {m n:Nat}{e j:Int}(h:SV m e n j)(J:m%2=1)(G:n%2=1):m=n∧e=j:=by
 have F:∀{m n:Nat} {e j:Int},SV m e n j→m%2=1→n%2=1→j≤e→e=j:=by
  intro m n e j h J G E;have:=h.le E;apply Classical.byContradiction;intro U;obtain ⟨k,V⟩:∃k,(e-j).toNat=k+1:=⟨(e-j).toNat-1,by omega⟩;rw[V,Nat.pow_succ,←Nat.mul_assoc] at this;omega
 have Z:e=j:=by
  by_cases E:j≤e
  ·exact F h J G E
  ·exact (F h.symm G J (by omega)).symm
 subst Z;exact⟨h.eq,rfl⟩
def sgnT (s:Bool):List UInt8:=if s then [45] else []
def magT (r:Nat):List UInt8:=if r=0 then [48] else Lib.itoa (mdM r)++112::Lib.itoa (mdE r)
def fmtT (w:Nat):List UInt8:=sgnT (decide (2147483648≤w))++magT (w%2147483648)
structure Fin32 (w:Nat):Prop where
 lt:w<4294967296
 fin:w%2147483648<2139095040
theorem zIs2 {n:Int}{c:UInt8}(h1:c≠45)(h2:¬isDig c):c ∉ Lib.itoa n:=fun h=>by
 rcases zDb2 h with h|h
 ·exact h1 h
 ·exact h2 h
theorem zFu1 (n:Int):(112:UInt8) ∉ Lib.itoa n:=zIs2 (by decide) (by unfold isDig;decide)
theorem zXn {r:Nat}(h1:r<2139095040):∃c t,magT r=c::t∧isDig c:=by
 unfold magT;split
 ·exact⟨48,[],rfl,by unfold isDig;decide⟩
 ·rename_i E;have F:=zMo1 (Nat.pos_of_ne_zero E) h1
  cases hi:Lib.itoa (mdM r) with
  | nil=>exact absurd hi (zXl1 _)
  | cons c t=>
   have:=zDa2 (n:=(mdM r:Int)) (by omega) c (by rw[hi];simp);exact⟨c,_,rfl,this⟩
theorem zJf1 {r:Nat}(h1:r<2139095040){t:List UInt8}:magT r≠45::t:=fun h=>by
 obtain ⟨c,t',e,hd⟩:=zXn h1;rw[h] at e;injection e with e _;subst e;unfold isDig at hd
 revert hd;decide
theorem zPb1 {r q:Nat}(hr:r<2139095040)(E:q<2139095040)(h:magT r=magT q):r=q:=by
 have F:∀q:Nat,magT q=[48]→q=0:=fun q E=>by
  unfold magT at E;split at E
  ·assumption
  ·have:(112:UInt8)∈[48]:=(by rw[←E];simp);simp at this
 by_cases G:r=0
 ·subst G;have:magT 0=[48]:=rfl;rw[this] at h;exact (F q h.symm).symm
 ·by_cases U:q=0
  ·subst U;have:magT 0=[48]:=rfl;rw[this] at h;exact absurd (F r h) G
  ·have V:=zMo1 (Nat.pos_of_ne_zero G) hr;have J:=zMo1 (Nat.pos_of_ne_zero U) E;unfold magT at h;rw[if_neg G,if_neg U] at h;have Z:=zPz1 (b:=Lib.itoa (mdE r)) (zFu1 (mdM r));have c2:=zPz1 (b:=Lib.itoa (mdE q)) (zFu1 (mdM q));rw[h,c2] at Z;simp only[Prod.mk.injEq,and_true] at Z;obtain ⟨e1,e2⟩:=Z;have hl:=V.lt;have kl:=J.lt;have hb:=V.lo;have b0:=V.hi;have kb:=J.lo;have a8:=J.hi;have e3:=zPj1 (by omega) (by omega) (by omega) (by omega) e1;have e4:=zPj1 (by omega) (by omega) (by omega) (by omega) e2;have e5:mdM q=mdM r:=(by omega);have n1:=zXf (f:=single) (Nat.pos_of_ne_zero G) (by rw[ir1];exact hr) V.sv false;have n2:=zXf (f:=single) (Nat.pos_of_ne_zero U) (by rw[ir1];exact E) J.sv false;rw[e5,e4,n1] at n2;exact n2
theorem zGb1 {w v:Nat}(hw:Fin32 w)(hv:Fin32 v)(h:fmtT w=fmtT v):w=v:=by
 have a1:=hw.lt;have a2:=hv.lt;have F:=hw.fin;have E:=hv.fin;unfold fmtT at h;by_cases s1:2147483648≤w<;>by_cases s2:2147483648≤v<;>simp only[s1,s2,sgnT,yaM,yaL,yav,yau,yat,List.cons_append,List.nil_append,List.cons.injEq,true_and] at h
 ·have:=zPb1 F E h;omega
 ·exact absurd h.symm (zJf1 E)
 ·exact absurd h (zJf1 F)
 ·have:=zPb1 F E h;omega
open Classical in
noncomputable def prsT (s:List UInt8):Option Nat:=if h:∃w,Fin32 w∧fmtT w=s then some (Classical.choose h) else none
theorem zBj2 {w:Nat}(h:Fin32 w):prsT (fmtT w)=some w:=by
 have hx:∃v,Fin32 v∧fmtT v=fmtT w:=⟨w,h,rfl⟩;unfold prsT;rw[dif_pos hx];obtain ⟨E,c2⟩:=Classical.choose_spec hx;exact congrArg some (zGb1 E h c2)
theorem zWu {s:List UInt8}{w:Nat}(h:prsT s=some w):Fin32 w∧fmtT w=s:=by
 unfold prsT at h;split at h
 ·rename_i hx;injection h with h;subst h;exact Classical.choose_spec hx
 ·cases h
theorem zWv {s:List UInt8}(h:prsT s=none){w:Nat}(hw:Fin32 w):fmtT w≠s:=fun e=>by
 subst e;rw[zBj2 hw] at h
 cases h
theorem zIz2 {w:Nat}(h:Fin32 w):fmtT w≠[]:=by
 unfold fmtT;obtain ⟨c,t,e,_⟩:=zXn h.fin;rw[e];simp
end Go.SX
namespace Go.SX
open Go
abbrev Txt:=List UInt8
def splT (c:UInt8):Txt→List Txt
 | []=>[[]]
 | b::s=>if b=c then []::splT c s else match splT c s with
  | p::r=>(b::p)::r
  | []=>[[b]]
def joinT (c:UInt8):List Txt→Txt
 | []=>[]
 | [p]=>p
 | p::q::r=>p++c::joinT c (q::r)
theorem zDn1 (c:UInt8)(s:Txt):splT c s≠[]:=by
 cases s with
 | nil=>simp[splT]
 | cons b s=>
  simp only[splT];split
  ·simp
  ·split<;>simp
theorem zVk {c:UInt8}:∀{s:Txt},c ∉ s→splT c s=[s]
 | [],_=>rfl
 | b::s,h=>by
  have h1:¬b=c:=fun e=>h (by subst e;simp);have E:=zVk (c:=c) (s:=s) (fun e=>h (List.mem_cons_of_mem _ e));simp only[splT,if_neg h1,E]
theorem zTs1 {c:UInt8}:∀{a b:Txt},c ∉ a→splT c (a++c::b)=a::splT c b
 | [],b,_=>by simp[splT]
 | x::a,b,h=>by
  have h1:¬x=c:=fun e=>h (by subst e;simp);have E:=zTs1 (c:=c) (a:=a) (b:=b) (fun e=>h (List.mem_cons_of_mem _ e));simp only[List.cons_append,splT,if_neg h1,E]
theorem zKa1 (c:UInt8):∀(s:Txt),joinT c (splT c s)=s
 | []=>rfl
 | b::s=>by
  have E:=zKa1 c s;simp only[splT];by_cases h:b=c
  ·subst h;rw[if_pos rfl]
   cases hs:splT b s with
   | nil=>exact absurd hs (zDn1 _ _)
   | cons q r=>
    rw[hs] at E;simp[joinT,E]
  ·rw[if_neg h]
   cases hs:splT c s with
   | nil=>exact absurd hs (zDn1 _ _)
   | cons q r=>
    rw[hs] at E
    cases r with
    | nil=>simp[joinT] at E ⊢;exact E
    | cons r0 r1=>
     simp only[joinT] at E ⊢;rw[←E];rfl
theorem zPs (c:UInt8):∀(s:Txt),(splT c s).length≤s.length+1
 | []=>by simp[splT]
 | b::s=>by
  have:=zPs c s;simp only[splT];split
  ·simp;omega
  ·cases hs:splT c s with
   | nil=>simp
   | cons q r=>rw[hs] at this;simp at this ⊢;omega
theorem zPr (c:UInt8):∀(s:Txt),∀p∈splT c s,p.length≤s.length
 | [],p,h=>by simp[splT] at h;subst h;simp
 | b::s,p,h=>by
  have E:=zPr c s;simp only[splT] at h;split at h
  ·rcases List.mem_cons.1 h with rfl|h
   ·simp
   ·have:=E p h;simp;omega
  ·cases hs:splT c s with
   | nil=>exact absurd hs (zDn1 _ _)
   | cons q r=>
    rw[hs] at h E;simp only[yac] at h;rcases h with rfl|h
    ·have:=E q (by simp);simp;omega
    ·have:=E p (by simp[h]);simp;omega
theorem zGc1 {c:UInt8}:∀{s:Txt},c∈s→∃a b,s=a++c::b∧c ∉ a
 | [],h=>by cases h
 | x::s,h=>by
  by_cases e:x=c
  ·exact⟨[],s,by simp[e],by simp⟩
  ·rcases List.mem_cons.1 h with h|h
   ·exact absurd h.symm e
   ·obtain ⟨a,b,h1,h2⟩:=zGc1 h;exact⟨x::a,b,by simp[h1],by simp[h2,Ne.symm e]⟩
theorem zXq1 {a b:Txt}{c:UInt8}(h:c ∉ a):Lib.index (a++c::b) [c]=(a.length:Int):=by
 refine Lib.index_first (by simp) ?_ fun j hj=>?_
 ·simp[Lib.occAt,List.isPrefixOf]
 ·unfold Lib.occAt;rw[List.drop_append_of_le_length (by omega)]
  cases hd:a.drop j with
  | nil=>have:=congrArg List.length hd;simp at this;omega
  | cons x t=>
   have:x∈a:=List.mem_of_mem_drop (by rw[hd];simp);have E:¬c=x:=fun e=>h (e▸this);simp[List.isPrefixOf,E]
theorem zDe2 {s:Txt}{c:UInt8}(h:c ∉ s):Lib.index s [c] = -1:=by
 refine Lib.index_none fun j hj=>?_;unfold Lib.occAt
 cases hd:s.drop j with
 | nil=>rfl
 | cons a t=>
  have:a∈s:=List.mem_of_mem_drop (by rw[hd];simp);have E:¬c=a:=fun e=>h (e▸this);simp[List.isPrefixOf,E]
theorem zBq1 (c:UInt8):∀(k:Nat) (s:Txt),s.count c≤k→Lib.splitK [c] 0 k s=splT c s
 | 0,s,h=>by
  have:c ∉ s:=fun E=>by have:=List.count_pos_iff.2 E;omega
  rw[zVk this];rfl
 | k+1,s,h=>by
  unfold Lib.splitK;by_cases E:c∈s
  ·obtain ⟨a,b,rfl,F⟩:=zGc1 E;rw[zXq1 F,zTs1 F];have h1:((a.length:Int) == -1)=false:=(by rw[beq_eq_false_iff_ne];omega);have h2:(a++c::b).take (a.length+0)=a:=(by simp);have h3:(a++c::b).drop (a.length+[c].length)=b:=(by rw[show a.length+[c].length=(a++[c]).length by simp,show a++c::b=(a++[c])++b by simp,List.drop_left])
   have h4:b.count c≤k:=by
    rw[List.count_append,List.count_cons_self,List.count_eq_zero.2 F] at h;omega
   rw[h1];simp only[Int.toNat_natCast,h2,h3,yat,yau];rw[zBq1 c k b h4]
  ·rw[zDe2 E,zVk E];rfl
end Go.SX
namespace Go.SX.Ty
open Go Go.SX Go.Proofs
theorem tsz2:tsz Tryz.prog 2=some 1:=by kernel_rfl
theorem tby2:tby Tryz.prog 2=some 8:=by kernel_rfl
theorem tag2:tag Tryz.prog 2=some false:=by kernel_rfl
theorem isSl2:isSlT Tryz.prog 2=false:=by kernel_rfl
theorem tzr2:tzr Tryz.prog 2=some [.im (.int .i64 (0))]:=by kernel_rfl
theorem tsz3:tsz Tryz.prog 3=some 1:=by kernel_rfl
theorem tby3:tby Tryz.prog 3=some 8:=by kernel_rfl
theorem tag3:tag Tryz.prog 3=some false:=by kernel_rfl
theorem isSl3:isSlT Tryz.prog 3=false:=by kernel_rfl
theorem tzr3:tzr Tryz.prog 3=some [.im (.int .i64 (0))]:=by kernel_rfl
theorem tsz4:tsz Tryz.prog 4=some 1:=by kernel_rfl
theorem tby4:tby Tryz.prog 4=some 1:=by kernel_rfl
theorem tag4:tag Tryz.prog 4=some false:=by kernel_rfl
theorem isSl4:isSlT Tryz.prog 4=false:=by kernel_rfl
theorem isBo4:isBoT Tryz.prog 4=true:=by kernel_rfl
theorem tzr4:tzr Tryz.prog 4=some [.im (.bool false)]:=by kernel_rfl
theorem tsz5:tsz Tryz.prog 5=some 1:=by kernel_rfl
theorem tby5:tby Tryz.prog 5=some 1:=by kernel_rfl
theorem tag5:tag Tryz.prog 5=some false:=by kernel_rfl
theorem isSl5:isSlT Tryz.prog 5=false:=by kernel_rfl
theorem tzr5:tzr Tryz.prog 5=some [.im (.int .u8 (0))]:=by kernel_rfl
theorem tsz9:tsz Tryz.prog 9=some 1:=by kernel_rfl
theorem tby9:tby Tryz.prog 9=some 16:=by kernel_rfl
theorem tag9:tag Tryz.prog 9=some false:=by kernel_rfl
theorem isSl9:isSlT Tryz.prog 9=false:=by kernel_rfl
theorem isSt9:isStT Tryz.prog 9=true:=by kernel_rfl
theorem tzr9:tzr Tryz.prog 9=some [.im (.str ⟨#[]⟩)]:=by kernel_rfl
theorem tsz20:tsz Tryz.prog 20=some 1:=by kernel_rfl
theorem tby20:tby Tryz.prog 20=some 16:=by kernel_rfl
theorem tag20:tag Tryz.prog 20=some false:=by kernel_rfl
theorem isSl20:isSlT Tryz.prog 20=false:=by kernel_rfl
theorem tzr20:tzr Tryz.prog 20=some [.im (.raw .nilIface)]:=by kernel_rfl
theorem tsz21:tsz Tryz.prog 21=some 1:=by kernel_rfl
theorem tby21:tby Tryz.prog 21=some 4:=by kernel_rfl
theorem tag21:tag Tryz.prog 21=some false:=by kernel_rfl
theorem isSl21:isSlT Tryz.prog 21=false:=by kernel_rfl
theorem tzr21:tzr Tryz.prog 21=some [.im (.int .i32 (0))]:=by kernel_rfl
theorem tsz22:tsz Tryz.prog 22=some 1:=by kernel_rfl
theorem tby22:tby Tryz.prog 22=some 8:=by kernel_rfl
theorem tag22:tag Tryz.prog 22=some false:=by kernel_rfl
theorem isSl22:isSlT Tryz.prog 22=false:=by kernel_rfl
theorem tzr22:tzr Tryz.prog 22=some [.im (.cpx .f32 0 0)]:=by kernel_rfl
theorem tsz23:tsz Tryz.prog 23=some 1:=by kernel_rfl
theorem tby23:tby Tryz.prog 23=some 4:=by kernel_rfl
theorem tag23:tag Tryz.prog 23=some false:=by kernel_rfl
theorem isSl23:isSlT Tryz.prog 23=false:=by kernel_rfl
theorem tzr23:tzr Tryz.prog 23=some [.im (.flt .f32 0)]:=by kernel_rfl
theorem tsz24:tsz Tryz.prog 24=some 1:=by kernel_rfl
theorem tby24:tby Tryz.prog 24=some 24:=by kernel_rfl
theorem tag24:tag Tryz.prog 24=some false:=by kernel_rfl
theorem tel24:tel Tryz.prog 24=some 22:=by kernel_rfl
theorem isSl24:isSlT Tryz.prog 24=true:=by kernel_rfl
theorem tzr24:tzr Tryz.prog 24=some [.nil]:=by kernel_rfl
theorem tsz25:tsz Tryz.prog 25=some 3:=by kernel_rfl
theorem tby25:tby Tryz.prog 25=some 40:=by kernel_rfl
theorem tag25:tag Tryz.prog 25=some true:=by kernel_rfl
theorem isSl25:isSlT Tryz.prog 25=false:=by kernel_rfl
theorem tok25:tok Tryz.prog 25=true:=by kernel_rfl
theorem zGz2:tfd Tryz.prog 25 0=some (0,24):=by kernel_rfl
theorem zGy2:tfd Tryz.prog 25 1=some (1,3):=by kernel_rfl
theorem zGx2:tfd Tryz.prog 25 2=some (2,3):=by kernel_rfl
theorem tzr25:tzr Tryz.prog 25=some [.nil,.im (.int .i64 (0)),.im (.int .i64 (0))]:=by kernel_rfl
theorem tsz26:tsz Tryz.prog 26=some 3:=by kernel_rfl
theorem tby26:tby Tryz.prog 26=some 40:=by kernel_rfl
theorem tag26:tag Tryz.prog 26=some true:=by kernel_rfl
theorem isSl26:isSlT Tryz.prog 26=false:=by kernel_rfl
theorem tok26:tok Tryz.prog 26=true:=by kernel_rfl
theorem zGw2:tfd Tryz.prog 26 0=some (0,24):=by kernel_rfl
theorem zGv2:tfd Tryz.prog 26 1=some (1,3):=by kernel_rfl
theorem zGu2:tfd Tryz.prog 26 2=some (2,3):=by kernel_rfl
theorem tzr26:tzr Tryz.prog 26=some [.nil,.im (.int .i64 (0)),.im (.int .i64 (0))]:=by kernel_rfl
theorem tsz27:tsz Tryz.prog 27=some 1:=by kernel_rfl
theorem tby27:tby Tryz.prog 27=some 24:=by kernel_rfl
theorem tag27:tag Tryz.prog 27=some false:=by kernel_rfl
theorem tel27:tel Tryz.prog 27=some 3:=by kernel_rfl
theorem isSl27:isSlT Tryz.prog 27=true:=by kernel_rfl
theorem tzr27:tzr Tryz.prog 27=some [.nil]:=by kernel_rfl
theorem tsz28:tsz Tryz.prog 28=some 2:=by kernel_rfl
theorem tby28:tby Tryz.prog 28=some 48:=by kernel_rfl
theorem tag28:tag Tryz.prog 28=some true:=by kernel_rfl
theorem isSl28:isSlT Tryz.prog 28=false:=by kernel_rfl
theorem tok28:tok Tryz.prog 28=true:=by kernel_rfl
theorem zGt2:tfd Tryz.prog 28 0=some (0,24):=by kernel_rfl
theorem zGs2:tfd Tryz.prog 28 1=some (1,27):=by kernel_rfl
theorem tzr28:tzr Tryz.prog 28=some [.nil,.nil]:=by kernel_rfl
theorem tsz29:tsz Tryz.prog 29=some 2:=by kernel_rfl
theorem tby29:tby Tryz.prog 29=some 48:=by kernel_rfl
theorem tag29:tag Tryz.prog 29=some true:=by kernel_rfl
theorem isSl29:isSlT Tryz.prog 29=false:=by kernel_rfl
theorem tok29:tok Tryz.prog 29=true:=by kernel_rfl
theorem zGr2:tfd Tryz.prog 29 0=some (0,24):=by kernel_rfl
theorem zGq2:tfd Tryz.prog 29 1=some (1,27):=by kernel_rfl
theorem tzr29:tzr Tryz.prog 29=some [.nil,.nil]:=by kernel_rfl
theorem tsz30:tsz Tryz.prog 30=some 11:=by kernel_rfl
theorem tby30:tby Tryz.prog 30=some 136:=by kernel_rfl
theorem tag30:tag Tryz.prog 30=some true:=by kernel_rfl
theorem isSl30:isSlT Tryz.prog 30=false:=by kernel_rfl
theorem tok30:tok Tryz.prog 30=true:=by kernel_rfl
theorem zGp2:tfd Tryz.prog 30 0=some (0,3):=by kernel_rfl
theorem zGo2:tfd Tryz.prog 30 1=some (1,22):=by kernel_rfl
theorem zGn2:tfd Tryz.prog 30 2=some (2,22):=by kernel_rfl
theorem zGm2:tfd Tryz.prog 30 3=some (3,23):=by kernel_rfl
theorem zGl2:tfd Tryz.prog 30 4=some (4,26):=by kernel_rfl
theorem zGk2:tfd Tryz.prog 30 5=some (7,29):=by kernel_rfl
theorem zGj2:tfd Tryz.prog 30 6=some (9,3):=by kernel_rfl
theorem zGi2:tfd Tryz.prog 30 7=some (10,3):=by kernel_rfl
theorem tzr30:tzr Tryz.prog 30=some [.im (.int .i64 (0)),.im (.cpx .f32 0 0),.im (.cpx .f32 0 0),.im (.flt .f32 0),.nil,.im (.int .i64 (0)),.im (.int .i64 (0)),.nil,.nil,.im (.int .i64 (0)),.im (.int .i64 (0))]:=by kernel_rfl
theorem tsz31:tsz Tryz.prog 31=some 11:=by kernel_rfl
theorem tby31:tby Tryz.prog 31=some 136:=by kernel_rfl
theorem tag31:tag Tryz.prog 31=some true:=by kernel_rfl
theorem isSl31:isSlT Tryz.prog 31=false:=by kernel_rfl
theorem tok31:tok Tryz.prog 31=true:=by kernel_rfl
theorem zGh2:tfd Tryz.prog 31 0=some (0,3):=by kernel_rfl
theorem zGg2:tfd Tryz.prog 31 1=some (1,22):=by kernel_rfl
theorem zGf2:tfd Tryz.prog 31 2=some (2,22):=by kernel_rfl
theorem zGe2:tfd Tryz.prog 31 3=some (3,23):=by kernel_rfl
theorem zGd2:tfd Tryz.prog 31 4=some (4,26):=by kernel_rfl
theorem zGc2:tfd Tryz.prog 31 5=some (7,29):=by kernel_rfl
theorem zGb2:tfd Tryz.prog 31 6=some (9,3):=by kernel_rfl
theorem zGa2:tfd Tryz.prog 31 7=some (10,3):=by kernel_rfl
theorem tzr31:tzr Tryz.prog 31=some [.im (.int .i64 (0)),.im (.cpx .f32 0 0),.im (.cpx .f32 0 0),.im (.flt .f32 0),.nil,.im (.int .i64 (0)),.im (.int .i64 (0)),.nil,.nil,.im (.int .i64 (0)),.im (.int .i64 (0))]:=by kernel_rfl
theorem tsz32:tsz Tryz.prog 32=some 1:=by kernel_rfl
theorem tby32:tby Tryz.prog 32=some 0:=by kernel_rfl
theorem tag32:tag Tryz.prog 32=some false:=by kernel_rfl
theorem isSl32:isSlT Tryz.prog 32=false:=by kernel_rfl
theorem tsz37:tsz Tryz.prog 37=some 1:=by kernel_rfl
theorem tby37:tby Tryz.prog 37=some 24:=by kernel_rfl
theorem tag37:tag Tryz.prog 37=some false:=by kernel_rfl
theorem tel37:tel Tryz.prog 37=some 5:=by kernel_rfl
theorem isSl37:isSlT Tryz.prog 37=true:=by kernel_rfl
theorem tzr37:tzr Tryz.prog 37=some [.nil]:=by kernel_rfl
theorem isBs37:isBsT Tryz.prog 37=true:=by kernel_rfl
theorem tsz39:tsz Tryz.prog 39=some 1:=by kernel_rfl
theorem tby39:tby Tryz.prog 39=some 0:=by kernel_rfl
theorem tag39:tag Tryz.prog 39=some false:=by kernel_rfl
theorem isSl39:isSlT Tryz.prog 39=false:=by kernel_rfl
theorem tsz45:tsz Tryz.prog 45=some 1:=by kernel_rfl
theorem tby45:tby Tryz.prog 45=some 0:=by kernel_rfl
theorem tag45:tag Tryz.prog 45=some false:=by kernel_rfl
theorem isSl45:isSlT Tryz.prog 45=false:=by kernel_rfl
theorem tsz54:tsz Tryz.prog 54=some 1:=by kernel_rfl
theorem tby54:tby Tryz.prog 54=some 24:=by kernel_rfl
theorem tag54:tag Tryz.prog 54=some false:=by kernel_rfl
theorem tel54:tel Tryz.prog 54=some 31:=by kernel_rfl
theorem isSl54:isSlT Tryz.prog 54=true:=by kernel_rfl
theorem tzr54:tzr Tryz.prog 54=some [.nil]:=by kernel_rfl
theorem tsz55:tsz Tryz.prog 55=some 1:=by kernel_rfl
theorem tby55:tby Tryz.prog 55=some 24:=by kernel_rfl
theorem tag55:tag Tryz.prog 55=some false:=by kernel_rfl
theorem tel55:tel Tryz.prog 55=some 113:=by kernel_rfl
theorem isSl55:isSlT Tryz.prog 55=true:=by kernel_rfl
theorem tzr55:tzr Tryz.prog 55=some [.nil]:=by kernel_rfl
theorem tsz57:tsz Tryz.prog 57=some 2:=by kernel_rfl
theorem tby57:tby Tryz.prog 57=some 48:=by kernel_rfl
theorem tag57:tag Tryz.prog 57=some true:=by kernel_rfl
theorem isSl57:isSlT Tryz.prog 57=false:=by kernel_rfl
theorem tok57:tok Tryz.prog 57=true:=by kernel_rfl
theorem zFz2:tfd Tryz.prog 57 0=some (0,54):=by kernel_rfl
theorem zFy2:tfd Tryz.prog 57 1=some (1,55):=by kernel_rfl
theorem tzr57:tzr Tryz.prog 57=some [.nil,.nil]:=by kernel_rfl
theorem tsz58:tsz Tryz.prog 58=some 1:=by kernel_rfl
theorem tby58:tby Tryz.prog 58=some 0:=by kernel_rfl
theorem tag58:tag Tryz.prog 58=some false:=by kernel_rfl
theorem isSl58:isSlT Tryz.prog 58=false:=by kernel_rfl
theorem tsz63:tsz Tryz.prog 63=some 1:=by kernel_rfl
theorem tby63:tby Tryz.prog 63=some 24:=by kernel_rfl
theorem tag63:tag Tryz.prog 63=some false:=by kernel_rfl
theorem tel63:tel Tryz.prog 63=some 57:=by kernel_rfl
theorem isSl63:isSlT Tryz.prog 63=true:=by kernel_rfl
theorem tzr63:tzr Tryz.prog 63=some [.nil]:=by kernel_rfl
theorem tsz65:tsz Tryz.prog 65=some 3:=by kernel_rfl
theorem tby65:tby Tryz.prog 65=some 72:=by kernel_rfl
theorem tag65:tag Tryz.prog 65=some true:=by kernel_rfl
theorem isSl65:isSlT Tryz.prog 65=false:=by kernel_rfl
theorem tok65:tok Tryz.prog 65=true:=by kernel_rfl
theorem zFx2:tfd Tryz.prog 65 0=some (0,57):=by kernel_rfl
theorem zFw2:tfd Tryz.prog 65 1=some (2,63):=by kernel_rfl
theorem tzr65:tzr Tryz.prog 65=some [.nil,.nil,.nil]:=by kernel_rfl
theorem tsz66:tsz Tryz.prog 66=some 1:=by kernel_rfl
theorem tby66:tby Tryz.prog 66=some 0:=by kernel_rfl
theorem tag66:tag Tryz.prog 66=some false:=by kernel_rfl
theorem isSl66:isSlT Tryz.prog 66=false:=by kernel_rfl
theorem tsz71:tsz Tryz.prog 71=some 1:=by kernel_rfl
theorem tby71:tby Tryz.prog 71=some 24:=by kernel_rfl
theorem tag71:tag Tryz.prog 71=some false:=by kernel_rfl
theorem tel71:tel Tryz.prog 71=some 9:=by kernel_rfl
theorem isSl71:isSlT Tryz.prog 71=true:=by kernel_rfl
theorem tzr71:tzr Tryz.prog 71=some [.nil]:=by kernel_rfl
theorem tsz74:tsz Tryz.prog 74=some 1:=by kernel_rfl
theorem tby74:tby Tryz.prog 74=some 8:=by kernel_rfl
theorem tag74:tag Tryz.prog 74=some false:=by kernel_rfl
theorem isSl74:isSlT Tryz.prog 74=false:=by kernel_rfl
theorem tzr74:tzr Tryz.prog 74=some [.im (.raw (.pointer none))]:=by kernel_rfl
theorem tsz77:tsz Tryz.prog 77=some 2:=by kernel_rfl
theorem tby77:tby Tryz.prog 77=some 32:=by kernel_rfl
theorem tag77:tag Tryz.prog 77=some true:=by kernel_rfl
theorem isSl77:isSlT Tryz.prog 77=false:=by kernel_rfl
theorem tok77:tok Tryz.prog 77=true:=by kernel_rfl
theorem zFv2:tfd Tryz.prog 77 0=some (0,71):=by kernel_rfl
theorem zFu2:tfd Tryz.prog 77 1=some (1,4):=by kernel_rfl
theorem tzr77:tzr Tryz.prog 77=some [.nil,.im (.bool false)]:=by kernel_rfl
theorem tsz84:tsz Tryz.prog 84=some 1:=by kernel_rfl
theorem tby84:tby Tryz.prog 84=some 16:=by kernel_rfl
theorem tag84:tag Tryz.prog 84=some false:=by kernel_rfl
theorem isSl84:isSlT Tryz.prog 84=false:=by kernel_rfl
theorem tzr84:tzr Tryz.prog 84=some [.im (.cpx .f64 0 0)]:=by kernel_rfl
theorem tsz86:tsz Tryz.prog 86=some 1:=by kernel_rfl
theorem tby86:tby Tryz.prog 86=some 8:=by kernel_rfl
theorem tag86:tag Tryz.prog 86=some false:=by kernel_rfl
theorem isSl86:isSlT Tryz.prog 86=false:=by kernel_rfl
theorem tzr86:tzr Tryz.prog 86=some [.im (.flt .f64 0)]:=by kernel_rfl
theorem tsz92:tsz Tryz.prog 92=some 1:=by kernel_rfl
theorem tby92:tby Tryz.prog 92=some 8:=by kernel_rfl
theorem tag92:tag Tryz.prog 92=some false:=by kernel_rfl
theorem isSl92:isSlT Tryz.prog 92=false:=by kernel_rfl
theorem tzr92:tzr Tryz.prog 92=some [.im (.raw (.pointer none))]:=by kernel_rfl
theorem tsz107:tsz Tryz.prog 107=some 1:=by kernel_rfl
theorem tby107:tby Tryz.prog 107=some 8:=by kernel_rfl
theorem tag107:tag Tryz.prog 107=some false:=by kernel_rfl
theorem isSl107:isSlT Tryz.prog 107=false:=by kernel_rfl
theorem tzr107:tzr Tryz.prog 107=some [.im (.raw (.pointer none))]:=by kernel_rfl
theorem tsz110:tsz Tryz.prog 110=some 1:=by kernel_rfl
theorem tby110:tby Tryz.prog 110=some 0:=by kernel_rfl
theorem tag110:tag Tryz.prog 110=some false:=by kernel_rfl
theorem isSl110:isSlT Tryz.prog 110=false:=by kernel_rfl
theorem tsz113:tsz Tryz.prog 113=some 2:=by kernel_rfl
theorem tby113:tby Tryz.prog 113=some 16:=by kernel_rfl
theorem tag113:tag Tryz.prog 113=some true:=by kernel_rfl
theorem isSl113:isSlT Tryz.prog 113=false:=by kernel_rfl
theorem tok113:tok Tryz.prog 113=true:=by kernel_rfl
theorem zAg2:tfd Tryz.prog 113 0=some (0,3):=by kernel_rfl
theorem zAf2:tfd Tryz.prog 113 1=some (1,3):=by kernel_rfl
theorem tzr113:tzr Tryz.prog 113=some [.im (.int .i64 (0)),.im (.int .i64 (0))]:=by kernel_rfl
theorem tsz116:tsz Tryz.prog 116=some 1:=by kernel_rfl
theorem tby116:tby Tryz.prog 116=some 0:=by kernel_rfl
theorem tag116:tag Tryz.prog 116=some false:=by kernel_rfl
theorem isSl116:isSlT Tryz.prog 116=false:=by kernel_rfl
theorem tsz126:tsz Tryz.prog 126=some 1:=by kernel_rfl
theorem tby126:tby Tryz.prog 126=some 0:=by kernel_rfl
theorem tag126:tag Tryz.prog 126=some false:=by kernel_rfl
theorem isSl126:isSlT Tryz.prog 126=false:=by kernel_rfl
theorem tsz130:tsz Tryz.prog 130=some 1:=by kernel_rfl
theorem tby130:tby Tryz.prog 130=some 0:=by kernel_rfl
theorem tag130:tag Tryz.prog 130=some false:=by kernel_rfl
theorem isSl130:isSlT Tryz.prog 130=false:=by kernel_rfl
theorem tsz147:tsz Tryz.prog 147=some 1:=by kernel_rfl
theorem tby147:tby Tryz.prog 147=some 0:=by kernel_rfl
theorem tag147:tag Tryz.prog 147=some false:=by kernel_rfl
theorem isSl147:isSlT Tryz.prog 147=false:=by kernel_rfl
theorem tsz149:tsz Tryz.prog 149=some 3:=by kernel_rfl
theorem tby149:tby Tryz.prog 149=some 40:=by kernel_rfl
theorem tag149:tag Tryz.prog 149=some true:=by kernel_rfl
theorem isSl149:isSlT Tryz.prog 149=false:=by kernel_rfl
theorem tok149:tok Tryz.prog 149=true:=by kernel_rfl
theorem zAe2:tfd Tryz.prog 149 0=some (0,37):=by kernel_rfl
theorem zAd2:tfd Tryz.prog 149 1=some (1,3):=by kernel_rfl
theorem zAc2:tfd Tryz.prog 149 2=some (2,3):=by kernel_rfl
theorem tzr149:tzr Tryz.prog 149=some [.nil,.im (.int .i64 (0)),.im (.int .i64 (0))]:=by kernel_rfl
theorem tsz150:tsz Tryz.prog 150=some 3:=by kernel_rfl
theorem tby150:tby Tryz.prog 150=some 40:=by kernel_rfl
theorem tag150:tag Tryz.prog 150=some true:=by kernel_rfl
theorem isSl150:isSlT Tryz.prog 150=false:=by kernel_rfl
theorem tok150:tok Tryz.prog 150=true:=by kernel_rfl
theorem zAb2:tfd Tryz.prog 150 0=some (0,37):=by kernel_rfl
theorem zAa2:tfd Tryz.prog 150 1=some (1,3):=by kernel_rfl
theorem zZz1:tfd Tryz.prog 150 2=some (2,3):=by kernel_rfl
theorem tzr150:tzr Tryz.prog 150=some [.nil,.im (.int .i64 (0)),.im (.int .i64 (0))]:=by kernel_rfl
theorem tsz153:tsz Tryz.prog 153=some 1:=by kernel_rfl
theorem tby153:tby Tryz.prog 153=some 24:=by kernel_rfl
theorem tag153:tag Tryz.prog 153=some false:=by kernel_rfl
theorem tel153:tel Tryz.prog 153=some 4:=by kernel_rfl
theorem isSl153:isSlT Tryz.prog 153=true:=by kernel_rfl
theorem tzr153:tzr Tryz.prog 153=some [.nil]:=by kernel_rfl
theorem tsz163:tsz Tryz.prog 163=some 1:=by kernel_rfl
theorem tby163:tby Tryz.prog 163=some 24:=by kernel_rfl
theorem tag163:tag Tryz.prog 163=some false:=by kernel_rfl
theorem tel163:tel Tryz.prog 163=some 23:=by kernel_rfl
theorem isSl163:isSlT Tryz.prog 163=true:=by kernel_rfl
theorem tzr163:tzr Tryz.prog 163=some [.nil]:=by kernel_rfl
theorem tsz166:tsz Tryz.prog 166=some 1:=by kernel_rfl
theorem tby166:tby Tryz.prog 166=some 0:=by kernel_rfl
theorem tag166:tag Tryz.prog 166=some false:=by kernel_rfl
theorem isSl166:isSlT Tryz.prog 166=false:=by kernel_rfl
theorem tsz169:tsz Tryz.prog 169=some 1:=by kernel_rfl
theorem tby169:tby Tryz.prog 169=some 16:=by kernel_rfl
theorem tag169:tag Tryz.prog 169=some false:=by kernel_rfl
theorem isSl169:isSlT Tryz.prog 169=false:=by kernel_rfl
theorem tzr169:tzr Tryz.prog 169=some [.im (.raw .nilIface)]:=by kernel_rfl
theorem tsz170:tsz Tryz.prog 170=some 1:=by kernel_rfl
theorem tby170:tby Tryz.prog 170=some 0:=by kernel_rfl
theorem tag170:tag Tryz.prog 170=some false:=by kernel_rfl
theorem isSl170:isSlT Tryz.prog 170=false:=by kernel_rfl
theorem tsz177:tsz Tryz.prog 177=some 1:=by kernel_rfl
theorem tby177:tby Tryz.prog 177=some 0:=by kernel_rfl
theorem tag177:tag Tryz.prog 177=some false:=by kernel_rfl
theorem isSl177:isSlT Tryz.prog 177=false:=by kernel_rfl
theorem tsz185:tsz Tryz.prog 185=some 1:=by kernel_rfl
theorem tby185:tby Tryz.prog 185=some 0:=by kernel_rfl
theorem tag185:tag Tryz.prog 185=some false:=by kernel_rfl
theorem isSl185:isSlT Tryz.prog 185=false:=by kernel_rfl
theorem tsz188:tsz Tryz.prog 188=some 2:=by kernel_rfl
theorem tby188:tby Tryz.prog 188=some 16:=by kernel_rfl
theorem tag188:tag Tryz.prog 188=some true:=by kernel_rfl
theorem isSl188:isSlT Tryz.prog 188=false:=by kernel_rfl
theorem tok188:tok Tryz.prog 188=true:=by kernel_rfl
theorem zZy1:tfd Tryz.prog 188 0=some (0,3):=by kernel_rfl
theorem zZx1:tfd Tryz.prog 188 1=some (1,3):=by kernel_rfl
theorem tzr188:tzr Tryz.prog 188=some [.im (.int .i64 (0)),.im (.int .i64 (0))]:=by kernel_rfl
theorem isEq113:isEqT Tryz.prog 113=true:=by kernel_rfl
theorem isEq188:isEqT Tryz.prog 188=true:=by kernel_rfl
end Go.SX.Ty
namespace Go.SX
open Go Go.Proofs Tryz
attribute [go_sem] Ty.tsz2 Ty.tby2 Ty.tag2 Ty.isSl2 Ty.tzr2 Tryz.underlying2 Ty.tsz3 Ty.tby3 Ty.tag3 Ty.isSl3 Ty.tzr3 Tryz.underlying3 Ty.tsz4 Ty.tby4 Ty.tag4 Ty.isSl4 Ty.isBo4
attribute [go_sem] Ty.tzr4 Ty.tsz5 Ty.tby5 Ty.tag5 Ty.isSl5 Ty.tzr5 Tryz.underlying5 Tryz.underlying6
attribute [go_sem] Ty.tsz9 Ty.tby9
attribute [go_sem] Ty.tag9 Ty.isSl9 Ty.isSt9 Ty.tzr9 Tryz.underlying9 Tryz.underlying10
attribute [go_sem] Tryz.underlying11 Tryz.underlying12
attribute [go_sem] Ty.tsz20 Ty.tby20 Ty.tag20 Ty.isSl20 Ty.tzr20 Ty.tsz21 Ty.tby21 Ty.tag21 Ty.isSl21 Ty.tzr21 Tryz.underlying21
attribute [go_sem] Ty.tsz22 Ty.tby22 Ty.tag22 Ty.isSl22 Ty.tzr22 Tryz.underlying22 Ty.tsz23 Ty.tby23 Ty.tag23 Ty.isSl23 Ty.tzr23 Tryz.underlying23 Ty.tsz24 Ty.tby24 Ty.tag24
attribute [go_sem] Ty.tel24 Ty.isSl24 Ty.tzr24 Ty.tsz25 Ty.tby25 Ty.tag25 Ty.isSl25 Ty.tok25 Ty.zGz2 Ty.zGy2 Ty.zGx2 Ty.tzr25 Ty.tsz26 Ty.tby26 Ty.tag26 Ty.isSl26 Ty.tok26
attribute [go_sem] Ty.zGw2 Ty.zGv2 Ty.zGu2 Ty.tzr26 Ty.tsz27 Ty.tby27 Ty.tag27 Ty.tel27 Ty.isSl27 Ty.tzr27 Ty.tsz28 Ty.tby28 Ty.tag28 Ty.isSl28 Ty.tok28 Ty.zGt2
attribute [go_sem] Ty.zGs2 Ty.tzr28 Ty.tsz29 Ty.tby29 Ty.tag29 Ty.isSl29 Ty.tok29 Ty.zGr2 Ty.zGq2 Ty.tzr29 Ty.tsz30 Ty.tby30 Ty.tag30 Ty.isSl30 Ty.tok30 Ty.zGp2
attribute [go_sem] Ty.zGo2 Ty.zGn2 Ty.zGm2 Ty.zGl2 Ty.zGk2 Ty.zGj2 Ty.zGi2 Ty.tzr30 Ty.tsz31 Ty.tby31 Ty.tag31 Ty.isSl31 Ty.tok31 Ty.zGh2 Ty.zGg2
attribute [go_sem] Ty.zGf2 Ty.zGe2 Ty.zGd2 Ty.zGc2 Ty.zGb2 Ty.zGa2 Ty.tzr31 Ty.tsz32 Ty.tby32 Ty.tag32 Ty.isSl32 Ty.tsz37 Ty.tby37 Ty.tag37 Ty.tel37 Ty.isSl37
attribute [go_sem] Ty.tzr37 Ty.isBs37 Tryz.underlying37 Ty.tsz39 Ty.tby39 Ty.tag39 Ty.isSl39 Ty.tsz45 Ty.tby45 Ty.tag45 Ty.isSl45 Ty.tsz54
attribute [go_sem] Ty.tby54 Ty.tag54 Ty.tel54 Ty.isSl54 Ty.tzr54 Ty.tsz55 Ty.tby55 Ty.tag55 Ty.tel55 Ty.isSl55 Ty.tzr55
attribute [go_sem] Ty.tsz57 Ty.tby57 Ty.tag57 Ty.isSl57 Ty.tok57 Ty.zFz2 Ty.zFy2 Ty.tzr57 Ty.tsz58 Ty.tby58 Ty.tag58 Ty.isSl58 Ty.tsz63 Ty.tby63 Ty.tag63
attribute [go_sem] Ty.tel63 Ty.isSl63 Ty.tzr63 Ty.tsz65 Ty.tby65 Ty.tag65 Ty.isSl65 Ty.tok65 Ty.zFx2
attribute [go_sem] Ty.zFw2 Ty.tzr65 Ty.tsz66 Ty.tby66 Ty.tag66 Ty.isSl66 Ty.tsz71 Ty.tby71 Ty.tag71 Ty.tel71 Ty.isSl71 Ty.tzr71 Ty.tsz74 Ty.tby74 Ty.tag74 Ty.isSl74 Ty.tzr74
attribute [go_sem] Ty.tsz77 Ty.tby77 Ty.tag77 Ty.isSl77 Ty.tok77 Ty.zFv2 Ty.zFu2 Ty.tzr77 Ty.tsz84
attribute [go_sem] Ty.tby84 Ty.tag84 Ty.isSl84 Ty.tzr84 Tryz.underlying84 Ty.tsz86 Ty.tby86 Ty.tag86 Ty.isSl86 Ty.tzr86 Tryz.underlying86 Ty.tsz92 Ty.tby92 Ty.tag92 Ty.isSl92
attribute [go_sem] Ty.tzr92 Ty.tsz107 Ty.tby107 Ty.tag107 Ty.isSl107 Ty.tzr107 Ty.tsz110 Ty.tby110 Ty.tag110 Ty.isSl110
attribute [go_sem] Ty.tsz113 Ty.tby113 Ty.tag113 Ty.isSl113 Ty.tok113 Ty.zAg2 Ty.zAf2 Ty.tzr113 Ty.tsz116 Ty.tby116 Ty.tag116 Ty.isSl116
attribute [go_sem] Ty.tsz126 Ty.tby126 Ty.tag126 Ty.isSl126 Ty.tsz130 Ty.tby130 Ty.tag130 Ty.isSl130 Ty.tsz147 Ty.tby147 Ty.tag147
attribute [go_sem] Ty.isSl147 Ty.tsz149 Ty.tby149 Ty.tag149 Ty.isSl149 Ty.tok149 Ty.zAe2 Ty.zAd2 Ty.zAc2 Ty.tzr149 Ty.tsz150 Ty.tby150 Ty.tag150 Ty.isSl150 Ty.tok150
attribute [go_sem] Ty.zAb2 Ty.zAa2 Ty.zZz1 Ty.tzr150 Ty.tsz153 Ty.tby153 Ty.tag153 Ty.tel153 Ty.isSl153 Ty.tzr153 Ty.tsz163 Ty.tby163 Ty.tag163 Ty.tel163 Ty.isSl163
attribute [go_sem] Ty.tzr163 Ty.tsz166 Ty.tby166 Ty.tag166 Ty.isSl166 Ty.tsz169 Ty.tby169 Ty.tag169 Ty.isSl169 Ty.tzr169 Ty.tsz170
attribute [go_sem] Ty.tby170 Ty.tag170 Ty.isSl170 Ty.tsz177 Ty.tby177 Ty.tag177 Ty.isSl177 Ty.tsz185 Ty.tby185 Ty.tag185 Ty.isSl185
attribute [go_sem] Ty.tsz188 Ty.tby188 Ty.tag188 Ty.isSl188 Ty.tok188 Ty.zZy1 Ty.zZx1 Ty.tzr188 Ty.isEq113
attribute [go_sem] Ty.isEq188
end Go.SX
namespace Go.SX.Ty
open Go Go.SX Go.Proofs
theorem tsz192:tsz Tryz.prog 192=some 1:=by kernel_rfl
theorem tby192:tby Tryz.prog 192=some 24:=by kernel_rfl
theorem tag192:tag Tryz.prog 192=some false:=by kernel_rfl
theorem tel192:tel Tryz.prog 192=some 27:=by kernel_rfl
theorem isSl192:isSlT Tryz.prog 192=true:=by kernel_rfl
theorem tzr192:tzr Tryz.prog 192=some [.nil]:=by kernel_rfl
theorem tsz201:tsz Tryz.prog 201=some 1:=by kernel_rfl
theorem tby201:tby Tryz.prog 201=some 4:=by kernel_rfl
theorem tag201:tag Tryz.prog 201=some false:=by kernel_rfl
theorem isSl201:isSlT Tryz.prog 201=false:=by kernel_rfl
theorem tzr201:tzr Tryz.prog 201=some [.im (.int .u32 (0))]:=by kernel_rfl
theorem tsz215:tsz Tryz.prog 215=some 1:=by kernel_rfl
theorem tby215:tby Tryz.prog 215=some 8:=by kernel_rfl
theorem tag215:tag Tryz.prog 215=some false:=by kernel_rfl
theorem isSl215:isSlT Tryz.prog 215=false:=by kernel_rfl
theorem tzr215:tzr Tryz.prog 215=some [.im (.int .u64 (0))]:=by kernel_rfl
theorem tsz243:tsz Tryz.prog 243=some 1:=by kernel_rfl
theorem tby243:tby Tryz.prog 243=some 0:=by kernel_rfl
theorem tag243:tag Tryz.prog 243=some false:=by kernel_rfl
theorem isSl243:isSlT Tryz.prog 243=false:=by kernel_rfl
theorem tsz247:tsz Tryz.prog 247=some 1:=by kernel_rfl
theorem tby247:tby Tryz.prog 247=some 8:=by kernel_rfl
theorem tag247:tag Tryz.prog 247=some false:=by kernel_rfl
theorem isSl247:isSlT Tryz.prog 247=false:=by kernel_rfl
theorem tzr247:tzr Tryz.prog 247=some [.im (.int .u64 (0))]:=by kernel_rfl
theorem tsz248:tsz Tryz.prog 248=some 1:=by kernel_rfl
theorem tby248:tby Tryz.prog 248=some 0:=by kernel_rfl
theorem tag248:tag Tryz.prog 248=some false:=by kernel_rfl
theorem isSl248:isSlT Tryz.prog 248=false:=by kernel_rfl
theorem tsz226:tsz Tryz.prog 226=some 1:=by kernel_rfl
theorem tby226:tby Tryz.prog 226=some 8:=by kernel_rfl
theorem tag226:tag Tryz.prog 226=some false:=by kernel_rfl
theorem isSl226:isSlT Tryz.prog 226=false:=by kernel_rfl
theorem tzr226:tzr Tryz.prog 226=some [.im (.raw (.pointer none))]:=by kernel_rfl
theorem tsz228:tsz Tryz.prog 228=some 2:=by kernel_rfl
theorem tby228:tby Tryz.prog 228=some 32:=by kernel_rfl
theorem tag228:tag Tryz.prog 228=some true:=by kernel_rfl
theorem isSl228:isSlT Tryz.prog 228=false:=by kernel_rfl
theorem tok228:tok Tryz.prog 228=true:=by kernel_rfl
theorem zZw1:tfd Tryz.prog 228 0=some (0,226):=by kernel_rfl
theorem zZv1:tfd Tryz.prog 228 1=some (1,37):=by kernel_rfl
theorem tzr228:tzr Tryz.prog 228=some [.im (.raw (.pointer none)),.nil]:=by kernel_rfl
theorem tsz234:tsz Tryz.prog 234=some 1:=by kernel_rfl
theorem tby234:tby Tryz.prog 234=some 8:=by kernel_rfl
theorem tag234:tag Tryz.prog 234=some false:=by kernel_rfl
theorem isSl234:isSlT Tryz.prog 234=false:=by kernel_rfl
theorem tzr234:tzr Tryz.prog 234=some [.im (.raw (.pointer none))]:=by kernel_rfl
theorem tsz266:tsz Tryz.prog 266=some 1:=by kernel_rfl
theorem tby266:tby Tryz.prog 266=some 24:=by kernel_rfl
theorem tag266:tag Tryz.prog 266=some false:=by kernel_rfl
theorem tel266:tel Tryz.prog 266=some 54:=by kernel_rfl
theorem isSl266:isSlT Tryz.prog 266=true:=by kernel_rfl
theorem tzr266:tzr Tryz.prog 266=some [.nil]:=by kernel_rfl
theorem tsz269:tsz Tryz.prog 269=some 1:=by kernel_rfl
theorem tby269:tby Tryz.prog 269=some 24:=by kernel_rfl
theorem tag269:tag Tryz.prog 269=some false:=by kernel_rfl
theorem tel269:tel Tryz.prog 269=some 55:=by kernel_rfl
theorem isSl269:isSlT Tryz.prog 269=true:=by kernel_rfl
theorem tzr269:tzr Tryz.prog 269=some [.nil]:=by kernel_rfl
theorem tsz321:tsz Tryz.prog 321=some 1:=by kernel_rfl
theorem tby321:tby Tryz.prog 321=some 0:=by kernel_rfl
theorem tag321:tag Tryz.prog 321=some false:=by kernel_rfl
theorem isSl321:isSlT Tryz.prog 321=false:=by kernel_rfl
end Go.SX.Ty
namespace Go.SX
open Go Go.Proofs Tryz
attribute [go_sem] Ty.tsz192 Ty.tby192 Ty.tag192 Ty.tel192 Ty.isSl192 Ty.tzr192 Ty.tsz201 Ty.tby201 Ty.tag201 Ty.isSl201 Ty.tzr201 Tryz.underlying201 Ty.tsz215 Ty.tby215 Ty.tag215
attribute [go_sem] Ty.isSl215 Ty.tzr215 Tryz.underlying215 Ty.tsz243 Ty.tby243 Ty.tag243 Ty.isSl243 Ty.tsz247 Ty.tby247 Ty.tag247 Ty.isSl247 Ty.tzr247 Tryz.underlying247 Ty.tsz248
attribute [go_sem] Ty.tby248 Ty.tag248 Ty.isSl248 Ty.tsz226 Ty.tby226 Ty.tag226 Ty.isSl226 Ty.tzr226 Ty.tsz228 Ty.tby228 Ty.tag228 Ty.isSl228 Ty.tok228 Ty.zZw1 Ty.zZv1
attribute [go_sem] Ty.tzr228 Ty.tsz234 Ty.tby234 Ty.tag234 Ty.isSl234 Ty.tzr234 Ty.tsz266 Ty.tby266 Ty.tag266 Ty.tel266 Ty.isSl266 Ty.tzr266 Ty.tsz269 Ty.tby269 Ty.tag269 Ty.tel269
attribute [go_sem] Ty.isSl269 Ty.tzr269 Ty.tsz321 Ty.tby321 Ty.tag321 Ty.isSl321
theorem hmixA:prog.follows .mixedOrders=true:=rfl
abbrev Pt:=Nat×Nat
def rowsZ (l:List Pt):List (List I):=l.map fun z=>[.cpx .f32 z.1 z.2]
theorem zAb (l:List Pt):(rowsZ l).length=l.length:=by simp[rowsZ]
theorem zBz {l:List Pt}{k:Nat}{p:Pt}(h:l[k]?=some p):(rowsZ l)[k]?=some [.cpx .f32 p.1 p.2]:=by simp[rowsZ,h]
theorem zWo {l m:List Pt}(h:rowsZ l=rowsZ m):l=m:=by
 induction l generalizing m with
 | nil=>cases m with|nil=>rfl|cons=>simp[rowsZ] at h
 | cons p l ih=>
  cases m with
  | nil=>simp[rowsZ] at h
  | cons q m=>
   simp only[rowsZ,List.map_cons,List.cons.injEq,I.cpx.injEq,true_and,and_true] at h;rw[ih h.2,show p=q from Prod.ext h.1.1 h.1.2]
theorem zAs {l m:List Pt}:(rowsZ l=rowsZ m)=(l=m):=propext ⟨zWo,fun h=>by rw[h]⟩
def rowsN (l:List Int):List (List I):=l.map fun n=>[.int .i64 n]
theorem zAe (l:List Int):(rowsN l).length=l.length:=by simp[rowsN]
theorem zEx {l:List Int}{k:Nat}{p:Int}(h:l[k]?=some p):(rowsN l)[k]?=some [.int .i64 p]:=by simp[rowsN,h]
theorem zWp {l m:List Int}(h:rowsN l=rowsN m):l=m:=by
 induction l generalizing m with
 | nil=>cases m with|nil=>rfl|cons=>simp[rowsN] at h
 | cons p l ih=>
  cases m with
  | nil=>simp[rowsN] at h
  | cons q m=>
   simp only[rowsN,List.map_cons,List.cons.injEq,I.int.injEq,true_and,and_true] at h;rw[ih h.2,h.1]
theorem zAx {l m:List Int}:(rowsN l=rowsN m)=(l=m):=propext ⟨zWp,fun h=>by rw[h]⟩
theorem zRh (x:Nat):bitsI .and .u32 (x:Int) 2147483647=((x%2147483648:Nat):Int):=by
 have h:(BitVec.ofInt 32 (x:Int) &&&BitVec.ofInt 32 2147483647).toNat=x%2147483648:=by
  rw[BitVec.toNat_and];have F:(BitVec.ofInt 32 (x:Int)).toNat=x%2^ 32:=by simp
  have E:(BitVec.ofInt 32 2147483647).toNat=2^ 31-1:=by decide
  rw[F,E,Nat.and_two_pow_sub_one_eq_mod];omega
 show IntKind.u32.wrap _=_;rw[show (IntKind.u32.bits)=32 from rfl,h];show (((x%2147483648:Nat):Int)%4294967296)=_;omega
theorem zYz1 (x:Nat):bitsI .and .u32 (x:Int) 2147483648=((x / 2147483648%2*2147483648:Nat):Int):=by
 have h:(BitVec.ofInt 32 (x:Int) &&&BitVec.ofInt 32 2147483648).toNat=x / 2147483648%2*2147483648:=by
  rw[BitVec.toNat_and];have F:(BitVec.ofInt 32 (x:Int)).toNat=x%2^ 32:=by simp
  have E:(BitVec.ofInt 32 2147483648).toNat=2^ 31:=by decide
  rw[F,E]
  have h3:∀y:Nat,y &&&2^ 31=y / 2^ 31%2*2^ 31:=fun y=>by
   apply Nat.eq_of_testBit_eq;intro i;rw[Nat.testBit_and,Nat.testBit_two_pow];have h4:y.testBit 31=decide (y / 2^ 31%2=1):=(by rw[Nat.testBit_eq_decide_div_mod_eq]);rcases Nat.mod_two_eq_zero_or_one (y / 2^ 31) with h|h
   ·rw[h,Nat.zero_mul,Nat.zero_testBit];by_cases e:31=i
    ·subst e;rw[h4,h];rfl
    ·simp[e]
   ·rw[h,Nat.one_mul,Nat.testBit_two_pow];by_cases e:31=i
    ·subst e;rw[h4,h];rfl
    ·simp[e]
  rw[h3];omega
 show IntKind.u32.wrap _=_;rw[show (IntKind.u32.bits)=32 from rfl,h];show (((x / 2147483648%2*2147483648:Nat):Int)%4294967296)=_;omega
theorem zSf {x:Nat}(h:isNaNb .f32 x=true):2139095040<x%2147483648:=zVq h
def isFin (x:Nat):Bool:=decide (x%2147483648≤2139095039)
def isSubn (x:Nat):Bool:=decide (0<x%2147483648)&&decide (x%2147483648<8388608)
def flushF (x:Nat):Nat:=if isSubn x=true then x / 2147483648%2*2147483648 else x
theorem zYm {x:Nat}(h:isNaNb .f32 x=true):isFin x=false:=by have:=zSf h;simp[isFin];omega
theorem zCs1 {x:Nat}(h:isNaNb .f32 x=true):isSubn x=false:=by have:=zSf h;simp[isSubn];omega
def oBits (x:Nat):Outs:=if isNaNb .f32 x=true then .any {y:Nat//isNaNb .f32 y=true} (fun y=>{val:=.c (.im (.int .u32 y.1))}) else .one {val:=.c (.im (.int .u32 x))}
noncomputable def zZq:Ct:=fam true (fun x:Nat=>([.c (.im (.flt .f32 x))],[])) oBits
theorem zFo {x:Nat}(h:isNaNb .f32 x=false):zZq.run [.c (.im (.flt .f32 x))] []=some (.one {val:=.c (.im (.int .u32 x))}):=by
 have:=zBd (sc:=true) (args:=fun x:Nat=>([D.c (.im (.flt .f32 x))],([]:List (List B)))) (out:=oBits) (fun a b h=>by simpa using h) x;simpa[oBits,h,zZq] using this
theorem zWc {x:Nat}(h:isNaNb .f32 x=true):zZq.run [.c (.im (.flt .f32 x))] []=some (.any {y:Nat//isNaNb .f32 y=true} (fun y=>{val:=.c (.im (.int .u32 y.1))})):=by
 have:=zBd (sc:=true) (args:=fun x:Nat=>([D.c (.im (.flt .f32 x))],([]:List (List B)))) (out:=oBits) (fun a b h=>by simpa using h) x;simpa[oBits,h,zZq] using this
theorem zVw1:Nonempty {y:Nat//isNaNb .f32 y=true}=True:=by
 simp only[eq_iff_iff,iff_true];exact⟨⟨qn .f32,zIv1 .f32⟩⟩
theorem zQp:ExtLaw prog 189 zZq:=by
 refine zGf1 (fun x=>⟨rfl,by simp[scI],fun fz vs w hl E=>?_⟩)
 match vs,hl with
 | [v],_=>
  have h1:=E 0 _ v rfl rfl;obtain ⟨y,rfl,G⟩:=h1.flt_inv;refine⟨.int .u32 y,.int .u32 y,?_,?_,.int _ _⟩
  ·rw[run_callFunc_extern (e:=Extern.MathFloatBits.float32bits) func189 (by kernel_rfl) (by kernel_rfl) (by kernel_rfl) (by kernel_rfl)];rfl
  ·unfold oBits;rcases G with rfl|⟨h2,h3⟩
   ·split
    ·rename_i F;exact⟨⟨x,F⟩,rfl⟩
    ·rfl
   ·rw[if_pos h2];exact⟨⟨y,h3⟩,rfl⟩
noncomputable def zPf:Ct:=fam true (fun x:Nat=>([.c (.im (.int .u32 x))],[])) (fun x=>.one {val:=.c (.im (.flt .f32 x))})
theorem zTp (x:Nat):zPf.run [.c (.im (.int .u32 (x:Int)))] []=some (.one {val:=.c (.im (.flt .f32 x))}):=
 zBd (fun a b h=>by simp only[Prod.mk.injEq,List.cons.injEq,D.c.injEq,C.im.injEq,I.int.injEq] at h;omega) x
theorem zTz:ExtLaw prog 243 zPf:=by
 refine zGf1 (fun x=>⟨rfl,by simp[scI],fun fz vs w hl E=>?_⟩)
 match vs,hl with
 | [v],_=>
  have h1:=E 0 _ v rfl rfl
  cases h1.int_inv
  refine⟨.float .f32 x,.flt .f32 x,?_,rfl,.flt _ _ _ (.inl rfl)⟩;rw[run_callFunc_extern (e:=Extern.MathFloatBits.float32frombits) func243 (by kernel_rfl) (by kernel_rfl) (by kernel_rfl) (by kernel_rfl)];rfl
noncomputable def zZl:Ct:=fam true (fun x:Nat=>([.c (.im (.flt .f32 x))],[])) (fun x=>.one {val:=.c (.im (.bool (decide ((x:Int)=0))))})
theorem zAt (x:Nat):zZl.run [.c (.im (.flt .f32 x))] []=some (.one {val:=.c (.im (.bool (decide ((x:Int)=0))))}):=zBd (fun a b h=>by simpa using h) x
theorem zIf2 {x:Nat}(h:isNaNb .f32 x=true):((x:Int)=0)=False:=by have:=zSf h;simp;omega
theorem zMk:Law prog 106 zZl:=by
 refine zAf (zDn zQp zAd) hmixA func106 rfl rfl (fun x=>⟨zAv rfl,by simp[f106],?_⟩)
 cases E:isNaNb .f32 x with
 | false=> try simp -dsimp only[go_sem,f106,zFo E]
 | true=>
  try simp -dsimp only[go_sem,f106,zWc E,zVw1,zIf2 E]
  rintro ⟨y,F⟩;have:=zSf F;simp[];try omega
noncomputable def zZm:Ct:=fam true (fun x:Nat=>([.c (.im (.flt .f32 x))],[])) (fun x=>.one {val:=.c (.im (.bool (isFin x)))})
theorem zDb (x:Nat):zZm.run [.c (.im (.flt .f32 x))] []=some (.one {val:=.c (.im (.bool (isFin x)))}):=zBd (fun a b h=>by simpa using h) x
theorem zFe2 (x:Nat):decide (((x%2147483648:Nat):Int)≤2139095039)=isFin x:=by unfold isFin;rw[decide_eq_decide];omega
theorem zTy:Law prog 205 zZm:=by
 refine zAf (zDn zQp zAd) hmixA func205 rfl rfl (fun x=>⟨zAv rfl,by simp[f205],?_⟩)
 cases E:isNaNb .f32 x with
 | false=> try simp -dsimp only[go_sem,f205,zFo E,zRh,zFe2]
 | true=>
  try simp -dsimp only[go_sem,f205,zWc E,zVw1,zRh,zFe2,zYm E]
  rintro ⟨y,F⟩;simp[zYm F]
noncomputable def zOk:Ct:=fam true (fun x:Nat=>([.c (.im (.flt .f32 x))],[])) (fun x=>.one {val:=.c (.im (.bool (isSubn x)))})
theorem zLx (x:Nat):zOk.run [.c (.im (.flt .f32 x))] []=some (.one {val:=.c (.im (.bool (isSubn x)))}):=zBd (fun a b h=>by simpa using h) x
theorem zWd1 (x:Nat):decide ((0:Int)<((x%2147483648:Nat):Int))=decide (0<x%2147483648):=by rw[decide_eq_decide];omega
theorem zFd2 (x:Nat):decide (((x%2147483648:Nat):Int)<8388608)=decide (x%2147483648<8388608):=by rw[decide_eq_decide];omega
theorem zXy:Law prog 251 zOk:=by
 refine zAf (zDn zQp zAd) hmixA func251 rfl rfl (fun x=>⟨zAv rfl,by simp[f251],?_⟩)
 cases E:isNaNb .f32 x with
 | false=>
  simp only[isSubn];try simp -dsimp only[go_sem,f251,zFo E,zRh,zWd1]
  repeat' ((first|(with_reducible refine gS_d ?_ ?_)|(with_reducible refine zQx ?_ ?_)|(with_reducible refine gS_i ?_ ?_))<;>intro U<;>(try simp -dsimp (maxSteps:=1000000) only[go_sem,yaj,f251,zFo E,zRh,zWd1,zFd2, *]))
  all_goals simp_all
 | true=>
  try simp -dsimp only[go_sem,f251,zWc E,zVw1,zRh,zWd1]
  rintro ⟨y,F⟩;have:=zSf F;have J:decide (0<y%2147483648)=true:=by simp;omega
  have G:decide (y%2147483648<8388608)=false:=by simp;omega
  try simp -dsimp only[go_sem,f251,J,G,zFd2,zCs1 E]
noncomputable def zQd1:Ct:=fam true (fun x:Nat=>([.c (.im (.flt .f32 x))],[])) (fun x=>.one {val:=.c (.im (.flt .f32 (flushF x)))})
theorem zUl1 (x:Nat):zQd1.run [.c (.im (.flt .f32 x))] []=some (.one {val:=.c (.im (.flt .f32 (flushF x)))}):=zBd (fun a b h=>by simpa using h) x
theorem zXa1:Law prog 202 zQd1:=by
 refine zAf (zAa zXy (zDn zQp (zDn zTz zAd))) hmixA func202 rfl rfl (fun x=>⟨zAv rfl,by simp[f202],?_⟩)
 cases hs:isSubn x with
 | false=>
  simp only[flushF];try simp -dsimp only[go_sem,f202,zLx,hs]
 | true=>
  have E:isNaNb .f32 x=false:=by
   cases E:isNaNb .f32 x with
   | false=>rfl
   | true=>rw[zCs1 E] at hs;cases hs
  simp only[flushF];try simp -dsimp only[go_sem,f202,zLx,zFo E,zTp,zYz1,hs]
end Go.SX
namespace Go.SX
open Go
theorem zIs1 {f:Ieee.Format}{neg:Bool}{R:Nat}(h:R<f.infRung)(hw:f.infRung≤f.signWeight):(f.read (f.word neg R)).isInfinity=false:=by
 have e:f.word neg R%f.signWeight=R:=by
  unfold Ieee.Format.word;have:R<f.signWeight:=by omega
  cases neg
  ·simp;exact Nat.mod_eq_of_lt this
  ·simp;exact Nat.mod_eq_of_lt this
 unfold Ieee.Format.read;simp only[e];by_cases h1:R<f.binade
 ·simp[h1,Ieee.Datum.isInfinity]
 ·simp[h1,h,Ieee.Datum.isInfinity]
theorem zKo1 (sg:Bool)(m:Nat)(e:Int)(hm:m<16777216)(h1 : -149≤e)(h2:e≤104):(Ieee.double.read (Ieee.double.write (.number sg m e))).isInfinity=false:=by
 show (Ieee.double.read (Ieee.double.nearest sg m e)).isInfinity=false;unfold Ieee.Format.nearest;have U:Ieee.double.infRung≤Ieee.double.signWeight:=by decide
 by_cases G:m=0
 · rw[if_pos G];exact zIs1 (by decide) U
 · rw[if_neg G];have hL:m.log2<24:=(Nat.log2_lt G).2 hm
   have E:max (e+m.log2- (Ieee.double.fractionBits:Int)) Ieee.double.leastPlace=e+m.log2-52:=by
     have e1:(Ieee.double.fractionBits:Int)=52:=rfl;have J:Ieee.double.leastPlace = -1074:=(by decide);rw[e1,J];omega
   simp only[E];have d0:(e+m.log2-52-e).toNat=0:=(by omega);have d1:(e- (e+m.log2-52)).toNat=52-m.log2:=(by omega);rw[d0,d1];have V:Ieee.Toward.even.cut sg (m <<< (52-m.log2)) 0=m <<< (52-m.log2):=(by simp[Ieee.Toward.cut,Nat.mod_one]);rw[V]
   have F:m <<< (52-m.log2)<2^ 53:=by
     rw[Nat.shiftLeft_eq];have h3:m<2^ (m.log2+1):=Nat.lt_log2_self;have h4:2^ (m.log2+1)*2^ (52-m.log2)=2^ 53:=(by rw[←Nat.pow_add];congr 1;omega);have h5:0<2^ (52-m.log2):=Nat.pow_pos (by decide)
     calc m*2^ (52-m.log2)<2^ (m.log2+1)*2^ (52-m.log2):=Nat.mul_lt_mul_of_pos_right h3 h5
       _=2^ 53:=h4
   have J:Ieee.double.leastPlace = -1074:=(by decide);have e3:Ieee.double.binade=2^ 52:=rfl;have e4:Ieee.double.infRung=2047*2^ 52:=(by decide);refine zIs1 ?_ U;rw[J,e3,e4];have:(e+m.log2-52 - -1074).toNat≤1149:=(by omega);have Z:(e+m.log2-52 - -1074).toNat*2^ 52≤1149*2^ 52:=Nat.mul_le_mul_right _ this;exact Nat.lt_of_le_of_lt (Nat.min_le_left _ _) (Nat.lt_trans (Nat.add_lt_add_of_le_of_lt Z F) (by decide))
def w64 (x:Nat):Nat:=(fconv .f32 x .f64).getD 0
theorem zSr (x:Nat):fconv .f32 x .f64=some (w64 x):=by
 have:∃r,fconv .f32 x .f64=some r:=by
  unfold fconv;rw[if_neg (by decide)]
  cases hd:FloatKind.f32.decode x with
  | nan a b=>exact⟨_,rfl⟩
  | infinity a=>exact⟨_,rfl⟩
  | number sg m e=>
   have hb:m<16777216 ∧ -149≤e∧e≤104:=by
    have E:Ieee.single.read x=.number sg m e:=hd;unfold Ieee.Format.read at E;simp only at E;have V:Ieee.single.binade=8388608:=(by decide);have U:Ieee.single.infRung=2139095040:=(by decide);have J:Ieee.single.leastPlace = -149:=(by decide);rw[V,U,J] at E;split at E
    ·rename_i h;injection E with _ G F;subst G;subst F;omega
    ·split at E
     ·rename_i h1 h2;injection E with _ G F;have:x%Ieee.single.signWeight / 8388608<255:=(by omega);have:x%Ieee.single.signWeight%8388608<8388608:=Nat.mod_lt _ (by decide);subst G;subst F;omega
     ·split at E<;>cases E
   have:=zKo1 sg m e hb.1 hb.2.1 hb.2.2;simp only
   rw[if_neg (by
    show ¬(Ieee.double.read (Ieee.double.write (.number sg m e))).isInfinity=true
    rw[this];simp)]
   exact⟨_,rfl⟩
 obtain ⟨r,hr⟩:=this;simp[w64,hr]
end Go.SX
namespace Go.SX
open Go Go.Proofs Tryz
def nz (x:Nat):Bool:=decide ((x:Int)=0)
def nzP (p:Pt):Bool:=nz p.1&&nz p.2
noncomputable def zUc:Ct:=fam true (fun x:Pt=>([.c (.im (.cpx .f32 x.1 x.2))],[])) (fun x=>.one {val:=.c (.im (.bool (nzP x)))})
theorem zAm (x y:Nat):zUc.run [.c (.im (.cpx .f32 x y))] []=some (.one {val:=.c (.im (.bool (nzP (x,y))))}):=zBd (by
 intro a b h
 simp only[Prod.mk.injEq,List.cons.injEq,D.c.injEq,C.im.injEq,I.cpx.injEq,true_and,and_true] at h
 (try simp only[yaE])
 (try simp only[zAs,zAx] at h)
 simp_all) (x,y)
theorem zQo:Law prog 186 zUc:=by
 refine zAf (zAa zMk zAd) hmixA func186 rfl rfl (fun x=>⟨zAv rfl,by simp[f186],?_⟩);simp only[nzP,nz];try simp -dsimp only[go_sem,f186,zAt]
 repeat' ((first|(with_reducible refine gS_d ?_ ?_)|(with_reducible refine zQx ?_ ?_)|(with_reducible refine gS_i ?_ ?_))<;>intro E<;>(try simp -dsimp (maxSteps:=1000000) only[go_sem,yaj,f186,zAt, *]))
 all_goals simp_all
noncomputable def zLm:Ct:=fam true (fun x:Pt=>([.c (.im (.cpx .f32 x.1 x.2))],[])) (fun x=>.one {val:=.c (.im (.bool (isFin x.1&&isFin x.2)))})
theorem zGe (x y:Nat):zLm.run [.c (.im (.cpx .f32 x y))] []=some (.one {val:=.c (.im (.bool (isFin x&&isFin y)))}):=zBd (by
 intro a b h
 simp only[Prod.mk.injEq,List.cons.injEq,D.c.injEq,C.im.injEq,I.cpx.injEq,true_and,and_true] at h
 (try simp only[yaE])
 (try simp only[zAs,zAx] at h)
 simp_all) (x,y)
theorem zSm:Law prog 187 zLm:=by
 refine zAf (zAa zTy zAd) hmixA func187 rfl rfl (fun x=>⟨zAv rfl,by simp[f187],?_⟩);try simp -dsimp only[go_sem,f187,zDb]
 repeat' ((first|(with_reducible refine gS_d ?_ ?_)|(with_reducible refine zQx ?_ ?_)|(with_reducible refine gS_i ?_ ?_))<;>intro E<;>(try simp -dsimp (maxSteps:=1000000) only[go_sem,yaj,f187,zDb, *]))
 all_goals simp_all
def eqPt (p q:Pt):Bool:=fcmp .eql .f32 p.1 q.1&&fcmp .eql .f32 p.2 q.2
noncomputable def zOl:Ct:=fam true (fun x:Pt×Pt=>([.c (.im (.cpx .f32 x.1.1 x.1.2)),.c (.im (.cpx .f32 x.2.1 x.2.2))],[])) (fun x=>.one {val:=.c (.im (.bool (eqPt x.1 x.2)))})
theorem zWk (x y u v:Nat):zOl.run [.c (.im (.cpx .f32 x y)),.c (.im (.cpx .f32 u v))] []=some (.one {val:=.c (.im (.bool (eqPt (x,y) (u,v))))}):=zBd (by
 intro a b h
 simp only[Prod.mk.injEq,List.cons.injEq,D.c.injEq,C.im.injEq,I.cpx.injEq,true_and,and_true] at h
 (try simp only[yaE])
 (try simp only[zAs,zAx] at h)
 simp_all) ((x,y),(u,v))
theorem zYi:Law prog 246 zOl:=by
 refine zAf zAd hmixA func246 rfl rfl (fun x=>⟨zAv rfl,by simp[f246],?_⟩);simp only[eqPt];try simp -dsimp only[go_sem,f246]
 repeat' ((first|(with_reducible refine gS_d ?_ ?_)|(with_reducible refine zQx ?_ ?_)|(with_reducible refine gS_i ?_ ?_))<;>intro E<;>(try simp -dsimp (maxSteps:=1000000) only[go_sem,yaj,f246, *]))
 all_goals simp_all
def addPt (p q:Pt):Pt:=(fop .add .f32 p.1 q.1,fop .add .f32 p.2 q.2)
noncomputable def zFl2:Ct:=fam true (fun x:Pt×Pt=>([.c (.im (.cpx .f32 x.1.1 x.1.2)),.c (.im (.cpx .f32 x.2.1 x.2.2))],[])) (fun x=>.one {val:=.c (.im (.cpx .f32 (addPt x.1 x.2).1 (addPt x.1 x.2).2))})
theorem zLu1 (x y u v:Nat):zFl2.run [.c (.im (.cpx .f32 x y)),.c (.im (.cpx .f32 u v))] []=some (.one {val:=.c (.im (.cpx .f32 (addPt (x,y) (u,v)).1 (addPt (x,y) (u,v)).2))}):=zBd (by
 intro a b h
 simp only[Prod.mk.injEq,List.cons.injEq,D.c.injEq,C.im.injEq,I.cpx.injEq,true_and,and_true] at h
 (try simp only[yaE])
 (try simp only[zAs,zAx] at h)
 simp_all) ((x,y),(u,v))
theorem zIo2:Law prog 269 zFl2:=by
 refine zAf zAd hmixA func269 rfl rfl (fun x=>⟨zAv rfl,by simp[f269],?_⟩);simp only[addPt];try simp -dsimp only[go_sem,f269]
def scaleF (p:Pt)(l:Nat):Pt:=(flushF (fop .mul .f32 p.1 l),flushF (fop .mul .f32 p.2 l))
noncomputable def zKs1:Ct:=fam true (fun x:Pt×Nat=>([.c (.im (.cpx .f32 x.1.1 x.1.2)),.c (.im (.flt .f32 x.2))],[])) (fun x=>.one {val:=.c (.im (.cpx .f32 (scaleF x.1 x.2).1 (scaleF x.1 x.2).2))})
theorem zQq1 (x y u:Nat):zKs1.run [.c (.im (.cpx .f32 x y)),.c (.im (.flt .f32 u))] []=some (.one {val:=.c (.im (.cpx .f32 (scaleF (x,y) u).1 (scaleF (x,y) u).2))}):=zBd (by
 intro a b h
 simp only[Prod.mk.injEq,List.cons.injEq,D.c.injEq,C.im.injEq,I.cpx.injEq,I.flt.injEq,true_and,and_true] at h
 (try simp only[yaE])
 (try simp only[zAs,zAx] at h)
 simp_all) ((x,y),u)
theorem zRr1:Law prog 140 zKs1:=by
 refine zAf (zAa zXa1 zAd) hmixA func140 rfl rfl (fun x=>⟨zAv rfl,by simp[f140],?_⟩);simp only[scaleF];try simp -dsimp only[go_sem,f140,zUl1]
def distF (p q:Pt):Nat:=fop .add .f32 (fop .mul .f32 (fop .sub .f32 p.1 q.1) (fop .sub .f32 p.1 q.1)) (fop .mul .f32 (fop .sub .f32 p.2 q.2) (fop .sub .f32 p.2 q.2))
noncomputable def zLf:Ct:=fam true (fun x:Pt×Pt=>([.c (.im (.cpx .f32 x.1.1 x.1.2)),.c (.im (.cpx .f32 x.2.1 x.2.2))],[])) (fun x=>.one {val:=.c (.im (.flt .f32 (distF x.1 x.2)))})
theorem zCr (x y u v:Nat):zLf.run [.c (.im (.cpx .f32 x y)),.c (.im (.cpx .f32 u v))] []=some (.one {val:=.c (.im (.flt .f32 (distF (x,y) (u,v))))}):=zBd (by
 intro a b h
 simp only[Prod.mk.injEq,List.cons.injEq,D.c.injEq,C.im.injEq,I.cpx.injEq,true_and,and_true] at h
 (try simp only[yaE])
 (try simp only[zAs,zAx] at h)
 simp_all) ((x,y),(u,v))
theorem zBg1:Law prog 203 zLf:=by
 refine zAf zAd hmixA func203 rfl rfl (fun x=>⟨zAv rfl,by simp[f203],?_⟩);simp only[distF];try simp -dsimp only[go_sem,f203]
def absF (x:Nat):Nat:=if fcmp .lss .f32 x 0=true then Op.negFloat .f32 x else x
noncomputable def zYo1:Ct:=fam true (fun x:Nat=>([.c (.im (.flt .f32 x))],[])) (fun x=>.one {val:=.c (.im (.flt .f32 (absF x)))})
theorem zUs (x:Nat):zYo1.run [.c (.im (.flt .f32 x))] []=some (.one {val:=.c (.im (.flt .f32 (absF x)))}):=zBd (by
 intro a b h
 simp only[Prod.mk.injEq,List.cons.injEq,D.c.injEq,C.im.injEq,I.flt.injEq,true_and,and_true] at h
 (try simp only[yaE,yah])
 (try simp only[zAs,zAx] at h)
 simp_all) x
theorem zCm2:Law prog 142 zYo1:=by
 refine zAf zAd hmixA func142 rfl rfl (fun x=>⟨zAv rfl,by simp[f142],?_⟩);simp only[absF]
 cases h:fcmp .lss .f32 x 0 with
 | false=> try simp -dsimp only[go_sem,f142,h]
 | true=> try simp -dsimp only[go_sem,f142,h]
def mulRe (p q:Pt):Nat:=fop .sub .f64 (fop .mul .f64 (w64 p.1) (w64 q.1)) (fop .mul .f64 (w64 p.2) (w64 q.2))
def mulIm (p q:Pt):Nat:=fop .add .f64 (fop .mul .f64 (w64 p.1) (w64 q.2)) (fop .mul .f64 (w64 p.2) (w64 q.1))
def narrow (o:Nat)(x:Nat):Nat:=(fconv .f64 x .f32).getD (o%4294967296)
def mulPt (o:Nat×Nat)(p q:Pt):Pt:=(narrow o.1 (mulRe p q),narrow o.2 (mulIm p q))
def oMul (p q:Pt):Outs:=.any (Nat×Nat) (fun o=>{val:=.c (.im (.cpx .f32 (mulPt o p q).1 (mulPt o p q).2))})
noncomputable def zGk:Ct:=fam true (fun x:Pt×Pt=>([.c (.im (.cpx .f32 x.1.1 x.1.2)),.c (.im (.cpx .f32 x.2.1 x.2.2))],[])) (fun x=>oMul x.1 x.2)
theorem zCj (x y u v:Nat):zGk.run [.c (.im (.cpx .f32 x y)),.c (.im (.cpx .f32 u v))] []=some (oMul (x,y) (u,v)):=zBd (by
 intro a b h
 simp only[Prod.mk.injEq,List.cons.injEq,D.c.injEq,C.im.injEq,I.cpx.injEq,true_and,and_true] at h
 (try simp only[yaE])
 (try simp only[zAs,zAx] at h)
 simp_all) ((x,y),(u,v))
theorem zRn1:Nonempty (Nat×Nat)=True:=by simp only[eq_iff_iff,iff_true];exact⟨(0,0)⟩
theorem zRg {x:Nat}{K:Nat→Prop}{t:Tag K}:cK (fconv .f64 x .f32) K t=∀o,K (narrow o x):=by
 unfold cK narrow
 cases fconv .f64 x .f32 with
 | some r=>simp
 | none=>exact propext ⟨fun h o=>h _ (Nat.mod_lt _ (by decide)),fun h r hr=>by have:=h r;simpa[Nat.mod_eq_of_lt hr] using this⟩
theorem zQr:Law prog 139 zGk:=by
 refine zAf zAd hmixA func139 rfl rfl (fun x=>⟨okA (fun o=>zVj1 rfl),by simp[f139],?_⟩);simp only[oMul,mulPt,mulRe,mulIm];try simp -dsimp only[go_sem,f139,zSr,zRg]
 exact fun a b=>⟨(a,b),rfl,rfl⟩
def idxF {α:Type}(f:α→Bool):List α→Nat→Int
 | [],_ => -1
 | x::l,k=>if f x=true then (k:Int) else idxF f l (k+1)
theorem zJw {α:Type}{f:α→Bool}{l:List α}{k:Nat}{p:α}(h:l[k]?=some p):idxF f (l.drop k) k=if f p=true then (k:Int) else idxF f (l.drop (k+1)) (k+1):=by
 have E:k<l.length:=(List.getElem?_eq_some_iff.1 h).1;have F:l[k]=p:=by rw[List.getElem?_eq_getElem E] at h;injection h
 rw[List.drop_eq_getElem_cons E,F];rfl
def sm:Nat:=16777216
theorem zDh {k n:Nat}(h:n≤sm)(hk:k<n):IntKind.i64.wrap ((k:Int)+1)=((k+1:Nat):Int):=by
 have:sm=16777216:=rfl;rw[zAi]<;>omega
noncomputable def zSs:Ct:=fam true (fun x:Pt×Pt=>([.c (.im (.cpx .f32 x.1.1 x.1.2)),.c (.ptr 0 0 0 0)],[[.t (.im (.cpx .f32 x.2.1 x.2.2))]])) (fun x=>.one {val:=.c (.im (.bool (eqPt x.1 x.2))),places:=[[.t (.im (.cpx .f32 x.2.1 x.2.2))]]})
theorem zVt (x y u v:Nat):zSs.run [.c (.im (.cpx .f32 x y)),.c (.ptr 0 0 0 0)] [[.t (.im (.cpx .f32 u v))]]=some (.one {val:=.c (.im (.bool (eqPt (x,y) (u,v)))),places:=[[.t (.im (.cpx .f32 u v))]]}):=by
 refine zAc (ct:=zSs) rfl ?_ ((x,y),(u,v));rintro ⟨⟨a,b⟩,⟨c,d⟩⟩ ⟨⟨G,F⟩,⟨E,d'⟩⟩ h;simp at h ⊢;simp[h]
theorem zMp1:Law prog 245 zSs:=by
 refine zAf (zAa zYi zAd) hmixA func245 rfl rfl (fun x=>⟨okO ⟨zQi rfl,by simp,by intro c hc x hx;simp at hc;subst hc;simp at hx;subst hx;exact .t _ (.im _ (.inr rfl))⟩,by simp[f245],?_⟩);try simp -dsimp only[go_sem,f245,zWk]
noncomputable def zDz:Ct:=fam true (fun x:{l:List Pt//l.length≤sm}×Pt=>([.c (.im (.sl 1 (rowsZ x.1.1))),.c (.fn (.func 245) [.ptr 0 0 0 0])],[[.t (.im (.cpx .f32 x.2.1 x.2.2))]]))
 (fun x=>.one {val:=.c (.im (.int .i64 (idxF (eqPt · x.2) x.1.1 0))),places:=[[.t (.im (.cpx .f32 x.2.1 x.2.2))]]})
theorem zKm {l:List Pt}(hl:l.length≤sm)(u v:Nat):zDz.run [.c (.im (.sl 1 (rowsZ l))),.c (.fn (.func 245) [.ptr 0 0 0 0])] [[.t (.im (.cpx .f32 u v))]]=
 some (.one {val:=.c (.im (.int .i64 (idxF (eqPt · (u,v)) l 0))),places:=[[.t (.im (.cpx .f32 u v))]]}):=by
 refine zAc (ct:=zDz) rfl ?_ (⟨l,hl⟩,(u,v));rintro ⟨⟨a,b⟩,⟨c,d⟩⟩ ⟨⟨G,F⟩,⟨E,d'⟩⟩ h;simp[zAs] at h ⊢;simp[h]
theorem zKs:Law prog 244 zDz:=by
 refine zAf (zAa zMp1 zAd) hmixA func244 rfl rfl (fun ⟨⟨l,hl⟩,⟨u,v⟩⟩=>⟨okO ⟨zQi rfl,by simp,by intro c hc x hx;simp at hc;subst hc;simp at hx;subst hx;exact .t _ (.im _ (.inr rfl))⟩,by simp[f244],?_⟩);try simp -dsimp only[go_sem,f244,zAb]
 refine zAp (ι:={k:Nat//k≤l.length∧idxF (eqPt · (u,v)) l 0=idxF (eqPt · (u,v)) (l.drop k) k}) (fun k=>⟨[(0,some (.c (.im (.sl 1 (rowsZ l))))),(1,some (.c (.fn (.func 245) [.ptr 0 0 0 0]))),(7,some (.c (.im (.int .i64 (l.length:Int))))),(8,some (.c (.im (.int .i64 (k.1:Int)))))],
  [(0,some (.box [.t (.im (.cpx .f32 u v))]))],1⟩) (fun k=>l.length-k.1) ⟨0,by simp⟩ ⟨[],[],by ((simp only[go_sem])<;>(try (simp -dsimp only[go_sem,yaj,yai])))<;>simp⟩ (fun ⟨k,hk,E⟩=>?_)
 by_cases J:k<l.length
 ·obtain ⟨p,hp⟩:∃p,l[k]?=some p:=⟨_,List.getElem?_eq_getElem J⟩;have G:=zBz hp;have V:((k:Int)<(l.length:Int))=True:=by simp;omega
  have h0:0≤(k:Int):=by simp
  have F:=zJw (f:=(eqPt · (u,v))) hp;have Z:=zDh hl J;obtain ⟨a,b⟩:=p
  cases U:eqPt (a,b) (u,v) with
  | true=>
   simp only[U,yav] at F;rw[F] at E;clear F;try simp -dsimp only[go_sem,f244,V,h0,Int.toNat_natCast,G,zVt,U,E]
  | false=>
   simp only[U,yau,yat] at F;rw[F] at E;clear F;(try simp -dsimp only[go_sem,V,h0,Int.toNat_natCast,G,zVt,U,Z]);exact⟨⟨k+1,by omega,E⟩,by simp only[];omega,[],[],by (simp only[go_sem])<;>simp⟩
 ·have V:((k:Int)<(l.length:Int))=False:=by simp;omega
  have a6:k=l.length:=by omega
  subst a6;rw[List.drop_length] at E;try simp -dsimp only[go_sem,f244,V,E,idxF]
end Go.SX
