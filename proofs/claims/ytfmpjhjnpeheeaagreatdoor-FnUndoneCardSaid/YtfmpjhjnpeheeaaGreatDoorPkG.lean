/-
  FnMuted: what the outputs of a rack are under one fault.
  FnBuilt: when an order of the modules exists: plain words.
  MakeModule; PowersOf; ResetModule; ResetRack.
  SX, part AC: what is handed back becomes data: from a contract whose results are arrays of the call's own to one whose results are data. Plain definitions and theorems over any program.
  slices.Grow at nil and slices.Concat, at modules and at cables.
  rackOf; AddCable; AddModule.
  FnOrder: laws.place, laws.ints, slices.Equal at ints, OrderOf, FeedsOf.
  FnOrder: JacksOf.
  FnOrder: ReachOf: plain words.
  FnOrder: ReachOf: the walk.
  strings.Join: what the library's contract asks of this program (printed by wip/tools/laytext.py off the kit's own laying), and its contract.
  Racks and samples are the same as themselves: l5Same, l5SamePoint, l5SameList, MakeSame, SameModules, SameRacks.
  A rack is the same as itself: SameRacks.
  SX, part AD: append(s, make(.., n)...): n zero rows behind an own array. Plain definitions and theorems over any program.
  slices.Sort at ints: what the library's contract asks of this program (printed by wip/tools/laysort.py off the kit's own laying).
  slices.Sort at ints: the shelf's contract, and what the engine asks.
  No condition.
-/
import Derived.Below
import Derived.WalkKit
import Derived.Lib.Walk
import Derived.Lib.SliceRun
import Derived.Lib.AppendZerosOnto
import Derived.Test.YtfmpjhjnpeheeaaGreatDoorProg
import Derived.Shelf.Strings.OnBuilder
import Derived.Shelf.Sort.Plain
import Derived.Shelf.Slices.In.SortNone
import Derived.Test.YtfmpjhjnpeheeaaGreatDoorPkF
set_option maxRecDepth 100000
set_option maxHeartbeats 16000000
set_option linter.unusedVariables false
set_option linter.unusedSimpArgs false
namespace Go.SX
open Go Go.Proofs Tryz
theorem pigeon:∀(N:Nat) (L:List Int),L.Nodup→(∀i∈L,0≤i∧i<(N:Int))→L.length≤N
 | 0,L,_,h=>by
  cases L with
  | nil=>simp
  | cons a L=>have:=h a (by simp);omega
 | N+1,L,hn,h=>by
  by_cases E:(N:Int)∈L
  ·have h1:=pigeon N (L.erase (N:Int)) (hn.erase _) (fun i hi=>by
    have h2:=h i (List.mem_of_mem_erase hi)
    have h3:i≠(N:Int):=fun e=>by subst e;exact hn.not_mem_erase hi
    omega)
   rw[List.length_erase_of_mem E] at h1;omega
  ·have:=pigeon N L hn (fun i hi=>by
    have h2:=h i hi
    have h3:i≠(N:Int):=fun e=>by subst e;exact E hi
    omega)
   omega
def KEq (a b:List Mod):Prop:=a.length=b.length∧∀i:Int,kindOf a i=kindOf b i
theorem zMb1 {a b:List Mod}(h:KEq a b){cs:List Cbl}{out:List Int}{i:Int}:readyF a cs out i=readyF b cs out i:=by
 have:blocks a out i=blocks b out i:=by
  funext c;simp only[blocks,h.2]
 simp only[readyF,anyF,this]
theorem zOf {a b:List Mod}(h:KEq a b){cs:List Cbl}{out:List Int}:∀f i,readyIdx a cs out f i=readyIdx b cs out f i
 | 0,i=>rfl
 | f+1,i=>by simp only[readyIdx,zMb1 h,zOf h f]
theorem zQh {a b:List Mod}(h:KEq a b){cs:List Cbl}:∀f out,orderGo a cs f out=orderGo b cs f out
 | 0,out=>rfl
 | f+1,out=>by simp only[orderGo,zOf h,h.1,zQh h f]
theorem zMf1 {a b:List Mod}(h:KEq a b){cs:List Cbl}:orderF a cs=orderF b cs:=by simp only[orderF,h.1,zQh h]
theorem zSt1 {ms:List Mod}{i:Nat}{o:Or}{z:Pt}(k:Int):kindOf (ms.set i (stepF o (ms.getD i dMod) z).1) k=kindOf ms k:=by
 unfold kindOf;by_cases e:i=k.toNat
 ·by_cases hl:i<ms.length
  ·subst e;rw[List.getElem?_set_self hl,List.getElem?_eq_getElem hl];simp only[zRn,List.getD_eq_getElem?_getD,List.getElem?_eq_getElem hl,yaU]
  ·rw[List.getElem?_eq_none (by simp;omega),List.getElem?_eq_none (by omega)]
 ·rw[List.getElem?_set_ne e]
theorem GoodRk.ord {ms:List Mod}{cs:List Cbl}(h:GoodRk ms cs):(orderF ms cs).isSome=true:=by
 have:=h.rk;simp only[isRackF,yay] at this;exact this.2.2.2.2
theorem zFi {ms:List Mod}{cs:List Cbl}:isRackF ms cs=true↔ms.length≤16∧cs.length≤40∧(∀m∈ms,isModuleF m=true)∧(∀c∈cs,0≤c.1∧c.1<ms.length∧0≤c.2∧c.2<ms.length)∧(orderF ms cs).isSome=true:=by simp only[isRackF,yay,yaG,List.all_eq_true,cabF]
def resetM (m:Mod):Mod:=
 if m.kind=2 then {m with state:=(1065353216,0)}
 else if m.kind=4 then {m with store:=List.replicate m.store.length (0,0)}
 else if m.kind=6 then {m with count:=0}
 else if m.kind=7 then {m with level:=0}
 else if m.kind=8 then {m with state:=(0,0),left:=0}
 else m
theorem zLo (l:List Cbl):MvR false (.arr 2 (tI (rowsC l)))=True:=eq_true (zBv _ _)
noncomputable def zPh:Ct:=fam true (fun k:Int=>([.c (.im (.int .i64 k))],[])) (fun k=>.one {val:=.tup [.c (.im (.bool (hasF [2,4,6,7,8] k))),.c (.im (.bool (hasF [1,2,3] k))),.c (.im (.bool (hasF [1,2,6,7,8] k)))]})
theorem zAu (k:Int):zPh.run [.c (.im (.int .i64 k))] []=some (.one {val:=.tup [.c (.im (.bool (hasF [2,4,6,7,8] k))),.c (.im (.bool (hasF [1,2,3] k))),.c (.im (.bool (hasF [1,2,6,7,8] k)))]}):=zAc (ct:=zPh) rfl (fun a b h=>by simpa using h) k
theorem zGt:Law prog 13 zPh:=by
 refine zAf (zAa zEy zAd) hmixA func13 rfl rfl (fun k=>⟨okO ⟨.tup _ (fun d hd=>?_),by simp,by simp⟩,by simp[f13],?_⟩)
 ·simp only[yac,yad,or_false] at hd;rcases hd with rfl|rfl|rfl<;>exact .inl ⟨_,rfl,zBr rfl⟩
 simp only;have U:sm=16777216:=rfl;have G:zCh.run [.c (.im (.sl 1 [[.int .i64 2],[.int .i64 4],[.int .i64 6],[.int .i64 7],[.int .i64 8]])),.c (.im (.int .i64 k))] []=some (.one {val:=.c (.im (.bool (hasF [2,4,6,7,8] k)))}):=zCk (l:=[2,4,6,7,8]) (by simp only[yab,List.length_nil];omega) k;have F:zCh.run [.c (.im (.sl 1 [[.int .i64 1],[.int .i64 2],[.int .i64 3]])),.c (.im (.int .i64 k))] []=some (.one {val:=.c (.im (.bool (hasF [1,2,3] k)))}):=zCk (l:=[1,2,3]) (by simp only[yab,List.length_nil];omega) k;have E:zCh.run [.c (.im (.sl 1 [[.int .i64 1],[.int .i64 2],[.int .i64 6],[.int .i64 7],[.int .i64 8]])),.c (.im (.int .i64 k))] []=some (.one {val:=.c (.im (.bool (hasF [1,2,6,7,8] k)))}):=zCk (l:=[1,2,6,7,8]) (by simp only[yab,List.length_nil];omega) k;obtain ⟨x,hx⟩:∃x,hasF [2,4,6,7,8] k=x:=⟨_,rfl⟩;obtain ⟨y,J⟩:∃y,hasF [1,2,3] k=y:=⟨_,rfl⟩;obtain ⟨z,hz⟩:∃z,hasF [1,2,6,7,8] k=z:=⟨_,rfl⟩;rw[hx] at G ⊢;rw[J] at F ⊢;rw[hz] at E ⊢;try simp -dsimp only[go_sem,f13,G,F,E,zCt,List.take_succ_cons,yan]
def canR (m:Mod):Bool:=hasF [2,4,6,7,8] m.kind
def rRs (m:Mod):Res:=if canR m=true then {val:=.tup [(rMod (resetM m)).val,.c (.im (.bool true))],roots:=(rMod (resetM m)).roots}
 else {val:=.tup [.agg [.im (.int .i64 0),.im (.cpx .f32 0 0),.im (.cpx .f32 0 0),.im (.flt .f32 0),.nil,.im (.int .i64 0),.im (.int .i64 0),.nil,.nil,.im (.int .i64 0),.im (.int .i64 0)],.c (.im (.bool false))]}
theorem zKl2 {sc:Bool}{m:Mod}:OkR sc (rRs m):=by
 unfold rRs;split
 ·obtain ⟨h1,h2,h3⟩:=zMi1 (sc:=sc) (m:=resetM m);refine⟨.tup _ (fun d hd=>?_),h2,by simp⟩;simp only[yac,yad,or_false] at hd;rcases hd with rfl|rfl
  ·cases h1 with
   | agg xs hx=>exact .inr ⟨_,rfl,hx⟩
  ·exact .inl ⟨_,rfl,zBr rfl⟩
 ·refine⟨.tup _ (fun d hd=>?_),by simp,by simp⟩;simp only[yac,yad,or_false] at hd;rcases hd with rfl|rfl
  ·refine .inr ⟨_,rfl,fun x hx=>?_⟩;simp only[yac,yad,or_false] at hx;rcases hx with rfl|rfl|rfl|rfl|rfl|rfl|rfl|rfl|rfl|rfl|rfl<;>first|exact zBr rfl|exact .nil
  ·exact .inl ⟨_,rfl,zBr rfl⟩
structure AMv where
 m:Mod
 ok:OkM m
 md:isModuleF m=true
noncomputable def zJj:Ct:=fam true (fun x:AMv=>([.agg (modC x.m)],[])) (fun x=>.one (rRs x.m))
theorem zWh {m:Mod}(h1:OkM m)(h2:isModuleF m=true):zJj.run [.agg (modC m)] []=some (.one (rRs m)):=by
 refine zAc (ct:=zJj) rfl ?_ ⟨m,h1,h2⟩;rintro ⟨a,_,_⟩ ⟨b,_,_⟩ h;simp only[Prod.mk.injEq,List.cons.injEq,D.agg.injEq,and_true] at h;have:=zDj h;subst this;rfl
theorem zKb2 (n:Nat):List.replicate n [T.im (.cpx .f32 0 0)]=tI (rowsZ (List.replicate n (0,0))):=by simp[tI,rowsZ]
theorem zEt1 {m:Mod}(h:isModuleF m=true):m.kind=1∨m.kind=2∨m.kind=3∨m.kind=4∨m.kind=5∨m.kind=6∨m.kind=7∨m.kind=8:=by
 unfold isModuleF at h;by_cases h1:m.kind=1
 ·simp[h1]
 by_cases h2:m.kind=2
 ·simp[h2]
 by_cases h3:m.kind=3
 ·simp[h3]
 by_cases h4:m.kind=4
 ·simp[h4]
 by_cases J:m.kind=5
 ·simp[J]
 by_cases G:m.kind=6
 ·simp[G]
 by_cases F:m.kind=7
 ·simp[F]
 by_cases E:m.kind=8
 ·simp[E]
 simp[h1,h2,h3,h4,J,G,F,E] at h
theorem zYe:Law prog 14 zJj:=by
 refine zAw (zAa zGt (zAa zFh (zAa zJe zAd))) hmixA func14 rfl rfl (fun ⟨⟨k,⟨t1,t2⟩,⟨s1,s2⟩,lv,st,ra,rc,pts,lab,c,l⟩,⟨Z,V,U⟩,G⟩=>⟨okO zKl2,by simp[f14,modC],?_⟩);simp only at Z V U;simp only[modC];have a7:sm=16777216:=rfl;have hk:=zEt1 G;simp only at hk;have J:=fun k=>zBk (k:=k) (t1:=t1) (t2:=t2) (s1:=s1) (s2:=s2) (lv:=lv) (ra:=ra) (rc:=rc) (c:=c) (l:=l) Z V U;have F:=fun k=>zGo (k:=k) (t1:=t1) (t2:=t2) (s1:=s1) (s2:=s2) (lv:=lv) (ra:=ra) (rc:=rc) (c:=c) (l:=l) Z V U;rcases hk with rfl|rfl|rfl|rfl|rfl|rfl|rfl|rfl
 ·have E:hasF [2,4,6,7,8] 1=false:=by decide
  have hr:rRs ⟨1,(t1,t2),(s1,s2),lv,st,ra,rc,pts,lab,c,l⟩={val:=.tup [.agg [.im (.int .i64 0),.im (.cpx .f32 0 0),.im (.cpx .f32 0 0),.im (.flt .f32 0),.nil,.im (.int .i64 0),.im (.int .i64 0),.nil,.nil,.im (.int .i64 0),.im (.int .i64 0)],.c (.im (.bool false))]}:=by simp[rRs,canR,E]
  try simp -dsimp only[go_sem,f14,zAu,E,yaI]
  refine zAh [] ?_;simp -dsimp only[go_sem,hr]
 ·have E:hasF [2,4,6,7,8] 2=true:=by decide
  have hr:rRs ⟨2,(t1,t2),(s1,s2),lv,st,ra,rc,pts,lab,c,l⟩={val:=.tup [.agg [.im (.int .i64 2),.im (.cpx .f32 t1 t2),.im (.cpx .f32 1065353216 0),.im (.flt .f32 lv),.view 0 1 0 st.length,.im (.int .i64 ra),.im (.int .i64 rc),.view 1 1 0 pts.length,.view 2 1 0 lab.length,.im (.int .i64 c),.im (.int .i64 l)],.c (.im (.bool true))],roots:=[.arr 1 (tI (rowsZ st)),.arr 1 (tI (rowsZ pts)),.arr 1 (tI (rowsN lab))]}:=by simp[rRs,canR,E,resetM,rMod]
  try simp -dsimp only[go_sem,f14,zAu,E,J,G,F,rMod,yaH]
  refine zAh [] ?_;simp -dsimp only[go_sem,hr];refine⟨[2,3,4],?_,?_,?_,rfl,?_⟩<;>simp[rtOk]
 ·have E:hasF [2,4,6,7,8] 3=false:=by decide
  have hr:rRs ⟨3,(t1,t2),(s1,s2),lv,st,ra,rc,pts,lab,c,l⟩={val:=.tup [.agg [.im (.int .i64 0),.im (.cpx .f32 0 0),.im (.cpx .f32 0 0),.im (.flt .f32 0),.nil,.im (.int .i64 0),.im (.int .i64 0),.nil,.nil,.im (.int .i64 0),.im (.int .i64 0)],.c (.im (.bool false))]}:=by simp[rRs,canR,E]
  try simp -dsimp only[go_sem,f14,zAu,E,yaI]
  refine zAh [] ?_;simp -dsimp only[go_sem,hr]
 ·have E:hasF [2,4,6,7,8] 4=true:=by decide
  have hr:rRs ⟨4,(t1,t2),(s1,s2),lv,st,ra,rc,pts,lab,c,l⟩={val:=.tup [.agg [.im (.int .i64 4),.im (.cpx .f32 t1 t2),.im (.cpx .f32 s1 s2),.im (.flt .f32 lv),.view 0 1 0 st.length,.im (.int .i64 ra),.im (.int .i64 rc),.view 1 1 0 pts.length,.view 2 1 0 lab.length,.im (.int .i64 c),.im (.int .i64 l)],.c (.im (.bool true))],roots:=[.arr 1 (tI (rowsZ (List.replicate st.length (0,0)))),.arr 1 (tI (rowsZ pts)),.arr 1 (tI (rowsN lab))]}:=by simp[rRs,canR,E,resetM,rMod]
  try simp -dsimp only[go_sem,f14,zAu,E,J,G,F,rMod,zKb2,zAg,zAb,Int.reduceEq,yaH]
  refine zAh [] ?_;simp -dsimp only[go_sem,hr];refine⟨[2,3,4],?_,?_,?_,rfl,?_⟩<;>simp[rtOk]
 ·have E:hasF [2,4,6,7,8] 5=false:=by decide
  have hr:rRs ⟨5,(t1,t2),(s1,s2),lv,st,ra,rc,pts,lab,c,l⟩={val:=.tup [.agg [.im (.int .i64 0),.im (.cpx .f32 0 0),.im (.cpx .f32 0 0),.im (.flt .f32 0),.nil,.im (.int .i64 0),.im (.int .i64 0),.nil,.nil,.im (.int .i64 0),.im (.int .i64 0)],.c (.im (.bool false))]}:=by simp[rRs,canR,E]
  try simp -dsimp only[go_sem,f14,zAu,E,yaI]
  refine zAh [] ?_;simp -dsimp only[go_sem,hr]
 ·have E:hasF [2,4,6,7,8] 6=true:=by decide
  have hr:rRs ⟨6,(t1,t2),(s1,s2),lv,st,ra,rc,pts,lab,c,l⟩={val:=.tup [.agg [.im (.int .i64 6),.im (.cpx .f32 t1 t2),.im (.cpx .f32 s1 s2),.im (.flt .f32 lv),.view 0 1 0 st.length,.im (.int .i64 ra),.im (.int .i64 rc),.view 1 1 0 pts.length,.view 2 1 0 lab.length,.im (.int .i64 0),.im (.int .i64 l)],.c (.im (.bool true))],roots:=[.arr 1 (tI (rowsZ st)),.arr 1 (tI (rowsZ pts)),.arr 1 (tI (rowsN lab))]}:=by simp[rRs,canR,E,resetM,rMod]
  try simp -dsimp only[go_sem,f14,zAu,E,J,G,F,rMod,Int.reduceEq,yaH]
  refine zAh [] ?_;simp -dsimp only[go_sem,hr];refine⟨[2,3,4],?_,?_,?_,rfl,?_⟩<;>simp[rtOk]
 ·have E:hasF [2,4,6,7,8] 7=true:=by decide
  have hr:rRs ⟨7,(t1,t2),(s1,s2),lv,st,ra,rc,pts,lab,c,l⟩={val:=.tup [.agg [.im (.int .i64 7),.im (.cpx .f32 t1 t2),.im (.cpx .f32 s1 s2),.im (.flt .f32 0),.view 0 1 0 st.length,.im (.int .i64 ra),.im (.int .i64 rc),.view 1 1 0 pts.length,.view 2 1 0 lab.length,.im (.int .i64 c),.im (.int .i64 l)],.c (.im (.bool true))],roots:=[.arr 1 (tI (rowsZ st)),.arr 1 (tI (rowsZ pts)),.arr 1 (tI (rowsN lab))]}:=by simp[rRs,canR,E,resetM,rMod]
  try simp -dsimp only[go_sem,f14,zAu,E,J,G,F,rMod,Int.reduceEq,yaH]
  refine zAh [] ?_;simp -dsimp only[go_sem,hr];refine⟨[2,3,4],?_,?_,?_,rfl,?_⟩<;>simp[rtOk]
 ·have E:hasF [2,4,6,7,8] 8=true:=by decide
  have hr:rRs ⟨8,(t1,t2),(s1,s2),lv,st,ra,rc,pts,lab,c,l⟩={val:=.tup [.agg [.im (.int .i64 8),.im (.cpx .f32 t1 t2),.im (.cpx .f32 0 0),.im (.flt .f32 lv),.view 0 1 0 st.length,.im (.int .i64 ra),.im (.int .i64 rc),.view 1 1 0 pts.length,.view 2 1 0 lab.length,.im (.int .i64 c),.im (.int .i64 0)],.c (.im (.bool true))],roots:=[.arr 1 (tI (rowsZ st)),.arr 1 (tI (rowsZ pts)),.arr 1 (tI (rowsN lab))]}:=by simp[rRs,canR,E,resetM,rMod]
  try simp -dsimp only[go_sem,f14,zAu,E,J,G,F,rMod,Int.reduceEq,yaH]
  refine zAh [] ?_;simp -dsimp only[go_sem,hr];refine⟨[2,3,4],?_,?_,?_,rfl,?_⟩<;>simp[rtOk]
end Go.SX
namespace Go.SX
open Go Go.RowKit
variable {P : Program} {en : En} {g : Gh} {S : Nat → Option D} {H : Nat → Option Root} {a : Act} {w : World}
inductive FzT:T→I→Prop where
 | im (i:I):FzT (.im i) i
 | nil (sz:Nat):FzT .nil (.sl sz [])
 | own (sz:Nat) (rows:List (List T)) (is:List (List I)) (hl:is.length=rows.length) (hz:∀(i:Nat) (r:List I) (r0:List T),is[i]?=some r→rows[i]?=some r0→r0.length=r.length)
  (h:∀(i j:Nat) (r:List I) (r0:List T) (x:I) (t:T),is[i]?=some r→rows[i]?=some r0→r[j]?=some x→r0[j]?=some t→FzT t x):FzT (.own sz rows) (.sl sz is)
def FzR (rows:List (List T))(is:List (List I)):Prop:=is.length=rows.length∧(∀(i:Nat) (r:List I) (r0:List T),is[i]?=some r→rows[i]?=some r0→r0.length=r.length)∧
 ∀(i j:Nat) (r:List I) (r0:List T) (x:I) (t:T),is[i]?=some r→rows[i]?=some r0→r[j]?=some x→r0[j]?=some t→FzT t x
inductive FzC (rs:List Root):C→C→Prop where
 | im (i:I):FzC rs (.im i) (.im i)
 | nil (sz:Nat):FzC rs .nil (.im (.sl sz []))
 | view (k sz:Nat) (rows:List (List T)) (is:List (List I)) (h:rs[k]?=some (.arr sz rows)) (hr:FzR rows is):FzC rs (.view k sz 0 rows.length) (.im (.sl sz is))
inductive FzD (rs:List Root):D→D→Prop where
 | c (x y:C) (h:FzC rs x y):FzD rs (.c x) (.c y)
 | agg (xs ys:List C) (hl:ys.length=xs.length) (h:∀(j:Nat) (x y:C),xs[j]?=some x→ys[j]?=some y→FzC rs x y):FzD rs (.agg xs) (.agg ys)
 | tup (ds es:List D) (hl:es.length=ds.length) (h:∀(j:Nat) (d e:D),ds[j]?=some d→es[j]?=some e→FzD rs d e):FzD rs (.tup ds) (.tup es)
def Gh.frzN (g:Gh)(w:World)(ns:List Nat):Gh:=
 {used:=g.used,rb:=g.rb,base:=g.base,rc:=g.rc,
  own:=fun b=>match g.own b with
   | some (m,q)=>if m∈ns then none else some (m,q)
   | none=>none,
  fz:=fun b o=>match g.fz b o with
   | some v=>some v
   | none=>match g.own b with
    | some (m,_)=>if m∈ns then w.cell? ⟨b,o,none⟩ else none
    | none=>none}
theorem Gh.frzN_le (g:Gh)(w:World)(ns:List Nat):g.le (g.frzN w ns):=
 ⟨fun _ h=>h,fun _ _=>rfl,fun _ _=>rfl,fun _ _=>rfl,fun b o v hv=>by simp[Gh.frzN,hv]⟩
theorem Gh.frzN_none {g:Gh}{ns:List Nat}{b:Nat}(h:g.own b=none):(g.frzN w ns).own b=none:=by simp[Gh.frzN,h]
theorem Gh.frzN_in {g:Gh}{ns:List Nat}{b m:Nat}{q:Pth}(h:g.own b=some (m,q))(hm:m∈ns):(g.frzN w ns).own b=none:=by simp[Gh.frzN,h,hm]
theorem Gh.frzN_out {g:Gh}{ns:List Nat}{b m:Nat}{q:Pth}(h:g.own b=some (m,q))(hm:m ∉ ns):(g.frzN w ns).own b=some (m,q):=by simp[Gh.frzN,h,hm]
theorem Gh.frzN_fz {ns:List Nat}{b m o:Nat}{q:Pth}(hR:Rel en g S H a w)(h:g.own b=some (m,q))(hm:m∈ns):(g.frzN w ns).fz b o=w.cell? ⟨b,o,none⟩:=by
 cases hz:g.fz b o with
 | some v=>have:=(hR.fz _ _ _ hz).2;rw[h] at this;cases this
 | none=>simp[Gh.frzN,h,hm,hz]
theorem Rel.frzN (h:Rel en g S H a w){ns:List Nat}(hu:∀m∈ns,¬en.g0.used m):Rel en (g.frzN w ns) S (fun m=>if m∈ns then none else H m) a w:=by
 have G:=g.frzN_le w ns;refine⟨⟨h.fr.laid,h.fr.os,h.fr.tape,h.fr.output,h.fr.size,h.fr.gle.trans G,fun b hb ho=>?_,fun b k hb=>?_,fun b o v hb E=>?_⟩,h.df,fun b x hx=>?_,fun b o v E=>?_,fun t d ht=>?_,fun k V J=>?_,fun k V b J hb=>?_⟩
 ·obtain ⟨h1,h2⟩:=h.fr.old b hb ho;exact⟨Gh.frzN_none h1,h2⟩
 ·obtain ⟨k0,k1,c1,c2,e1,k2,k3,k4⟩:=h.fr.place b k hb;exact⟨k0,Gh.frzN_out k1 (fun F=>hu k F k0),c1,c2,e1,k2,k3,k4⟩
 ·cases hz:g.fz b o with
  | some v'=>
   have:v'=v:=(by simpa[Gh.frzN,hz] using E);subst this;exact h.fr.fzn b o _ hb hz
  | none=>
   cases ho:en.g0.own b with
   | some x=>exact .inr (by simp)
   | none=>
    have:=(h.fr.old b hb ho).1;simp[Gh.frzN,hz,this] at E
 ·cases ho:g.own b with
  | none=>rw[Gh.frzN_none ho] at hx;cases hx
  | some y=>exact h.lt b y ho
 ·cases hz:g.fz b o with
  | some v'=>
   have:v'=v:=(by simpa[Gh.frzN,hz] using E);subst this;obtain ⟨h1,h2⟩:=h.fz b o _ hz;exact⟨h1,Gh.frzN_none h2⟩
  | none=>
   cases ho:g.own b with
   | none=>simp[Gh.frzN,hz,ho] at E
   | some y=>
    obtain ⟨m,q⟩:=y;by_cases F:m∈ns
    ·rw[Gh.frzN_fz h ho F] at E;exact⟨E,Gh.frzN_in ho F⟩
    ·simp[Gh.frzN,hz,ho,F] at E
 ·obtain ⟨v,E,hd⟩:=h.slots t d ht;exact⟨v,E,hd.mono G⟩
 ·split at J
  ·cases J
  ·rename_i F;obtain ⟨U,Z⟩:=h.roots k V J;exact⟨U,Z.keep U G (fun b p hb=>⟨Gh.frzN_out hb F,rfl⟩)⟩
 ·split at J
  ·cases J
  ·exact h.wd k V b J hb
theorem FzT.sound (hR:Rel en g S H a w){ns:List Nat}{n:Nat}(hn:n∈ns){t:T}{i:I}(hf:FzT t i):∀{q:Pth} {v:Value},TR w g n q t v→IR (g.frzN w ns).fz i v:=by
 induction hf with
 | im i=>intro q v h;cases h with|im _ _ _ h=>exact h.mono (g.frzN_le w ns).fz
 | nil sz=>intro q v h;cases h with|nil=>exact .sl0 sz none 0
 | own sz rows is hl hz _ ih=>
  intro q v h;generalize F:rows.length=L at h
  cases h with
  | own0=>
   have:is=[]:=List.eq_nil_of_length_eq_zero (by rw[hl];rfl);subst this;exact .sl0 _ _ _
  | own _ _ _ b cap cs e vs hh ho hl2 hc hz2 hx hr=>
   have E:∀(i:Nat) (r:List I) (j:Nat) (x:I),is[i]?=some r→r[j]?=some x→(g.frzN w ns).fz b (0+i*sz+j)=some (vs i j)∧IR (g.frzN w ns).fz x (vs i j):=fun i r j x h1 h2=>by
    have hi:i<rows.length:=(by rw[←hl];exact (List.getElem?_eq_some_iff.1 h1).1);have h3:rows[i]?=some rows[i]:=List.getElem?_eq_getElem hi;have hj:j<(rows[i]).length:=(by rw[hz i r _ h1 h3];exact (List.getElem?_eq_some_iff.1 h2).1);have h4:(rows[i])[j]?=some (rows[i])[j]:=List.getElem?_eq_getElem hj;refine⟨?_,ih i j r _ x _ h1 h3 h2 h4 (hr i _ j _ h3 h4)⟩;rw[Gh.frzN_fz hR ho hn,Nat.zero_add];have:=hx i _ j _ h3 h4;simp[World.cell?,hh,this]
   have:=IR.sl (fz:=(g.frzN w ns).fz) sz is b 0 cap vs (by rw[hl];exact hl2) (fun i r h1=>by
    have hi:i<rows.length:=by rw[←hl];exact (List.getElem?_eq_some_iff.1 h1).1
    have h3:rows[i]?=some rows[i]:=List.getElem?_eq_getElem hi
    rw[←hz i r _ h1 h3];exact hz2 i _ h3) (fun i r j x h1 h2=>(E i r j x h1 h2).1) (fun i r j x h1 h2=>(E i r j x h1 h2).2)
   rw[hl] at this;exact this
theorem FzR.sound (hR:Rel en g S H a w){ns:List Nat}{n sz:Nat}(hn:n∈ns){rows:List (List T)}{is:List (List I)}(hH:H n=some (.arr sz rows))(hf:FzR rows is){v:Value}(hv:CV g (.view n sz 0 rows.length) v):IR (g.frzN w ns).fz (.sl sz is) v:=by
 obtain ⟨hl,hz,hf⟩:=hf;obtain ⟨hu,U⟩:=hR.roots n _ hH;generalize V:rows.length=L at hv
 cases hv with
 | view0 _ _ _ a'=>
  have:is=[]:=List.eq_nil_of_length_eq_zero (by rw[hl];exact V);subst this;exact .sl0 _ _ _
 | view _ _ _ _ cap _ hb hl2 hc=>
  subst V
  cases U with
  | arr0=>
   have:is=[]:=List.eq_nil_of_length_eq_zero (by rw[hl];rfl);subst this;exact .sl0 _ _ _
  | mk _ cs e hh ho hfm hr=>
   obtain ⟨f1,f2,f3,Z⟩:=hfm
   have G:∀(i:Nat) (r:List I) (j:Nat) (x:I),is[i]?=some r→r[j]?=some x→∃v,(g.frzN w ns).fz (g.rb n) (0*sz+i*sz+j)=some v∧IR (g.frzN w ns).fz x v:=fun i r j x h1 h2=>by
    have hi:i<rows.length:=(by rw[←hl];exact (List.getElem?_eq_some_iff.1 h1).1);have h3:rows[i]?=some rows[i]:=List.getElem?_eq_getElem hi;have hj:j<(rows[i]).length:=(by rw[hz i r _ h1 h3];exact (List.getElem?_eq_some_iff.1 h2).1);have h4:(rows[i])[j]?=some (rows[i])[j]:=List.getElem?_eq_getElem hj;obtain ⟨v,E,J⟩:=hr i j (.t (rows[i])[j]) (by simp[Root.get,h3,h4]);refine⟨v,?_,?_⟩
    ·rw[Gh.frzN_fz hR ho hn];simp only[Root.sz] at E;rw[f1] at E;rw[Nat.zero_mul,Nat.zero_add];rw[Nat.zero_add] at E;simp[World.cell?,hh,E]
    ·cases J with
     | t _ _ ht=>exact (hf i j r _ x _ h1 h3 h2 h4).sound hR hn ht
   obtain ⟨vs,F⟩:=zHx G
   have:=IR.sl (fz:=(g.frzN w ns).fz) sz is (g.rb n) (0*sz) cap vs (by rw[hl];exact hl2) (fun i r h1=>by
    have hi:i<rows.length:=by rw[←hl];exact (List.getElem?_eq_some_iff.1 h1).1
    have h3:rows[i]?=some rows[i]:=List.getElem?_eq_getElem hi
    rw[←hz i r _ h1 h3];exact Z i _ h3) (fun i r j x h1 h2=>(F i r j x h1 h2).1) (fun i r j x h1 h2=>(F i r j x h1 h2).2)
   rw[hl] at this;exact this
theorem FzC.sound (hR:Rel en g S H a w){rs:List Root}{ns:List Nat}(hl:ns.length=rs.length)(hH:∀(k:Nat) (r:Root) (m:Nat),rs[k]?=some r→ns[k]?=some m→H m=some r){x y z:C}(hf:FzC rs x z)(hr:reC (fun n=>ns.getD n 0) x=some y){v:Value}(hv:CV g y v):CV (g.frzN w ns) z v:=by
 cases hf with
 | im i=>
  simp only[reC,yaC] at hr;subst hr;exact hv.mono (g.frzN_le w ns)
 | nil sz=>
  simp only[reC,yaC] at hr;subst hr
  cases hv with|nil=>exact .im _ _ (.sl0 sz none 0)
 | view k sz rows is h hfr=>
  simp only[reC,yaC] at hr;subst hr;have F:k<ns.length:=by rw[hl];exact (List.getElem?_eq_some_iff.1 h).1
  have E:ns[k]?=some ns[k]:=List.getElem?_eq_getElem F;have G:ns.getD k 0=ns[k]:=by simp[List.getD_eq_getElem?_getD,E]
  rw[G] at hv;exact .im _ _ (FzR.sound hR (List.getElem_mem F) (hH k _ _ h E) hfr hv)
theorem FzC.reC {rs:List Root}{x z:C}(hf:FzC rs x z)(ρ:Nat→Nat):reC ρ z=some z:=by cases hf<;>rfl
theorem zXm {α:Type}{f:α→Option α}:∀{l:List α},(∀x∈l,f x=some x)→mapO f l=some l
 | [],_=>rfl
 | x::l,h=>by simp only[mapO,h x (by simp),zXm (l:=l) (fun y hy=>h y (by simp[hy]))]
theorem zFm2 {rs:List Root}{xs ys:List C}(hl:ys.length=xs.length)(h:∀(j:Nat) (x y:C),xs[j]?=some x→ys[j]?=some y→FzC rs x y)(ρ:Nat→Nat):mapO (reC ρ) ys=some ys:=zXm fun y E=>by
 obtain ⟨j,hj,rfl⟩:=List.getElem_of_mem E;exact FzC.reC (h j _ _ (List.getElem?_eq_getElem (by omega)) (List.getElem?_eq_getElem hj)) ρ
theorem FzD.reD {rs:List Root}{d e d':D}(hf:FzD rs d e)(ρ:Nat→Nat){ρ0:Nat→Nat}(hd:reD ρ0 d=some d'):reD ρ e=some e:=by
 cases hf with
 | c x y h=>simp only[Go.SX.reD,h.reC]
 | agg xs ys hl h=>simp only[Go.SX.reD,zFm2 hl h]
 | tup ds es hl h=>
  simp only[Go.SX.reD];simp only[Go.SX.reD] at hd;split at hd
  ·rename_i ys U;rw[zXm];intro y G;obtain ⟨j,hj,rfl⟩:=List.getElem_of_mem G;have E:j<ds.length:=(by omega);have hf:=h j _ _ (List.getElem?_eq_getElem E) (List.getElem?_eq_getElem hj);have Z:=zBs U;have J:j<ys.length:=(by omega);obtain ⟨d0,F,V⟩:=zCa U j ys[j] (List.getElem?_eq_getElem J);rw[List.getElem?_eq_getElem E] at F;injection F with F;subst F;generalize ds[j]=dj at*;generalize es[j]=ej at*
   cases hf with
   | c x y h=>simp only[h.reC]
   | agg xs ys hl h=>simp only[zFm2 hl h]
   | tup _ _ _ _=>simp at V
  ·cases hd
theorem FzD.sound (hR:Rel en g S H a w){rs:List Root}{ns:List Nat}(hl:ns.length=rs.length)(hH:∀(k:Nat) (r:Root) (m:Nat),rs[k]?=some r→ns[k]?=some m→H m=some r){d e:D}(hf:FzD rs d e):
 ∀{d':D} {v:Value},Go.SX.reD (fun n=>ns.getD n 0) d=some d'→DV g d' v→DV (g.frzN w ns) e v:=by
 have a6:∀{xs ys:List C} (G:ys.length=xs.length) (h:∀(j:Nat) (x y:C),xs[j]?=some x→ys[j]?=some y→FzC rs x y) {zs:List C} {v:Value},mapO (Go.SX.reC fun n=>ns.getD n 0) xs=some zs→DV g (.agg zs) v→DV (g.frzN w ns) (.agg ys) v:=by
  intro xs ys G h zs v hm F
  cases F with
  | agg _ vs hs hr=>
   have Z:=zBs hm;refine .agg _ _ (by omega) (fun j x v hx F=>?_);have hj:j<ys.length:=(List.getElem?_eq_some_iff.1 hx).1;have hz:zs[j]?=some zs[j]:=List.getElem?_eq_getElem (by omega);obtain ⟨x0,U,J⟩:=zCa hm j _ hz;exact FzC.sound hR hl hH (h j x0 x U hx) J (hr j _ v hz F)
 induction hf with
 | c x y h=>
  intro d' v E F;simp only[Go.SX.reD] at E;split at E
  ·rename_i y' V;injection E with E;subst E
   cases F with|c _ _ hc=>exact .c _ _ (FzC.sound hR hl hH h V hc)
  ·cases E
 | agg xs ys G h=>
  intro d' v E F;simp only[Go.SX.reD] at E;split at E
  ·rename_i zs hz;injection E with E;subst E;exact a6 G h hz F
  ·cases E
 | tup ds es G h ih=>
  intro d' v E F;simp only[Go.SX.reD] at E;split at E
  ·rename_i ys hy;injection E with E;subst E
   cases F with
   | tup _ vs hs hr=>
    have Z:=zBs hy;refine .tup _ _ (by omega) (fun j e v he F=>?_);have hj:j<es.length:=(List.getElem?_eq_some_iff.1 he).1;have hz:ys[j]?=some ys[j]:=List.getElem?_eq_getElem (by omega);obtain ⟨d0,U,J⟩:=zCa hy j _ hz;refine ih j d0 e U he (d':=ys[j]) ?_ (hr j _ v hz F);generalize ys[j]=yj at*
    cases d0 with
    | c x=>simpa only[Go.SX.reD] using J
    | agg xs=>simpa only[Go.SX.reD] using J
    | tup _=>simp at J
  ·cases E
theorem zCv2 {f:FuncId}{ct ct':Ct}(h:Law P f ct)(hr:∀ds hs o',ct'.run ds hs=some o'→(∀res,o'.mem res→OkR ct'.sc res)∧∃o,ct.run ds hs=some o∧∀res,o.mem res→∃E,o'.mem E∧E.roots=[]∧res.places=[]∧E.places=[]∧FzD res.roots res.val E.val):Law P f ct':=by
 refine⟨⟨fun ds hs o ho=>(hr ds hs o ho).1,fun ds hs o' ho en args hl hu hR=>?_⟩,h.2⟩;obtain ⟨_,o,J,hm⟩:=hr ds hs o' ho;refine (h.1.at_ ds hs o J en args hl hu hR).mono fun e w' ⟨v,he,res,F,hd⟩=>⟨v,he,?_⟩;obtain ⟨E,k1,Z,k3,k4,V⟩:=hm res F;obtain ⟨g,ns,S,H,a,d,G,q1,q2,q3,q4,q5,U,q7⟩:=hd;refine⟨E,k1,g.frzN w' ns,[],S,_,a,E.val,G.frzN q3,.nil,by simp[Z],by simp,by simp[Z],by simp[k4],V.reD _ U,V.sound G q2 q4 U q7⟩
end Go.SX
namespace Go.Proofs
open Go.Lib Go.RowKit
theorem zUl (n:Nat)(h1:1≤n)(h2:n≤1000)(w:World)(i0:TypeInfo)(z:Value)(hi0:Tryz.prog.info? 31=some i0)(hz0:i0.zero=some z)(hs0:0<i0.size)(hbig:n*i0.bytes≤140737488355328):
 Calls Tryz.prog 264 #[.slice none 0 0,.int .i64 n] w fun e w'=>
  e=.returned (.slice (some ⟨w.heap.size,0,none⟩) 0 (grownCap w n 0 31))∧
  w'=w.drew.alloc (.cells (Builtin.zeroCells z.cells n++Builtin.zeroCells z.cells (grownCap w n 0 31-n)) 31):=by
 have hold:(Builtin.firstCells i0.size 0 (.slice none 0 0)).run Tryz.prog w.drew=.ok ([]:List Value).toArray w.drew:=run_firstCells_none w.drew i0.size 0 0 0
 have E:∀ty,(Builtin.append_ #[54,3] ty #[.slice none 0 0,.int .i64 (n:Int)]).run Tryz.prog w=
  .ok (.slice (some ⟨w.heap.size,0,none⟩) n (grownCap w n 0 31)) (w.drew.alloc (.cells (Builtin.zeroCells z.cells n++Builtin.zeroCells z.cells (grownCap w n 0 31-n)) 31)):=fun ty=>by
  have h:=Lib.run_append_grow_zeros w 54 3 ty 31 i0 z .i64 .i64 Tryz.underlying54 Tryz.underlying3 hi0 hz0 none 0 0 [] hold n (by omega) hs0 (by omega) (by omega) (by omega) (by
   rw[Nat.zero_add]
   exact growslice_fits (by omega) hbig)
  simpa using h
 have F:n≤grownCap w n 0 31:=grownCap_ge w _ _ _;obtain ⟨G,J⟩:∃G,G=grownCap w n 0 31:=⟨_,rfl⟩;rw[←J] at E F ⊢
 have U:G≤9223372036854775807:=by
  have:=grownCap_le_maxLen w n 0 31 (by unfold maxLen;omega);rw[←J] at this;unfold maxLen at this;omega
 have g1:¬((n:Int)<0):=by omega
 have g3:wrap64 ((n:Int)-0)=(n:Int):=by unfold wrap64;omega
 have g4:(n:Int)>0:=by omega
 clear hold J
 go_enter Tryz.func264,Tryz.ntmps264
 go_wp2_with (at_builtin;refine Lib.wpList_append_run _ rfl _ _ _ _ rfl _ _ rfl rfl _ _ (E _) ?_)
 all_goals (go_ret;exact⟨rfl,rfl⟩)
theorem zSp (w:World):Calls Tryz.prog 264 #[.slice none 0 0,.int .i64 0] w fun e w'=>e=.returned (.slice none 0 0)∧w'=w:=by
 go_enter Tryz.func264,Tryz.ntmps264
 go_wp2
 all_goals (go_ret;exact⟨rfl,rfl⟩)
theorem zYn (n:Nat)(h1:1≤n)(h2:n≤1000)(w:World)(i0:TypeInfo)(z:Value)(hi0:Tryz.prog.info? 113=some i0)(hz0:i0.zero=some z)(hs0:0<i0.size)(hbig:n*i0.bytes≤140737488355328):
 Calls Tryz.prog 267 #[.slice none 0 0,.int .i64 n] w fun e w'=>
  e=.returned (.slice (some ⟨w.heap.size,0,none⟩) 0 (grownCap w n 0 113))∧
  w'=w.drew.alloc (.cells (Builtin.zeroCells z.cells n++Builtin.zeroCells z.cells (grownCap w n 0 113-n)) 113):=by
 have hold:(Builtin.firstCells i0.size 0 (.slice none 0 0)).run Tryz.prog w.drew=.ok ([]:List Value).toArray w.drew:=run_firstCells_none w.drew i0.size 0 0 0
 have E:∀ty,(Builtin.append_ #[55,3] ty #[.slice none 0 0,.int .i64 (n:Int)]).run Tryz.prog w=
  .ok (.slice (some ⟨w.heap.size,0,none⟩) n (grownCap w n 0 113)) (w.drew.alloc (.cells (Builtin.zeroCells z.cells n++Builtin.zeroCells z.cells (grownCap w n 0 113-n)) 113)):=fun ty=>by
  have h:=Lib.run_append_grow_zeros w 55 3 ty 113 i0 z .i64 .i64 Tryz.underlying55 Tryz.underlying3 hi0 hz0 none 0 0 [] hold n (by omega) hs0 (by omega) (by omega) (by omega) (by
   rw[Nat.zero_add]
   exact growslice_fits (by omega) hbig)
  simpa using h
 have F:n≤grownCap w n 0 113:=grownCap_ge w _ _ _;obtain ⟨G,J⟩:∃G,G=grownCap w n 0 113:=⟨_,rfl⟩;rw[←J] at E F ⊢
 have U:G≤9223372036854775807:=by
  have:=grownCap_le_maxLen w n 0 113 (by unfold maxLen;omega);rw[←J] at this;unfold maxLen at this;omega
 have g1:¬((n:Int)<0):=by omega
 have g3:wrap64 ((n:Int)-0)=(n:Int):=by unfold wrap64;omega
 have g4:(n:Int)>0:=by omega
 clear hold J
 go_enter Tryz.func267,Tryz.ntmps267
 go_wp2_with (at_builtin;refine Lib.wpList_append_run _ rfl _ _ _ _ rfl _ _ rfl rfl _ _ (E _) ?_)
 all_goals (go_ret;exact⟨rfl,rfl⟩)
theorem zUm (w:World):Calls Tryz.prog 267 #[.slice none 0 0,.int .i64 0] w fun e w'=>e=.returned (.slice none 0 0)∧w'=w:=by
 go_enter Tryz.func267,Tryz.ntmps267
 go_wp2
 all_goals (go_ret;exact⟨rfl,rfl⟩)
end Go.Proofs
namespace Go.SX
open Go Go.Proofs Tryz
abbrev N1kModule:={n:Nat//n≤1000}
def rEmpModule:Res:={val:=.c (.view 0 11 0 0),roots:=[.arr 11 []]}
noncomputable def zFu:Ct:=fam true (fun x:N1kModule=>([.c .nil,.c (.im (.int .i64 (x.1:Int)))],[])) (fun _=>.one rEmpModule)
theorem zAo1 {n:Nat}(h2:n≤1000):zFu.run [.c .nil,.c (.im (.int .i64 (n:Int)))] []=some (.one rEmpModule):=zAc (ct:=zFu) rfl (by
 intro a b h
 simp only[Prod.mk.injEq,List.cons.injEq,D.c.injEq,C.im.injEq,I.int.injEq,Int.natCast_inj,true_and,and_true] at h
 (try simp only[yah])
 (try simp only[zAs,zAx] at h)
 simp_all) (⟨n,h2⟩:N1kModule)
theorem elTModule:ElT prog 54 31 11 136:=elT Ty.tel54 Ty.tsz31 Ty.tby31 Ty.tzr31 rfl
theorem zBb1:Law prog 264 zFu:=by
 refine⟨⟨fun ds hs o hr=>?_,fun ds hs o hr=>?_⟩,f264,func264,rfl,rfl⟩
 ·simp only[zFu,fam] at hr;split at hr
  ·injection hr with hr;subst hr;refine okO ⟨.c _ (.view _ _ _ _ (by simp[rEmpModule])),fun r hr=>?_,by simp[rEmpModule]⟩;simp[rEmpModule] at hr;subst hr;exact fun r hr=>by simp at hr
  ·cases hr
 ·simp only[zFu,fam] at hr;split at hr
  ·rename_i b1;injection hr with hr;subst hr;obtain ⟨⟨n,h2⟩,hd⟩:=b1;simp only[Prod.mk.injEq] at hd;obtain ⟨rfl,rfl⟩:=hd;intro en args b5 hu hR;obtain ⟨v0,Z,d0⟩:=hR.slots 0 _ rfl;obtain ⟨v1,V,d1⟩:=hR.slots 1 _ rfl;have e0:v0=.slice none 0 0:=(by cases d0 with|c _ _ h=>cases h;rfl);have e1:v1=.int .i64 (n:Int):=(by cases d1 with|c _ _ h=>cases h with|im _ _ h=>cases h;rfl);subst e0;subst e1
   have U:args.toArray=#[.slice none 0 0,.int .i64 (n:Int)]:=by
    match args,b5 with
    | [x,y],_=>
     simp at Z V;rw[Z,V]
   rw[U];have E:∀m,¬en.g0.used m:=(fun m G=>by have:=hu m G;simp at this);by_cases h0:n=0
   ·subst h0;refine (zSp en.w0).mono fun e w' ⟨he,F⟩=>⟨_,he,rEmpModule,rfl,?_⟩;subst F;obtain ⟨g',k1,k2,k3,k4⟩:=hR.new0 (E 0) (show 0<11 by omega) 0;refine⟨g',[0],(fun t=>[D.c C.nil,D.c (C.im (I.int IntKind.i64 ((0:Nat):Int)))][t]?),upd (upd (fun n=>Option.map Root.box ([]:List (List B))[n]?) 0 none) 0 (some (.arr 11 [])),⟨args.toArray,[]⟩,.c (.view 0 11 0 0),k4,by simp,by simp[rEmpModule],fun m _=>E m,fun k r m J G=>?_,fun k c hc=>?_,rfl,.c _ _ (.view0 _ _ _ _ k2)⟩
    ·match k with
     | 0=>simp[rEmpModule] at J G;subst J;subst G;simp[upd]
     | k+1=>simp[rEmpModule] at J
    ·simp[rEmpModule] at hc
   have h1:1≤n:=(by omega);obtain ⟨i,z,hi,c8,b3,hz,a8⟩:=elTModule.info;have b0:∀b',en.g0.own b'≠some (0,[]):=fun b' b4=>E 0 (hR.fr.place b' 0 b4).1;refine (zUl n h1 h2 en.w0 i z hi hz (by omega) (by rw[b3];omega)).mono fun e w' ⟨he,F⟩=>⟨_,he,rEmpModule,rfl,?_⟩;subst F;have d2:n≤grownCap en.w0 n 0 31:=grownCap_ge en.w0 _ _ _
   have hG:=zKt (w0:=en.w0) (nm:=0) (n:=0) (ty:=54) hR elTModule (by omega) (E 0) b0 (rows:=[]) (src:=[]) (olds:=[]) (news:=[]) (A:=none) ⟨by simp,by simp,.inl rfl,by simp⟩ (by simp) (by simp) (by simp) (cap':=grownCap en.w0 n 0 31) (by simp)
    (Builtin.zeroCells z.cells n++Builtin.zeroCells z.cells (grownCap en.w0 n 0 31-n)) (by
     simp only[Array.size_append,size_zeroCells,a8,List.length_nil]
     rw[←Nat.add_mul];congr 1;omega)
   rw[show ∀X:Array Value,([]:List Value).toArray++([]:List Value).toArray++X=X from fun X=>by simp] at hG;obtain ⟨g',k1,k2,k3,k4⟩:=hG;refine⟨g',[0],(fun t=>[D.c C.nil,D.c (C.im (I.int IntKind.i64 ↑n))][t]?),upd (upd (fun n=>Option.map Root.box ([]:List (List B))[n]?) 0 none) 0 (some (.arr 11 [])),⟨args.toArray,[]⟩,.c (.view 0 11 0 0),k3,by simp,by simp[rEmpModule],fun m _=>E m,fun k r m J G=>?_,fun k c hc=>?_,rfl,.c _ _ k4⟩
   ·match k with
    | 0=>simp[rEmpModule] at J G;subst J;subst G;simp[upd]
    | k+1=>simp[rEmpModule] at J
   ·simp[rEmpModule] at hc
  ·cases hr
abbrev N1kCable:={n:Nat//n≤1000}
def rEmpCable:Res:={val:=.c (.view 0 2 0 0),roots:=[.arr 2 []]}
noncomputable def zGw:Ct:=fam true (fun x:N1kCable=>([.c .nil,.c (.im (.int .i64 (x.1:Int)))],[])) (fun _=>.one rEmpCable)
theorem zEc1 {n:Nat}(h2:n≤1000):zGw.run [.c .nil,.c (.im (.int .i64 (n:Int)))] []=some (.one rEmpCable):=zAc (ct:=zGw) rfl (by
 intro a b h
 simp only[Prod.mk.injEq,List.cons.injEq,D.c.injEq,C.im.injEq,I.int.injEq,Int.natCast_inj,true_and,and_true] at h
 (try simp only[yah])
 (try simp only[zAs,zAx] at h)
 simp_all) (⟨n,h2⟩:N1kCable)
theorem elTCable:ElT prog 55 113 2 16:=elT Ty.tel55 Ty.tsz113 Ty.tby113 Ty.tzr113 rfl
theorem zFn1:Law prog 267 zGw:=by
 refine⟨⟨fun ds hs o hr=>?_,fun ds hs o hr=>?_⟩,f267,func267,rfl,rfl⟩
 ·simp only[zGw,fam] at hr;split at hr
  ·injection hr with hr;subst hr;refine okO ⟨.c _ (.view _ _ _ _ (by simp[rEmpCable])),fun r hr=>?_,by simp[rEmpCable]⟩;simp[rEmpCable] at hr;subst hr;exact fun r hr=>by simp at hr
  ·cases hr
 ·simp only[zGw,fam] at hr;split at hr
  ·rename_i b1;injection hr with hr;subst hr;obtain ⟨⟨n,h2⟩,hd⟩:=b1;simp only[Prod.mk.injEq] at hd;obtain ⟨rfl,rfl⟩:=hd;intro en args b5 hu hR;obtain ⟨v0,Z,d0⟩:=hR.slots 0 _ rfl;obtain ⟨v1,V,d1⟩:=hR.slots 1 _ rfl;have e0:v0=.slice none 0 0:=(by cases d0 with|c _ _ h=>cases h;rfl);have e1:v1=.int .i64 (n:Int):=(by cases d1 with|c _ _ h=>cases h with|im _ _ h=>cases h;rfl);subst e0;subst e1
   have U:args.toArray=#[.slice none 0 0,.int .i64 (n:Int)]:=by
    match args,b5 with
    | [x,y],_=>
     simp at Z V;rw[Z,V]
   rw[U];have E:∀m,¬en.g0.used m:=(fun m G=>by have:=hu m G;simp at this);by_cases h0:n=0
   ·subst h0;refine (zUm en.w0).mono fun e w' ⟨he,F⟩=>⟨_,he,rEmpCable,rfl,?_⟩;subst F;obtain ⟨g',k1,k2,k3,k4⟩:=hR.new0 (E 0) (show 0<2 by omega) 0;refine⟨g',[0],(fun t=>[D.c C.nil,D.c (C.im (I.int IntKind.i64 ((0:Nat):Int)))][t]?),upd (upd (fun n=>Option.map Root.box ([]:List (List B))[n]?) 0 none) 0 (some (.arr 2 [])),⟨args.toArray,[]⟩,.c (.view 0 2 0 0),k4,by simp,by simp[rEmpCable],fun m _=>E m,fun k r m J G=>?_,fun k c hc=>?_,rfl,.c _ _ (.view0 _ _ _ _ k2)⟩
    ·match k with
     | 0=>simp[rEmpCable] at J G;subst J;subst G;simp[upd]
     | k+1=>simp[rEmpCable] at J
    ·simp[rEmpCable] at hc
   have h1:1≤n:=(by omega);obtain ⟨i,z,hi,c8,b3,hz,a8⟩:=elTCable.info;have b0:∀b',en.g0.own b'≠some (0,[]):=fun b' b4=>E 0 (hR.fr.place b' 0 b4).1;refine (zYn n h1 h2 en.w0 i z hi hz (by omega) (by rw[b3];omega)).mono fun e w' ⟨he,F⟩=>⟨_,he,rEmpCable,rfl,?_⟩;subst F;have d2:n≤grownCap en.w0 n 0 113:=grownCap_ge en.w0 _ _ _
   have hG:=zKt (w0:=en.w0) (nm:=0) (n:=0) (ty:=55) hR elTCable (by omega) (E 0) b0 (rows:=[]) (src:=[]) (olds:=[]) (news:=[]) (A:=none) ⟨by simp,by simp,.inl rfl,by simp⟩ (by simp) (by simp) (by simp) (cap':=grownCap en.w0 n 0 113) (by simp)
    (Builtin.zeroCells z.cells n++Builtin.zeroCells z.cells (grownCap en.w0 n 0 113-n)) (by
     simp only[Array.size_append,size_zeroCells,a8,List.length_nil]
     rw[←Nat.add_mul];congr 1;omega)
   rw[show ∀X:Array Value,([]:List Value).toArray++([]:List Value).toArray++X=X from fun X=>by simp] at hG;obtain ⟨g',k1,k2,k3,k4⟩:=hG;refine⟨g',[0],(fun t=>[D.c C.nil,D.c (C.im (I.int IntKind.i64 ↑n))][t]?),upd (upd (fun n=>Option.map Root.box ([]:List (List B))[n]?) 0 none) 0 (some (.arr 2 [])),⟨args.toArray,[]⟩,.c (.view 0 2 0 0),k3,by simp,by simp[rEmpCable],fun m _=>E m,fun k r m J G=>?_,fun k c hc=>?_,rfl,.c _ _ k4⟩
   ·match k with
    | 0=>simp[rEmpCable] at J G;subst J;subst G;simp[upd]
    | k+1=>simp[rEmpCable] at J
   ·simp[rEmpCable] at hc
  ·cases hr
structure ACatModule where
 a:List Mod
 b:List Mod
 la:a.length≤500
 lb:b.length≤500
noncomputable def zDm:Ct:=fam false (fun x:ACatModule=>([.c (.im (.sl 1 [[.sl 11 (rowsM x.a)],[.sl 11 (rowsM x.b)]]))],[])) (fun x=>.one (rNew 11 (rowsM (x.a++x.b))))
theorem zLj {a b:List Mod}(h1:a.length≤500)(h2:b.length≤500):zDm.run [.c (.im (.sl 1 [[.sl 11 (rowsM a)],[.sl 11 (rowsM b)]]))] []=some (.one (rNew 11 (rowsM (a++b)))):=by
 refine zAc (ct:=zDm) rfl ?_ ⟨a,b,h1,h2⟩;rintro ⟨a,b,_,_⟩ ⟨F,E,_,_⟩ h;simp[zBp] at h ⊢;exact h
theorem zHp:(zDm.sc=true)=False:=by simp[zDm,fam]
theorem zBs2 {ms:List Mod}:OkR false (rNew 11 (rowsM ms)):=by
 refine⟨.c _ (.view _ _ _ _ (by simp[rNew])),fun r hr=>?_,by simp[rNew]⟩;simp only[rNew,yaz] at hr;subst hr;exact zBv _ _
def szKModule (a b:List Mod):Nat→Int
 | 0=>0
 | 1=>(a.length:Int)
 | _+2=>((a.length+b.length:Nat):Int)
def ctKModule (a b:List Mod):Nat→List Mod
 | 0=>[]
 | 1=>a
 | _+2=>a++b
theorem zLl:Law prog 219 zDm:=by
 refine zAf (zAa zBb1 zAd) hmixA func219 rfl rfl (fun ⟨a,b,h1,h2⟩=>⟨okO zBs2,by simp[f219],?_⟩);simp only[rNew];have a8:sm=16777216:=rfl;have s1:IntKind.i64.wrap (0+(a.length:Int))=(a.length:Int):=by rw[zAi (by omega) (by omega)];omega
 have s2:IntKind.i64.wrap ((a.length:Int)+(b.length:Int))=((a.length+b.length:Nat):Int):=by rw[zAi (by omega) (by omega)];omega
 have n1:¬((a.length:Int)<0):=by omega
 have n2:¬(((a.length+b.length:Nat):Int)<0):=by omega
 have c0:((0:Nat):Int)=0:=rfl;have E:((1:Nat):Int)=1:=rfl;have c2:((2:Nat):Int)=2:=rfl;have U:IntKind.i64.wrap 1=1:=rfl;have J:IntKind.i64.wrap 2=2:=rfl;have z0:szKModule a b 0=0:=rfl;have G:szKModule a b 1=(a.length:Int):=rfl;have z2:szKModule a b 2=((a.length+b.length:Nat):Int):=rfl;have q0:ctKModule a b 0=[]:=rfl;have q1:ctKModule a b 1=a:=rfl;have q2:ctKModule a b 2=a++b:=rfl;try simp -dsimp only[go_sem,f219,c2]
 refine zAp (ι:={k:Nat//k≤2}) (fun k=>⟨[(0,some (.c (.im (.sl 1 [[.sl 11 (rowsM a)],[.sl 11 (rowsM b)]])))),(3,some (.c (.im (.int .i64 (szKModule a b k.1))))),(9,some (.c (.im (.sl 1 [[.sl 11 (rowsM a)],[.sl 11 (rowsM b)]])))),(10,some (.c (.im (.int .i64 2)))),(11,some (.c (.im (.int .i64 (k.1:Int)))))],[],0⟩) (fun k=>2-k.1) ⟨0,by simp⟩ ⟨[],[],by (simp only[go_sem,yai,z0,c0])<;>simp⟩ (fun ⟨k,F⟩=>?_);simp only
 match k,F with
 | 0,_=>
  try simp -dsimp only[go_sem,z0,c0,s1,n1,U,zAj,Int.reduceLT,Int.reduceAdd,Int.toNat_zero]
  exact⟨⟨1,by omega⟩,by simp,[],[],by (simp only[go_sem,yai,G,E])<;>simp⟩
 | 1,_=>
  try simp -dsimp only[go_sem,G,E,s2,n2,J,zAj,Int.reduceLT,Int.reduceLE,Int.reduceToNat,Int.reduceAdd]
  exact⟨⟨2,by omega⟩,by simp,[],[],by (simp only[go_sem,yai,z2,c2])<;>simp⟩
 | 2,_=>
  try simp -dsimp only[go_sem,z2,c2,zAo1 (n:=a.length+b.length) (by omega),rEmpModule,Int.reduceLT]
  have b1:a.length*136≤140737488355328:=by omega
  have b2:(a.length+b.length)*136≤140737488355328:=by omega
  have r0:ctKModule a b 0=[]:=rfl;have Z:ctKModule a b 1=a:=rfl;have V:ctKModule a b 2=a++b:=rfl;have ha:tI (rowsM a)++tI (rowsM b)=tI (rowsM (a++b)):=by simp[tI,rowsM]
  refine zAp (ι:={k:Nat//k≤2}) (fun k=>⟨[(6,some (.c (.view 0 11 0 (ctKModule a b k.1).length))),(25,some (.c (.im (.sl 1 [[.sl 11 (rowsM a)],[.sl 11 (rowsM b)]])))),(26,some (.c (.im (.int .i64 2)))),(27,some (.c (.im (.int .i64 (k.1:Int)))))],[(0,some (.arr 11 (tI (rowsM (ctKModule a b k.1)))))],1⟩) (fun k=>2-k.1) ⟨0,by simp⟩ ⟨[],[0],by ((simp only[go_sem,yai,zFz])<;>(try (simp -dsimp only[go_sem,yaj,yai,zFz])))<;>simp[ctKModule,rowsM,tI]⟩ (fun ⟨k,F⟩=>?_);simp only
  match k,F with
  | 0,_=>
   (try simp -dsimp only[go_sem,r0,c0,U,b1,zEg,zAj,zAg,appendH,srcRows,show tI (rowsM [])=[] from rfl,Int.reduceLT,Int.reduceAdd,Int.toNat_zero]);exact⟨⟨1,by omega⟩,by simp,[],[1],by (simp only[go_sem,yai,Z,E,zFz])<;>simp[lk]⟩
  | 1,_=>
   (try simp -dsimp only[go_sem,Z,E,J,b2,ha,zEg,zAj,zAg,yaw,appendH,srcRows,Int.reduceLT,Int.reduceLE,Int.reduceToNat,Int.reduceAdd]);exact⟨⟨2,by omega⟩,by simp,[],[1],by (simp only[go_sem,yai,V,c2,zFz,yaw])<;>simp[lk]⟩
  | 2,_=>
   (try simp -dsimp only[go_sem,f219,V,c2,Int.reduceLT,yaw,zAj]);exact⟨[0],by simp,by simp,by simp[rtOk],by simp[]⟩
structure ACatCable where
 a:List Cbl
 b:List Cbl
 la:a.length≤500
 lb:b.length≤500
noncomputable def zDv:Ct:=fam true (fun x:ACatCable=>([.c (.im (.sl 1 [[.sl 2 (rowsC x.a)],[.sl 2 (rowsC x.b)]]))],[])) (fun x=>.one (rNew 2 (rowsC (x.a++x.b))))
theorem zMc {a b:List Cbl}(h1:a.length≤500)(h2:b.length≤500):zDv.run [.c (.im (.sl 1 [[.sl 2 (rowsC a)],[.sl 2 (rowsC b)]]))] []=some (.one (rNew 2 (rowsC (a++b)))):=by
 refine zAc (ct:=zDv) rfl ?_ ⟨a,b,h1,h2⟩;rintro ⟨a,b,_,_⟩ ⟨F,E,_,_⟩ h;simp[zBh] at h ⊢;exact h
theorem zGn:(zDv.sc=true)=True:=by simp[zDv,fam]
def szKCable (a b:List Cbl):Nat→Int
 | 0=>0
 | 1=>(a.length:Int)
 | _+2=>((a.length+b.length:Nat):Int)
def ctKCable (a b:List Cbl):Nat→List Cbl
 | 0=>[]
 | 1=>a
 | _+2=>a++b
theorem zMn:Law prog 223 zDv:=by
 refine zAf (zAa zFn1 zAd) hmixA func223 rfl rfl (fun ⟨a,b,h1,h2⟩=>⟨okO (zSc (zIm _)),by simp[f223],?_⟩);simp only[rNew];have a8:sm=16777216:=rfl;have s1:IntKind.i64.wrap (0+(a.length:Int))=(a.length:Int):=by rw[zAi (by omega) (by omega)];omega
 have s2:IntKind.i64.wrap ((a.length:Int)+(b.length:Int))=((a.length+b.length:Nat):Int):=by rw[zAi (by omega) (by omega)];omega
 have n1:¬((a.length:Int)<0):=by omega
 have n2:¬(((a.length+b.length:Nat):Int)<0):=by omega
 have c0:((0:Nat):Int)=0:=rfl;have E:((1:Nat):Int)=1:=rfl;have c2:((2:Nat):Int)=2:=rfl;have U:IntKind.i64.wrap 1=1:=rfl;have J:IntKind.i64.wrap 2=2:=rfl;have z0:szKCable a b 0=0:=rfl;have G:szKCable a b 1=(a.length:Int):=rfl;have z2:szKCable a b 2=((a.length+b.length:Nat):Int):=rfl;have q0:ctKCable a b 0=[]:=rfl;have q1:ctKCable a b 1=a:=rfl;have q2:ctKCable a b 2=a++b:=rfl;try simp -dsimp only[go_sem,f223,c2]
 refine zAp (ι:={k:Nat//k≤2}) (fun k=>⟨[(0,some (.c (.im (.sl 1 [[.sl 2 (rowsC a)],[.sl 2 (rowsC b)]])))),(3,some (.c (.im (.int .i64 (szKCable a b k.1))))),(9,some (.c (.im (.sl 1 [[.sl 2 (rowsC a)],[.sl 2 (rowsC b)]])))),(10,some (.c (.im (.int .i64 2)))),(11,some (.c (.im (.int .i64 (k.1:Int)))))],[],0⟩) (fun k=>2-k.1) ⟨0,by simp⟩ ⟨[],[],by (simp only[go_sem,yai,z0,c0])<;>simp⟩ (fun ⟨k,F⟩=>?_);simp only
 match k,F with
 | 0,_=>
  try simp -dsimp only[go_sem,z0,c0,s1,n1,U,zAo,Int.reduceLT,Int.reduceAdd,Int.toNat_zero]
  exact⟨⟨1,by omega⟩,by simp,[],[],by (simp only[go_sem,yai,G,E])<;>simp⟩
 | 1,_=>
  try simp -dsimp only[go_sem,G,E,s2,n2,J,zAo,Int.reduceLT,Int.reduceLE,Int.reduceToNat,Int.reduceAdd]
  exact⟨⟨2,by omega⟩,by simp,[],[],by (simp only[go_sem,yai,z2,c2])<;>simp⟩
 | 2,_=>
  try simp -dsimp only[go_sem,z2,c2,zEc1 (n:=a.length+b.length) (by omega),rEmpCable,Int.reduceLT]
  have b1:(a.length*16≤140737488355328)=True:=zEb (by omega) (by decide);have b2:((a.length+b.length)*16≤140737488355328)=True:=zEb (by omega) (by decide);have r0:ctKCable a b 0=[]:=rfl;have Z:ctKCable a b 1=a:=rfl;have V:ctKCable a b 2=a++b:=rfl;have ha:tI (rowsC a)++tI (rowsC b)=tI (rowsC (a++b)):=by simp[tI,rowsC]
  refine zAp (ι:={k:Nat//k≤2}) (fun k=>⟨[(6,some (.c (.view 0 2 0 (ctKCable a b k.1).length))),(25,some (.c (.im (.sl 1 [[.sl 2 (rowsC a)],[.sl 2 (rowsC b)]])))),(26,some (.c (.im (.int .i64 2)))),(27,some (.c (.im (.int .i64 (k.1:Int)))))],[(0,some (.arr 2 (tI (rowsC (ctKCable a b k.1)))))],1⟩) (fun k=>2-k.1) ⟨0,by simp⟩ ⟨[],[0],by ((simp only[go_sem,yai,zLo])<;>(try (simp -dsimp only[go_sem,yaj,yai,zLo])))<;>simp[ctKCable,rowsC,tI]⟩ (fun ⟨k,F⟩=>?_);simp only
  match k,F with
  | 0,_=>
   (try simp -dsimp only[go_sem,r0,c0,U,b1,zEg,zAo,zAg,appendH,srcRows,show tI (rowsC [])=[] from rfl,Int.reduceLT,Int.reduceAdd,Int.toNat_zero]);exact⟨⟨1,by omega⟩,by simp,[],[1],by (simp only[go_sem,yai,Z,E,zLo])<;>simp[lk]⟩
  | 1,_=>
   (try simp -dsimp only[go_sem,Z,E,J,b2,ha,zEg,zAo,zAg,yaw,appendH,srcRows,Int.reduceLT,Int.reduceLE,Int.reduceToNat,Int.reduceAdd]);exact⟨⟨2,by omega⟩,by simp,[],[1],by (simp only[go_sem,yai,V,c2,zLo,yaw])<;>simp[lk]⟩
  | 2,_=>
   (try simp -dsimp only[go_sem,f223,V,c2,Int.reduceLT,yaw,zAo]);exact⟨[0],by simp,by simp,by simp[rtOk],by simp[]⟩
def rRackT (ms:List Mod)(cs:List Cbl):Res:={val:=.tup [.agg [.view 0 11 0 ms.length,.view 1 2 0 cs.length],.c (.im (.bool true))],roots:=[.arr 11 (tM ms),.arr 2 (tI (rowsC cs))]}
def rRackF:Res:={val:=.tup [.agg [.nil,.nil],.c (.im (.bool false))]}
theorem zXb {sc:Bool}{ms:List Mod}{cs:List Cbl}:OkR sc (rRackT ms cs):=by
 refine⟨.tup _ (fun d hd=>?_),fun r hr=>?_,by simp[rRackT]⟩
 ·simp only[yac,yad,or_false] at hd;rcases hd with rfl|rfl
  ·refine .inr ⟨_,rfl,fun x hx=>?_⟩;simp only[yac,yad,or_false] at hx;rcases hx with rfl|rfl<;>exact .view _ _ _ _ (by simp[rRackT])
  ·exact .inl ⟨_,rfl,zBr rfl⟩
 ·simp only[rRackT,yac,yad,or_false] at hr;rcases hr with rfl|rfl
  ·exact zOg _
  ·exact zDg (zIm _)
theorem zXc {sc:Bool}:OkR sc rRackF:=by
 refine⟨.tup _ (fun d hd=>?_),by simp[rRackF],by simp[rRackF]⟩;simp only[yac,yad,or_false] at hd;rcases hd with rfl|rfl
 ·exact .inr ⟨_,rfl,fun x hx=>by simp at hx;subst hx;exact .nil⟩
 ·exact .inl ⟨_,rfl,zBr rfl⟩
def rRackB (b:Bool)(ms:List Mod)(cs:List Cbl):Res:=if b=true then rRackT ms cs else rRackF
structure AROf where
 ms:List Mod
 cs:List Cbl
 ml:ms.length≤sm
 cl:cs.length≤sm
 ok:∀m∈ms,OkM m
noncomputable def zMp:Ct:=fam true (fun x:AROf=>([.agg [.im (.sl 11 (rowsM x.ms)),.im (.sl 2 (rowsC x.cs))]],[])) (fun x=>.one (rRackB (isRackF x.ms x.cs) x.ms x.cs))
theorem zJq {ms:List Mod}{cs:List Cbl}(h1:ms.length≤sm)(h2:cs.length≤sm)(h5:∀m∈ms,OkM m):zMp.run [.agg [.im (.sl 11 (rowsM ms)),.im (.sl 2 (rowsC cs))]] []=some (.one (rRackB (isRackF ms cs) ms cs)):=by
 refine zAc (ct:=zMp) rfl ?_ ⟨ms,cs,h1,h2,h5⟩;rintro ⟨a,b,_,_,_⟩ ⟨F,E,_,_,_⟩ h;simp[zBp,zBh] at h ⊢;exact h
theorem zEp:(zMp.sc=true)=True:=by simp[zMp,fam]
theorem zJu:Law prog 218 zMp:=by
 refine zAw (zAa zCs (zAa zIv zAd)) hmixA func218 rfl rfl (fun ⟨ms,cs,h1,h2,E⟩=>⟨okO (by unfold rRackB;split;exact zXb;exact zXc),by simp[f218],?_⟩);simp only
 cases hr:isRackF ms cs with
 | false=>
  simp only[rRackB,rRackF];try simp -dsimp only[go_sem,f218,zBi h1 h2 E,hr]
  refine zAh [] ?_;simp -dsimp only[go_sem]
 | true=>
  simp only[rRackB,rRackT];try simp -dsimp only[go_sem,f218,zBi h1 h2 E,hr,zIo h1 h2 E,rRack]
  refine zAh [] ?_;simp -dsimp only[go_sem];refine⟨[_,_],?_,?_,?_,rfl,rfl⟩<;>simp[rtOk]
structure AAd where
 ms:List Mod
 cs:List Cbl
 a:Int
 b:Int
 ml:ms.length≤sm
 cl:cs.length≤400
 ok:∀m∈ms,OkM m
def addF (ms:List Mod)(cs:List Cbl)(a b:Int):Bool:=isRackF ms cs&&isRackF ms (cs++[(a,b)])
noncomputable def zPi:Ct:=fam true (fun x:AAd=>([.agg [.im (.sl 11 (rowsM x.ms)),.im (.sl 2 (rowsC x.cs))],.c (.im (.int .i64 x.a)),.c (.im (.int .i64 x.b))],[])) (fun x=>.one (rRackB (addF x.ms x.cs x.a x.b) x.ms (x.cs++[(x.a,x.b)])))
theorem zIp1 {ms:List Mod}{cs:List Cbl}(h1:ms.length≤sm)(h2:cs.length≤400)(h5:∀m∈ms,OkM m)(a b:Int):zPi.run [.agg [.im (.sl 11 (rowsM ms)),.im (.sl 2 (rowsC cs))],.c (.im (.int .i64 a)),.c (.im (.int .i64 b))] []=some (.one (rRackB (addF ms cs a b) ms (cs++[(a,b)]))):=by
 refine zAc (ct:=zPi) rfl ?_ ⟨ms,cs,a,b,h1,h2,h5⟩;rintro ⟨a,b,_,_,_,_,_⟩ ⟨F,E,_,_,_,_,_⟩ h;simp[zBp,zBh] at h ⊢;simp[h]
theorem zJz1:Law prog 163 zPi:=by
 refine zAw (zAa zCs (zAa zMn (zAa zJu zAd))) hmixA func163 rfl rfl (fun ⟨ms,cs,a,b,h1,h2,J⟩=>⟨okO (by unfold rRackB;split;exact zXb;exact zXc),by simp[f163],?_⟩);simp only;have Z:sm=16777216:=rfl;have F:cs.length≤sm:=by omega
 cases hr:isRackF ms cs with
 | false=>
  have G:addF ms cs a b=false:=by simp[addF,hr]
  simp only[rRackB,rRackF];try simp -dsimp only[go_sem,f163,zBi h1 F J,hr]
  refine zAh [] ?_;simp -dsimp only[go_sem,G]
 | true=>
  have G:addF ms cs a b=isRackF ms (cs++[(a,b)]):=by simp[addF,hr]
  have rc:zDv.run [.c (.im (.sl 1 [[.sl 2 (rowsC cs)],[.sl 2 [[.int .i64 a,.int .i64 b]]]]))] []=some (.one (rNew 2 (rowsC (cs++[(a,b)])))):=zMc (a:=cs) (b:=[(a,b)]) (by omega) (by simp);have V:=zJq (ms:=ms) (cs:=cs++[(a,b)]) h1 (by simp;omega) J;have U:List.take (cs++[(a,b)]).length (tI (rowsC (cs++[(a,b)])))=tI (rowsC (cs++[(a,b)])):=List.take_of_length_le (by simp[zAg,zAo]);generalize a6:cs++[(a,b)]=cs2 at*
  cases E:isRackF ms cs2 with
  | false=>
   simp only[rRackB,rRackF];try simp -dsimp only[go_sem,f163,zBi h1 F J,hr,rc,V,E,rRackB,rRackF,rNew,zGn,zEp,U,zBj,zAg,zAo,List.take_succ_cons,List.take_nil]
   with_reducible repeat' first|refine sl_i ?_|refine ro_i ?_
   refine zAh [] ?_;simp -dsimp only[go_sem,G,E]
  | true=>
   simp only[rRackB,rRackT];try simp -dsimp only[go_sem,f163,zBi h1 F J,hr,rc,V,E,rRackB,rRackT,rNew,zGn,zEp,U,zBj,zAg,zAo,List.take_succ_cons,List.take_nil]
   with_reducible repeat' first|refine sl_i ?_|refine ro_i ?_
   refine zAh [] ?_;simp -dsimp only[go_sem,G,E];refine⟨[_,_],?_,?_,?_,rfl,rfl⟩<;>simp[rtOk]
structure AAm where
 ms:List Mod
 cs:List Cbl
 m:Mod
 ml:ms.length≤400
 cl:cs.length≤sm
 ok:∀m∈ms,OkM m
 om:OkM m
def rAm (b:Bool)(ms:List Mod)(cs:List Cbl)(n:Nat):Res:=if b=true then {val:=.tup [.agg [.view 0 11 0 ms.length,.view 1 2 0 cs.length],.c (.im (.int .i64 (n:Int))),.c (.im (.bool true))],roots:=[.arr 11 (tM ms),.arr 2 (tI (rowsC cs))]} else {val:=.tup [.agg [.nil,.nil],.c (.im (.int .i64 0)),.c (.im (.bool false))]}
theorem zKr2 {sc b:Bool}{ms:List Mod}{cs:List Cbl}{n:Nat}:OkR sc (rAm b ms cs n):=by
 unfold rAm;split
 ·refine⟨.tup _ (fun d hd=>?_),fun r hr=>?_,by simp⟩
  ·simp only[yac,yad,or_false] at hd;rcases hd with rfl|rfl|rfl
   ·refine .inr ⟨_,rfl,fun x hx=>?_⟩;simp only[yac,yad,or_false] at hx;rcases hx with rfl|rfl<;>exact .view _ _ _ _ (by simp)
   ·exact .inl ⟨_,rfl,zBr rfl⟩
   ·exact .inl ⟨_,rfl,zBr rfl⟩
  ·simp only[yac,yad,or_false] at hr;rcases hr with rfl|rfl
   ·exact zOg _
   ·exact zDg (zIm _)
 ·refine⟨.tup _ (fun d hd=>?_),by simp,by simp⟩;simp only[yac,yad,or_false] at hd;rcases hd with rfl|rfl|rfl
  ·exact .inr ⟨_,rfl,fun x hx=>by simp at hx;subst hx;exact .nil⟩
  ·exact .inl ⟨_,rfl,zBr rfl⟩
  ·exact .inl ⟨_,rfl,zBr rfl⟩
def amF (ms:List Mod)(cs:List Cbl)(m:Mod):Bool:=isRackF ms cs&&isRackF (ms++[m]) cs
noncomputable def zNl:Ct:=fam true (fun x:AAm=>([.agg [.im (.sl 11 (rowsM x.ms)),.im (.sl 2 (rowsC x.cs))],.agg (modC x.m)],[])) (fun x=>.one (rAm (amF x.ms x.cs x.m) (x.ms++[x.m]) x.cs x.ms.length))
theorem zEi1 {ms:List Mod}{cs:List Cbl}{m:Mod}(h1:ms.length≤400)(h2:cs.length≤sm)(h5:∀m∈ms,OkM m)(hm:OkM m):zNl.run [.agg [.im (.sl 11 (rowsM ms)),.im (.sl 2 (rowsC cs))],.agg (modC m)] []=some (.one (rAm (amF ms cs m) (ms++[m]) cs ms.length)):=by
 refine zAc (ct:=zNl) rfl ?_ ⟨ms,cs,m,h1,h2,h5,hm⟩;rintro ⟨a,b,c,_,_,_,_⟩ ⟨G,F,E,_,_,_,_⟩ h;simp only[Prod.mk.injEq,List.cons.injEq,D.agg.injEq,C.im.injEq,I.sl.injEq,true_and,and_true,zBp,zBh] at h;obtain ⟨⟨rfl,rfl⟩,h⟩:=h;have:=zDj h;subst this;rfl
theorem zFs1:Law prog 159 zNl:=by
 refine zAw (zAa zCs (zAa zLl (zAa zJu zAd))) hmixA func159 rfl rfl (fun ⟨ms,cs,⟨k,⟨t1,t2⟩,⟨s1,s2⟩,lv,st,ra,rn,pts,lab,c,l⟩,h1,h2,V,hm⟩=>⟨okO zKr2,by simp[f159,modC],?_⟩);simp only[modC];have a8:sm=16777216:=rfl;have F:ms.length≤sm:=by omega
 cases hr:isRackF ms cs with
 | false=>
  have U:∀m,amF ms cs m=false:=fun m=>by simp[amF,hr]
  simp only[rAm];try simp -dsimp only[go_sem,f159,zBi F h2 V,hr]
  refine zAh [] ?_;simp -dsimp only[go_sem,U]
 | true=>
  have U:∀m,amF ms cs m=isRackF (ms++[m]) cs:=fun m=>by simp[amF,hr]
  have rc:zDm.run [.c (.im (.sl 1 [[.sl 11 (rowsM ms)],[.sl 11 [[.int .i64 k,.cpx .f32 t1 t2,.cpx .f32 s1 s2,.flt .f32 lv,.sl 1 (rowsZ st),.int .i64 ra,.int .i64 rn,.sl 1 (rowsZ pts),.sl 1 (rowsN lab),.int .i64 c,.int .i64 l]]]]))] []=some (.one (rNew 11 (rowsM (ms++[⟨k,(t1,t2),(s1,s2),lv,st,ra,rn,pts,lab,c,l⟩])))):=zLj (a:=ms) (b:=[⟨k,(t1,t2),(s1,s2),lv,st,ra,rn,pts,lab,c,l⟩]) (by omega) (by simp)
  have G:∀m∈ms++[⟨k,(t1,t2),(s1,s2),lv,st,ra,rn,pts,lab,c,l⟩],OkM m:=fun m Z=>by
   rcases List.mem_append.1 Z with q|q
   ·exact V m q
   ·simp at q;subst q;exact hm
  have ro:=zJq (ms:=ms++[⟨k,(t1,t2),(s1,s2),lv,st,ra,rn,pts,lab,c,l⟩]) (cs:=cs) (by simp;omega) h2 G;have tk:∀x:List Mod,List.take x.length (tI (rowsM x))=tI (rowsM x):=fun x=>List.take_of_length_le (by simp[zAg,zAj]);generalize J:ms++[⟨k,(t1,t2),(s1,s2),lv,st,ra,rn,pts,lab,c,l⟩]=ms2 at*
  cases E:isRackF ms2 cs with
  | false=>
   simp only[rAm];try simp -dsimp only[go_sem,f159,zBi F h2 V,hr,rc,ro,E,rRackB,rRackF,rNew,zHp,zEp,tk,zBj,zAg,zAj,imTN,lentsT,nones]
   with_reducible repeat' first|refine sl_i ?_|refine ro_i ?_
   refine zAh [] ?_;simp -dsimp only[go_sem,U,J,E]
  | true=>
   simp only[rAm];try simp -dsimp only[go_sem,f159,zBi F h2 V,hr,rc,ro,E,rRackB,rRackT,rNew,zHp,zEp,tk,zBj,zAg,zAj,imTN,lentsT,nones]
   with_reducible repeat' first|refine sl_i ?_|refine ro_i ?_
   refine zAh [] ?_;simp -dsimp only[go_sem,U,J,E];refine⟨[_,_],?_,?_,?_,rfl,rfl⟩<;>simp[rtOk]
noncomputable def zGx:Ct:=fam true (fun x:{l:List Int//l.length≤sm}×{l:List Int//l.length≤sm}=>([.c (.im (.sl 1 (rowsN x.1.1))),.c (.im (.sl 1 (rowsN x.2.1)))],[])) (fun x=>.one {val:=.c (.im (.bool (decide (x.1.1=x.2.1))))})
theorem zEf1 {a b:List Int}(ha:a.length≤sm)(hb:b.length≤sm):zGx.run [.c (.im (.sl 1 (rowsN a))),.c (.im (.sl 1 (rowsN b)))] []=some (.one {val:=.c (.im (.bool (decide (a=b))))}):=by
 refine zAc (ct:=zGx) rfl ?_ (⟨a,ha⟩,⟨b,hb⟩);rintro ⟨⟨a,_⟩,⟨b,_⟩⟩ ⟨⟨F,_⟩,⟨E,_⟩⟩ h;simp[zAx] at h ⊢;exact h
theorem zIb1:(zGx.sc=true)=True:=by simp[zGx,fam]
theorem zJd2 {a b:List Int}{k:Nat}{p q:Int}(ha:a[k]?=some p)(hb:b[k]?=some q):(a.drop k=b.drop k)=(p=q∧a.drop (k+1)=b.drop (k+1)):=by
 have h1:k<a.length:=(List.getElem?_eq_some_iff.1 ha).1;have h2:k<b.length:=(List.getElem?_eq_some_iff.1 hb).1;have F:a[k]=p:=by rw[List.getElem?_eq_getElem h1] at ha;injection ha
 have E:b[k]=q:=by rw[List.getElem?_eq_getElem h2] at hb;injection hb
 rw[List.drop_eq_getElem_cons h1,List.drop_eq_getElem_cons h2,F,E,List.cons.injEq]
theorem zFp1:Law prog 67 zGx:=by
 refine zAf zAd hmixA func67 rfl rfl (fun ⟨⟨a,ha⟩,⟨b,hb⟩⟩=>⟨zAv rfl,by simp[f67],?_⟩);simp only;by_cases hl:a.length=b.length;rotate_left
 ·have h1:((a.length:Int)=(b.length:Int))=False:=eq_false (by omega);have h2:(a=b)=False:=eq_false (fun e=>hl (by rw[e]));try simp -dsimp only[go_sem,f67,h1,h2,zAe]
 have h1:((a.length:Int)=(b.length:Int))=True:=eq_true (by omega);try simp -dsimp only[go_sem,f67,h1,zAe]
 refine zAp (ι:={k:Nat//k≤a.length∧(a=b)=(a.drop k=b.drop k)}) (fun k=>⟨[(0,some (.c (.im (.sl 1 (rowsN a))))),(1,some (.c (.im (.sl 1 (rowsN b))))),(12,some (.c (.im (.int .i64 (a.length:Int))))),(13,some (.c (.im (.int .i64 (k.1:Int)))))],
  [],0⟩) (fun k=>a.length-k.1) ⟨0,by simp⟩ ⟨[],[],by ((simp only[go_sem,yai])<;>(try (simp -dsimp only[go_sem,yaj,yai])))<;>simp⟩ (fun ⟨k,hk,E⟩=>?_)
 simp only;by_cases J:k<a.length
 ·obtain ⟨p,hp⟩:∃p,a[k]?=some p:=⟨_,List.getElem?_eq_getElem J⟩;obtain ⟨q,hq⟩:∃q,b[k]?=some q:=⟨_,List.getElem?_eq_getElem (by omega)⟩;have G:=zEx hp;have F:=zEx hq;have V:((k:Int)<(a.length:Int))=True:=by simp;omega
  have h0:0≤(k:Int):=by simp
  have Z:=zDh ha J;rw[zJd2 hp hq] at E;by_cases e:p=q
  ·have U:=eq_true e;rw[U,true_and] at E;try simp -dsimp only[go_sem,V,h0,Int.toNat_natCast,G,F,U,Z]
   with_reducible repeat' first|refine sl_i ?_|refine ro_i ?_
   exact⟨⟨k+1,by omega,E⟩,by simp only[];omega,[],[],by (simp only[go_sem,yai])<;>simp⟩
  ·have U:=eq_false e;rw[U,false_and] at E;try simp -dsimp only[go_sem,f67,V,h0,Int.toNat_natCast,G,F,U,E]
   with_reducible repeat' first|refine sl_i ?_|exact ro_e
 ·have V:((k:Int)<(a.length:Int))=False:=by simp;omega
  have hi:(a=b)=True:=by rw[E,List.drop_of_length_le (by omega),List.drop_of_length_le (by omega)];simp
  try simp -dsimp only[go_sem,f67,V,hi]
structure AGr where
 ms:List Mod
 cs:List Cbl
 ok:∀m∈ms,OkM m
 r:isRackF ms cs=true
noncomputable def zTd:Ct:=fam true (fun x:AGr=>([.agg [.im (.sl 11 (rowsM x.ms)),.im (.sl 2 (rowsC x.cs))]],[])) (fun x=>oOrder (orderF x.ms x.cs))
theorem zLw1 {ms:List Mod}{cs:List Cbl}(h5:∀m∈ms,OkM m)(r:isRackF ms cs=true):zTd.run [.agg [.im (.sl 11 (rowsM ms)),.im (.sl 2 (rowsC cs))]] []=some (oOrder (orderF ms cs)):=by
 refine zAc (ct:=zTd) rfl ?_ ⟨ms,cs,h5,r⟩;rintro ⟨a,b,_,_⟩ ⟨F,E,_,_⟩ h;simp[zBp,zBh] at h ⊢;exact h
theorem zNb1:Law prog 170 zTd:=by
 refine zAf (zAa zCs (zAa zXt zAd)) hmixA func170 rfl rfl (fun ⟨ms,cs,Z,r⟩=>⟨zXd _,by simp[f170],?_⟩);simp only;have U:sm=16777216:=rfl;obtain ⟨J,p2,pm,F,G⟩:=zFi.1 r;obtain ⟨L,V⟩:=Option.isSome_iff_exists.1 G;have E:=zHr J (show cs.length≤sm by omega) (fun c hc=>⟨(F c hc).1,(F c hc).2.1⟩);rw[V] at E ⊢;simp only[oOrder] at E ⊢;try simp -dsimp only[go_sem,f170,zBi (show ms.length≤sm by omega) (show cs.length≤sm by omega) Z,r,E,yaH]
 exact⟨[1],by simp,by simp,by simp[rtOk],by simp⟩
structure AFe where
 ms:List Mod
 cs:List Cbl
 i:Nat
 ok:∀m∈ms,OkM m
 r:isRackF ms cs=true
 hi:i<ms.length
def sameF (cs:List Cbl)(i:Int)(g:List Int):Bool:=decide (feedsF cs (g.getD 0 0)=feedsF cs i)
def rowR (ms:List Mod)(cs:List Cbl):List I:=[.sl 11 (rowsM ms),.sl 2 (rowsC cs)]
def hsI (i:Int):List (List B):=[[.t (.im (.int .i64 i))]]
theorem zXu1 {i j:Int}(h:hsI i=hsI j):i=j:=by simpa[hsI] using h
theorem zVl1 {v:D}{i:Int}(hv:OkD true 0 v):OkR true {val:=v,places:=hsI i}:=by
 refine⟨hv,by simp,fun c hc x hx=>?_⟩;simp only[hsI,yac,yad,or_false] at hc;subst hc;simp only[yac,yad,or_false] at hx;subst hx;exact .t _ (.im _ (.inr rfl))
structure AJk where
 ms:List Mod
 cs:List Cbl
 i:Int
 g:List Int
 cl:cs.length≤sm
 gl:g.length≤sm
 gp:1≤g.length
noncomputable def zYq1:Ct:=fam true (fun x:AJk=>([.c (.im (.sl 1 (rowsN x.g))),.c (.iptr (rowR x.ms x.cs) 0),.c (.ptr 0 0 0 0)],hsI x.i)) (fun x=>.one {val:=.c (.im (.bool (sameF x.cs x.i x.g))),places:=hsI x.i})
theorem zHi2 {ms:List Mod}{cs:List Cbl}{i:Int}{g:List Int}(h1:cs.length≤sm)(h2:g.length≤sm)(h3:1≤g.length):zYq1.run [.c (.im (.sl 1 (rowsN g))),.c (.iptr [.sl 11 (rowsM ms),.sl 2 (rowsC cs)] 0),.c (.ptr 0 0 0 0)] [[.t (.im (.int .i64 i))]]=some (.one {val:=.c (.im (.bool (sameF cs i g))),places:=hsI i}):=by
 refine zAc (ct:=zYq1) rfl ?_ ⟨ms,cs,i,g,h1,h2,h3⟩;rintro ⟨a,b,c,d,_,_,_⟩ ⟨G,F,E,d',_,_,_⟩ h;simp only[rowR,Prod.mk.injEq,List.cons.injEq,D.c.injEq,C.im.injEq,C.iptr.injEq,I.sl.injEq,true_and,and_true,zBp,zBh,zAx] at h;obtain ⟨⟨rfl,rfl,rfl⟩,h⟩:=h;have:=zXu1 h;subst this;rfl
theorem zIm2:Law prog 231 zYq1:=by
 refine zAf (zAa zJt1 (zAa zFp1 zAd)) hmixA func231 rfl rfl (fun ⟨ms,cs,i,g,h1,h2,h3⟩=>⟨okO (zVl1 (zQi rfl)),by simp[f231],?_⟩);simp only[rowR,hsI,sameF];have U:sm=16777216:=rfl
 obtain ⟨p,E,rfl⟩:∃p E,g=p::E:=by
  cases g with
  | nil=>simp at h3
  | cons p E=>exact⟨p,E,rfl⟩
 have F:(rowsN (p::E))[0]?=some [.int .i64 p]:=rfl;have Z:=zUy cs p;have V:=zUy cs i;have G:∀l:List Int,List.take l.length (tI (rowsN l))=tI (rowsN l):=fun l=>List.take_of_length_le (by rw[zAg,zAe];omega);have J:=zEf1 (a:=feedsF cs p) (b:=feedsF cs i) (by omega) (by omega);try simp -dsimp only[go_sem,f231,zAe,F,zIm1 h1,rNew,G,zBj,zAg,zIb1,J,Int.toNat_zero]
 with_reducible repeat' first|refine sl_i ?_|exact ro_e
def rowsG (gs:List (List Int)):List (List I):=gs.map fun g=>[.sl 1 (rowsN g)]
theorem zWq (gs:List (List Int)):(rowsG gs).length=gs.length:=by simp[rowsG]
theorem zOj1 {gs:List (List Int)}{k:Nat}{g:List Int}(h:gs[k]?=some g):(rowsG gs)[k]?=some [.sl 1 (rowsN g)]:=by simp[rowsG,h]
theorem zUs1 {a b:List (List Int)}(h:rowsG a=rowsG b):a=b:=by
 induction a generalizing b with
 | nil=>cases b with
  | nil=>rfl
  | cons y b=>simp[rowsG] at h
 | cons x a ih=>cases b with
  | nil=>simp[rowsG] at h
  | cons y b=>
   simp only[rowsG,List.map_cons,List.cons.injEq,I.sl.injEq,true_and,and_true,zAx] at h;rw[h.1,ih h.2]
structure AIg where
 ms:List Mod
 cs:List Cbl
 i:Int
 gs:List (List Int)
 cl:cs.length≤sm
 gl:gs.length≤sm
 gg:∀g∈gs,1≤g.length∧g.length≤sm
noncomputable def zFt:Ct:=fam true (fun x:AIg=>([.c (.im (.sl 1 (rowsG x.gs))),.c (.fn (.func 231) [.iptr (rowR x.ms x.cs) 0,.ptr 0 0 0 0])],hsI x.i)) (fun x=>.one {val:=.c (.im (.int .i64 (idxF (sameF x.cs x.i) x.gs 0))),places:=hsI x.i})
theorem zAn1 {ms:List Mod}{cs:List Cbl}{i:Int}{gs:List (List Int)}(h1:cs.length≤sm)(h2:gs.length≤sm)(h3:∀g∈gs,1≤g.length∧g.length≤sm):zFt.run [.c (.im (.sl 1 (rowsG gs))),.c (.fn (.func 231) [.iptr [.sl 11 (rowsM ms),.sl 2 (rowsC cs)] 0,.ptr 0 0 0 0])] [[.t (.im (.int .i64 i))]]=some (.one {val:=.c (.im (.int .i64 (idxF (sameF cs i) gs 0))),places:=hsI i}):=by
 refine zAc (ct:=zFt) rfl ?_ ⟨ms,cs,i,gs,h1,h2,h3⟩;rintro ⟨a,b,c,d,_,_,_⟩ ⟨U,J,G,d',_,_,_⟩ h;simp only[rowR,Prod.mk.injEq,List.cons.injEq,D.c.injEq,C.im.injEq,C.fn.injEq,C.iptr.injEq,I.sl.injEq,true_and,and_true,zBp,zBh] at h;obtain ⟨⟨h1,rfl,rfl⟩,h⟩:=h;have F:=zUs1 h1;have E:=zXu1 h;subst F E;rfl
theorem zPu:(zFt.sc=true)=True:=by simp[zFt,fam]
theorem zBa1:Law prog 230 zFt:=by
 refine zAf (zAa zIm2 zAd) hmixA func230 rfl rfl (fun ⟨ms,cs,i,gs,h1,h2,h3⟩=>⟨okO (zVl1 (zQi rfl)),by simp[f230],?_⟩);simp only[hsI,rowR];try simp -dsimp only[go_sem,f230,zWq]
 refine zAp (ι:={k:Nat//k≤gs.length∧idxF (sameF cs i) gs 0=idxF (sameF cs i) (gs.drop k) k}) (fun k=>⟨[(0,some (.c (.im (.sl 1 (rowsG gs))))),(1,some (.c (.fn (.func 231) [.iptr [.sl 11 (rowsM ms),.sl 2 (rowsC cs)] 0,.ptr 0 0 0 0]))),(7,some (.c (.im (.int .i64 (gs.length:Int))))),(8,some (.c (.im (.int .i64 (k.1:Int)))))],
  [(0,some (.box [.t (.im (.int .i64 i))]))],1⟩) (fun k=>gs.length-k.1) ⟨0,by simp⟩ ⟨[],[],by ((simp only[go_sem])<;>(try (simp -dsimp only[go_sem,yaj,yai])))<;>simp⟩ (fun ⟨k,hk,E⟩=>?_)
 simp only;by_cases J:k<gs.length
 ·obtain ⟨g,hp⟩:∃p,gs[k]?=some p:=⟨_,List.getElem?_eq_getElem J⟩;have G:=zOj1 hp;have Z:((k:Int)<(gs.length:Int))=True:=by simp;omega
  have h0:0≤(k:Int):=by simp
  have F:=zJw (f:=sameF cs i) hp;have a6:=zDh h2 J;obtain ⟨g1,g2⟩:=h3 g (List.mem_of_getElem? hp);have U:=zHi2 (ms:=ms) (i:=i) h1 g2 g1
  cases V:sameF cs i g with
  | true=>
   rw[V] at U;simp only[V,yav] at F;rw[F] at E;clear F;try simp -dsimp only[go_sem,f230,Z,h0,Int.toNat_natCast,G,U,E,hsI]
  | false=>
   rw[V] at U;simp only[V,yau,yat] at F;rw[F] at E;clear F;(try simp -dsimp only[go_sem,Z,h0,Int.toNat_natCast,G,U,a6,hsI]);exact⟨⟨k+1,by omega,E⟩,by simp only[];omega,[],[],by (simp only[go_sem])<;>simp⟩
 ·have Z:((k:Int)<(gs.length:Int))=False:=by simp;omega
  have a8:k=gs.length:=by omega
  subst a8;rw[List.drop_length] at E;try simp -dsimp only[go_sem,f230,Z,E,idxF]
theorem zKe1 {α:Type}{f:α→Bool}:∀(l:List α) (j:Nat),0≤idxF f l j→∃k g,idxF f l j=((j+k:Nat):Int)∧l[k]?=some g∧f g=true
 | [],j,h=>by simp[idxF] at h
 | a::l,j,h=>by
  simp only[idxF] at h ⊢;by_cases E:f a=true
  ·rw[if_pos E];exact⟨0,a,by simp,rfl,E⟩
  ·rw[if_neg E] at h ⊢;obtain ⟨k,g,h1,h2,h3⟩:=zKe1 l (j+1) h;exact⟨k+1,g,by rw[h1];congr 1;omega,by simpa using h2,h3⟩
theorem zXt1 {α:Type}{f:α→Bool}{l:List α}(h:0≤idxF f l 0):∃(k:Nat) (g:α),idxF f l 0=(k:Int)∧l[k]?=some g∧f g=true:=by
 obtain ⟨k,g,h1,h2,h3⟩:=zKe1 l 0 h;exact⟨k,g,by simpa using h1,h2,h3⟩
def tG (gs:List (List Int)):List (List T):=gs.map fun g=>[.own 1 (tI (rowsN g))]
theorem zOb (gs:List (List Int)):(tG gs).length=gs.length:=by simp[tG]
theorem zEo2 (ex:List Nat)(H:Nat→Option Root)(gs:List (List Int))(k:Nat):mapO (mapO (toI ex H (k+1))) (tG gs)=some (rowsG gs):=by
 induction gs with
 | nil=>rfl
 | cons g gs ih=>
  have e:tG (g::gs)=[.own 1 (tI (rowsN g))]::tG gs:=rfl;have E:rowsG (g::gs)=[.sl 1 (rowsN g)]::rowsG gs:=rfl;rw[e,E];simp only[mapO,ih];simp only[toI,zBj]
theorem zFc2 {sc:Bool}{sz:Nat}(gs:List (List Int)):MvR sc (.arr sz (tG gs)):=by
 intro r hr t ht;simp only[tG,List.mem_map] at hr;obtain ⟨g,_,rfl⟩:=hr;simp only[yaz] at ht;subst ht;exact zQk (zEw _)
theorem zEg2 (gs:List (List Int)):MvR false (.arr 1 (tG gs))=True:=eq_true (zFc2 _)
structure Jk (cs:List Cbl) (n:Nat) (gs:List (List Int)) (i:Nat):Prop where
 le:gs.length≤i
 gr:∀g∈gs,1≤g.length∧g.length≤i∧∀m∈g,0≤m∧m<n∧feedsF cs m=feedsF cs (g.getD 0 0)
 sum:(gs.map List.length).sum=i
theorem Jk.nil {cs:List Cbl}{n:Nat}:Jk cs n [] 0:=⟨by simp,by simp,by simp⟩
theorem Jk.new {cs:List Cbl}{n:Nat}{gs:List (List Int)}{i:Nat}(h:Jk cs n gs i)(hi:i<n):Jk cs n (gs++[[(i:Int)]]) (i+1):=by
 refine⟨by have:=h.le;simp;omega,fun g E=>?_,by simp[h.sum]⟩;rcases List.mem_append.1 E with E|E
 ·obtain ⟨h1,h2,h3⟩:=h.gr g E;exact⟨h1,by omega,h3⟩
 ·simp only[yaz] at E;subst E;refine⟨by simp,by simp,fun m F=>?_⟩;simp only[yaz] at F;subst F;exact⟨by omega,by omega,rfl⟩
theorem zTr1:∀(l:List Nat) (k:Nat) (x:Nat),l[k]?=some x→(l.set k (x+1)).sum=l.sum+1
 | [],k,x,h=>by simp at h
 | a::l,0,x,h=>by simp at h;subst h;simp;omega
 | a::l,k+1,x,h=>by
  have:=zTr1 l k x (by simpa using h);simp only[List.set_cons_succ,List.sum_cons,this];omega
theorem Jk.more {cs:List Cbl}{n:Nat}{gs:List (List Int)}{i k:Nat}{g:List Int}(h:Jk cs n gs i)(hi:i<n)(hk:gs[k]?=some g)(hs:sameF cs (i:Int) g=true):Jk cs n (gs.set k (g++[(i:Int)])) (i+1):=by
 obtain ⟨g1,g2,g3⟩:=h.gr g (List.mem_of_getElem? hk);refine⟨by have:=h.le;simp;omega,fun g' F=>?_,?_⟩
 ·rcases List.mem_or_eq_of_mem_set F with F|rfl
  ·obtain ⟨h1,h2,h3⟩:=h.gr g' F;exact⟨h1,by omega,h3⟩
  ·have G:(g++[(i:Int)]).getD 0 0=g.getD 0 0:=by
    cases g with
    | nil=>simp at g1
    | cons a g=>rfl
   refine⟨by simp,by simp;omega,fun m E=>?_⟩;rw[G];rcases List.mem_append.1 E with E|E
   ·exact g3 m E
   ·simp only[yaz] at E;subst E;refine⟨by omega,by omega,?_⟩;simp only[sameF,yaG] at hs;exact hs.symm
 ·have:(gs.set k (g++[(i:Int)])).map List.length=(gs.map List.length).set k (g.length+1):=by rw[List.map_set];simp
  rw[this,zTr1 _ _ _ (by rw[List.getElem?_map,hk];rfl),h.sum]
def oJk (cs:List Cbl)(n:Nat):Outs:=.any {gs:List (List Int)//Jk cs n gs n} (fun q=>{val:=.c (.view 0 1 0 q.1.length),roots:=[.arr 1 (tG q.1)]})
theorem zKp2 {sc:Bool}{gs:List (List Int)}:OkR sc {val:=.c (.view 0 1 0 gs.length),roots:=[.arr 1 (tG gs)]}:=by
 refine⟨.c _ (.view _ _ _ _ (by simp)),fun r hr=>?_,by simp⟩;simp only[yaz] at hr;subst hr;exact zFc2 _
noncomputable def zTe:Ct:=fam true (fun x:AGr=>([.agg [.im (.sl 11 (rowsM x.ms)),.im (.sl 2 (rowsC x.cs))]],[])) (fun x=>oJk x.cs x.ms.length)
theorem zLx1 {ms:List Mod}{cs:List Cbl}(h5:∀m∈ms,OkM m)(r:isRackF ms cs=true):zTe.run [.agg [.im (.sl 11 (rowsM ms)),.im (.sl 2 (rowsC cs))]] []=some (oJk cs ms.length):=by
 refine zAc (ct:=zTe) rfl ?_ ⟨ms,cs,h5,r⟩;rintro ⟨a,b,_,_⟩ ⟨F,E,_,_⟩ h;simp[zBp,zBh] at h ⊢;exact h
theorem zNc1:Law prog 173 zTe:=by
 refine zAf (zAa zCs (zAa zBa1 zAd)) hmixA func173 rfl rfl (fun ⟨ms,cs,h5,r⟩=>⟨okA (fun o=>zKp2),by simp[f173],?_⟩);simp only[oJk];have b8:sm=16777216:=rfl;obtain ⟨p1,p2,pm,pc,po⟩:=zFi.1 r;have h1:ms.length≤sm:=by omega
 have h2:cs.length≤sm:=by omega
 try simp -dsimp only[go_sem,f173,zBi h1 h2 h5,r,zAj,yaH]
 refine zAp (ι:={x:List (List Int)×Nat//x.2≤ms.length∧Jk cs ms.length x.1 x.2}) (fun x=>⟨[(1,some (.c (.iptr [.sl 11 (rowsM ms),.sl 2 (rowsC cs)] 0))),(3,some (.c (.view 0 1 0 x.1.1.length))),(12,some (.c (.im (.int .i64 (ms.length:Int))))),(13,some (.c (.im (.int .i64 (x.1.2:Int)))))],
  [(0,some (.arr 1 (tG x.1.1)))],1⟩) (fun x=>ms.length-x.1.2) ⟨([],0),by simp,Jk.nil⟩ ⟨[.frzB 0 [1]],[1],by ((simp only[go_sem,yai,mapO,zEg2])<;>(try (simp -dsimp only[go_sem,yaj,yai,mapO,zEg2])))<;>simp[tG]⟩ (fun ⟨⟨gs,i⟩,hi,J⟩=>?_)
 simp only at hi J ⊢;by_cases a8:i<ms.length
 case neg=>
  have hI:¬((i:Int)<(ms.length:Int)):=by omega
  obtain rfl:i=ms.length:=by omega
  try simp -dsimp only[go_sem,f173,hI]
  exact⟨⟨gs,J⟩,[0],by simp,by simp,by simp[rtOk],by simp⟩
 have hI:(i:Int)<(ms.length:Int):=by omega
 have Z:IntKind.i64.wrap ((i:Int)+1)=((i+1:Nat):Int):=by rw[zAi (by omega) (by omega)];omega
 have b9:=J.le;have tk:List.take gs.length (tG gs)=tG gs:=List.take_of_length_le (by rw[zOb];omega);have rx:=zAn1 (ms:=ms) (cs:=cs) (i:=(i:Int)) (gs:=gs) h2 (by omega) (fun g V=>⟨(J.gr g V).1,by have:=(J.gr g V).2.1;omega⟩);by_cases G:idxF (sameF cs (i:Int)) gs 0<0
 ·have hn:=eq_true G;have U:(gs.length+1)*24≤140737488355328:=by omega
  have V:∀r,(tG gs++[r])[gs.length]?=some r:=fun r=>by rw[List.getElem?_append_right (by rw[zOb];omega),zOb,Nat.sub_self];rfl
  have hs:∀r x,(tG gs++[r]).set gs.length x=tG gs++[x]:=fun r x=>by rw[List.set_append_right _ _ (by rw[zOb];omega),zOb,Nat.sub_self];rfl
  have E:tG gs++[[T.own 1 [[T.im (.int .i64 (i:Int))]]]]=tG (gs++[[(i:Int)]]):=by simp[tG,tI,rowsN]
  try simp -dsimp only[go_sem,hI,Z,tk,zEo2,zOb,zPu,rx,hsI,hn,U,appendH,srcRows,List.take_succ_cons,yan,yao,yap,okT,yaq,yaw]
  refine⟨⟨(gs++[[(i:Int)]],i+1),by simp only[];omega,J.new a8⟩,by simp only[];omega,[.fold 4 gs.length 0],[4],?_⟩
  (simp only[go_sem,yai,yak,V,hs,E,zEg2,yaw])
  all_goals simp[lk,zAn]
 ·have hn:=eq_false G;obtain ⟨k,g,hk,F,a7⟩:=zXt1 (f:=sameF cs (i:Int)) (l:=gs) (by omega);rw[hk] at rx hn;have b6:k<gs.length:=(List.getElem?_eq_some_iff.1 F).1;have b0:0≤(k:Int):=by omega
  have b1:(k:Int)<(gs.length:Int):=by omega
  have V:(tG gs)[k]?=some [T.own 1 (tI (rowsN g))]:=by simp[tG,F]
  have b2:∀x,((tG gs).set k x)[k]?=some x:=fun x=>List.getElem?_set_self (by rw[zOb];exact b6);have a6:∀x y,((tG gs).set k x).set k y=(tG gs).set k y:=fun x y=>by rw[List.set_set]
  have E:(tG gs).set k [T.own 1 (tI (rowsN (g++[(i:Int)])))]=tG (gs.set k (g++[(i:Int)])):=by simp[tG,List.map_set]
  have c6:=(J.gr g (List.mem_of_getElem? F)).2.1;have U:(g.length+1)*8≤140737488355328:=by omega
  try simp -dsimp only[go_sem,hI,Z,tk,zEo2,zOb,zPu,rx,hsI,hn,b0,b1,V,b2,a6,U,zAg,zAe,zRm,appendH,srcRows,List.take_succ_cons,yan,yao,yap,okT,yaq,yaw,Int.toNat_natCast]
  with_reducible repeat' first|refine sl_i ?_|refine ro_i ?_
  refine⟨⟨(gs.set k (g++[(i:Int)]),i+1),by simp only[];omega,J.more a8 F a7⟩,by simp only[];omega,[.fold 0 k 0],[0],?_⟩
  (simp only[go_sem,yai,yak,b2,a6,E,zEg2,yaw,yaD,zAg,zAe])
  all_goals simp[lk,zAn]
structure Rc (cs:List Cbl) (n:Nat) (i:Int) (out row:List Int):Prop where
 nd:out.Nodup
 rg:∀x∈out,0≤x∧x<(n:Int)
 rw:∀x∈row,x=i∨x∈out
 fd:∀k∈out,∃c∈cs,c.2=k∧(c.1=i∨c.1∈out)
def Cl (cs:List Cbl)(i:Int)(out row:List Int):Prop:=∀p,(p=i∨p∈out)→p∈row∨∀c∈cs,c.1=p→c.2∈out
theorem Rc.start {cs:List Cbl}{n:Nat}{i:Int}:Rc cs n i [] [i]:=⟨by simp,by simp,fun x hx=>by simp at hx;exact .inl hx,by simp⟩
theorem Cl.start {cs:List Cbl}{i:Int}:Cl cs i [] [i]:=fun p hp=>by
 rcases hp with rfl|hp
 ·exact .inl (by simp)
 ·cases hp
theorem Rc.len {cs:List Cbl}{n:Nat}{i:Int}{out row:List Int}(h:Rc cs n i out row):out.length≤n:=pigeon n out h.nd h.rg
theorem Rc.add {cs:List Cbl}{n:Nat}{i:Int}{out row:List Int}{c:Cbl}(h:Rc cs n i out row)(hc:c∈cs)(hr:0≤c.2∧c.2<(n:Int))(hf:c.1=i∨c.1∈out)(hn:c.2 ∉ out):Rc cs n i (out++[c.2]) (row++[c.2]):=by
 refine⟨?_,fun x hx=>?_,fun x hx=>?_,fun k E=>?_⟩
 ·rw[List.nodup_append];exact⟨h.nd,by simp,fun a F b hb=>by simp at hb;subst hb;intro e;subst e;exact hn F⟩
 ·rcases List.mem_append.1 hx with hx|hx
  ·exact h.rg x hx
  ·simp at hx;subst hx;exact hr
 ·rcases List.mem_append.1 hx with hx|hx
  ·rcases h.rw x hx with e|e
   ·exact .inl e
   ·exact .inr (List.mem_append_left _ e)
  ·exact .inr (List.mem_append_right _ hx)
 ·rcases List.mem_append.1 E with E|E
  ·obtain ⟨d,h1,h2,h3⟩:=h.fd k E;exact⟨d,h1,h2,h3.imp id (List.mem_append_left _)⟩
  ·simp at E;subst E;exact⟨c,hc,rfl,hf.imp id (List.mem_append_left _)⟩
theorem Cl.add {cs:List Cbl}{i:Int}{out row:List Int}{k:Int}(h:Cl cs i out row):Cl cs i (out++[k]) (row++[k]):=fun p E=>by
 rcases E with E|E
 ·rcases h p (.inl E) with e|e
  ·exact .inl (List.mem_append_left _ e)
  ·exact .inr fun c hc h1=>List.mem_append_left _ (e c hc h1)
 ·rcases List.mem_append.1 E with E|E
  ·rcases h p (.inr E) with e|e
   ·exact .inl (List.mem_append_left _ e)
   ·exact .inr fun c hc h1=>List.mem_append_left _ (e c hc h1)
  ·exact .inl (List.mem_append_right _ E)
theorem Cl.tail {cs:List Cbl}{i x:Int}{out row:List Int}(h:Cl cs i out (x::row))(hx:∀c∈cs,c.1=x→c.2∈out):Cl cs i out row:=fun p E=>by
 rcases h p E with e|e
 ·rcases List.mem_cons.1 e with rfl|e
  ·exact .inr hx
  ·exact .inl e
 ·exact .inr e
theorem Rc.tail {cs:List Cbl}{n:Nat}{i x:Int}{out row:List Int}(h:Rc cs n i out (x::row)):Rc cs n i out row:=⟨h.nd,h.rg,fun y hy=>h.rw y (.tail _ hy),h.fd⟩
structure Rch (cs:List Cbl) (n:Nat) (i:Int) (L:List Int):Prop where
 len:L.length≤n
 rg:∀x∈L,0≤x∧x<(n:Int)
 cl:∀c∈cs,(c.1=i∨c.1∈L)→c.2∈L
 fd:∀k∈L,∃c∈cs,c.2=k∧(c.1=i∨c.1∈L)
theorem zUq {l:List Int}{x:Int}:x∈srtZ l↔x∈l:=by simp only[srtZ,List.mem_mergeSort]
theorem Rch.of {cs:List Cbl}{n:Nat}{i:Int}{out:List Int}(h:Rc cs n i out [])(hc:Cl cs i out []):Rch cs n i (srtZ out):=by
 refine⟨by rw[zNo];exact h.len,fun x hx=>h.rg x (zUq.1 hx),fun c E F=>?_,fun k G=>?_⟩
 ·rw[zUq] at F ⊢;rcases hc c.1 F with e|e
  ·cases e
  ·exact e c E rfl
 ·obtain ⟨d,h1,h2,h3⟩:=h.fd k (zUq.1 G);exact⟨d,h1,h2,h3.imp id zUq.2⟩
theorem zJv2 (l:List Int):srtR (tI (rowsN l))=some (tI (rowsN (srtZ l))):=by
 have:intsT (tI (rowsN l))=some l:=by
  have:tI (rowsN l)=l.map fun z=>[T.im (.int .i64 z)]:=by simp[tI,rowsN]
  rw[intsT,this];exact zEu1 (f:=intT) (k:=fun z=>[T.im (.int .i64 z)]) (fun z=>rfl) l
 simp only[srtR,this];simp[tI,rowsN]
theorem dropN' (k:Nat)(r:List Int):List.drop k (tI (rowsN r))=tI (rowsN (r.drop k)):=by simp[tI,rowsN,List.map_drop]
def oRch (cs:List Cbl)(n i:Nat):Outs:=.any {L:List Int//Rch cs n (i:Int) L} (fun q=>{val:=.tup [.c (.view 0 1 0 q.1.length),.c (.im (.bool true))],roots:=[.arr 1 (tI (rowsN q.1))]})
theorem zHq2 {sc:Bool}{L:List Int}:OkR sc {val:=.tup [.c (.view 0 1 0 L.length),.c (.im (.bool true))],roots:=[.arr 1 (tI (rowsN L))]}:=
 ⟨.tup _ (by intro d hd;simp at hd;rcases hd with rfl|rfl;exact .inl ⟨_,rfl,.view _ _ _ _ (by simp)⟩;exact .inl ⟨_,rfl,zBr rfl⟩),by intro r hr;simp at hr;subst hr;exact zDg (zEw _),by simp⟩
noncomputable def zTc:Ct:=fam true (fun x:AFe=>([.agg [.im (.sl 11 (rowsM x.ms)),.im (.sl 2 (rowsC x.cs))],.c (.im (.int .i64 (x.i:Int)))],[])) (fun x=>oRch x.cs x.ms.length x.i)
theorem zLv1 {ms:List Mod}{cs:List Cbl}{i:Nat}(h5:∀m∈ms,OkM m)(r:isRackF ms cs=true)(hi:i<ms.length):zTc.run [.agg [.im (.sl 11 (rowsM ms)),.im (.sl 2 (rowsC cs))],.c (.im (.int .i64 (i:Int)))] []=some (oRch cs ms.length i):=by
 refine zAc (ct:=zTc) rfl ?_ ⟨ms,cs,i,h5,r,hi⟩;rintro ⟨a,b,c,_,_,_⟩ ⟨G,F,E,_,_,_⟩ h;simp only[Prod.mk.injEq,List.cons.injEq,D.agg.injEq,D.c.injEq,C.im.injEq,I.sl.injEq,I.int.injEq,true_and,and_true,zBp,zBh,Int.natCast_inj] at h;obtain ⟨⟨rfl,rfl⟩,rfl⟩:=h;rfl
theorem zNa1 (hsort:SortLaw prog 233):Law prog 174 zTc:=by
 refine zAf (zAa zCs (zAa zEy zAd)) hmixA func174 rfl rfl (fun ⟨ms,cs,i,h5,r,hi⟩=>⟨okA (fun o=>zHq2),by simp[f174],?_⟩);simp only[oRch];have h9:sm=16777216:=rfl;have f7:=eq_true hsort;obtain ⟨p1,p2,pm,pc,po⟩:=zFi.1 r;have c1:¬((i:Int)<0):=by omega
 have c2:¬((ms.length:Int)≤(i:Int)):=by omega
 try simp -dsimp only[go_sem,f174,zBi (show ms.length≤sm by omega) (show cs.length≤sm by omega) h5,r,c1,c2,zAj,yaH]
 have f1:∀c∈cs,0≤c.2∧c.2<(ms.length:Int):=fun c hc=>(pc c hc).2.2;have i7:(i:Int)<(ms.length:Int):=by omega
 refine zAp (ι:={x:List Int×List Int×Nat//x.2.2≤x.2.1.length∧Rc cs ms.length (i:Int) x.1 (x.2.1.drop x.2.2)∧Cl cs (i:Int) x.1 (x.2.1.drop x.2.2)∧x.2.1.length≤1+x.1.length}) (fun x=>⟨[(2,some (.c (.ptr 0 0 0 0))),(6,some (.c (.view 1 1 0 x.1.1.length))),(7,some (.c (.view 2 1 x.1.2.2 (x.1.2.1.length-x.1.2.2))))],
  [(0,some (.box [.t (.im (.sl 11 (rowsM ms))),.t (.im (.sl 2 (rowsC cs)))])),(1,some (.arr 1 (tI (rowsN x.1.1)))),(2,some (.arr 1 (tI (rowsN x.1.2.1))))],3⟩) (fun x=>ms.length+(x.1.2.1.length-x.1.2.2)-x.1.1.length) ⟨([],[(i:Int)],0),by simp,Rc.start,Cl.start,by simp⟩ ⟨[],[0,1,2],by ((simp only[go_sem,yai,zJb])<;>(try (simp -dsimp only[go_sem,yaj,yai,zJb])))<;>simp[tI,rowsN]⟩ (fun ⟨⟨out,rl,lo⟩,e1,hR,hC,d8⟩=>?_)
 simp only at e1 hR hC d8 ⊢;have i1:=hR.len;by_cases e3:rl.length-lo=0
 ·have hI:¬((0:Int)<((rl.length-lo:Nat):Int)):=by omega
  have hd:rl.drop lo=[]:=List.eq_nil_of_length_eq_zero (by rw[List.length_drop];exact e3);rw[hd] at hR hC;have f6:=zNo out;have hL:=Rch.of hR hC;try simp -dsimp only[go_sem,f174,hI,f7,sortH,zJv2,zAg,zAe,show out.length≤16777216 from by omega]
  exact⟨⟨srtZ out,hL⟩,[1],by simp,by simp,by simp[rtOk],by simp[f6]⟩
 have hI:(0:Int)<((rl.length-lo:Nat):Int):=by omega
 obtain ⟨x0,tl,f5⟩:∃x0 tl,rl.drop lo=x0::tl:=by
  cases h:rl.drop lo with
  | nil=>have:=congrArg List.length h;simp at this;omega
  | cons a b=>exact⟨a,b,rfl⟩
 try simp -dsimp only[go_sem,hI,zAo]
 refine zAp (ι:={x:(List Int×List Int×Nat)×Nat//x.1.2.2≤x.1.2.1.length∧x.2≤cs.length∧Rc cs ms.length (i:Int) x.1.1 (x.1.2.1.drop x.1.2.2)∧Cl cs (i:Int) x.1.1 (x.1.2.1.drop x.1.2.2)∧(∃tl,x.1.2.1.drop x.1.2.2=x0::tl)∧(∀c∈cs.take x.2,c.1=x0→c.2∈x.1.1)∧
  (x.1.2.1.length-x.1.2.2)+out.length=(rl.length-lo)+x.1.1.length∧x.1.2.1.length≤1+x.1.1.length}) (fun x=>⟨[(2,some (.c (.ptr 0 0 0 0))),(6,some (.c (.view 1 1 0 x.1.1.1.length))),(7,some (.c (.view 2 1 x.1.1.2.2 (x.1.1.2.1.length-x.1.1.2.2)))),(33,some (.c (.im (.sl 2 (rowsC cs))))),(34,some (.c (.im (.int .i64 (cs.length:Int))))),(35,some (.c (.im (.int .i64 (x.1.2:Int)))))],
  [(0,some (.box [.t (.im (.sl 11 (rowsM ms))),.t (.im (.sl 2 (rowsC cs)))])),(1,some (.arr 1 (tI (rowsN x.1.1.1)))),(2,some (.arr 1 (tI (rowsN x.1.1.2.1))))],3⟩) (fun x=>cs.length-x.1.2) ⟨((out,rl,lo),0),e1,by simp,hR,hC,⟨tl,f5⟩,by simp,rfl,d8⟩ ⟨[],[0,1,2],by ((simp only[go_sem,yai,zJb])<;>(try (simp -dsimp only[go_sem,yaj,yai,zJb])))<;>simp[]⟩ (fun ⟨⟨⟨E,F,G⟩,j⟩,a6,hj,V,a8,⟨b2,J⟩,a7,b3,b4⟩=>?_)
 simp only at a6 hj V a8 J a7 b3 b4 ⊢;have h0:=V.len;have i6:1≤F.length-G:=by have:=congrArg List.length J;simp at this;omega
 by_cases g7:j<cs.length
 case neg=>
  have hJ:¬((j:Int)<(cs.length:Int)):=by omega
  have e4:F.drop (G+1)=b2:=by rw[←List.drop_drop,J];rfl
  rw[J] at V a8
  have d3:∀c∈cs,c.1=x0→c.2∈E:=by
   rw[List.take_of_length_le (by omega)] at a7;exact a7
  have q1:(1:Int)≤((F.length-G:Nat):Int):=by omega
  have q2:F.length-G- 1=F.length- (G+1):=by omega
  try simp -dsimp only[go_sem,hJ,q1,q2,Int.reduceLE,Int.toNat_natCast,Int.toNat_one]
  refine⟨⟨(E,F,G+1),by simp only[];omega,by simp only[];rw[e4];exact V.tail,by simp only[];rw[e4];exact a8.tail d3,by simp only[];omega⟩,by simp only[];omega,[],[0,1,2],?_⟩
  (simp only[go_sem,yai,zJb])
  all_goals simp[lk,zAn]
 have hJ:(j:Int)<(cs.length:Int):=by omega
 have b0:0≤(j:Int):=by omega
 have b9:IntKind.i64.wrap ((j:Int)+1)=((j+1:Nat):Int):=by rw[zAi (by omega) (by omega)];omega
 obtain ⟨⟨p,q⟩,d2⟩:∃c,cs[j]?=some c:=⟨cs[j],List.getElem?_eq_getElem g7⟩;have c8:=List.mem_of_getElem? d2;have Z:=zIq d2;have f4:F[G]?=some x0:=by have:=congrArg (fun l=>l[0]?) J;simpa using this
 have b8:(tI (rowsN F))[G]?=some [T.im (.int .i64 x0)]:=by simp[tI,rowsN,f4]
 have q0:(0:Int)<((F.length-G:Nat):Int):=by omega
 have b7:=zCk (l:=E) (by omega) q;have d0:List.take E.length (tI (rowsN E))=tI (rowsN E):=List.take_of_length_le (by rw[zAg,zAe];omega);have d1:=zCy d2;by_cases hp:p=x0
 case neg=>
  have b5:=eq_false hp;try simp -dsimp only[go_sem,hJ,b0,b9,Z,b8,q0,b5,Int.toNat_natCast,Int.toNat_zero,yal]
  with_reducible repeat' first|refine sl_i ?_|refine ro_i ?_
  refine⟨⟨((E,F,G),j+1),a6,by simp only[];omega,V,a8,⟨b2,J⟩,fun c hc h1=>?_,b3,b4⟩,by simp only[];omega,[],[0,1,2],?_⟩
  ·simp only at hc;rw[d1] at hc;rcases List.mem_append.1 hc with hc|hc
   ·exact a7 c hc h1
   ·simp only[yaz] at hc;subst hc;exact absurd h1 hp
  ·(simp only[go_sem,yai,zJb])
   all_goals simp[lk,zAn]
 have b5:=eq_true hp
 cases hq:hasF E q with
 | true=>
  rw[hq] at b7;try simp -dsimp only[go_sem,hJ,b0,b9,Z,b8,q0,b5,b7,zCt,d0,zBj,zAg,zAe,Int.toNat_natCast,Int.toNat_zero,yal,yaH]
  with_reducible repeat' first|refine sl_i ?_|refine ro_i ?_
  refine⟨⟨((E,F,G),j+1),a6,by simp only[];omega,V,a8,⟨b2,J⟩,fun c hc h1=>?_,b3,b4⟩,by simp only[];omega,[],[0,1,2],?_⟩
  ·simp only at hc;rw[d1] at hc;rcases List.mem_append.1 hc with hc|hc
   ·exact a7 c hc h1
   ·simp only[yaz] at hc;subst hc;exact zIw.1 hq
  ·(simp only[go_sem,yai,zJb])
   all_goals simp[lk,zAn]
 | false=>
  rw[hq] at b7;have f8:q ∉ E:=fun h=>by rw[zIw.2 h] at hq;cases hq
  have g8:p=(i:Int)∨p∈E:=by rw[hp];exact V.rw x0 (by rw[J];simp)
  have c6:=V.add c8 (f1 _ c8) g8 f8;have d4:=a8.add (k:=q);simp only at c6
  have b6:∀c∈cs.take (j+1),c.1=x0→c.2∈E++[q]:=fun c hc h1=>by
   rw[d1] at hc;rcases List.mem_append.1 hc with hc|hc
   ·exact List.mem_append_left _ (a7 c hc h1)
   ·simp only[yaz] at hc;subst hc;exact List.mem_append_right _ (by simp)
  have e6:(E.length+1)*8≤140737488355328:=by omega
  have e5:(F.length+1)*8≤140737488355328:=by omega
  have U:(F++[q]).drop G=F.drop G++[q]:=List.drop_append_of_le_length a6;have d7:∃t,(F++[q]).drop G=x0::t:=⟨b2++[q],by rw[U,J];rfl⟩;have e2:(E++[q]).length=E.length+1:=by simp
  have g6:(F++[q]).length=F.length+1:=by simp
  cases G with
  | zero=>
   have f2:(0:Int)<(F.length:Int):=(by omega);try simp -dsimp only[go_sem,hJ,b0,b9,Z,b8,f2,b5,b7,zCt,d0,zBj,zAg,zAe,zRm,e6,e5,appendH,srcRows,List.take_succ_cons,yan,yao,yap,okT,yaq,yaw,Nat.sub_zero,Int.toNat_natCast,Int.toNat_zero,yal,yaI]
   with_reducible repeat' first|refine sl_i ?_|refine ro_i ?_
   refine⟨⟨((E++[q],F++[q],0),j+1),by simp,by simp only[];omega,by simp only[];rw[U];exact c6,by simp only[];rw[U];exact d4,d7,b6,by simp only[];omega,by simp only[];omega⟩,by simp only[];omega,[],[0,140,180],?_⟩
   (simp only[go_sem,yai,zJb,yaw,Nat.sub_zero])
   all_goals simp[lk,zAn]
  | succ l=>
   have d9:(F.length=l+1+(F.length- (l+1)))=True:=eq_true (by omega);try simp -dsimp only[go_sem,hJ,b0,b9,Z,b8,q0,b5,b7,zCt,d0,zBj,zAg,zCb,zAe,zRm,dropN',d9,e6,e5,appendT,appendH,srcRows,List.take_succ_cons,yan,yao,yap,okT,yaq,yaw,Int.toNat_natCast,Int.toNat_zero,yal,yaI]
   with_reducible repeat' first|refine sl_i ?_|refine ro_i ?_
   refine⟨⟨by kernel_rfl,?_⟩,⟨by kernel_rfl,?_⟩⟩
   ·have g5:(F.drop (l+1)++[q]).length=F.length- (l+1)+1:=(by simp);refine⟨⟨((E++[q],F.drop (l+1)++[q],0),j+1),by simp,by simp only[];omega,by simpa using c6,by simpa using d4,⟨b2++[q],by simp[J]⟩,b6,by simp only[];omega,by simp only[];omega⟩,by simp only[];omega,[],[0,140,180],?_⟩
    (simp only[go_sem,yai,zJb,g5,e2,Nat.sub_zero])
    all_goals simp[lk,zAn]
   ·have f9:F.length- (l+1)+1=F.length+1- (l+1):=(by omega);refine⟨⟨((E++[q],F++[q],l+1),j+1),by simp only[];omega,by simp only[];omega,by simp only[];rw[U];exact c6,by simp only[];rw[U];exact d4,d7,b6,by simp only[];omega,by simp only[];omega⟩,by simp only[];omega,[],[0,140,180],?_⟩
    (simp only[go_sem,yai,zJb,e2,g6,f9])
    all_goals simp[lk,zAn]
end Go.SX
namespace Go.Proofs
open Go.Shelf
def Tryz.lays156_ren:Go.Shelf.Ren:=⟨fun|156=>160|165=>220|166=>221|169=>222|240=>265|241=>266|276=>288|277=>289|n=>n,fun|31=>71|9=>9|3=>3|4=>4|0=>0|20=>20|72=>228|76=>170|70=>226|37=>37|75=>169|127=>268|164=>288|5=>5|80=>78|n=>n,fun|n=>n⟩
theorem Tryz.lays156:Lays.n156 Tryz.prog Tryz.lays156_ren:={
 mixed:=by kernel_rfl,
 f156:=Tryz.func160.trans (congrArg some (by kernel_rfl)),
 f165:=Tryz.func220.trans (congrArg some (by kernel_rfl)),
 f166:=Tryz.func221.trans (congrArg some (by kernel_rfl)),
 f169:=Tryz.func222.trans (congrArg some (by kernel_rfl)),
 f240:=Tryz.func265.trans (congrArg some (by kernel_rfl)),
 f241:=Tryz.func266.trans (congrArg some (by kernel_rfl)),
 f276:=Tryz.func288.trans (congrArg some (by kernel_rfl)),
 f277:=Tryz.func289.trans (congrArg some (by kernel_rfl)),
 t0:=Tryz.underlying0,
 a0:=Tryz.isAgg0,
 z0:=Tryz.sizeOf0,
 v0:=Tryz.zeroValue0,
 t3:=Tryz.underlying3,
 a3:=Tryz.isAgg3,
 z3:=Tryz.sizeOf3,
 v3:=Tryz.zeroValue3,
 t4:=Tryz.underlying4,
 a4:=Tryz.isAgg4,
 z4:=Tryz.sizeOf4,
 v4:=Tryz.zeroValue4,
 t9:=Tryz.underlying9,
 a9:=Tryz.isAgg9,
 z9:=Tryz.sizeOf9,
 v9:=Tryz.zeroValue9,
 t20:=Tryz.underlying20,
 a20:=Tryz.isAgg20,
 z20:=Tryz.sizeOf20,
 v20:=Tryz.zeroValue20,
 t31:=Tryz.underlying71,
 a31:=Tryz.isAgg71,
 z31:=Tryz.sizeOf71,
 v31:=Tryz.zeroValue71,
 t37:=Tryz.underlying37,
 a37:=Tryz.isAgg37,
 z37:=Tryz.sizeOf37,
 v37:=Tryz.zeroValue37,
 t70:=Tryz.underlying226,
 a70:=Tryz.isAgg226,
 z70:=Tryz.sizeOf226,
 v70:=Tryz.zeroValue226,
 t72:=Tryz.underlying228,
 a72:=Tryz.isAgg228,
 z72:=Tryz.sizeOf228,
 v72:=Tryz.zeroValue228,
 t75:=Tryz.underlying169,
 a75:=Tryz.isAgg169,
 z75:=Tryz.sizeOf169,
 v75:=Tryz.zeroValue169,
 t76:=Tryz.underlying170,
 a76:=Tryz.isAgg170,
 z76:=Tryz.sizeOf170,
 v76:=Tryz.zeroValue170,
 t127:=Tryz.underlying268,
 a127:=Tryz.isAgg268,
 z127:=Tryz.sizeOf268,
 v127:=Tryz.zeroValue268,
 t164:=Tryz.underlying288,
 a164:=Tryz.isAgg288,
 z164:=Tryz.sizeOf288,
 v164:=Tryz.zeroValue288}
theorem Tryz.lays156_extra:Builder.Extra Tryz.prog Tryz.lays156_ren:={
 sizeBuilder:=by kernel_rfl,
 liesBuilder:=by kernel_rfl,
 t5:=Tryz.underlying5,
 a5:=Tryz.isAgg5,
 z5:=Tryz.sizeOf5,
 v5:=Tryz.zeroValue5,
 infoByte:=by kernel_rfl,
 cellsByte:=by kernel_rfl,
 sizeByte:=by kernel_rfl,
 neB5:=by decide}
end Go.Proofs
namespace Go.SX
open Go Go.Proofs Tryz
theorem zYd1 {a:Nat}(h:fcmp .neq .f32 a a=false):fcmp .eql .f32 a a=true:=by
 simp only[fcmp,bne] at h ⊢
 cases hc:(FloatKind.f32.format.order a a ==some Ordering.eq) with
 | true=>rfl
 | false=>rw[hc] at h;simp at h
noncomputable def zZc:Ct:=fam false (fun x:Nat=>([.c (.im (.flt .f32 x)),.c (.im (.flt .f32 x))],[])) (fun _=>.one {val:=.c (.im (.bool true))})
theorem zRs (x:Nat):zZc.run [.c (.im (.flt .f32 x)),.c (.im (.flt .f32 x))] []=some (.one {val:=.c (.im (.bool true))}):=by
 refine zAc (ct:=zZc) rfl ?_ x;intro a b h;simpa using h
theorem zCm1:Law prog 178 zZc:=by
 refine zAf zAd hmixA func178 rfl rfl (fun a=>⟨zAv rfl,by simp[f178],?_⟩);simp only
 cases E:fcmp .neq .f32 a a with
 | true=> try simp -dsimp only[go_sem,f178,E]
 | false=>
  have G:=zYd1 E
  cases F:fcmp .eql .f32 a 0 with
  | true=> try simp -dsimp only[go_sem,f178,E,F,beq_self_eq_true]
  | false=> try simp -dsimp only[go_sem,f178,E,F,G]
noncomputable def zJg:Ct:=fam false (fun x:Pt=>([.c (.im (.cpx .f32 x.1 x.2)),.c (.im (.cpx .f32 x.1 x.2))],[])) (fun _=>.one {val:=.c (.im (.bool true))})
theorem zLw (x y:Nat):zJg.run [.c (.im (.cpx .f32 x y)),.c (.im (.cpx .f32 x y))] []=some (.one {val:=.c (.im (.bool true))}):=by
 refine zAc (ct:=zJg) rfl ?_ (x,y);rintro ⟨a,b⟩ ⟨c,d⟩ h;simp at h;simp[h]
theorem zMi:Law prog 147 zJg:=by
 refine zAf (zAa zCm1 zAd) hmixA func147 rfl rfl (fun ⟨a,b⟩=>⟨zAv rfl,by simp[f147],?_⟩);simp only;try simp -dsimp only[go_sem,f147,zRs a,zRs b]
structure AZl where
 l:List Pt
 len:l.length≤sm
noncomputable def zFr:Ct:=fam true (fun x:AZl=>([.c (.im (.sl 1 (rowsZ x.l))),.c (.im (.sl 1 (rowsZ x.l)))],[])) (fun _=>.one {val:=.c (.im (.bool true))})
theorem zOe {l:List Pt}(h:l.length≤sm):zFr.run [.c (.im (.sl 1 (rowsZ l))),.c (.im (.sl 1 (rowsZ l)))] []=some (.one {val:=.c (.im (.bool true))}):=by
 refine zAc (ct:=zFr) rfl ?_ ⟨l,h⟩;rintro ⟨a,_⟩ ⟨b,_⟩ h;simp[zAs] at h;subst h;rfl
theorem zDp1:(zFr.sc=true)=True:=by simp[zFr,fam]
theorem zAy1:Law prog 73 zFr:=by
 refine zAf (zAa zMi zAd) hmixA func73 rfl rfl (fun ⟨l,hl⟩=>⟨zAv rfl,by simp[f73],?_⟩);simp only;try simp -dsimp only[go_sem,f73,zAb]
 refine zAp (ι:={k:Nat//k≤l.length}) (fun k=>⟨[(0,some (.c (.im (.sl 1 (rowsZ l))))),(1,some (.c (.im (.sl 1 (rowsZ l))))),(12,some (.c (.im (.int .i64 (l.length:Int))))),(13,some (.c (.im (.int .i64 (k.1:Int)))))],[],0⟩) (fun k=>l.length-k.1) ⟨0,by simp⟩ ⟨[],[],by ((simp only[go_sem,yai])<;>(try (simp -dsimp only[go_sem,yaj,yai])))<;>simp⟩ (fun ⟨k,Z⟩=>?_);simp only;by_cases F:k<l.length
 ·obtain ⟨p,U⟩:∃p,l[k]?=some p:=⟨_,List.getElem?_eq_getElem F⟩;have E:=zBz U;have J:((k:Int)<(l.length:Int))=True:=by simp;omega
  have V:0≤(k:Int):=by simp
  have G:=zDh hl F;try simp -dsimp only[go_sem,J,V,Int.toNat_natCast,E,G,zLw]
  with_reducible repeat' first|refine sl_i ?_|refine ro_i ?_
  exact⟨⟨k+1,by omega⟩,by simp only[];omega,[],[],by (simp only[go_sem,yai])<;>simp⟩
 ·have J:((k:Int)<(l.length:Int))=False:=by simp;omega
  try simp -dsimp only[go_sem,f73,J]
noncomputable def zJi:Ct:=fam true (fun x:MdA=>([.agg (modC x.1),.agg (modC x.1)],[])) (fun _=>.one {val:=.c (.im (.bool true))})
theorem zWf {m:Mod}(h:OkM m):zJi.run [.agg (modC m),.agg (modC m)] []=some (.one {val:=.c (.im (.bool true))}):=by
 refine zAc (ct:=zJi) rfl ?_ ⟨m,h⟩;rintro ⟨a,_⟩ ⟨b,_⟩ h;simp at h ⊢;exact zDj h
theorem zYc:Law prog 95 zJi:=by
 refine zAf (zAa zCm1 (zAa zMi (zAa zAy1 zAd))) hmixA func95 rfl rfl (fun ⟨⟨k,⟨t1,t2⟩,⟨s1,s2⟩,lv,st,ra,rc,pts,lab,c,l⟩,⟨Z,V,U⟩⟩=>⟨zAv rfl,by simp[f95],?_⟩);simp only at Z V U;simp only[modC];try simp -dsimp only[go_sem,f95,zAe]
 refine zAp (ι:={k:Nat//k≤lab.length}) (fun j=>⟨[(2,some (.c (.ptr 0 0 0 0))),(3,some (.c (.ptr 1 0 0 0))),(57,some (.c (.im (.sl 1 (rowsN lab))))),(58,some (.c (.im (.int .i64 (lab.length:Int))))),(59,some (.c (.im (.int .i64 (j.1:Int)))))],
  [(0,some (.box [.t (.im (.int .i64 k)),.t (.im (.cpx .f32 t1 t2)),.t (.im (.cpx .f32 s1 s2)),.t (.im (.flt .f32 lv)),.t (.im (.sl 1 (rowsZ st))),.t (.im (.int .i64 ra)),.t (.im (.int .i64 rc)),.t (.im (.sl 1 (rowsZ pts))),.t (.im (.sl 1 (rowsN lab))),.t (.im (.int .i64 c)),.t (.im (.int .i64 l))])),(1,some (.box [.t (.im (.int .i64 k)),.t (.im (.cpx .f32 t1 t2)),.t (.im (.cpx .f32 s1 s2)),.t (.im (.flt .f32 lv)),.t (.im (.sl 1 (rowsZ st))),.t (.im (.int .i64 ra)),.t (.im (.int .i64 rc)),.t (.im (.sl 1 (rowsZ pts))),.t (.im (.sl 1 (rowsN lab))),.t (.im (.int .i64 c)),.t (.im (.int .i64 l))]))],2⟩) (fun j=>lab.length-j.1) ⟨0,by simp⟩ ⟨[],[0,1],by ((simp only[go_sem,yai])<;>(try (simp -dsimp only[go_sem,yaj,yai])))<;>simp[]⟩ (fun ⟨j,hj⟩=>?_)
 simp only;by_cases F:j<lab.length
 ·obtain ⟨p,hp⟩:∃p,lab[j]?=some p:=⟨_,List.getElem?_eq_getElem F⟩;have E:=zEx hp;have J:((j:Int)<(lab.length:Int))=True:=by simp;omega
  have h0:0≤(j:Int):=by simp
  have G:=zDh U F;try simp -dsimp only[go_sem,J,h0,Int.toNat_natCast,E,G]
  exact⟨⟨j+1,by omega⟩,by simp only[];omega,[],[0,1],by (simp only[go_sem,yai])<;>simp[lk,zAn]⟩
 ·have J:((j:Int)<(lab.length:Int))=False:=by simp;omega
  try simp -dsimp only[go_sem,f95,J,zLw,zRs,zOe Z,zOe V,zDp1]
structure ARk2 where
 ms:List Mod
 cs:List Cbl
 ml:ms.length≤sm
 cl:cs.length≤sm
 ok:∀m∈ms,OkM m
noncomputable def zNa:Ct:=fam true (fun x:ARk2=>([.agg [.im (.sl 11 (rowsM x.ms)),.im (.sl 2 (rowsC x.cs))],.agg [.im (.sl 11 (rowsM x.ms)),.im (.sl 2 (rowsC x.cs))]],[])) (fun _=>.one {val:=.c (.im (.bool true))})
theorem zKl {ms:List Mod}{cs:List Cbl}(h1:ms.length≤sm)(h2:cs.length≤sm)(h5:∀m∈ms,OkM m):zNa.run [.agg [.im (.sl 11 (rowsM ms)),.im (.sl 2 (rowsC cs))],.agg [.im (.sl 11 (rowsM ms)),.im (.sl 2 (rowsC cs))]] []=some (.one {val:=.c (.im (.bool true))}):=by
 refine zAc (ct:=zNa) rfl ?_ ⟨ms,cs,h1,h2,h5⟩;rintro ⟨a,b,_,_,_⟩ ⟨F,E,_,_,_⟩ h;simp only[Prod.mk.injEq,List.cons.injEq,D.agg.injEq,C.im.injEq,I.sl.injEq,true_and,and_true,zBp,zBh] at h;obtain ⟨⟨rfl,rfl⟩,_⟩:=h;rfl
theorem zFf1:Law prog 33 zNa:=by
 refine zAf (zAa zYc zAd) hmixA func33 rfl rfl (fun ⟨ms,cs,h1,h2,h5⟩=>⟨zAv rfl,by simp[f33],?_⟩);simp only;try simp -dsimp only[go_sem,f33,zAj,zAo]
 refine zAp (ι:={k:Nat//k≤cs.length}) (fun j=>⟨[(2,some (.c (.ptr 0 0 0 0))),(3,some (.c (.ptr 1 0 0 0))),(26,some (.c (.im (.sl 2 (rowsC cs))))),(27,some (.c (.im (.int .i64 (cs.length:Int))))),(28,some (.c (.im (.int .i64 (j.1:Int)))))],
  [(0,some (.box [.t (.im (.sl 11 (rowsM ms))),.t (.im (.sl 2 (rowsC cs)))])),(1,some (.box [.t (.im (.sl 11 (rowsM ms))),.t (.im (.sl 2 (rowsC cs)))]))],2⟩) (fun j=>cs.length-j.1) ⟨0,by simp⟩ ⟨[],[0,1],by ((simp only[go_sem,yai])<;>(try (simp -dsimp only[go_sem,yaj,yai])))<;>simp[]⟩ (fun ⟨j,hj⟩=>?_)
 simp only;by_cases F:j<cs.length
 ·obtain ⟨p,J⟩:∃p,cs[j]?=some p:=⟨_,List.getElem?_eq_getElem F⟩;have E:=zIq J;have V:((j:Int)<(cs.length:Int))=True:=by simp;omega
  have Z:0≤(j:Int):=by simp
  have G:=zDh h2 F;try simp -dsimp only[go_sem,V,Z,Int.toNat_natCast,E,G,yaM,yaQ]
  with_reducible repeat' first|refine sl_i ?_|refine ro_i ?_
  exact⟨⟨j+1,by omega⟩,by simp only[];omega,[],[0,1],by (simp only[go_sem,yai])<;>simp[lk,zAn]⟩
 have V:((j:Int)<(cs.length:Int))=False:=by simp;omega
 try simp -dsimp only[go_sem,V,zAj]
 refine zAp (ι:={k:Nat//k≤ms.length}) (fun j=>⟨[(3,some (.c (.ptr 1 0 0 0))),(42,some (.c (.im (.sl 11 (rowsM ms))))),(43,some (.c (.im (.int .i64 (ms.length:Int))))),(44,some (.c (.im (.int .i64 (j.1:Int)))))],
  [(1,some (.box [.t (.im (.sl 11 (rowsM ms))),.t (.im (.sl 2 (rowsC cs)))]))],2⟩) (fun j=>ms.length-j.1) ⟨0,by simp⟩ ⟨[],[1],by ((simp only[go_sem,yai])<;>(try (simp -dsimp only[go_sem,yaj,yai])))<;>simp[]⟩ (fun ⟨j,hj⟩=>?_)
 simp only;by_cases F:j<ms.length
 ·obtain ⟨p,J⟩:∃p,ms[j]?=some p:=⟨_,List.getElem?_eq_getElem F⟩;have E:=zIp J;have U:((j:Int)<(ms.length:Int))=True:=by simp;omega
  have Z:0≤(j:Int):=by simp
  have G:=zDh h1 F;have hr:=zWf (h5 p (List.mem_of_getElem? J));simp only[modC] at hr;try simp -dsimp only[go_sem,U,Z,Int.toNat_natCast,E,G,hr]
  with_reducible repeat' first|refine sl_i ?_|refine ro_i ?_
  exact⟨⟨j+1,by omega⟩,by simp only[];omega,[],[1],by (simp only[go_sem,yai])<;>simp[lk,zAn]⟩
 have U:((j:Int)<(ms.length:Int))=False:=by simp;omega
 try simp -dsimp only[go_sem,f33,U]
end Go.SX
namespace Go.SX
open Go Go.RowKit
variable {P : Program} {en : En} {g : Gh} {S : Nat → Option D} {H : Nat → Option Root} {a : Act} {w : World}
theorem zMq2 {z:Array Value}{k sz:Nat}(hz:z.size=sz)(hs:0<sz){i j:Nat}(hi:i<k)(hj:j<sz):((Builtin.zeroCells z k).toList)[i*sz+j]?=z.toList[j]?:=by
 have F:i*sz+j<k*sz:=by
  have:=Nat.mul_le_mul_right sz (show i+1≤k by omega);rw[Nat.add_mul] at this;omega
 have G:(i*sz+j)%sz=j:=by rw[Nat.add_comm,Nat.add_mul_mod_self_right,Nat.mod_eq_of_lt hj]
 have E:j<z.size:=by omega
 simp[Builtin.zeroCells,hz,F,G];rw[getElem!_pos z j E,Array.getElem?_eq_getElem E]
theorem zAm2 {g:Gh}{z:Value}{zc:List C}{zt:List T}{sz:Nat}(hz:CVs g zc z.cells.toList)(hl:zc.length=sz)(hs:0<sz)(ht:mapT zc=some zt)(hk:zt.all okT=true)(k:Nat)(hk0:0<k):
 ∃w0 A,Src g w0 sz (List.replicate k zt) A (Builtin.zeroCells z.cells k).toList:=by
 have E:z.cells.size=sz:=by rw[←hl,←hz.1];simp
 have J:(Builtin.zeroCells z.cells k).size=k*sz:=by simp[Builtin.zeroCells,E]
 refine⟨{(default:World) with heap:=#[.cells (Builtin.zeroCells z.cells k) 0 (0,0)]},some ⟨0,0,none⟩,⟨by simp[J],fun i r hr=>?_,.inr ⟨0,0,rfl,fun j v G=>?_⟩,fun i r j x hr hx=>?_⟩⟩
 ·rw[List.getElem?_replicate] at hr;split at hr
  ·injection hr with hr;subst hr;rw[(zSg ht).1];exact hl
  ·cases hr
 ·unfold World.cell?;simp at G ⊢;exact G
 ·rw[List.getElem?_replicate] at hr;split at hr
  ·rename_i hi;injection hr with hr;subst hr;obtain ⟨c,hc,U⟩:=(zSg ht).2 _ _ hx;have hj:j<sz:=(by rw[←hl];exact (List.getElem?_eq_some_iff.1 hc).1);have F:j<z.cells.toList.length:=(by simp;omega);have G:=hz.2 j c _ hc (List.getElem?_eq_getElem F);refine⟨z.cells.toList[j],by rw[zMq2 E hs hi hj];exact List.getElem?_eq_getElem F,zEs2 (zVe G U (default:World) 0 []) ?_⟩;rw[List.all_eq_true] at hk;exact hk x (List.mem_of_getElem? hx)
  ·cases hr
theorem zJj2 {t t2:TypeId}(h2:P.underlying t2=some (.int .i64)):AppZ P t t2:=by
 intro en g S H a w h ty s x sz bytes nm rows on hd e4 hb;unfold appendZ at hd;split at hd
 ·rename_i e ht;split at hd
  ·rename_i F G zc g5 i1 d8;split at hd
   ·rename_i zt k f4;split at hd
    ·rename_i hc;obtain ⟨d9,a8,i7,g9,k1,k0⟩:=hc;have he:=elT ht g5 i1 d8 d9;obtain ⟨b9,z,hi,e6,d2,d1,f5⟩:=he.info;have f7:mapCV z.cells.toList=some zc:=(by simpa[tzr,hi,d1] using d8);obtain ⟨n0,rfl⟩:=Int.eq_ofNat_of_zero_le (show 0≤k by omega);have d0:0<n0:=(by omega);obtain ⟨w0,A0,hS⟩:=zAm2 (g:=g) (zFb f7) d9 a8 f4 g9 n0 d0;have hx:a.eval (.const (.int .i64 (n0:Int)))=.int .i64 (n0:Int):=rfl;have a6:(List.replicate n0 zt).length=n0:=List.length_replicate;have f6:∀k,(Builtin.zeroCells z.cells k).size=k*F:=(fun k=>by simp[Builtin.zeroCells,f5])
     have b2:∀(n:Nat) (B:Option Addr) (cap:Nat) (E:List (List T)) (olds:List Value),a.eval s=.slice B E.length cap→cap<E.length+n0→(E.length+n0)*G≤140737488355328→
      (∀b',en.g0.own b'≠some (n,[]))→(Builtin.firstCells b9.size E.length (.slice B E.length cap)).run P w.drew=.ok olds.toArray w.drew→(∀(i:Nat) (r:List T),E[i]?=some r→r.length=F)→olds.length=E.length*F→
      (∀(i:Nat) (r:List T) (j:Nat) (x:T),E[i]?=some r→r[j]?=some x→∃v,olds[i*F+j]?=some v∧TR w g n [(i,j)] x v)→
      ∃v w',(Builtin.append_ #[t,t2] ty #[a.eval s,.int .i64 (n0:Int)]).run P w=.ok v w'∧Grown en g nm S (upd H n none) a w' F (E++List.replicate n0 zt) v:=by
      intro n B cap E olds a7 hg b3 b0 hold c6 g8 g7;have f0:n0*G≤281474976710656:=Nat.le_trans (Nat.mul_le_mul_right G (show n0≤E.length+n0 by omega)) (by omega)
      have j0:((E.length+n0:Nat):Int)≤9223372036854775807:=by
       have:(E.length+n0)*1≤(E.length+n0)*G:=Nat.mul_le_mul_left _ i7;omega
      have e1:=Go.Lib.run_append_grow_zeros (P:=P) w t t2 ty e b9 z .i64 .i64 he.under h2 hi d1 B E.length cap olds hold n0 d0 (by omega) hg j0 (by rw[d2];exact f0) (by rw[d2];exact growslice_fits hg b3)
      have hG:=zKt (ty:=ty) h he a8 e4 b0 hS (rows:=E) (olds:=olds) c6 g8 g7 (cap':=grownCap w (E.length+n0) cap e) (by rw[a6];exact grownCap_ge w _ _ e)
       (Builtin.zeroCells z.cells (grownCap w (E.length+n0) cap e- (E.length+n0))) (by rw[f6,a6])
      rw[a6] at hG;exact⟨_,_,by rw[a7];exact e1,by simpa using hG⟩
     split at hd
     ·rename_i n j7 len c1;split at hd
      ·rename_i b5;rw[b5] at c1;clear b5;split at hd
       ·rename_i j6 E hn;split at hd
        ·rename_i h8;obtain ⟨b8,b7⟩:=h8;rw[b8] at hn;rw[←b7] at c1;clear b8 b7;simp only[yaC,Prod.mk.injEq] at hd;obtain ⟨rfl,rfl,rfl,rfl⟩:=hd
         have b0:∀b',en.g0.own b'≠some (n,[]):=fun b' i8=>by
          obtain ⟨c0,h9,_⟩:=h.wd n _ b' hn i8
          cases h9
         have J:=zCg h c1;obtain ⟨hu,hR⟩:=h.roots n _ hn;rw[hx];have b3:(E.length+n0)*G≤140737488355328:=(by simpa using hb);obtain ⟨u,a7⟩:∃u,a.eval s=u:=⟨_,rfl⟩;rw[a7] at J;generalize b6:E.length=len0 at J
         have Z:∀A',u=.slice A' 0 0→E=[]→∃v w',(Builtin.append_ #[t,t2] ty #[a.eval s,.int .i64 (n0:Int)]).run P w=.ok v w'∧Grown en g nm S (upd H n none) a w' F (E++List.replicate n0 zt) v:=by
          rintro A' f8 rfl;exact b2 n A' 0 [] [] (by rw[a7,f8];rfl) (by simpa using d0) b3 b0 (by cases A'<;>simp[Builtin.firstCells,loadCells,loadCellsFrom]) (by simp) (by simp) (by simp)
         cases J with
         | view0 _ _ _ A' hu'=>exact Z A' rfl (List.eq_nil_of_length_eq_zero b6)
         | view _ _ _ _ cap hu' hbase hl hc'=>
          subst b6;rw[Nat.zero_mul] at a7 Z;rw[Nat.zero_add] at hc'
          cases hR with
          | arr0 _ hs' h0=>
           have d4:cap=0:=by
            rcases Nat.eq_zero_or_pos cap with h1|h1
            ·exact h1
            ·have:=Nat.mul_pos h1 a8;omega
           subst d4;exact Z _ rfl rfl
          | mk _ cs e' hh hon hf hr=>
           obtain ⟨f1,e9,c6,U⟩:=hf;by_cases V:E.length+n0≤cap
           ·have b4:=hS.len;rw[a6] at b4;obtain ⟨news,b1⟩:∃news,(Builtin.zeroCells z.cells n0).toList=news:=⟨_,rfl⟩;rw[b1] at hS b4
            have e8:E.length*F+0+news.length≤cs.size:=by
             rw[b4,Nat.add_zero,←Nat.add_mul,e9];exact Nat.le_trans (Nat.mul_le_mul_right _ V) hc'
            have e2:∀v∈news,v.oneCell'=true:=fun v J=>by
             obtain ⟨p,hp,rfl⟩:=List.mem_iff_getElem.1 J;rw[b4] at hp;have e7:p / F<(List.replicate n0 zt).length:=(by rw[a6];exact Nat.div_lt_of_lt_mul (by rw[Nat.mul_comm];exact hp));have hj:p%F<F:=Nat.mod_lt _ a8;have h1:=hS.row _ _ (List.getElem?_eq_getElem e7);obtain ⟨v,J,f9⟩:=hS.val (p / F) _ (p%F) _ (List.getElem?_eq_getElem e7) (List.getElem?_eq_getElem (show p%F<((List.replicate n0 zt)[p / F]).length by omega));rw[Nat.mul_comm,Nat.div_add_mod] at J;rw[(List.getElem?_eq_some_iff.1 J).2];exact f9.one
            have e0:=zCe P (g.rb n) (E.length*F) e' news 0 cs w hh e8 e2;rw[Nat.add_zero] at e0;have hw:IntKind.i64.wrap (n0:Int)=n0:=(by rw[IntKind.wrap_i64];omega);have e5:¬((n0:Int)<0):=(by omega);have f0:n0*G≤281474976710656:=Nat.le_trans (Nat.mul_le_mul_right G (show n0≤E.length+n0 by omega)) (by omega);have j1:¬(281474976710656<(n0:Int)*(b9.bytes:Int)):=(by rw[d2,←Int.natCast_mul];omega);have h5:¬(n0*F=0):=Nat.mul_ne_zero (by omega) (by omega);refine⟨.slice (some ⟨g.rb n,0,none⟩) (E.length+n0) cap,w.setRow (g.rb n) (setsA cs (E.length*F) news),?_,?_⟩
            ·rw[a7];simp[Builtin.append_,run_underlying he.under,run_underlying h2,sizeOf,typeInfo,zeroValue,hi,d1,e6,asInt,asIntOf,hw,e5,j1,h5,V,b1,zCw,e0]
            ·have:=zEm1 h a8 e4 b0 hS hh hon ⟨f1,e9,c6,U⟩ hr (by rw[a6];exact V) hc';rw[a6] at this;exact this
           ·have d3:∀p,p<E.length*F→∃v,cs[p]?=some v:=fun p hp=>⟨_,Array.getElem?_eq_getElem (by omega)⟩;obtain ⟨olds,c8,e3⟩:=zAb1 d3;refine b2 n (some ⟨g.rb n,0,none⟩) cap E olds a7 (by omega) b3 b0 ?_ U c8 (fun i r j y c7 hy=>?_)
            ·rw[e6];refine run_firstCells_some (P:=P) w.drew F E.length ⟨g.rb n,0,none⟩ E.length cap olds c8 (fun j v J=>?_);have hj:j<E.length*F:=(by rw[←c8];exact (List.getElem?_eq_some_iff.1 J).1);rw[e3 j hj] at J;rw[zCw];have:=cell_of_row w (g.rb n) j cs e' _ hh;rw[Nat.zero_add];exact this.trans J
            ·obtain ⟨v,J,i6⟩:=hr i j (.t y) (by simp[Root.get,c7,hy]);rw[f1,Nat.zero_add] at J;simp only[Root.sz] at J;have k2:j<F:=(by rw[←U i r c7];exact (List.getElem?_eq_some_iff.1 hy).1);have k3:i<E.length:=(List.getElem?_eq_some_iff.1 c7).1
             have h7:i*F+j<E.length*F:=by
              have h2:=Nat.mul_le_mul_right F (show i+1≤E.length by omega);rw[Nat.add_mul] at h2;omega
             exact⟨v,by rw[e3 _ h7];exact J,by cases i6 with|t _ _ h=>exact h⟩
        ·cases hd
       ·cases hd
      ·cases hd
     ·cases hd
    ·cases hd
   ·cases hd
  ·cases hd
 ·cases hd
end Go.SX
namespace Go.Proofs
open Go.Shelf
def Tryz.lays189_ren:Go.Shelf.Ren:=⟨fun|189=>233|125=>272|257=>271|128=>299|129=>300|294=>290|295=>291|296=>292|297=>293|298=>294|299=>295|216=>296|300=>297|301=>298|328=>310|329=>311|330=>312|331=>313|332=>314|215=>315|343=>317|n=>n,fun|28=>27|3=>3|46=>215|0=>0|51=>201|53=>247|4=>4|183=>293|182=>292|131=>110|5=>5|9=>9|218=>314|222=>318|228=>320|229=>321|n=>n,fun|n=>n⟩
theorem Tryz.lays189:Lays.n189 Tryz.prog Tryz.lays189_ren:={
 mixed:=by kernel_rfl,
 f125:=Tryz.func272.trans (congrArg some (by kernel_rfl)),
 f128:=Tryz.func299.trans (congrArg some (by kernel_rfl)),
 f129:=Tryz.func300.trans (congrArg some (by kernel_rfl)),
 f189:=Tryz.func233.trans (congrArg some (by kernel_rfl)),
 f215:=Tryz.func315.trans (congrArg some (by kernel_rfl)),
 f216:=Tryz.func296.trans (congrArg some (by kernel_rfl)),
 f257:=Tryz.func271.trans (congrArg some (by kernel_rfl)),
 f294:=Tryz.func290.trans (congrArg some (by kernel_rfl)),
 f295:=Tryz.func291.trans (congrArg some (by kernel_rfl)),
 f296:=Tryz.func292.trans (congrArg some (by kernel_rfl)),
 f297:=Tryz.func293.trans (congrArg some (by kernel_rfl)),
 f298:=Tryz.func294.trans (congrArg some (by kernel_rfl)),
 f299:=Tryz.func295.trans (congrArg some (by kernel_rfl)),
 f300:=Tryz.func297.trans (congrArg some (by kernel_rfl)),
 f301:=Tryz.func298.trans (congrArg some (by kernel_rfl)),
 f328:=Tryz.func310.trans (congrArg some (by kernel_rfl)),
 f329:=Tryz.func311.trans (congrArg some (by kernel_rfl)),
 f330:=Tryz.func312.trans (congrArg some (by kernel_rfl)),
 f331:=Tryz.func313.trans (congrArg some (by kernel_rfl)),
 f332:=Tryz.func314.trans (congrArg some (by kernel_rfl)),
 f343:=Tryz.func317.trans (congrArg some (by kernel_rfl)),
 t0:=Tryz.underlying0,
 a0:=Tryz.isAgg0,
 z0:=Tryz.sizeOf0,
 v0:=Tryz.zeroValue0,
 t3:=Tryz.underlying3,
 a3:=Tryz.isAgg3,
 z3:=Tryz.sizeOf3,
 v3:=Tryz.zeroValue3,
 t4:=Tryz.underlying4,
 a4:=Tryz.isAgg4,
 z4:=Tryz.sizeOf4,
 v4:=Tryz.zeroValue4,
 t5:=Tryz.underlying5,
 a5:=Tryz.isAgg5,
 z5:=Tryz.sizeOf5,
 v5:=Tryz.zeroValue5,
 t9:=Tryz.underlying9,
 a9:=Tryz.isAgg9,
 z9:=Tryz.sizeOf9,
 v9:=Tryz.zeroValue9,
 t28:=Tryz.underlying27,
 a28:=Tryz.isAgg27,
 z28:=Tryz.sizeOf27,
 v28:=Tryz.zeroValue27,
 t46:=Tryz.underlying215,
 a46:=Tryz.isAgg215,
 z46:=Tryz.sizeOf215,
 v46:=Tryz.zeroValue215,
 t51:=Tryz.underlying201,
 a51:=Tryz.isAgg201,
 z51:=Tryz.sizeOf201,
 v51:=Tryz.zeroValue201,
 t53:=Tryz.underlying247,
 a53:=Tryz.isAgg247,
 z53:=Tryz.sizeOf247,
 v53:=Tryz.zeroValue247,
 t131:=Tryz.underlying110,
 a131:=Tryz.isAgg110,
 z131:=Tryz.sizeOf110,
 v131:=Tryz.zeroValue110,
 t182:=Tryz.underlying292,
 a182:=Tryz.isAgg292,
 z182:=Tryz.sizeOf292,
 v182:=Tryz.zeroValue292,
 t183:=Tryz.underlying293,
 a183:=Tryz.isAgg293,
 z183:=Tryz.sizeOf293,
 v183:=Tryz.zeroValue293,
 t218:=Tryz.underlying314,
 a218:=Tryz.isAgg314,
 z218:=Tryz.sizeOf314,
 v218:=Tryz.zeroValue314,
 t222:=Tryz.underlying318,
 a222:=Tryz.isAgg318,
 z222:=Tryz.sizeOf318,
 v222:=Tryz.zeroValue318,
 t228:=Tryz.underlying320,
 a228:=Tryz.isAgg320,
 z228:=Tryz.sizeOf320,
 v228:=Tryz.zeroValue320,
 t229:=Tryz.underlying321,
 a229:=Tryz.isAgg321,
 z229:=Tryz.sizeOf321,
 v229:=Tryz.zeroValue321}
end Go.Proofs
namespace Go.SX
open Go Go.Proofs Go.RowKit
theorem zEp1 (cs:Array Value)(l:List Int)(h:l.length≤cs.size):Go.Sort.putCells (Value.int .i64) 0 l.toArray cs=setsA cs 0 (l.map (Value.int .i64)):=by
 refine Array.ext_getElem? fun k=>?_;simp only[Go.Sort.putCells,Array.getElem?_mapIdx];by_cases E:k<l.length
 ·have h1:=zPt (l.map (Value.int .i64)) cs 0 k (by simp;omega) (by simpa using E);rw[Nat.zero_add] at h1;rw[h1,List.getElem?_map,List.getElem?_eq_getElem E,Array.getElem?_eq_getElem (by omega)];simp[E]
 ·rw[zLs _ _ _ _ (.inr (by simp;omega))]
  cases cs[k]? with
  | none=>rfl
  | some v=>simp;intro F;omega
theorem zMe1 {w:World}{b:Nat}{cs:Array Value}{e:TypeId}(l:List Int)(hb:w.heap[b]?=some (.cells cs e (0,0)))(h:l.length≤cs.size)(n:Nat):
 (Go.Sort.putRow (Value.int .i64) (Go.Sort.ahead w n) b 0 l.toArray).heap=(w.setRow b (setsA cs 0 (l.map (Value.int .i64)))).heap:=by
 refine Array.ext_getElem? fun k=>?_;simp only[Go.Sort.putRow,Go.Sort.mapBlock,Go.Sort.ahead];by_cases e:k=b
 ·subst e;rw[setRow_heap w _ cs _ _ _ hb];rw[Array.getElem?_modify];simp[hb,Go.Sort.onCells,zEp1 cs l h]
 ·rw[setRow_other w _ _ _ e];rw[Array.getElem?_modify,if_neg (fun h=>e h.symm)]
theorem sortLaw:SortLaw Tryz.prog 233:=by
 refine⟨⟨Tryz.f233,Tryz.func233,rfl,rfl⟩,fun p cap w=>Any.slices_Sort_int_none Tryz.lays189 p cap w,fun b cs e cap zs w hb hl hs hz=>?_⟩;have F:b<w.heap.size:=(Array.getElem?_eq_some_iff.1 hb).1
 have U:Go.Sort.Holds (Value.int .i64) w b 0 zs.toArray:=fun j hj=>by
  have E:j<zs.length:=by simpa using hj
  have:=hz j zs[j] (List.getElem?_eq_getElem E);refine⟨?_,by simp[World.frozen?,hb]⟩;rw[Nat.zero_add];simp[World.cell?,hb,this,E]
 refine (Any.slices_Sort_int Tryz.lays189 b 0 cap zs w U F (by omega)).mono fun x w' ⟨J,n,os,G⟩=>⟨J,?_⟩;subst G;refine⟨rfl,rfl,rfl,os,?_⟩;have:=zMe1 (srtZ zs) hb (by rw[zNo];exact hl) n;simp only[Go.Sort.grow];rw[←this];rfl
end Go.SX
