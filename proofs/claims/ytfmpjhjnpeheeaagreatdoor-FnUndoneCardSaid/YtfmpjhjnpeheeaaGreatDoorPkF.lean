/-
  isPlug, canRun.
  RunRack.
  NewRing, checked, NewDelay, NewHold.
  laws.at, laws.equal.
  TraceRack: the walk.
  Plain words: a line of delay, and what FnDelayed asks of the rack's rows.
  laws.FnDelayed: the walk.
  Draws: l01New, l01Byte, l01Below, l2Small, MakeWhole. Of what is drawn only its range is told.
  Draws: l01Once, l01Int, l1Odd, FromSteps, l1Some, l1Any, l2Any, l4Samples, MakeSamples. Of what is drawn nothing is told.
  MakeWhole, laws.fresh.
  l1In, FromSteps, l1Any, l2Any, l4Samples, MakeSamples.
  spec: small functions of numbers and points; constructors of modules without slices.
  The text of a module, and how it is read: plain words.
  spec: plain words of what is drawn: finite numbers, levels, modules, what a step makes of them.
  Reading a module's text gives the module again.
  spec: tables.
  spec: PutPoint, GridTable, l2Table.
  spec: l2Nearest, NewSlicer, NewRing, NewDelay, NewHold, l4Copy, l4Take, l4Push, l5Slice, l5Copy.
  spec: l5Step, l5Module.
  spec: l1Number (whole numbers), FormatSingle (at the levels that are drawn), l4Zero, l5Uses, l5Unused, IsRing, IsModule.
  Sums and products of whole numbers; the order of a rack whose cables lead onwards.
  spec: l6Has, l6Ready, l6Order: the order is the program's.
  spec: IsRack, l6Copy, AddCable: of racks whose modules are drawn.
  spec: l6Rack, MakeRack: a rack whose modules are drawn, and which is one.
  No condition.
-/
import Derived.Laws.Strings
import Derived.Test.YtfmpjhjnpeheeaaGreatDoorPkE
set_option maxRecDepth 100000
set_option maxHeartbeats 16000000
set_option linter.unusedVariables false
set_option linter.unusedSimpArgs false
namespace Go.SX
open Go Go.Proofs Tryz
theorem zMo2 {m:Mod}(h:OkM m)(h1:isModuleF m=true):OkS m:=by
 refine⟨h,fun E=>?_,fun E=>?_⟩
 ·simp only[isModuleF,E,Int.reduceEq,yav,yau,yay,isRingF,yaG] at h1;obtain ⟨⟨⟨⟨_,_,h2,h3,_⟩,_⟩,_⟩,_⟩:=h1;exact⟨h2,h3⟩
 ·simp only[isModuleF,E,Int.reduceEq,yav,yau,yay,yaG] at h1;exact⟨h1.1.1,h1.1.2.1,h1.1.2.2.1,h1.1.2.2.2⟩
structure RackOk (ms:List Mod) (cs:List Cbl):Prop where
 ml:ms.length≤16
 cl:cs.length≤40
 ok:∀m∈ms,OkS m
 cr:∀c∈cs,0≤c.1∧c.1<ms.length∧0≤c.2∧c.2<ms.length
theorem zZg1 {ms:List Mod}{cs:List Cbl}(h:∀m∈ms,OkM m)(hr:isRackF ms cs=true):RackOk ms cs:=by
 simp only[isRackF,yay,yaG,List.all_eq_true,cabF] at hr;obtain ⟨h1,h2,h3,h4,_⟩:=hr;exact⟨h1,h2,fun m E=>zMo2 (h m E) (h3 m E),h4⟩
def plugF (n:Nat)(a b:Int):Bool:=decide (-1≤a)&&(decide (a<n)&&(decide (0≤b)&&decide (b<n)))
structure APl where
 ms:List Mod
 cs:List Cbl
 a:Int
 b:Int
noncomputable def zZk:Ct:=fam true (fun x:APl=>([.agg [.im (.sl 11 (rowsM x.ms)),.im (.sl 2 (rowsC x.cs))],.agg [.im (.int .i64 x.a),.im (.int .i64 x.b)]],[])) (fun x=>.one {val:=.c (.im (.bool (plugF x.ms.length x.a x.b)))})
theorem zRu (ms:List Mod)(cs:List Cbl)(a b:Int):zZk.run [.agg [.im (.sl 11 (rowsM ms)),.im (.sl 2 (rowsC cs))],.agg [.im (.int .i64 a),.im (.int .i64 b)]] []=some (.one {val:=.c (.im (.bool (plugF ms.length a b)))}):=by
 refine zAc (ct:=zZk) rfl ?_ ⟨ms,cs,a,b⟩;rintro ⟨a,b,c,d⟩ ⟨G,F,E,d'⟩ h;simp[zBp,zBh] at h ⊢;simp[h]
theorem zSg1:Law prog 268 zZk:=by
 refine zAf zAd hmixA func268 rfl rfl (fun ⟨ms,cs,a,b⟩=>⟨zAv rfl,by simp[f268],?_⟩);simp only;by_cases Z : -1≤a;rotate_left
 ·have E:=eq_false Z;clear Z;try simp -dsimp only[go_sem,f268,E]
  all_goals (simp only[plugF, *,yaL,yar])
 have E:=eq_true Z;by_cases V:a<(ms.length:Int);rotate_left
 ·have F:=eq_false V;clear V;try simp -dsimp only[go_sem,f268,zAj,E,F]
  all_goals (simp only[plugF, *,yaL,yaM,yar,yaN])
 have F:=eq_true V;by_cases U:0≤b;rotate_left
 ·have G:=eq_false U;clear U;try simp -dsimp only[go_sem,f268,zAj,E,F,G]
  all_goals (simp only[plugF, *,yaL,yaM,yar,yaN])
 have G:=eq_true U;by_cases J:b<(ms.length:Int);rotate_left
 ·have e4:=eq_false J;clear J;try simp -dsimp only[go_sem,f268,zAj,E,F,G,e4]
  all_goals (simp only[plugF, *,yaL,yaM,yaN])
 have e4:=eq_true J;try simp -dsimp only[go_sem,f268,zAj,E,F,G,e4]
 all_goals simp only[plugF, *,yaM,yaq]
def canRunF (ms:List Mod)(cs:List Cbl)(a b n:Int):Bool:=isRackF ms cs&&(plugF ms.length a b&&(decide (0≤n)&&decide (n≤500)))
structure ACr where
 ms:List Mod
 cs:List Cbl
 a:Int
 b:Int
 n:Int
 ml:ms.length≤sm
 cl:cs.length≤sm
 ok:∀m∈ms,OkM m
noncomputable def zZo:Ct:=fam true (fun x:ACr=>([.agg [.im (.sl 11 (rowsM x.ms)),.im (.sl 2 (rowsC x.cs))],.agg [.im (.int .i64 x.a),.im (.int .i64 x.b)],.c (.im (.int .i64 x.n))],[])) (fun x=>.one {val:=.c (.im (.bool (canRunF x.ms x.cs x.a x.b x.n)))})
theorem zCa1 {ms:List Mod}{cs:List Cbl}(h1:ms.length≤sm)(h2:cs.length≤sm)(h5:∀m∈ms,OkM m)(a b n:Int):zZo.run [.agg [.im (.sl 11 (rowsM ms)),.im (.sl 2 (rowsC cs))],.agg [.im (.int .i64 a),.im (.int .i64 b)],.c (.im (.int .i64 n))] []=some (.one {val:=.c (.im (.bool (canRunF ms cs a b n)))}):=by
 refine zAc (ct:=zZo) rfl ?_ ⟨ms,cs,a,b,n,h1,h2,h5⟩;rintro ⟨a,b,c,d,e,_,_,_⟩ ⟨J,G,F,d',E,_,_,_⟩ h;simp[zBp,zBh] at h ⊢;simp[h]
theorem zSi1:Law prog 225 zZo:=by
 refine zAf (zAa zCs (zAa zSg1 zAd)) hmixA func225 rfl rfl (fun ⟨ms,cs,a,b,n,h1,h2,F⟩=>⟨zAv rfl,by simp[f225],?_⟩)
 cases hr:isRackF ms cs with
 | false=> try simp -dsimp only[go_sem,f225,zBi h1 h2 F,canRunF,hr,yar]
 | true=>
  cases E:plugF ms.length a b with
  | false=> try simp -dsimp only[go_sem,f225,zBi h1 h2 F,zRu,canRunF,hr,E,yar,yas]
  | true=>
   by_cases G:0≤n;rotate_left
   ·have J:=eq_false G;clear G;try simp -dsimp only[go_sem,f225,zBi h1 h2 F,zRu,hr,E,J]
    all_goals (simp only[canRunF, *,yaL,yar,yaN])
   have J:=eq_true G;try simp -dsimp only[go_sem,f225,zBi h1 h2 F,zRu,hr,E,J]
   all_goals simp only[canRunF, *,yaM,yas]
def runS (O:Nat→Nat→Or)(cs:List Cbl)(a b:Int)(xs:List Pt)(ms:List Mod):Nat→List Mod×List Pt
 | 0=>(ms,[])
 | k+1=>((stepRackF (O k) cs a (xs.getD k (0,0)) (runS O cs a b xs ms k).1).1,(runS O cs a b xs ms k).2++[(stepRackF (O k) cs a (xs.getD k (0,0)) (runS O cs a b xs ms k).1).2.getD b.toNat (0,0)])
theorem zCd1 {O O':Nat→Nat→Or}{cs:List Cbl}{a b:Int}{xs:List Pt}{ms:List Mod}:∀k,(∀i,i<k→O i=O' i)→runS O cs a b xs ms k=runS O' cs a b xs ms k
 | 0,_=>rfl
 | k+1,h=>by simp only[runS,zCd1 k (fun i hi=>h i (by omega)),h k (by omega)]
theorem zPp {o:Nat→Or}{cs:List Cbl}{inn:Int}{z:Pt}{ms:List Mod}:(stepRackF o cs inn z ms).1.length=ms.length∧(stepRackF o cs inn z ms).2.length=ms.length:=by
 have h:=zVh (o:=o) (cs:=cs) (inn:=inn) (z:=z) (ordL ms cs) 0 (ms,outs0 ms);exact⟨h.1,h.2.trans (by simp[outs0])⟩
theorem zHu1 {o:Nat→Or}{cs:List Cbl}{inn:Int}{z:Pt}{ms:List Mod}(h:∀m∈ms,OkS m):∀m∈(stepRackF o cs inn z ms).1,OkS m:=
 zDm1 (ordL ms cs) 0 (ms,outs0 ms) (fun i hi=>zEs1 i hi) h
theorem zUp1 {O:Nat→Nat→Or}{cs:List Cbl}{a b:Int}{xs:List Pt}{ms:List Mod}(h:∀m∈ms,OkS m):∀k,(runS O cs a b xs ms k).1.length=ms.length∧(runS O cs a b xs ms k).2.length=k∧∀m∈(runS O cs a b xs ms k).1,OkS m
 | 0=>⟨rfl,rfl,h⟩
 | k+1=>by
  obtain ⟨h1,h2,h3⟩:=zUp1 (O:=O) (cs:=cs) (a:=a) (b:=b) (xs:=xs) h k;refine⟨?_,?_,?_⟩
  ·simp only[runS];rw[zPp.1];exact h1
  ·simp only[runS,yaw,h2,yab,List.length_nil,Nat.zero_add]
  ·simp only[runS];exact zHu1 h3
theorem zUq1 {O:Nat→Nat→Or}{cs:List Cbl}{a b:Int}{xs:List Pt}{ms:List Mod}{k:Nat}(o:Nat→Or):runS (fun i=>if i=k then o else O i) cs a b xs ms (k+1)=
 ((stepRackF o cs a (xs.getD k (0,0)) (runS O cs a b xs ms k).1).1,(runS O cs a b xs ms k).2++[(stepRackF o cs a (xs.getD k (0,0)) (runS O cs a b xs ms k).1).2.getD b.toNat (0,0)]):=by
 simp only[runS,yav];rw[zCd1 (O':=O) k (fun i hi=>by simp;omega)]
structure ARun where
 ms:List Mod
 cs:List Cbl
 a:Int
 b:Int
 xs:List Pt
 n:Int
 ml:ms.length≤sm
 cl:cs.length≤sm
 xl:xs.length≤sm
 ok:∀m∈ms,OkM m
def rNo:Res:={val:=.tup [.agg [.nil,.nil],.c .nil,.c (.im (.bool false))]}
def rRun (ms:List Mod)(cs:List Cbl)(out:List Pt):Res:={val:=.tup [.agg [.view 0 11 0 ms.length,.view 1 2 0 cs.length],.c (.view 2 1 0 out.length),.c (.im (.bool true))],roots:=[.arr 11 (tM ms),.arr 2 (tI (rowsC cs)),.arr 1 (tI (rowsZ out))]}
def oRun (ms:List Mod)(cs:List Cbl)(a b:Int)(xs:List Pt)(n:Int):Outs:=.any (Nat→Nat→Or) (fun O=>if canRunF ms cs a b n=true then rRun (runS O cs a b xs ms n.toNat).1 cs (runS O cs a b xs ms n.toNat).2 else rNo)
theorem zTn1 (l:List Pt)(x y:Nat):tI (rowsZ l)++[[T.im (.cpx .f32 x y)]]=tI (rowsZ (l++[(x,y)])):=by simp[tI,rowsZ]
theorem zNy1:tI (rowsZ [])=[]:=rfl
theorem zKn2 {sc:Bool}:OkR sc rNo:=by
 refine⟨.tup _ (fun d hd=>?_),by simp[rNo],by simp[rNo]⟩;simp only[yac,yad,or_false] at hd;rcases hd with rfl|rfl|rfl
 ·exact .inr ⟨_,rfl,fun x hx=>by simp at hx;subst hx;exact .nil⟩
 ·exact .inl ⟨_,rfl,.nil⟩
 ·exact .inl ⟨_,rfl,zBr rfl⟩
theorem zHp2 {sc:Bool}{ms:List Mod}{cs:List Cbl}{out:List Pt}:OkR sc (rRun ms cs out):=by
 refine⟨.tup _ (fun d hd=>?_),fun r hr=>?_,by simp[rRun]⟩
 ·simp only[yac,yad,or_false] at hd;rcases hd with rfl|rfl|rfl
  ·refine .inr ⟨_,rfl,fun x hx=>?_⟩;simp only[yac,yad,or_false] at hx;rcases hx with rfl|rfl<;>exact .view _ _ _ _ (by simp[rRun])
  ·exact .inl ⟨_,rfl,.view _ _ _ _ (by simp[rRun])⟩
  ·exact .inl ⟨_,rfl,zBr rfl⟩
 ·simp only[rRun,yac,yad,or_false] at hr;rcases hr with rfl|rfl|rfl
  ·exact zOg _
  ·exact zDg (zIm _)
  ·exact zDg (zCz _)
noncomputable def zTb:Ct:=fam true (fun x:ARun=>([.agg [.im (.sl 11 (rowsM x.ms)),.im (.sl 2 (rowsC x.cs))],.agg [.im (.int .i64 x.a),.im (.int .i64 x.b)],.c (.im (.sl 1 (rowsZ x.xs))),.c (.im (.int .i64 x.n))],[])) (fun x=>oRun x.ms x.cs x.a x.b x.xs x.n)
theorem zWg {ms:List Mod}{cs:List Cbl}{xs:List Pt}(h1:ms.length≤sm)(h2:cs.length≤sm)(h3:xs.length≤sm)(h5:∀m∈ms,OkM m)(a b n:Int):zTb.run [.agg [.im (.sl 11 (rowsM ms)),.im (.sl 2 (rowsC cs))],.agg [.im (.int .i64 a),.im (.int .i64 b)],.c (.im (.sl 1 (rowsZ xs))),.c (.im (.int .i64 n))] []=some (oRun ms cs a b xs n):=by
 refine zAc (ct:=zTb) rfl ?_ ⟨ms,cs,a,b,xs,n,h1,h2,h3,h5⟩;rintro ⟨a,b,c,d,e,f,_,_,_,_⟩ ⟨U,J,G,d',F,E,_,_,_,_⟩ h;simp[zBp,zBh,zAs] at h ⊢;simp[h]
theorem zYd:Law prog 168 zTb:=by
 refine zAw (zAa zSi1 (zAa zIv (zAa zRs1 (zAa zJj1 (zAa zCr1 zAd))))) hmixA func168 rfl rfl (fun ⟨ms,cs,a,b,xs,n,h1,h2,h3,h5⟩=>⟨okA (fun o=>by split;exact zHp2;exact zKn2),by simp[f168],?_⟩);simp only[oRun]
 cases hc:canRunF ms cs a b n with
 | false=>
  simp only[rNo];try simp -dsimp only[go_sem,f168,zCa1 h1 h2 h5,hc]
  refine zAh [] ?_;simp -dsimp only[go_sem]
 | true=>
  simp only[rRun];have b0:=hc;simp only[canRunF,plugF,yay,yaG] at b0;obtain ⟨hr,⟨b6,b5,Z,b4⟩,a8,b7⟩:=b0;obtain ⟨ml,cl,ok,cr⟩:=zZg1 h5 hr;try simp -dsimp only[go_sem,f168,zCa1 h1 h2 h5,hc,zIo h1 h2 h5,rRack]
  obtain ⟨N,rfl⟩:=Int.eq_ofNat_of_zero_le a8;obtain ⟨E,rfl⟩:=Int.eq_ofNat_of_zero_le Z;have hN:N≤sm:=by have:sm=16777216:=rfl;omega
  have hb:E< ms.length:=by omega
  simp only[Int.toNat_natCast];clear hc hr b6 b5 Z b4 a8 b7
  refine zAp (ι:={x:Nat×(Nat→Nat→Or)//x.1≤N}) (fun x=>⟨[(2,some (.c (.im (.sl 1 (rowsZ xs))))),(5,some (.c (.ptr 1 0 0 0))),(8,some (.c (.ptr 2 0 0 0))),(11,some (.c (.ptr 6 0 0 0))),(12,some (.c (.view 5 1 0 (runS x.1.2 cs a E xs ms x.1.1).2.length))),(23,some (.c (.im (.int .i64 (N:Int))))),(24,some (.c (.im (.int .i64 (x.1.1:Int)))))],
   [(1,some (.box [.t (.im (.int .i64 a)),.t (.im (.int .i64 (E:Int)))])),(2,some (.box [.t .nil,.t .nil])),(5,some (.arr 1 (tI (rowsZ (runS x.1.2 cs a E xs ms x.1.1).2)))),(6,some (.box [.t (.own 11 (tM (runS x.1.2 cs a E xs ms x.1.1).1)),.t (.own 2 (tI (rowsC cs)))]))],7⟩) (fun x=>N-x.1.1) ⟨(0,fun _ _=>((0,0),(0,0))),by simp⟩ ⟨[.fold 6 0 0,.fold 6 0 1],[1,2,5,6],by ((simp only[go_sem,yai,forall_eq_or_imp,forall_eq,zFd,zAg,zAo,runS,zNy1,MvRn,zTh1,zTi1])<;>(try (simp -dsimp only[go_sem,yaj,yai,yak,forall_eq_or_imp,forall_eq,zFd,zAg,zAo,runS,zNy1,MvRn,zTh1,zTi1])))<;>simp[]⟩ (fun ⟨⟨k,O⟩,hk⟩=>?_)
  have a7:=zUp1 (O:=O) (cs:=cs) (a:=a) (b:=(E:Int)) (xs:=xs) ok k;have G:=fun o=>zUq1 (O:=O) (cs:=cs) (a:=a) (b:=(E:Int)) (xs:=xs) (ms:=ms) (k:=k) o;have U:k=N→∃O',runS O' cs a E xs ms N=runS O cs a E xs ms k:=fun e=>by subst e;exact⟨O,rfl⟩
  simp only;generalize hs:runS O cs a E xs ms k=s at*;obtain ⟨M,out⟩:=s;simp only at a7 G U ⊢;obtain ⟨hM,ho,a6⟩:=a7;by_cases b8:k<N;rotate_left
  ·have hI:¬((k:Int)<(N:Int)):=(by omega);obtain ⟨O',hO⟩:=U (by omega);(try simp -dsimp only[go_sem,f168,hI,zFd,zAg,zAo]);refine zAh [] ?_;simp -dsimp only[go_sem];refine⟨O',?_⟩;rw[hO];refine⟨[7,8,5],?_,?_,?_,⟨rfl,rfl⟩,rfl⟩<;>simp[rtOk]
  have hI:((k:Int)<(N:Int))=True:=by simp;omega
  have b2:=zDh hN b8;obtain ⟨V,F⟩:∃V F,xs.getD k (0,0)=(V,F):=⟨_,_,rfl⟩;obtain ⟨F,hx⟩:=F;have J:=zIc1 (ms:=M) (cs:=cs) (by omega) h2 a6 (fun c hc=>by rw[hM];exact⟨(cr c hc).1,(cr c hc).2.1⟩) a V F;simp only[hsS] at J
  have b3:∀o,(tI (rowsZ (stepRackF o cs a (V,F) M).2))[E]?=some [T.im (.cpx .f32 ((stepRackF o cs a (V,F) M).2.getD E (0,0)).1 ((stepRackF o cs a (V,F) M).2.getD E (0,0)).2)]:=fun o=>by
   have hl:E< (stepRackF o cs a (V,F) M).2.length:=(by rw[zPp.2,hM];exact hb);rw[zTk (List.getElem?_eq_getElem hl),List.getD_eq_getElem?_getD,List.getElem?_eq_getElem hl];rfl
  have c1:((E:Int)<(M.length:Int))=True:=by simp;omega
  have c7:0≤(E:Int):=by simp
  have b9:∀q:Pt,((out++[q]).length*8≤140737488355328)=True:=fun q=>zEb (by simp;omega) (by decide);rw[hx] at G;simp only[Int.toNat_natCast] at G;try simp -dsimp only[go_sem,hI,hx,zQr1 h3 k,J,oRk,hsS,zLg2,b3,c1,c7,b2,b9,zTh1,zTi1,zAg,zAb,appendH,srcRows,List.take_succ_cons,yan,yao,yap,okT,yaq,zTn1,Int.toNat_natCast]
  with_reducible repeat' refine sl_i ?_
  intro o1;try simp -dsimp only[go_sem,yaj,f168]
  with_reducible repeat' refine ro_i ?_
  refine⟨⟨(k+1,fun i=>if i=k then o1 else O i),by simp only[];omega⟩,by simp only[];omega,[],[1,2,103,6],?_⟩;simp only[G o1]
  (simp only[go_sem,yai,MvRt,zTh1,zTi1,forall_eq_or_imp,forall_eq])
  all_goals simp[lk,zAn,zTh1,zTi1]
def zs (n:Nat):List Pt:=List.replicate n (0,0)
def rowsB (l:List Int):List (List I):=l.map fun b=>[.int .u8 b]
theorem zCv (l:List Int):(rowsB l).length=l.length:=by simp[rowsB]
theorem zEl1 {l:List Int}{k:Nat}{b:Int}(h:l[k]?=some b):(rowsB l)[k]?=some [.int .u8 b]:=by simp[rowsB,h]
theorem zMd {a b:List Int}(h:rowsB a=rowsB b):a=b:=by
 induction a generalizing b with
 | nil=>cases b with
  | nil=>rfl
  | cons y b=>simp[rowsB] at h
 | cons x a ih=>cases b with
  | nil=>simp[rowsB] at h
  | cons y b=>
   simp only[rowsB,List.map_cons,List.cons.injEq,I.int.injEq,true_and,and_true] at h;rw[h.1,ih h.2]
def rNoT:Res:={val:=.tup [.c .nil,.c (.im (.bool false))]}
def dst (n:Nat)(x:Nat→Pt):Nat→List Pt
 | 0=>List.replicate n (0,0)
 | k+1=>(dst n x k).set (k%n) (x k)
def g2 (d:Pt):Pt:=scaleF (addPt (0,0) d) 1073741824
def g3 (d:Pt):Pt:=scaleF (addPt (0,0) (g2 d)) 1056964608
abbrev LB:={l:List Int//∀b∈l,0≤b∧b<256}
noncomputable def ctLaw:Ct:=fam true (fun x:LB=>([.c (.im (.sl 1 (rowsB x.1)))],[])) (fun _=>.one {val:=.c (.im (.bool true))})
theorem zAk:rowsZ []=[]:=rfl
theorem zAq:rowsN []=[]:=rfl
theorem and255 (x:Int):0≤bitsI .and .i64 x 255∧bitsI .and .i64 x 255<256:=by
 have h:(BitVec.ofInt 64 x &&&BitVec.ofInt 64 255).toNat≤255:=by
  rw[BitVec.toNat_and];have E:(BitVec.ofInt 64 255).toNat=255:=by decide
  rw[E];exact Nat.and_le_right
 simp only[bitsI];rw[show (IntKind.i64.bits)=64 from rfl,zAi (by omega) (by omega)];omega
def hsK (l:List Int)(a h:Int):List (List B):=[[.t (.im (.sl 1 (rowsB l))),.t (.im (.int .i64 a)),.t (.im (.int .i64 h))]]
abbrev SK (l:List Int):={q:Int×Int//0≤q.1∧q.1≤l.length}
structure AKn where
 l:List Int
 len:l.length≤1048576
 by_:∀b∈l,0≤b∧b<256
 a:Int
 h:Int
 a0:0≤a
 a1:a≤l.length
theorem zDy {l m:List Int}{a b h k:Int}(e:hsK l a h=hsK m b k):l=m∧a=b∧h=k:=by
 simp only[hsK,List.cons.injEq,B.t.injEq,T.im.injEq,I.sl.injEq,I.int.injEq,true_and,and_true] at e;exact⟨zMd e.1,e.2⟩
theorem zEa {x y:AKn}(h:x.l=y.l∧x.a=y.a∧x.h=y.h):x=y:=by
 obtain ⟨l,_,_,a,h1,_,_⟩:=x;obtain ⟨m,_,_,b,k,_,_⟩:=y;obtain ⟨rfl,rfl,rfl⟩:=h;rfl
theorem okK {v:D}{l:List Int}{a h:Int}{n:Nat}(hv:OkD false 0 v):OkR false {val:=v,places:=hsK l a h}:=by
 refine⟨hv,by simp,fun c hc x hx=>?_⟩;simp only[hsK,yac,yad,or_false] at hc;subst hc;simp only[yac,yad,or_false] at hx;rcases hx with rfl|rfl|rfl<;>exact .t _ (.im _ (.inl rfl))
theorem okDi {i:I}:OkD false 0 (.c (.im i)):=.c _ (.im _ (.inl rfl))
abbrev QByte (l:List Int):={q:Int×SK l//0≤q.1∧q.1<256}
def oByte (l:List Int):Outs:=.any (QByte l) (fun q=>{val:=.c (.im (.int .i64 q.1.1)),places:=hsK l q.1.2.1.1 q.1.2.1.2})
noncomputable def zTa:Ct:=fam false (fun x:AKn=>([.c (.ptr 0 0 0 0)],hsK x.l x.a x.h)) (fun x=>oByte x.l)
theorem zHu {l:List Int}{a h:Int}(h1:l.length≤1048576)(h2:∀b∈l,0≤b∧b<256)(h3:0≤a)(h4:a≤l.length):zTa.run [.c (.ptr 0 0 0 0)] [[.t (.im (.sl 1 (rowsB l))),.t (.im (.int .i64 a)),.t (.im (.int .i64 h))]]=some (oByte l):=by
 refine zAc (ct:=zTa) rfl (fun x y h=>?_) ⟨l,h1,h2,a,h,h3,h4⟩;simp only[Prod.mk.injEq,true_and] at h;exact zEa (zDy h)
theorem zXj (l:List Int):Nonempty (QByte l)=True:=by simp only[eq_iff_iff,iff_true];exact⟨⟨(0,⟨(0,0),by simp⟩),by simp⟩⟩
theorem zMz1:Law prog 190 zTa:=by
 refine zAf zAd hmixA func190 rfl rfl (fun ⟨l,h1,h2,a,h,h3,h4⟩=>⟨okA (fun o=>okK (n:=0) okDi),by simp[f190],?_⟩);simp only[oByte,hsK];have b1:(0≤a)=True:=eq_true h3;obtain ⟨X1,a7⟩:∃x,IntKind.i64.wrap (h*6364136223846793005)=x:=⟨_,rfl⟩;obtain ⟨X2,a6⟩:∃x,IntKind.i64.wrap (X1+1442695040888963407)=x:=⟨_,rfl⟩;obtain ⟨Y1,J⟩:∃x,X2.fdiv (2^ min (Int.toNat 33) 64)=x:=⟨_,rfl⟩;obtain ⟨Y2,G⟩:∃x,X2.fdiv (2^ min (Int.toNat 45) 64)=x:=⟨_,rfl⟩;obtain ⟨Z,hZ⟩:∃x,bitsI .xor .i64 Y1 Y2=x:=⟨_,rfl⟩;obtain ⟨z1,z2⟩:=and255 Z;by_cases F:a<l.length
 ·have hI:(a<(l.length:Int))=True:=eq_true F;obtain ⟨b,hb⟩:∃b,l[a.toNat]?=some b:=⟨_,List.getElem?_eq_getElem (by omega)⟩;have E:=zEl1 hb;obtain ⟨r1,r2⟩:=h2 b (List.mem_of_getElem? hb);have hw:IntKind.i64.wrap b=b:=zAi (by omega) (by omega);obtain ⟨V,hV⟩:∃x,bitsI .and .i64 Z 255=x:=⟨_,rfl⟩;obtain ⟨U,hU⟩:∃x,IntKind.i64.wrap (V+b)=x:=⟨_,rfl⟩;obtain ⟨u1,u2⟩:=and255 U;have b0:IntKind.i64.wrap (a+1)=a+1:=zAi (by omega) (by omega);try simp -dsimp only[go_sem,f190,a7,a6,J,G,hZ,hV,hU,zCv,b1,hI,E,hw,b0,Int.reduceLT]
  with_reducible repeat' first|refine sl_i ?_|refine ro_i ?_
  exact⟨⟨(_,⟨(a+1,X2),by omega⟩),u1,u2⟩,rfl,rfl⟩
 ·have hI:(a<(l.length:Int))=False:=eq_false F;try simp -dsimp only[go_sem,f190,a7,a6,J,G,hZ,zCv,hI,Int.reduceLT]
  with_reducible repeat' first|refine sl_i ?_|refine ro_i ?_
  exact⟨⟨(_,⟨(a,X2),by omega⟩),z1,z2⟩,rfl,rfl⟩
theorem zFb2:Nonempty Int=True:=by simp only[eq_iff_iff,iff_true];exact⟨0⟩
structure ABw where
 l:List Int
 len:l.length≤1048576
 by_:∀b∈l,0≤b∧b<256
def oKNew (l:List Int):Outs:=.any Int (fun h=>{val:=.c (.ptr 0 0 0 0),roots:=[.box [.t (.im (.sl 1 (rowsB l))),.t (.im (.int .i64 0)),.t (.im (.int .i64 h))]]})
noncomputable def zZj:Ct:=fam false (fun x:ABw=>([.c (.im (.sl 1 (rowsB x.l)))],[])) (fun x=>oKNew x.l)
theorem zNv1 {x y:ABw}(h:x.l=y.l):x=y:=by
 obtain ⟨l,_,_⟩:=x;obtain ⟨m,_,_⟩:=y;obtain rfl:=h;rfl
theorem zBz1 {l:List Int}(h1:l.length≤1048576)(h2:∀b∈l,0≤b∧b<256):zZj.run [.c (.im (.sl 1 (rowsB l)))] []=some (oKNew l):=by
 refine zAc (ct:=zZj) rfl (fun x y h=>?_) ⟨l,h1,h2⟩;simp only[Prod.mk.injEq,List.cons.injEq,D.c.injEq,C.im.injEq,I.sl.injEq,true_and,and_true] at h;exact zNv1 (zMd h)
theorem okKNew {l:List Int}{h:Int}:OkR false {val:=.c (.ptr 0 0 0 0),roots:=[.box [.t (.im (.sl 1 (rowsB l))),.t (.im (.int .i64 0)),.t (.im (.int .i64 h))]]}:=by
 refine⟨.c _ (.ptr _ _ _ _ (by simp)),fun r hr=>?_,by simp⟩;simp only[yac,yad,or_false] at hr;subst hr;intro x hx;simp only[yac,yad,or_false] at hx;rcases hx with rfl|rfl|rfl<;>exact .t _ (.im _ (.inl rfl))
theorem zCp1:Law prog 55 zZj:=by
 refine zAf zAd hmixA func55 rfl rfl (fun ⟨l,h1,h2⟩=>⟨okA (fun o=>okKNew),by simp[f55],?_⟩);simp only[oKNew];obtain ⟨H,hH⟩:∃x,IntKind.i64.wrap (3223+(l.length:Int))=x:=⟨_,rfl⟩;try simp -dsimp only[go_sem,f55,zCv,hH]
 refine zAp (ι:={k:Nat//k≤l.length}×Int) (fun x=>⟨[(0,some (.c (.im (.sl 1 (rowsB l))))),(3,some (.c (.im (.int .i64 x.2)))),(4,some (.c (.im (.int .i64 (x.1.1:Int)))))],[],0⟩) (fun x=>l.length-x.1.1) (⟨0,by simp⟩,H) ⟨[],[],by ((simp only[go_sem,yai])<;>(try (simp -dsimp only[go_sem,yaj,yai])))<;>simp⟩ (fun ⟨⟨k,hk⟩,h⟩=>?_);simp only;by_cases a7:k<l.length
 ·have G:(k:Int)<(l.length:Int):=by omega
  by_cases h4:k<4000
  ·have E:(k:Int)<4000:=(by omega);obtain ⟨b,hb⟩:∃b,l[k]?=some b:=⟨_,List.getElem?_eq_getElem (by omega)⟩;have F:=zEl1 hb;have h0:0≤(k:Int):=(by simp);have J:IntKind.i64.wrap ((k:Int)+1)=(k:Int)+1:=zAi (by omega) (by omega);obtain ⟨U,hU⟩:∃x,IntKind.i64.wrap (h*1103)=x:=⟨_,rfl⟩;obtain ⟨U2,a6⟩:∃x,IntKind.i64.wrap (U+IntKind.i64.wrap b)=x:=⟨_,rfl⟩;obtain ⟨U3,Z⟩:∃x,IntKind.i64.wrap (U2+7)=x:=⟨_,rfl⟩;obtain ⟨U4,V⟩:∃x,bitsI .and .i64 U3 1073741823=x:=⟨_,rfl⟩;(try simp -dsimp only[go_sem,zCv,G,E,F,h0,J,hU,a6,Z,V,Int.toNat_natCast]);exact⟨(⟨k+1,by omega⟩,U4),by simp only[];omega,[],[],by ((simp only[go_sem,yai])<;>(try (simp -dsimp only[go_sem,yaj,yai])))<;>simp⟩
  ·have E:¬((k:Int)<4000):=(by omega);(try simp -dsimp only[go_sem,f55,zCv,G,E]);exact⟨h,[0],by simp,by simp,by simp[rtOk],rfl⟩
 ·have G:¬((k:Int)<(l.length:Int)):=by omega
  try simp -dsimp only[go_sem,f55,zCv,G]
  exact⟨h,[0],by simp,by simp,by simp[rtOk],rfl⟩
abbrev QBelow (l:List Int)(n:Int):={q:Int×SK l//0≤q.1∧q.1<n}
def oBelow (l:List Int)(n:Int):Outs:=.any (QBelow l n) (fun q=>{val:=.c (.im (.int .i64 q.1.1)),places:=hsK l q.1.2.1.1 q.1.2.1.2})
abbrev NB:={n:Int//1≤n∧n≤2147483648}
noncomputable def zDf:Ct:=fam false (fun x:AKn×NB=>([.c (.ptr 0 0 0 0),.c (.im (.int .i64 x.2.1))],hsK x.1.l x.1.a x.1.h)) (fun x=>oBelow x.1.l x.2.1)
theorem zAl {l:List Int}{a h n:Int}(h1:l.length≤1048576)(h2:∀b∈l,0≤b∧b<256)(h3:0≤a)(h4:a≤l.length)(h5:1≤n)(h6:n≤2147483648):zDf.run [.c (.ptr 0 0 0 0),.c (.im (.int .i64 n))] [[.t (.im (.sl 1 (rowsB l))),.t (.im (.int .i64 a)),.t (.im (.int .i64 h))]]=some (oBelow l n):=by
 refine zAc (ct:=zDf) rfl (fun x y h=>?_) (⟨l,h1,h2,a,h,h3,h4⟩,⟨n,h5,h6⟩);simp only[Prod.mk.injEq,List.cons.injEq,D.c.injEq,C.im.injEq,I.int.injEq,true_and,and_true] at h;exact Prod.ext (zEa (zDy h.2)) (Subtype.ext h.1)
theorem zAy (l:List Int){n:Int}(h:1≤n):Nonempty (QBelow l n)=True:=by simp only[eq_iff_iff,iff_true];exact⟨⟨(0,⟨(0,0),by simp⟩),by simp only[];omega⟩⟩
theorem zBf:Law prog 114 zDf:=by
 refine zAf (zAa zMz1 zAd) hmixA func114 rfl rfl (fun ⟨⟨l,h1,h2,a,h,h3,h4⟩,⟨n,n1,n2⟩⟩=>⟨okA (fun o=>okK (n:=0) okDi),by simp[f114],?_⟩);simp only[oBelow,hsK];have V:¬(n≤0):=by omega
 have E:(n=0)=False:=eq_false (by omega);by_cases U:n≤256
 ·have G:(n≤256)=True:=eq_true U;try simp -dsimp only[go_sem,f114,V,G,E,zHu h1 h2 h3 h4,oByte,hsK,zXj]
  rintro ⟨⟨v,⟨⟨a1,J⟩,F⟩⟩,v1,v2⟩;try simp -dsimp only[go_sem]
  exact⟨⟨(_,⟨(a1,J),F⟩),Int.tmod_nonneg _ v1,Int.tmod_lt_of_pos _ (by omega)⟩,rfl,rfl⟩
 ·have G:(n≤256)=False:=eq_false U;try simp -dsimp only[go_sem,f114,V,G,zHu h1 h2 h3 h4,oByte,hsK,zXj]
  rintro ⟨⟨x,⟨⟨a1,J⟩,F⟩⟩,x1,x2⟩;try simp -dsimp only[go_sem,zHu h1 h2 F.1 F.2,oByte,hsK,zXj]
  rintro ⟨⟨y,⟨⟨a2,k2⟩,b2⟩⟩,y1,y2⟩;try simp -dsimp only[go_sem,zHu h1 h2 b2.1 b2.2,oByte,hsK,zXj]
  rintro ⟨⟨z,⟨⟨a3,k3⟩,b3⟩⟩,z1,z2⟩;try simp -dsimp only[go_sem,f114,E,zHu h1 h2 b3.1 b3.2,oByte,hsK,zXj]
  rintro ⟨⟨w,⟨⟨a4,k4⟩,Z⟩⟩,w1,w2⟩;simp only at x1 x2 y1 y2 z1 z2 w1 w2 Z;have q1:IntKind.i64.wrap (x*16777216)=x*16777216:=zAi (by omega) (by omega);have q2:IntKind.i64.wrap (y*65536)=y*65536:=zAi (by omega) (by omega);have q3:IntKind.i64.wrap (z*256)=z*256:=zAi (by omega) (by omega);have q4:IntKind.i64.wrap (x*16777216+y*65536)=x*16777216+y*65536:=zAi (by omega) (by omega);have q5:IntKind.i64.wrap (x*16777216+y*65536+z*256)=x*16777216+y*65536+z*256:=zAi (by omega) (by omega);obtain ⟨s,hs⟩:∃s,IntKind.i64.wrap (x*16777216+y*65536+z*256+w)=s:=⟨_,rfl⟩;have s1:0≤s:=by rw[←hs,zAi (by omega) (by omega)];omega
  try simp -dsimp only[go_sem,q1,q2,q3,q4,q5,hs]
  exact⟨⟨(_,⟨(a4,k4),Z⟩),Int.tmod_nonneg _ s1,Int.tmod_lt_of_pos _ (by omega)⟩,rfl,rfl⟩
abbrev QSmall (l:List Int):={q:(Int×Int)×SK l // -3≤q.1.1∧q.1.1≤3 ∧ -3≤q.1.2∧q.1.2≤3}
def oSmall (l:List Int):Outs:=.any (QSmall l) (fun q=>{val:=.c (.im (.cpx .f32 (wI q.1.1.1) (wI q.1.1.2))),places:=hsK l q.1.2.1.1 q.1.2.1.2})
noncomputable def zSy:Ct:=fam false (fun x:AKn=>([.c (.ptr 0 0 0 0)],hsK x.l x.a x.h)) (fun x=>oSmall x.l)
theorem zEz {l:List Int}{a h:Int}(h1:l.length≤1048576)(h2:∀b∈l,0≤b∧b<256)(h3:0≤a)(h4:a≤l.length):zSy.run [.c (.ptr 0 0 0 0)] [[.t (.im (.sl 1 (rowsB l))),.t (.im (.int .i64 a)),.t (.im (.int .i64 h))]]=some (oSmall l):=by
 refine zAc (ct:=zSy) rfl (fun x y h=>?_) ⟨l,h1,h2,a,h,h3,h4⟩;simp only[Prod.mk.injEq,true_and] at h;exact zEa (zDy h)
theorem zKp (l:List Int):Nonempty (QSmall l)=True:=by simp only[eq_iff_iff,iff_true];exact⟨⟨((0,0),⟨(0,0),by simp⟩),by simp⟩⟩
theorem zIb:Law prog 58 zSy:=by
 refine zAf (zAa zBf zAd) hmixA func58 rfl rfl (fun ⟨l,h1,h2,a,h,h3,h4⟩=>⟨okA (fun o=>okK (n:=0) okDi),by simp[f58],?_⟩);simp only[oSmall,hsK];try simp -dsimp only[go_sem,f58,zAl h1 h2 h3 h4 (n:=7) (by decide) (by decide),oBelow,hsK,zAy l (n:=7) (by decide)]
 rintro ⟨⟨u,⟨⟨a1,k1⟩,J⟩⟩,G,F⟩;have Z:IntKind.i64.wrap (u-3)=u-3:=zAi (by simp only at G;omega) (by simp only at F;omega);try simp -dsimp only[go_sem,f58,Z,zAl h1 h2 J.1 J.2 (n:=7) (by decide) (by decide),oBelow,hsK,zAy l (n:=7) (by decide)]
 rintro ⟨⟨v,⟨⟨a2,U⟩,b2⟩⟩,E,v2⟩;have V:IntKind.i64.wrap (v-3)=v-3:=zAi (by simp only at E;omega) (by simp only at v2;omega);try simp -dsimp only[go_sem,V]
 exact⟨⟨((u-3,v-3),⟨(a2,U),b2⟩),by simp only at G F E v2 ⊢;omega⟩,rfl,rfl,rfl⟩
def oOnce (l:List Int):Outs:=.any (Bool×SK l) (fun q=>{val:=.c (.im (.bool q.1)),places:=hsK l q.2.1.1 q.2.1.2})
noncomputable def zSz:Ct:=fam false (fun x:AKn×NB=>([.c (.ptr 0 0 0 0),.c (.im (.int .i64 x.2.1))],hsK x.1.l x.1.a x.1.h)) (fun x=>oOnce x.1.l)
theorem zCu {l:List Int}{a h n:Int}(h1:l.length≤1048576)(h2:∀b∈l,0≤b∧b<256)(h3:0≤a)(h4:a≤l.length)(h5:1≤n)(h6:n≤2147483648):zSz.run [.c (.ptr 0 0 0 0),.c (.im (.int .i64 n))] [[.t (.im (.sl 1 (rowsB l))),.t (.im (.int .i64 a)),.t (.im (.int .i64 h))]]=some (oOnce l):=by
 refine zAc (ct:=zSz) rfl (fun x y h=>?_) (⟨l,h1,h2,a,h,h3,h4⟩,⟨n,h5,h6⟩);simp only[Prod.mk.injEq,List.cons.injEq,D.c.injEq,C.im.injEq,I.int.injEq,true_and,and_true] at h;exact Prod.ext (zEa (zDy h.2)) (Subtype.ext h.1)
theorem zHz (l:List Int):Nonempty (Bool×SK l)=True:=by simp only[eq_iff_iff,iff_true];exact⟨(true,⟨(0,0),by simp⟩)⟩
theorem zFc:Law prog 134 zSz:=by
 refine zAf (zAa zBf zAd) hmixA func134 rfl rfl (fun ⟨⟨l,h1,h2,a,h,h3,h4⟩,⟨n,E,F⟩⟩=>⟨okA (fun o=>okK (n:=0) okDi),by simp[f134],?_⟩);simp only[oOnce,hsK];try simp -dsimp only[go_sem,f134,zAl h1 h2 h3 h4 E F,oBelow,hsK,zAy l E]
 rintro ⟨⟨v,⟨⟨a1,G⟩,J⟩⟩,U,v2⟩;try simp -dsimp only[go_sem]
 all_goals exact⟨(_,⟨(a1,G),J⟩),rfl,rfl⟩
def oInt (l m:List Int):Outs:=.any ({x:Int//x∈m}×SK l) (fun q=>{val:=.c (.im (.int .i64 q.1.1)),places:=hsK l q.2.1.1 q.2.1.2})
abbrev LN:={l:List Int//1≤l.length∧l.length≤1000}
noncomputable def zKc:Ct:=fam false (fun x:AKn×LN=>([.c (.ptr 0 0 0 0),.c (.im (.sl 1 (rowsN x.2.1)))],hsK x.1.l x.1.a x.1.h)) (fun x=>oInt x.1.l x.2.1)
theorem zHl {l:List Int}{a h:Int}{m:List Int}(h1:l.length≤1048576)(h2:∀b∈l,0≤b∧b<256)(h3:0≤a)(h4:a≤l.length)(h5:1≤m.length)(h6:m.length≤1000):zKc.run [.c (.ptr 0 0 0 0),.c (.im (.sl 1 (rowsN m)))] [[.t (.im (.sl 1 (rowsB l))),.t (.im (.int .i64 a)),.t (.im (.int .i64 h))]]=some (oInt l m):=by
 refine zAc (ct:=zKc) rfl (fun x y h=>?_) (⟨l,h1,h2,a,h,h3,h4⟩,⟨m,h5,h6⟩);simp only[Prod.mk.injEq,List.cons.injEq,D.c.injEq,C.im.injEq,I.sl.injEq,true_and,and_true] at h;exact Prod.ext (zEa (zDy h.2)) (Subtype.ext (zWp h.1))
theorem zJp:(zKc.sc=true)=False:=by simp[zKc,fam]
theorem zSe (l:List Int){m:List Int}(h:1≤m.length):Nonempty ({x:Int//x∈m}×SK l)=True:=by
 simp only[eq_iff_iff,iff_true];obtain ⟨x,hx⟩:=List.exists_mem_of_length_pos (show 0<m.length by omega);exact⟨(⟨x,hx⟩,⟨(0,0),by simp⟩)⟩
theorem zSl:Law prog 137 zKc:=by
 refine zAf (zAa zBf zAd) hmixA func137 rfl rfl (fun ⟨⟨l,h1,h2,a,h,h3,h4⟩,⟨m,n1,n2⟩⟩=>⟨okA (fun o=>okK (n:=0) okDi),by simp[f137],?_⟩);simp only[oInt,hsK];try simp -dsimp only[go_sem,f137,zAe,zAl h1 h2 h3 h4 (n:=(m.length:Int)) (by omega) (by omega),oBelow,hsK,zAy l (n:=(m.length:Int)) (by omega)]
 rintro ⟨⟨v,⟨⟨a1,J⟩,Z⟩⟩,F,v2⟩;obtain ⟨V,rfl⟩:=Int.eq_ofNat_of_zero_le F;simp only at v2;have U:V<m.length:=by omega
 obtain ⟨x,hx⟩:∃x,m[V]?=some x:=⟨_,List.getElem?_eq_getElem U⟩;have E:=zEx hx;have G:0≤(V:Int):=by simp
 try simp -dsimp only[go_sem,f137,E,G,Int.toNat_natCast]
 exact⟨(⟨x,List.mem_of_getElem? hx⟩,⟨(a1,J),Z⟩),rfl,rfl⟩
theorem zEf2 (l:List Pt):MvR false (.arr 1 (tI (rowsZ l)))=True:=eq_true (zBv _ _)
abbrev QFresh:={l:List Int//l.length≤601∧∀b∈l,0≤b∧b<256}
def oFresh:Outs:=.any QFresh (fun q=>rNew 1 (rowsB q.1))
abbrev ABs:=ABw×{s:Int//0≤s∧s≤1000}
noncomputable def zGw1:Ct:=fam true (fun x:ABs=>([.c (.im (.sl 1 (rowsB x.1.l))),.c (.im (.int .i64 x.2.1))],[])) (fun _=>oFresh)
theorem zUk1 {l:List Int}(h1:l.length≤1048576)(h2:∀b∈l,0≤b∧b<256){s:Int}(h3:0≤s)(h4:s≤1000):zGw1.run [.c (.im (.sl 1 (rowsB l))),.c (.im (.int .i64 s))] []=some oFresh:=by
 refine zAc (ct:=zGw1) rfl (fun x y h=>?_) (⟨l,h1,h2⟩,⟨s,h3,h4⟩);simp only[Prod.mk.injEq,List.cons.injEq,D.c.injEq,C.im.injEq,I.sl.injEq,I.int.injEq,true_and,and_true] at h;exact Prod.ext (zNv1 (zMd h.1)) (Subtype.ext h.2)
theorem zBz2:Nonempty QFresh=True:=by simp only[eq_iff_iff,iff_true];exact⟨⟨[],by simp⟩⟩
theorem zAs2 (l:List Int):∀r∈rowsB l,∀i∈r,scI i=true:=by
 intro r hr i hi;simp only[rowsB,List.mem_map] at hr;obtain ⟨p,_,rfl⟩:=hr;simp at hi;subst hi;rfl
theorem zEh2 (l:List Int):MvR false (.arr 1 (tI (rowsB l)))=True:=eq_true (zBv _ _)
theorem zHc2 (l:List Int)(x:Int):tI (rowsB l)++[[T.im (.int .u8 x)]]=tI (rowsB (l++[x])):=by simp[tI,rowsB]
theorem zEj2 (x:Int):0≤IntKind.u8.wrap x∧IntKind.u8.wrap x<256:=by
 show 0≤x%256∧x%256<256;omega
theorem zWz1:Law prog 17 zGw1:=by
 refine zAf zAd hmixA func17 rfl rfl (fun ⟨⟨l,h1,h2⟩,⟨s,s1,s2⟩⟩=>⟨okA (fun o=>zSc (zAs2 _)),by simp[f17],?_⟩);simp only[oFresh,rNew];obtain ⟨e,he⟩:∃e,IntKind.u8.wrap s=e:=⟨_,rfl⟩;have U:=zEj2 s;rw[he] at U;try simp -dsimp only[go_sem,f17,he]
 refine zAp (ι:={x:List Int×Nat//x.1.length=x.2+1∧x.2≤600∧x.2≤l.length∧∀b∈x.1,0≤b∧b<256}) (fun x=>⟨[(0,some (.c (.im (.sl 1 (rowsB l))))),(1,some (.c (.im (.int .i64 s)))),(5,some (.c (.view 0 1 0 x.1.1.length))),(6,some (.c (.im (.int .i64 (x.1.2:Int)))))],
  [(0,some (.arr 1 (tI (rowsB x.1.1))))],1⟩) (fun x=>l.length-x.1.2) ⟨([e],0),by simp;exact U⟩ ⟨[],[0],by ((simp only[go_sem,yai,zEh2])<;>(try (simp -dsimp only[go_sem,yaj,yai,zEh2])))<;>simp[rowsB,tI]⟩ (fun ⟨⟨out,k⟩,hz,a8,a7,E⟩=>?_)
 simp only at hz a8 a7 E ⊢;by_cases b8:k<l.length;rotate_left
 ·have Z:¬((k:Int)<(l.length:Int)):=by omega
  try simp -dsimp only[go_sem,f17,zCv,Z]
  exact⟨⟨out,by omega,E⟩,[0],by simp,by simp,by simp[rtOk],rfl⟩
 have Z:(k:Int)<(l.length:Int):=by omega
 by_cases h6:k<600;rotate_left
 ·have hJ:¬((k:Int)<600):=by omega
  try simp -dsimp only[go_sem,f17,zCv,Z,hJ]
  exact⟨⟨out,by omega,E⟩,[0],by simp,by simp,by simp[rtOk],rfl⟩
 have hJ:(k:Int)<600:=by omega
 obtain ⟨b,hb⟩:∃b,l[k]?=some b:=⟨_,List.getElem?_eq_getElem (by omega)⟩;have J:=zEl1 hb;have h0:0≤(k:Int):=by simp
 have h7:((7:Int)=0)=False:=by simp
 have a6:IntKind.i64.wrap ((k:Int)+1)=(k:Int)+1:=zAi (by omega) (by omega);obtain ⟨U1,b4⟩:∃x,IntKind.i64.wrap (IntKind.i64.wrap b*3)=x:=⟨_,rfl⟩;obtain ⟨U2,b3⟩:∃x,IntKind.i64.wrap ((k:Int).tmod 7+1)=x:=⟨_,rfl⟩;obtain ⟨U3,b2⟩:∃x,IntKind.i64.wrap (s*U2)=x:=⟨_,rfl⟩;obtain ⟨U4,b1⟩:∃x,IntKind.i64.wrap (U1+U3)=x:=⟨_,rfl⟩;obtain ⟨U5,V⟩:∃x,IntKind.u8.wrap U4=x:=⟨_,rfl⟩;have G:=zEj2 U4;rw[V] at G;have b0:((out.length+1)*1≤140737488355328)=True:=zEb (by have:sm=16777216:=rfl;omega) (by decide);try simp -dsimp only[go_sem,zCv,Z,hJ,J,h0,h7,a6,b4,b3,b2,b1,V,b0,zHc2,zAg,appendH,srcRows,List.take_succ_cons,yan,yao,yap,okT,yaq,yaw,Int.toNat_natCast]
 refine⟨⟨(out++[U5],k+1),by simp;omega,by simp only[];omega,by simp only[];omega,fun p F=>?_⟩,by simp only[];omega,[],[2],by ((simp only[go_sem,yai,zEh2])<;>(try (simp -dsimp only[go_sem,yaj,yai,zEh2])))<;>simp[]⟩;rcases List.mem_append.1 F with F|F
 ·exact E p F
 ·simp at F;subst F;exact G
noncomputable def zNm1:Ct:=fam true (fun x:Int×Int×Int=>([.c (.im (.int .i64 x.1)),.c (.im (.int .i64 x.2.1)),.c (.im (.int .i64 x.2.2))],[])) (fun x=>.one {val:=.c (.im (.bool (decide (x.2.1≤x.1)&&decide (x.1≤x.2.2))))})
theorem zBx (k a b:Int):zNm1.run [.c (.im (.int .i64 k)),.c (.im (.int .i64 a)),.c (.im (.int .i64 b))] []=some (.one {val:=.c (.im (.bool (decide (a≤k)&&decide (k≤b))))}):=zAc (ct:=zNm1) rfl (by
 intro a b h
 simp only[Prod.mk.injEq,List.cons.injEq,D.c.injEq,C.im.injEq,I.int.injEq,true_and,and_true] at h
 (try simp only[yaE])
 (try simp only[zAs,zAx] at h)
 simp_all) (k,a,b)
theorem zIu:Law prog 59 zNm1:=by
 refine zAf zAd hmixA func59 rfl rfl (fun ⟨k,a,b⟩=>⟨zAv rfl,by simp[f59],?_⟩);simp only;by_cases h1:a≤k
 ·have E:=eq_true h1;by_cases h2:k≤b
  ·have F:=eq_true h2;clear h1 h2;try simp -dsimp only[go_sem,f59,E,F,yaq]
  ·have F:=eq_false h2;clear h1 h2;try simp -dsimp only[go_sem,f59,E,F,yaN]
 ·have E:=eq_false h1;clear h1;try simp -dsimp only[go_sem,f59,E,yar]
abbrev KR:={k:Int // -4294967296≤k∧k≤4294967296}
def pick5:List Int:=[0,8388608,-8388608,1065353216,2139095019]
theorem zVb1 {x:Int}(h:x∈pick5) : -8388608≤x∧x≤2139095019:=by
 simp only[pick5,yac,yad,or_false] at h;omega
def finS (x:Nat):Bool:=fcmp .eql .f32 (fop .sub .f32 x x) 0
noncomputable def zZi:Ct:=fam true (fun x:Nat=>([.c (.im (.flt .f32 x))],[])) (fun x=>.one {val:=.c (.im (.bool (finS x)))})
theorem zCq (x:Nat):zZi.run [.c (.im (.flt .f32 x))] []=some (.one {val:=.c (.im (.bool (finS x)))}):=zBd (by
 intro a b h
 simp only[Prod.mk.injEq,List.cons.injEq,D.c.injEq,C.im.injEq,I.flt.injEq,true_and,and_true] at h
 (try simp only[yaE,yah])
 (try simp only[zAs,zAx] at h)
 simp_all) x
theorem zMj:Law prog 131 zZi:=by
 refine zAf zAd hmixA func131 rfl rfl (fun x=>⟨zAv rfl,by simp[f131],?_⟩);simp only[finS];try simp -dsimp only[go_sem,f131]
noncomputable def zZf:Ct:=fam true (fun x:Pt=>([.c (.im (.cpx .f32 x.1 x.2))],[])) (fun x=>.one {val:=.c (.im (.bool (finS x.1&&finS x.2)))})
theorem zTo (x y:Nat):zZf.run [.c (.im (.cpx .f32 x y))] []=some (.one {val:=.c (.im (.bool (finS x&&finS y)))}):=zBd (by
 intro a b h
 simp only[Prod.mk.injEq,List.cons.injEq,D.c.injEq,C.im.injEq,I.cpx.injEq,true_and,and_true] at h
 (try simp only[yaE])
 (try simp only[zAs,zAx] at h)
 simp_all) (x,y)
theorem zJq1:Law prog 130 zZf:=by
 refine zAf (zAa zMj zAd) hmixA func130 rfl rfl (fun x=>⟨zAv rfl,by simp[f130],?_⟩);try simp -dsimp only[go_sem,f130,zCq]
 repeat' ((first|(with_reducible refine gS_d ?_ ?_)|(with_reducible refine zQx ?_ ?_)|(with_reducible refine gS_i ?_ ?_))<;>intro E<;>(try simp -dsimp (maxSteps:=1000000) only[go_sem,yaj,f130,zCq, *]))
 all_goals simp_all
theorem zCo2:Law prog 195 zGk:=by
 refine zAf zAd hmixA func195 rfl rfl (fun x=>⟨okA (fun o=>zVj1 rfl),by simp[f195],?_⟩);simp only[oMul,mulPt,mulRe,mulIm];try simp -dsimp only[go_sem,f195,zSr,zRg]
 exact fun a b=>⟨(a,b),rfl,rfl⟩
theorem zWq1:Law prog 278 zLf:=by
 refine zAf zAd hmixA func278 rfl rfl (fun x=>⟨zAv rfl,by simp[f278],?_⟩);simp only[distF];try simp -dsimp only[go_sem,f278]
def absS (x:Nat):Nat:=if fcmp .lss .f32 x 0=true then Op.negFloat .f32 x else if fcmp .eql .f32 x 0=true then 0 else x
noncomputable def zQc1:Ct:=fam true (fun x:Nat=>([.c (.im (.flt .f32 x))],[])) (fun x=>.one {val:=.c (.im (.flt .f32 (absS x)))})
theorem zHs (x:Nat):zQc1.run [.c (.im (.flt .f32 x))] []=some (.one {val:=.c (.im (.flt .f32 (absS x)))}):=zBd (by
 intro a b h
 simp only[Prod.mk.injEq,List.cons.injEq,D.c.injEq,C.im.injEq,I.flt.injEq,true_and,and_true] at h
 (try simp only[yaE,yah])
 (try simp only[zAs,zAx] at h)
 simp_all) x
theorem zXx:Law prog 132 zQc1:=by
 refine zAf zAd hmixA func132 rfl rfl (fun x=>⟨zAv rfl,by simp[f132],?_⟩);simp only[absS]
 cases h:fcmp .lss .f32 x 0 with
 | true=> try simp -dsimp only[go_sem,f132,h]
 | false=>
  cases h2:fcmp .eql .f32 x 0 with
  | true=> try simp -dsimp only[go_sem,f132,h,h2]
  | false=> try simp -dsimp only[go_sem,f132,h,h2]
theorem zPs1 (k:FloatKind)(x y:Nat):fcmp .neq k x y=!(fcmp .eql k x y):=rfl
def subnS (x:Nat):Bool:=!(fcmp .eql .f32 x 0)&&fcmp .lss .f64 (w64 (absS x)) 4039728865751334912
def flushS (x:Nat):Nat:=if subnS x=true then fop .mul .f32 x 0 else x
noncomputable def zQa1:Ct:=fam true (fun x:Nat=>([.c (.im (.flt .f32 x))],[])) (fun x=>.one {val:=.c (.im (.bool (subnS x)))})
theorem zId1 (x:Nat):zQa1.run [.c (.im (.flt .f32 x))] []=some (.one {val:=.c (.im (.bool (subnS x)))}):=zBd (by
 intro a b h
 simp only[Prod.mk.injEq,List.cons.injEq,D.c.injEq,C.im.injEq,I.flt.injEq,true_and,and_true] at h
 (try simp only[yaE,yah])
 (try simp only[zAs,zAx] at h)
 simp_all) x
theorem zWm1:Law prog 248 zQa1:=by
 refine zAf (zAa zXx zAd) hmixA func248 rfl rfl (fun x=>⟨zAv rfl,by simp[f248],?_⟩);simp only[subnS]
 cases h:fcmp .eql .f32 x 0 with
 | true=>
  have h':fcmp .neq .f32 x 0=false:=by rw[zPs1,h];rfl
  try simp -dsimp only[go_sem,f248,h']
  try simp[]
 | false=>
  have h':fcmp .neq .f32 x 0=true:=by rw[zPs1,h];rfl
  try simp -dsimp only[go_sem,f248,h',zHs,zSr]
  try simp[]
noncomputable def zKv1:Ct:=fam true (fun x:Nat=>([.c (.im (.flt .f32 x))],[])) (fun x=>.one {val:=.c (.im (.flt .f32 (flushS x)))})
theorem zQv1 (x:Nat):zKv1.run [.c (.im (.flt .f32 x))] []=some (.one {val:=.c (.im (.flt .f32 (flushS x)))}):=zBd (by
 intro a b h
 simp only[Prod.mk.injEq,List.cons.injEq,D.c.injEq,C.im.injEq,I.flt.injEq,true_and,and_true] at h
 (try simp only[yaE,yah])
 (try simp only[zAs,zAx] at h)
 simp_all) x
theorem zRw1:Law prog 196 zKv1:=by
 refine zAf (zAa zWm1 zAd) hmixA func196 rfl rfl (fun x=>⟨zAv rfl,by simp[f196],?_⟩);simp only[flushS]
 cases h:subnS x with
 | true=> try simp -dsimp only[go_sem,f196,zId1,h]
 | false=> try simp -dsimp only[go_sem,f196,zId1,h]
def rM (m:Mod):Res:={val:=.agg (modC m)}
theorem zMj1 {m:Mod}:OkR false (rM m):=by
 refine⟨.agg _ (fun x hx=>?_),by simp[rM],by simp[rM]⟩;simp only[modC,yac,yad,or_false] at hx;rcases hx with rfl|rfl|rfl|rfl|rfl|rfl|rfl|rfl|rfl|rfl|rfl<;>exact .im _ (.inl rfl)
def mSum':Mod:=⟨5,(0,0),(0,0),0,[],0,0,[],[],0,0⟩
def mSrc' (t s:Pt):Mod:=⟨1,t,s,0,[],0,0,[],[],0,0⟩
def mMix' (t:Pt):Mod:=⟨2,t,(1065353216,0),0,[],0,0,[],[],0,0⟩
def mGain' (l:Nat):Mod:=⟨3,(0,0),(0,0),l,[],0,0,[],[],0,0⟩
def mMeter':Mod:=⟨7,(0,0),(0,0),0,[],0,0,[],[],0,0⟩
noncomputable def zYp1:Ct:=fam false (fun _:Unit=>([],[])) (fun _=>.one (rM mSum'))
theorem zAv2:zYp1.run [] []=some (.one (rM mSum')):=zBd (args:=fun _:Unit=>([],[])) (fun _ _ _=>rfl) ()
theorem zCn2:Law prog 35 zYp1:=by
 refine zAw zAd hmixA func35 rfl rfl (fun _=>⟨okO zMj1,by simp[f35],?_⟩);simp only[mSum',rM,modC,zAk,zAq];try simp -dsimp only[go_sem,f35]
 refine zAh [.nilI 1 [.b 0 0 4,.b 0 0 7,.b 0 0 8]] ?_;simp -dsimp only[go_sem]
noncomputable def zKu1:Ct:=fam false (fun _:Unit=>([],[])) (fun _=>.one (rM mMeter'))
theorem zQu1:zKu1.run [] []=some (.one (rM mMeter')):=zBd (args:=fun _:Unit=>([],[])) (fun _ _ _=>rfl) ()
theorem zRv1:Law prog 121 zKu1:=by
 refine zAw zAd hmixA func121 rfl rfl (fun _=>⟨okO zMj1,by simp[f121],?_⟩);simp only[mMeter',rM,modC,zAk,zAq];try simp -dsimp only[go_sem,f121]
 refine zAh [.nilI 1 [.b 0 0 4,.b 0 0 7,.b 0 0 8]] ?_;simp -dsimp only[go_sem]
noncomputable def zDe1:Ct:=fam false (fun x:Pt×Pt=>([.c (.im (.cpx .f32 x.1.1 x.1.2)),.c (.im (.cpx .f32 x.2.1 x.2.2))],[])) (fun x=>.one (rM (mSrc' x.1 x.2)))
theorem zVs (a b c d:Nat):zDe1.run [.c (.im (.cpx .f32 a b)),.c (.im (.cpx .f32 c d))] []=some (.one (rM (mSrc' (a,b) (c,d)))):=zBd (by
 intro a b h
 simp only[Prod.mk.injEq,List.cons.injEq,D.c.injEq,C.im.injEq,I.cpx.injEq,true_and,and_true] at h
 (try simp only[yaE])
 (try simp only[zAs,zAx] at h)
 simp_all) ((a,b),(c,d))
theorem zXs:Law prog 87 zDe1:=by
 refine zAw zAd hmixA func87 rfl rfl (fun x=>⟨okO zMj1,by simp[f87],?_⟩);simp only[mSrc',rM,modC,zAk,zAq];try simp -dsimp only[go_sem,f87]
 refine zAh [.nilI 1 [.b 0 0 4,.b 0 0 7,.b 0 0 8]] ?_;simp -dsimp only[go_sem]
noncomputable def zKt1:Ct:=fam false (fun x:Pt=>([.c (.im (.cpx .f32 x.1 x.2))],[])) (fun x=>.one (rM (mMix' x)))
theorem zQt1 (a b:Nat):zKt1.run [.c (.im (.cpx .f32 a b))] []=some (.one (rM (mMix' (a,b)))):=zBd (by
 intro a b h
 simp only[Prod.mk.injEq,List.cons.injEq,D.c.injEq,C.im.injEq,I.cpx.injEq,true_and,and_true] at h
 (try simp only[yaE])
 (try simp only[zAs,zAx] at h)
 simp_all) (a,b)
theorem zRu1:Law prog 116 zKt1:=by
 refine zAw zAd hmixA func116 rfl rfl (fun x=>⟨okO zMj1,by simp[f116],?_⟩);simp only[mMix',rM,modC,zAk,zAq];try simp -dsimp only[go_sem,f116]
 refine zAh [.nilI 1 [.b 0 0 4,.b 0 0 7,.b 0 0 8]] ?_;simp -dsimp only[go_sem]
noncomputable def zQb1:Ct:=fam false (fun x:Nat=>([.c (.im (.flt .f32 x))],[])) (fun x=>.one (rM (mGain' x)))
theorem zUe1 (a:Nat):zQb1.run [.c (.im (.flt .f32 a))] []=some (.one (rM (mGain' a))):=zBd (by
 intro a b h
 simp only[Prod.mk.injEq,List.cons.injEq,D.c.injEq,C.im.injEq,I.flt.injEq,true_and,and_true] at h
 (try simp only[yaE,yah])
 (try simp only[zAs,zAx] at h)
 simp_all) a
theorem zWp1:Law prog 117 zQb1:=by
 refine zAw zAd hmixA func117 rfl rfl (fun x=>⟨okO zMj1,by simp[f117],?_⟩);simp only[mGain',rM,modC,zAk,zAq];try simp -dsimp only[go_sem,f117]
 refine zAh [.nilI 1 [.b 0 0 4,.b 0 0 7,.b 0 0 8]] ?_;simp -dsimp only[go_sem]
end Go.SX
namespace Go.SX
open Go Ieee
def nanT:Txt:=[110,97,110]
def infT:Txt:=[105,110,102]
def ninfT:Txt:=[45,105,110,102]
def sglT (w:Nat):Txt:=if 2139095040<w%2147483648 then nanT else if w%2147483648=2139095040 then (if 2147483648≤w then ninfT else infT) else fmtT w
noncomputable def sglP (s:Txt):Nat×Bool:=if s=nanT then (qn .f32,true) else if s=infT then (2139095040,true) else if s=ninfT then (4286578688,true) else match prsT s with
 | some w=>(w,true)
 | none=>(0,false)
def sourceT:Txt:=[115,111,117,114,99,101]
def mixerT:Txt:=[109,105,120,101,114]
def gainT:Txt:=[103,97,105,110]
def delayT:Txt:=[100,101,108,97,121]
def sumT:Txt:=[115,117,109]
def slicerT:Txt:=[115,108,105,99,101,114]
def meterT:Txt:=[109,101,116,101,114]
def holdT:Txt:=[104,111,108,100]
def ptW (p:Pt):List Txt:=[sglT p.1,sglT p.2]
def ptsW (l:List Pt):List Txt:=l.flatMap ptW
def tabW:List Pt→List Int→List Txt
 | p::ps,n::ns=>sglT p.1::sglT p.2::Lib.itoa n::tabW ps ns
 | _,_=>[]
def nameT (k:Int):Txt:=if k=1 then sourceT else if k=2 then mixerT else if k=3 then gainT else if k=4 then delayT else if k=5 then sumT else if k=6 then slicerT else if k=7 then meterT else holdT
def restW (m:Mod):List Txt:=
 if m.kind=1 then ptW m.turn++ptW m.state
 else if m.kind=2 then ptW m.turn++ptW m.state
 else if m.kind=3 then [sglT m.level]
 else if m.kind=4 then Lib.itoa m.rat::ptsW m.store
 else if m.kind=5 then []
 else if m.kind=6 then Lib.itoa m.count::tabW m.pts m.lab
 else if m.kind=7 then [sglT m.level]
 else Lib.itoa m.count::Lib.itoa m.left::ptW m.state
def behind (ws:List Txt):Txt:=ws.flatMap fun p=>32::p
def fmtM (m:Mod):Txt:=if isModuleF m then nameT m.kind++behind (restW m) else []
noncomputable def rdS (ps:List Txt)(bad:Bool):Nat×List Txt×Bool:=match ps with
 | []=>(0,[],true)
 | p::t=>((sglP p).1,t,bad||!(sglP p).2)
def rdI (ps:List Txt)(bad:Bool):Int×List Txt×Bool:=match ps with
 | []=>(0,[],true)
 | p::t=>((numF p).1,t,bad||!(numF p).2)
noncomputable def rdP (ps:List Txt)(bad:Bool):Pt×List Txt×Bool:=
 (((rdS ps bad).1,(rdS (rdS ps bad).2.1 (rdS ps bad).2.2).1),(rdS (rdS ps bad).2.1 (rdS ps bad).2.2).2)
theorem zUy1 (ps:List Txt)(bad:Bool):(rdS ps bad).2.1.length=ps.length-1:=by cases ps<;>simp[rdS]
theorem zGg (ps:List Txt)(bad:Bool):(rdI ps bad).2.1.length=ps.length-1:=by cases ps<;>simp[rdI]
theorem zHb (ps:List Txt)(bad:Bool):(rdP ps bad).2.1.length=ps.length-2:=by simp only[rdP,zUy1];omega
noncomputable def dlyP (ps:List Txt)(bad:Bool):List Pt×List Txt×Bool:=
 if h:ps≠[]∧bad=false then ((rdP ps bad).1::(dlyP (rdP ps bad).2.1 (rdP ps bad).2.2).1,(dlyP (rdP ps bad).2.1 (rdP ps bad).2.2).2) else ([],ps,bad)
termination_by ps.length
decreasing_by all_goals (rw [zHb]; have : 0 < ps.length := List.length_pos_iff.2 h.1; omega)
noncomputable def slcP (ps:List Txt)(bad:Bool):List Pt×List Int×List Txt×Bool:=
 if h:ps≠[]∧bad=false then
  ((rdP ps bad).1::(slcP (rdI (rdP ps bad).2.1 (rdP ps bad).2.2).2.1 (rdI (rdP ps bad).2.1 (rdP ps bad).2.2).2.2).1,
   (rdI (rdP ps bad).2.1 (rdP ps bad).2.2).1::(slcP (rdI (rdP ps bad).2.1 (rdP ps bad).2.2).2.1 (rdI (rdP ps bad).2.1 (rdP ps bad).2.2).2.2).2.1,
   (slcP (rdI (rdP ps bad).2.1 (rdP ps bad).2.2).2.1 (rdI (rdP ps bad).2.1 (rdP ps bad).2.2).2.2).2.2)
 else ([],[],ps,bad)
termination_by ps.length
decreasing_by all_goals (rw [zGg,zHb]; have : 0 < ps.length := List.length_pos_iff.2 h.1; omega)
def kindT (w:Txt):Int:=if w=sourceT then 1 else if w=mixerT then 2 else if w=gainT then 3 else if w=delayT then 4 else if w=sumT then 5 else if w=slicerT then 6 else if w=meterT then 7 else if w=holdT then 8 else 0
def mod0 (k:Int):Mod:=⟨k,(0,0),(0,0),0,[],0,0,[],[],0,0⟩
noncomputable def readM (k:Int)(ps:List Txt):Mod×List Txt×Bool:=
 if k=1∨k=2 then ({mod0 k with turn:=(rdP ps false).1,state:=(rdP (rdP ps false).2.1 (rdP ps false).2.2).1},(rdP (rdP ps false).2.1 (rdP ps false).2.2).2)
 else if k=3∨k=7 then ({mod0 k with level:=(rdS ps false).1},(rdS ps false).2)
 else if k=4 then ({mod0 k with rat:=(rdI ps false).1,store:=(dlyP (rdI ps false).2.1 (rdI ps false).2.2).1,rcnt:=((dlyP (rdI ps false).2.1 (rdI ps false).2.2).1.length:Int)},(dlyP (rdI ps false).2.1 (rdI ps false).2.2).2)
 else if k=6 then ({mod0 k with count:=(rdI ps false).1,pts:=(slcP (rdI ps false).2.1 (rdI ps false).2.2).1,lab:=(slcP (rdI ps false).2.1 (rdI ps false).2.2).2.1},(slcP (rdI ps false).2.1 (rdI ps false).2.2).2.2)
 else if k=8 then ({mod0 k with count:=(rdI ps false).1,left:=(rdI (rdI ps false).2.1 (rdI ps false).2.2).1,state:=(rdP (rdI (rdI ps false).2.1 (rdI ps false).2.2).2.1 (rdI (rdI ps false).2.1 (rdI ps false).2.2).2.2).1},
  (rdP (rdI (rdI ps false).2.1 (rdI ps false).2.2).2.1 (rdI (rdI ps false).2.1 (rdI ps false).2.2).2.2).2)
 else (mod0 k,ps,false)
noncomputable def implM (s:Txt):Option Mod:=match splT 32 s with
 | []=>none
 | w::ps=>if (readM (kindT w) ps).2.2=false∧(readM (kindT w) ps).2.1=[]∧isModuleF (readM (kindT w) ps).1=true∧fmtM (readM (kindT w) ps).1=s then some (readM (kindT w) ps).1 else none
theorem zCt1 {s:Txt}{m:Mod}(h:implM s=some m):isModuleF m=true∧fmtM m=s:=by
 unfold implM at h;split at h
 ·cases h
 ·split at h
  ·rename_i hc;injection h with h;subst h;exact⟨hc.2.2.1,hc.2.2.2⟩
  ·cases h
structure W32 (m:Mod):Prop where
 turn:m.turn.1<4294967296∧m.turn.2<4294967296
 state:m.state.1<4294967296∧m.state.2<4294967296
 level:m.level<4294967296
 store:∀p∈m.store,p.1<4294967296∧p.2<4294967296
 pts:∀p∈m.pts,p.1<4294967296∧p.2<4294967296
end Go.SX
namespace Go.SX
open Go Ieee Go.Proofs
theorem zQp1 (s:Bool)(m k:Nat):signed s m k+signed (!s) m k=0:=by cases s<;>simp[signed]<;>omega
theorem zGd1 (x:Nat):finS x=isFin x:=by
 have U:single.binade=8388608:=by decide
 have J:single.infRung=2139095040:=by decide
 have G:single.signWeight=2147483648:=by decide
 have E:fop .sub .f32 x x=((((single.read x).sum (single.read x).opposite).map single.write)).getD (qn .f32):=rfl;unfold finS isFin;rw[E];have F:fcmp .eql .f32 (qn .f32) 0=false:=by decide
 cases hr:single.read x with
 | nan s t=>
  have V:isNaNb .f32 x=true:=by show (single.read x).isNaN=true;rw[hr];rfl
  have:=zSf V;have h2:decide (x%2147483648≤2139095039)=false:=by simp;omega
  rw[h2];simpa[Datum.sum] using F
 | infinity s=>
  have hx:x%2147483648=2139095040:=by
   unfold Format.read at hr;simp only[U,J,G] at hr;split at hr
   ·cases hr
   ·split at hr
    ·cases hr
    ·split at hr
     ·assumption
     ·cases hr
  have h2:decide (x%2147483648≤2139095039)=false:=by simp;omega
  rw[h2];have h3:(Datum.infinity s).sum (Datum.infinity s).opposite=none:=by cases s<;>rfl
  rw[h3];simpa using F
 | number s m e=>
  have hx:x%2147483648<2139095040:=by
   unfold Format.read at hr;simp only[U,J,G] at hr;split at hr
   ·omega
   ·split at hr
    ·assumption
    ·split at hr<;>cases hr
  have h2:decide (x%2147483648≤2139095039)=true:=by simp;omega
  rw[h2]
  have h3:(Datum.number s m e).sum (Datum.number s m e).opposite=some (.number false 0 e):=by
   simp only[Datum.opposite,Datum.sum,Int.min_self,zQp1,yav]
   cases s<;>rfl
  rw[h3];have h4:single.write (.number false 0 e)=0:=rfl;simp only[yak,yaU,h4];decide
def lvlB (x:Nat):Bool:=x ==0||(x ==1065353216||(x ==1073741824||x ==1077936128))
theorem zLg1 {a:Int}(h1 : -3≤a)(h2:a≤3):lvlB (absS (wI a))=true:=by
 have:a = -3∨a = -2∨a = -1∨a=0∨a=1∨a=2∨a=3:=by omega
 rcases this with rfl|rfl|rfl|rfl|rfl|rfl|rfl<;>decide +kernel
theorem zJg1 {x:Nat}(h:lvlB x=true):x=0∨x=1065353216∨x=1073741824∨x=1077936128:=by simpa[lvlB] using h
structure Drawn (m:Mod):Prop where
 ok:OkM m
 mod:isModuleF m=true
 lvl:m.kind=7→lvlB m.level=true
theorem Drawn.kind {m:Mod}(h:Drawn m):m.kind=1∨m.kind=2∨m.kind=3∨m.kind=4∨m.kind=5∨m.kind=6∨m.kind=7∨m.kind=8:=by
 have:=h.mod;unfold isModuleF at this;by_cases h1:m.kind=1
 ·simp[h1]
 by_cases h2:m.kind=2
 ·simp[h2]
 by_cases h3:m.kind=3
 ·simp[h3]
 by_cases h4:m.kind=4
 ·simp[h4]
 by_cases J:m.kind=5
 ·simp[J]
 by_cases G:m.kind=6
 ·simp[G]
 by_cases F:m.kind=7
 ·simp[F]
 by_cases E:m.kind=8
 ·simp[E]
 simp[h1,h2,h3,h4,J,G,F,E] at this
theorem zBc (m:Mod):bareF m=true↔(m.turn=(0,0)∧m.state=(0,0)∧m.level=0∧m.store=[]∧m.rat=0∧m.rcnt=0∧m.pts=[]∧m.lab=[]∧m.count=0∧m.left=0):=by
 obtain ⟨k,⟨t1,t2⟩,⟨s1,s2⟩,lv,st,ra,rc,pts,lab,c,l⟩:=m;simp only[bareF,nzP,nz,yay,yaG,Prod.mk.injEq,Int.natCast_eq_zero,List.length_eq_zero_iff,and_assoc]
theorem zIe:Drawn mSum':=⟨⟨by simp[mSum',sm],by simp[mSum',sm],by simp[mSum',sm]⟩,by decide,by decide⟩
theorem zQy (t s:Pt):Drawn (mSrc' t s):=⟨⟨by simp[mSrc',sm],by simp[mSrc',sm],by simp[mSrc',sm]⟩,by simp[mSrc',isModuleF,zBc],by simp[mSrc']⟩
theorem zYg1 (t:Pt):Drawn (mMix' t):=⟨⟨by simp[mMix',sm],by simp[mMix',sm],by simp[mMix',sm]⟩,by simp[mMix',isModuleF,zBc],by simp[mMix']⟩
theorem zDb1 (l:Nat):Drawn (mGain' l):=⟨⟨by simp[mGain',sm],by simp[mGain',sm],by simp[mGain',sm]⟩,by simp[mGain',isModuleF,zBc],by simp[mGain']⟩
theorem zNj1:Drawn mMeter':=⟨⟨by simp[mMeter',sm],by simp[mMeter',sm],by simp[mMeter',sm]⟩,by decide,by decide⟩
def mDelay' (st:List Pt)(a:Int):Mod:=⟨4,(0,0),(0,0),0,st,a,(st.length:Int),[],[],0,0⟩
def mSlicer' (pts:List Pt)(lab:List Int)(c:Int):Mod:=⟨6,(0,0),(0,0),0,[],0,0,pts,lab,c,0⟩
def mHold' (s:Pt)(c l:Int):Mod:=⟨8,(0,0),s,0,[],0,0,[],[],c,l⟩
theorem zKb1 {st:List Pt}{a:Int}(h1:1≤st.length)(h2:st.length≤16)(h3:0≤a)(h4:a<st.length):isRingF st a st.length=true:=by
 unfold isRingF;rw[show st.length- (st.length:Int).toNat=0 by simp];have:ringC st a st.length:=⟨h1,h2,h3,h4,by omega,by omega⟩;simp[this,ringGo]
theorem zOx {st:List Pt}{a:Int}(h1:1≤st.length)(h2:st.length≤16)(h3:0≤a)(h4:a<st.length):Drawn (mDelay' st a):=
 ⟨⟨by simp[mDelay',sm];omega,by simp[mDelay',sm],by simp[mDelay',sm]⟩,by simp[mDelay',isModuleF,zBc,zKb1 h1 h2 h3 h4],by simp[mDelay']⟩
theorem zEn {pts:List Pt}{lab:List Int}(h:isTableF pts lab=true):pts.length=lab.length∧pts.length≤64:=by simp only[isTableF,yay,yaG] at h;exact⟨h.1,h.2.1⟩
theorem zUb {pts:List Pt}{lab:List Int}{c:Int}(h:isTableF pts lab=true):Drawn (mSlicer' pts lab c):=by
 obtain ⟨h1,h2⟩:=zEn h;exact⟨⟨by simp[mSlicer',sm],by simp[mSlicer',sm];omega,by simp[mSlicer',sm];omega⟩,by simp[mSlicer',isModuleF,zBc,h],by simp[mSlicer']⟩
theorem zJx {s:Pt}{c l:Int}(h1:1≤c)(h2:c≤100)(h3:0≤l)(h4:l<c):Drawn (mHold' s c l):=
 ⟨⟨by simp[mHold',sm],by simp[mHold',sm],by simp[mHold',sm]⟩,by simp[mHold',isModuleF,zBc,h1,h2,h3,h4],by simp[mHold']⟩
def mMeterL (l:Nat):Mod:=⟨7,(0,0),(0,0),l,[],0,0,[],[],0,0⟩
theorem zIi2 {l:Nat}(h:lvlB l=true):(nz l||fcmp .gtr .f32 l 0)=true:=by rcases zJg1 h with rfl|rfl|rfl|rfl<;>decide +kernel
theorem zKn1 {l:Nat}(h:lvlB l=true):Drawn (mMeterL l):=
 ⟨⟨by simp[mMeterL,sm],by simp[mMeterL,sm],by simp[mMeterL,sm]⟩,by
  have:=zIi2 h
  simp only[mMeterL,isModuleF]
  simp only[Bool.or_eq_true] at this
  simp[this,zBc],by simp[mMeterL,h]⟩
theorem Drawn.forms {m:Mod}(h:Drawn m):(∃t s,m=mSrc' t s)∨(∃t s,m=⟨2,t,s,0,[],0,0,[],[],0,0⟩)∨(∃l,m=mGain' l)∨(∃st a,m=mDelay' st a∧1≤st.length∧st.length≤16∧0≤a∧a<st.length)∨m=mSum'∨
 (∃pts lab c,m=mSlicer' pts lab c∧isTableF pts lab=true)∨(∃l,m=mMeterL l∧lvlB l=true)∨∃s c l,m=mHold' s c l∧1≤c∧c≤100∧0≤l∧l<c:=by
 have F:=h.kind;have E:=h.mod;have hl:=h.lvl;obtain ⟨k,t,s,lv,st,ra,rc,pts,lab,c,l⟩:=m;simp only at F hl;rcases F with rfl|rfl|rfl|rfl|rfl|rfl|rfl|rfl
 ·simp[isModuleF,zBc] at E;obtain ⟨rfl,rfl,rfl,rfl,rfl,rfl,rfl,rfl⟩:=E;exact .inl ⟨t,s,rfl⟩
 ·simp[isModuleF,zBc] at E;obtain ⟨rfl,rfl,rfl,rfl,rfl,rfl,rfl,rfl⟩:=E;exact .inr (.inl ⟨t,s,rfl⟩)
 ·simp[isModuleF,zBc] at E;obtain ⟨rfl,rfl,rfl,rfl,rfl,rfl,rfl,rfl,rfl⟩:=E;exact .inr (.inr (.inl ⟨lv,rfl⟩))
 ·simp[isModuleF,zBc] at E;obtain ⟨⟨h1,rfl⟩,rfl,rfl,rfl,rfl,rfl,rfl,rfl⟩:=E;unfold isRingF at h1;simp only[yay,yaG] at h1;obtain ⟨⟨G,c2,c3,c4,_,_⟩,_⟩:=h1;exact .inr (.inr (.inr (.inl ⟨st,ra,rfl,G,c2,c3,c4⟩)))
 ·simp[isModuleF,zBc] at E;obtain ⟨rfl,rfl,rfl,rfl,rfl,rfl,rfl,rfl,rfl,rfl⟩:=E;exact .inr (.inr (.inr (.inr (.inl rfl))))
 ·simp[isModuleF,zBc] at E;obtain ⟨h1,rfl,rfl,rfl,rfl,rfl,rfl,rfl⟩:=E;exact .inr (.inr (.inr (.inr (.inr (.inl ⟨pts,lab,c,rfl,h1⟩)))))
 ·simp[isModuleF,zBc] at E;obtain ⟨_,rfl,rfl,rfl,rfl,rfl,rfl,rfl,rfl,rfl⟩:=E;exact .inr (.inr (.inr (.inr (.inr (.inr (.inl ⟨lv,rfl,hl rfl⟩))))))
 ·simp[isModuleF,zBc] at E;obtain ⟨⟨h1,h2,h3,h4⟩,rfl,rfl,rfl,rfl,rfl,rfl,rfl⟩:=E;exact .inr (.inr (.inr (.inr (.inr (.inr (.inr ⟨s,c,l,rfl,h1,h2,h3,h4⟩))))))
end Go.SX
namespace Go.SX
open Go Ieee
theorem zEc {m:Mod}(h:isModuleF m=true):(∃t s,m=⟨1,t,s,0,[],0,0,[],[],0,0⟩)∨(∃t s,m=⟨2,t,s,0,[],0,0,[],[],0,0⟩)∨(∃l,m=⟨3,(0,0),(0,0),l,[],0,0,[],[],0,0⟩)∨
 (∃st a,m=⟨4,(0,0),(0,0),0,st,a,(st.length:Int),[],[],0,0⟩∧isRingF st a (st.length:Int)=true)∨m=⟨5,(0,0),(0,0),0,[],0,0,[],[],0,0⟩∨
 (∃pts lab c,m=⟨6,(0,0),(0,0),0,[],0,0,pts,lab,c,0⟩∧isTableF pts lab=true)∨(∃l,m=⟨7,(0,0),(0,0),l,[],0,0,[],[],0,0⟩∧(nz l||fcmp .gtr .f32 l 0)=true)∨
 (∃s c l,m=⟨8,(0,0),s,0,[],0,0,[],[],c,l⟩∧1≤c∧c≤100∧0≤l∧l<c):=by
 obtain ⟨k,t,s,lv,st,ra,rc,pts,lab,c,l⟩:=m;unfold isModuleF at h;simp only at h;split at h
 ·rename_i E;simp only[zBc] at h;obtain ⟨-,-,rfl,rfl,rfl,rfl,rfl,rfl,rfl,rfl⟩:=h;exact .inl ⟨t,s,by simp[E]⟩
 split at h
 ·rename_i E;simp only[zBc] at h;obtain ⟨-,-,rfl,rfl,rfl,rfl,rfl,rfl,rfl,rfl⟩:=h;exact .inr (.inl ⟨t,s,by simp[E]⟩)
 split at h
 ·rename_i E;simp only[zBc] at h;obtain ⟨rfl,rfl,-,rfl,rfl,rfl,rfl,rfl,rfl,rfl⟩:=h;exact .inr (.inr (.inl ⟨lv,by simp[E]⟩))
 split at h
 ·rename_i E;simp only[yay,yaG,zBc] at h;obtain ⟨⟨h1,rfl⟩,rfl,rfl,rfl,-,-,-,rfl,rfl,rfl,rfl⟩:=h;exact .inr (.inr (.inr (.inl ⟨st,ra,by simp[E],h1⟩)))
 split at h
 ·rename_i E;simp only[zBc] at h;obtain ⟨rfl,rfl,rfl,rfl,rfl,rfl,rfl,rfl,rfl,rfl⟩:=h;exact .inr (.inr (.inr (.inr (.inl (by simp[E])))))
 split at h
 ·rename_i E;simp only[yay,zBc] at h;obtain ⟨h1,rfl,rfl,rfl,rfl,rfl,rfl,-,-,-,rfl⟩:=h;exact .inr (.inr (.inr (.inr (.inr (.inl ⟨pts,lab,c,by simp[E],h1⟩)))))
 split at h
 ·rename_i E;rw[Bool.and_eq_true,zBc] at h;obtain ⟨h1,rfl,rfl,-,rfl,rfl,rfl,rfl,rfl,rfl,rfl⟩:=h;exact .inr (.inr (.inr (.inr (.inr (.inr (.inl ⟨lv,by simp[E],h1⟩))))))
 split at h
 ·rename_i E;simp only[yay,yaG,zBc] at h;obtain ⟨⟨h1,h2,h3,h4⟩,rfl,-,rfl,rfl,rfl,rfl,rfl,rfl,-,-⟩:=h;exact .inr (.inr (.inr (.inr (.inr (.inr (.inr ⟨s,c,l,by simp[E],h1,h2,h3,h4⟩))))))
 ·cases h
end Go.SX
namespace Go.SX
open Go Go.Proofs Tryz
noncomputable def zZg:Ct:=fam true (fun x:Tb×Pt=>([.agg [.im (.sl 1 (rowsZ x.1.1.1)),.im (.sl 1 (rowsN x.1.1.2))],.c (.im (.cpx .f32 x.2.1 x.2.2))],[])) (fun x=>.one {val:=.c (.im (.int .i64 (idxF (eqPt · x.2) x.1.1.1 0)))})
theorem zNr {pts:List Pt}{lab:List Int}(h1:pts.length≤sm)(h2:lab.length≤sm)(u v:Nat):zZg.run [.agg [.im (.sl 1 (rowsZ pts)),.im (.sl 1 (rowsN lab))],.c (.im (.cpx .f32 u v))] []=some (.one {val:=.c (.im (.int .i64 (idxF (eqPt · (u,v)) pts 0)))}):=by
 refine zAc (ct:=zZg) rfl ?_ (⟨(pts,lab),h1,h2⟩,(u,v));rintro ⟨⟨⟨a,b⟩,_⟩,⟨c,d⟩⟩ ⟨⟨⟨G,F⟩,_⟩,⟨E,d'⟩⟩ h;simp[zAs,zAx] at h ⊢;simp[h]
theorem zRo:(zZg.sc=true)=True:=by simp[zZg,fam]
theorem zPg1:Law prog 247 zZg:=by
 refine zAf zAd hmixA func247 rfl rfl (fun ⟨⟨⟨l,lab⟩,h1,h2⟩,⟨u,v⟩⟩=>⟨zAv rfl,by simp[f247],?_⟩);simp only at h1 h2 ⊢;try simp -dsimp only[go_sem,f247,zAb]
 refine zAp (ι:={k:Nat//k≤l.length∧idxF (eqPt · (u,v)) l 0=idxF (eqPt · (u,v)) (l.drop k) k}) (fun k=>⟨[(1,some (.c (.im (.cpx .f32 u v)))),(8,some (.c (.im (.sl 1 (rowsZ l))))),(9,some (.c (.im (.int .i64 (l.length:Int))))),(10,some (.c (.im (.int .i64 (k.1:Int)))))],
  [],0⟩) (fun k=>l.length-k.1) ⟨0,by simp⟩ ⟨[],[],by ((simp only[go_sem,yai])<;>(try (simp -dsimp only[go_sem,yaj,yai])))<;>simp⟩ (fun ⟨k,hk,E⟩=>?_)
 by_cases U:k<l.length
 ·obtain ⟨p,hp⟩:∃p,l[k]?=some p:=⟨_,List.getElem?_eq_getElem U⟩;have G:=zBz hp;have Z:((k:Int)<(l.length:Int))=True:=by simp;omega
  have h0:0≤(k:Int):=by simp
  have F:=zJw (f:=(eqPt · (u,v))) hp;have a6:=zDh h1 U;obtain ⟨a,b⟩:=p;have J:(fcmp .eql .f32 a u&&fcmp .eql .f32 b v)=eqPt (a,b) (u,v):=rfl
  cases V:eqPt (a,b) (u,v) with
  | true=>
   simp only[V,yav] at F;rw[F] at E;clear F;try simp -dsimp only[go_sem,f247,Z,h0,Int.toNat_natCast,G,J,V,E]
  | false=>
   simp only[V,yau,yat] at F;rw[F] at E;clear F;(try simp -dsimp only[go_sem,Z,h0,Int.toNat_natCast,G,J,V,a6]);exact⟨⟨k+1,by omega,E⟩,by simp only[];omega,[],[],by (simp only[go_sem,yai])<;>simp⟩
 ·have Z:((k:Int)<(l.length:Int))=False:=by simp;omega
  have a7:k=l.length:=by omega
  subst a7;rw[List.drop_length] at E;try simp -dsimp only[go_sem,f247,Z,E,idxF]
theorem zIt:Law prog 62 zHn:=by
 refine zAf (zAa zJq1 zAd) hmixA func62 rfl rfl (fun ⟨⟨pts,lab⟩,h1,h2⟩=>⟨zAv rfl,by simp[f62],?_⟩);simp only[] at h1 h2;by_cases U:pts.length=lab.length;rotate_left
 ·have e1:((pts.length:Int)=(lab.length:Int))=False:=by simp;omega
  have hF:isTableF pts lab=false:=by simp[isTableF,U]
  clear U;try simp -dsimp only[go_sem,f62,zAb,zAe,e1,hF]
 have e1:((pts.length:Int)=(lab.length:Int))=True:=by simp;omega
 by_cases a6:pts.length≤64;rotate_left
 ·have e2:((64:Int)<(pts.length:Int))=True:=by simp;omega
  have hF:isTableF pts lab=false:=by simp[isTableF,a6]
  clear U a6;try simp -dsimp only[go_sem,f62,zAb,zAe,e1,e2,hF]
 have e2:((64:Int)<(pts.length:Int))=False:=by simp;omega
 have hF:isTableF pts lab=tblGo pts pts 0:=by unfold isTableF;rw[decide_eq_true U,decide_eq_true a6];simp
 rw[hF];clear U a6 hF;try simp -dsimp only[go_sem,f62,zAb,zAe,e1,e2]
 refine zAp (ι:={k:Nat//k≤pts.length∧tblGo pts pts 0=tblGo pts (pts.drop k) k}) (fun k=>⟨[(1,some (.c (.ptr 0 0 0 0))),(20,some (.c (.im (.sl 1 (rowsZ pts))))),(21,some (.c (.im (.int .i64 (pts.length:Int))))),(22,some (.c (.im (.int .i64 (k.1:Int)))))],
  [(0,some (.box [.t (.im (.sl 1 (rowsZ pts))),.t (.im (.sl 1 (rowsN lab)))]))],1⟩) (fun k=>pts.length-k.1) ⟨0,by simp⟩ ⟨[],[],by ((simp only[go_sem,yai])<;>(try (simp -dsimp only[go_sem,yaj,yai])))<;>simp⟩ (fun ⟨k,hk,G⟩=>?_)
 by_cases b1:k<pts.length;rotate_left
 ·have hI:((k:Int)<(pts.length:Int))=False:=by simp;omega
  have c1:k=pts.length:=by omega
  subst c1;rw[List.drop_length] at G;try simp -dsimp only[go_sem,f62,hI,G,tblGo]
 obtain ⟨p,hp⟩:∃p,pts[k]?=some p:=⟨_,List.getElem?_eq_getElem b1⟩;have a7:=zBz hp;have hI:((k:Int)<(pts.length:Int))=True:=by simp;omega
 have h0:0≤(k:Int):=by simp
 have E:=zBm1 hp;have b8:=zDh h1 b1;obtain ⟨a,b⟩:=p
 cases hf:(isFin a&&isFin b) with
 | false=>
  simp only[hf,yar] at E;rw[E] at G;clear E;try simp -dsimp only[go_sem,f62,hI,h0,Int.toNat_natCast,a7,zTo,zGd1,hf,G]
 | true=>
  simp only[hf,yas] at E;try simp -dsimp only[go_sem,hI,h0,Int.toNat_natCast,a7,zTo,zGd1,hf]
  refine zAp (ι:={j:Nat//j≤k∧idxF (eqPt · (a,b)) (pts.take k) 0=idxF (eqPt · (a,b)) ((pts.take k).drop j) j}) (fun j=>⟨[(1,some (.c (.ptr 0 0 0 0))),(3,some (.c (.im (.int .i64 (k:Int))))),(4,some (.c (.im (.cpx .f32 a b)))),(5,some (.c (.im (.int .i64 (j.1:Int))))),(20,some (.c (.im (.sl 1 (rowsZ pts))))),(21,some (.c (.im (.int .i64 (pts.length:Int))))),(22,some (.c (.im (.int .i64 (k:Int)))))],
   [(0,some (.box [.t (.im (.sl 1 (rowsZ pts))),.t (.im (.sl 1 (rowsN lab)))]))],1⟩) (fun j=>k-j.1) ⟨0,by simp⟩ ⟨[],[],by ((simp only[go_sem,yai])<;>(try (simp -dsimp only[go_sem,yaj,yai])))<;>simp⟩ (fun ⟨j,hj,F⟩=>?_)
  by_cases c6:j<k;rotate_left
  ·have hJ:((j:Int)<(k:Int))=False:=(by simp;omega);have b2:j=k:=(by omega);subst b2;rw[show List.drop j (List.take j pts)=[] from List.drop_of_length_le (by rw[List.length_take];omega)] at F;have Z:idxF (eqPt · (a,b)) (pts.take j) 0<0:=(by rw[F];simp[idxF]);simp only[Z,yaM,yas] at E;rw[E] at G;clear E;(try simp -dsimp only[go_sem,hJ,b8]);exact⟨⟨j+1,by omega,G⟩,by simp only[];omega,[],[],by (simp only[go_sem,yai])<;>simp⟩
  obtain ⟨⟨c,d⟩,hq⟩:∃q,pts[j]?=some q:=⟨_,List.getElem?_eq_getElem (by omega)⟩;have V:=zBz hq;have hJ:((j:Int)<(k:Int))=True:=by simp;omega
  have b3:0≤(j:Int):=by simp
  have b9:IntKind.i64.wrap ((j:Int)+1)=((j+1:Nat):Int):=zDh (n:=pts.length) h1 (by omega);have J:=zJw (f:=(eqPt · (a,b))) (l:=pts.take k) (k:=j) (p:=(c,d)) (by rw[List.getElem?_take_of_lt c6];exact hq);have b0:(fcmp .eql .f32 c a&&fcmp .eql .f32 d b)=eqPt (c,d) (a,b):=rfl
  cases he:eqPt (c,d) (a,b) with
  | true=>
   simp only[he,yav] at J;rw[J] at F;have Z:¬idxF (eqPt · (a,b)) (pts.take k) 0<0:=(by rw[F];omega);simp only[Z,yaL,yar] at E;rw[E] at G;clear E J F;try simp -dsimp only[go_sem,f62,hJ,b3,V,b0,he,G,Int.toNat_natCast]
  | false=>
   simp only[he,yau,yat] at J;rw[J] at F;clear J;(try simp -dsimp only[go_sem,hJ,b3,V,b0,he,b9,Int.toNat_natCast]);exact⟨⟨j+1,by omega,F⟩,by simp only[];omega,[],[],by (simp only[go_sem,yai])<;>simp⟩
theorem zHj:(zHn.sc=true)=True:=by simp[zHn,fam]
theorem zNv:Law prog 192 zFj:=by
 refine zAf zAd hmixA func192 rfl rfl (fun ⟨⟨pts,lab⟩,h1,h2⟩=>⟨okO zEt2,by simp[f192],?_⟩);simp only at h1 h2;simp only[rTb];try simp -dsimp only[go_sem,f192,zAb,zAe,zEb h1 (show 8≤128 by decide),zEb h2 (show 8≤128 by decide),zEg,zAg,appendH,srcRows]
 with_reducible repeat' first|refine sl_i ?_|refine ro_i ?_
 refine⟨[_,_],?_,?_,?_,rfl,rfl⟩<;>simp[rtOk]
theorem zJe1 (r:List I):mapO imT (r.map T.im)=some r:=by
 induction r with
 | nil=>rfl
 | cons x r ih=>simp only[List.map_cons,mapO,imT,ih]
theorem zCb (rows:List (List I)):mapO (mapO imT) (tI rows)=some rows:=by
 induction rows with
 | nil=>rfl
 | cons x r ih=>
  have h:tI (x::r)=x.map T.im::tI r:=rfl;simp only[h,mapO,zJe1,ih]
theorem zNg1 {α:Type}(f:α→Bool):∀(l:List α) (k:Nat),idxF f l k<(k:Int)+l.length
 | [],k=>by simp[idxF];omega
 | x::l,k=>by
  simp only[idxF,yab];split
  ·omega
  ·have:=zNg1 f l (k+1);omega
theorem zEd:(zFj.sc=true)=True:=by simp[zFj,fam]
theorem zHm1 {pts:List Pt}{lab lab':List Int}(h:isTableF pts lab=true)(hl:lab'.length=lab.length):isTableF pts lab'=true:=by simp only[isTableF,hl] at h ⊢;exact h
abbrev QTab:={t:List Pt×List Int//isTableF t.1 t.2=true}
def rTO (q:(List Pt×List Int)×Bool):Res:={val:=.tup [.agg [.im (.sl 1 (rowsZ q.1.1)),.im (.sl 1 (rowsN q.1.2))],.c (.im (.bool q.2))]}
theorem zEv2 {q:(List Pt×List Int)×Bool}:OkR false (rTO q):=by
 refine⟨.tup _ (fun d hd=>?_),by simp[rTO],by simp[rTO]⟩;simp only[yac,yad,or_false] at hd;rcases hd with rfl|rfl
 ·refine .inr ⟨_,rfl,fun x hx=>?_⟩;simp only[yac,yad,or_false] at hx;rcases hx with rfl|rfl<;>exact .im _ (.inl rfl)
 ·exact .inl ⟨_,rfl,.im _ (.inl rfl)⟩
theorem zLr:isTableF [] []=true:=by decide
def gridPt (S i k:Nat):Pt:=(FloatKind.f32.nearest (2*(i:Int)- (S:Int)+1),FloatKind.f32.nearest (2*(k:Int)- (S:Int)+1))
def gridP (S n:Nat):List Pt:=(List.range n).map fun j=>gridPt S (j / S) (j%S)
def gridN (n:Nat):List Int:=(List.range n).map fun (j:Nat)=>(j:Int)
theorem zQv (S n:Nat):(gridP S n).length=n:=by simp[gridP]
theorem zQw (n:Nat):(gridN n).length=n:=by simp[gridN]
theorem zCu1 {S i k:Nat}(h:k<S):gridP S (i*S+k)++[gridPt S i k]=gridP S (i*S+(k+1)):=by
 have h1:(i*S+k) / S=i:=by rw[Nat.mul_comm,Nat.mul_add_div (by omega),Nat.div_eq_of_lt h];omega
 have h2:(i*S+k)%S=k:=by rw[Nat.mul_comm,Nat.mul_add_mod,Nat.mod_eq_of_lt h]
 simp only[gridP];rw[show i*S+(k+1)=(i*S+k)+1 by omega,List.range_succ,List.map_append,List.map_singleton,h1,h2]
theorem zCv1 (n:Nat):gridN n++[(n:Int)]=gridN (n+1):=by simp[gridN,List.range_succ]
theorem zPn1 {S:Nat}(h1:1≤S)(h2:S≤3):isTableF (gridP S (S*S)) (gridN (S*S))=true:=by
 have:S=1∨S=2∨S=3:=by omega
 rcases this with rfl|rfl|rfl<;>decide +kernel
abbrev N3:={n:Nat//1≤n∧n≤3}
noncomputable def zNi:Ct:=fam false (fun x:N3=>([.c (.im (.int .i64 (x.1:Int)))],[])) (fun x=>.one (rTO ((gridP x.1 (x.1*x.1),gridN (x.1*x.1)),true)))
theorem zEd1 {n:Nat}(h1:1≤n)(h2:n≤3):zNi.run [.c (.im (.int .i64 (n:Int)))] []=some (.one (rTO ((gridP n (n*n),gridN (n*n)),true))):=zAc (ct:=zNi) rfl (by
 intro a b h
 simp only[Prod.mk.injEq,List.cons.injEq,D.c.injEq,C.im.injEq,I.int.injEq,Int.natCast_inj,true_and,and_true] at h
 (try simp only[yah])
 (try simp only[zAs,zAx] at h)
 simp_all) (⟨n,h1,h2⟩:N3)
theorem zFo1:Law prog 193 zNi:=by
 refine zAw (zAa zIu zAd) hmixA func193 rfl rfl (fun ⟨S,s1,s2⟩=>⟨okO zEv2,by simp[f193],?_⟩);simp only[rTO];have hb:(decide ((1:Int)≤(S:Int))&&decide ((S:Int)≤8))=true:=by simp;omega
 try simp -dsimp only[go_sem,f193,zBx,hb]
 refine zAp (ι:={i:Nat//i≤S}) (fun i=>⟨[(0,some (.c (.im (.int .i64 (S:Int))))),(2,some (.c (.ptr 0 0 0 0))),(4,some (.c (.ptr 1 0 0 0))),(5,some (.c (.im (.int .i64 (i.1:Int)))))],
   [(0,some (.box [.t .nil,.t .nil])),(1,some (.box [.t (.own 1 (tI (rowsZ (gridP S (i.1*S))))),.t (.own 1 (tI (rowsN (gridN (i.1*S)))))]))],2⟩) (fun i=>S-i.1) ⟨0,by omega⟩ ⟨[.nilT 1 0 0 1,.nilT 1 0 1 1],[0,1],by ((simp only[go_sem,yai,Nat.zero_mul,zKf,zKg])<;>(try (simp -dsimp only[go_sem,yaj,yai,yak,Nat.zero_mul,zKf,zKg])))<;>simp[gridP,gridN,rowsZ,rowsN,tI]⟩ (fun ⟨i,hi⟩=>?_)
 simp only;by_cases b5:i<S;rotate_left
 · have hI:¬((i:Int)<(S:Int)):=(by omega);obtain rfl:i=S:=by omega
   have G:mapO (mapO imT) (tI (rowsZ (gridP i (i*i))))=some (rowsZ (gridP i (i*i))):=zCb _;have J:mapO (mapO imT) (tI (rowsN (gridN (i*i))))=some (rowsN (gridN (i*i))):=zCb _;(try simp -dsimp only[go_sem,f193,hI,zAg,zAb,zAe]);refine zAh [.frz 2 [.b 0 0 0],.frz 3 [.b 0 0 1]] ?_;simp -dsimp only[go_sem,G,J,zAg,zAb,zAe]
 have hI:(i:Int)<(S:Int):=by omega
 have F:IntKind.i64.wrap ((i:Int)+1)=((i+1:Nat):Int):=by rw[zAi (by omega) (by omega)];omega
 try simp -dsimp only[go_sem,hI]
 refine zAp (ι:={k:Nat//k≤S}) (fun k=>⟨[(0,some (.c (.im (.int .i64 (S:Int))))),(2,some (.c (.ptr 0 0 0 0))),(4,some (.c (.ptr 1 0 0 0))),(5,some (.c (.im (.int .i64 (i:Int))))),(6,some (.c (.im (.int .i64 (k.1:Int)))))],
   [(0,some (.box [.t .nil,.t .nil])),(1,some (.box [.t (.own 1 (tI (rowsZ (gridP S (i*S+k.1))))),.t (.own 1 (tI (rowsN (gridN (i*S+k.1)))))]))],2⟩) (fun k=>S-k.1) ⟨0,by omega⟩ ⟨[],[0,1],by ((simp only[go_sem,yai,zKf,zKg,yal])<;>(try (simp -dsimp only[go_sem,yaj,yai,zKf,zKg,yal])))<;>simp[]⟩ (fun ⟨k,hk⟩=>?_)
 simp only;by_cases U:k<S;rotate_left
 · have Z:¬((k:Int)<(S:Int)):=(by omega);obtain rfl:k=S:=by omega
   (try simp -dsimp only[go_sem,Z,F]);exact⟨⟨i+1,by omega⟩,by simp only[];omega,[],[0,1],by (simp only[go_sem,yai,zKf,zKg,Nat.succ_mul])<;>simp[lk,zAn,zKf,zKg]⟩
 have Z:(k:Int)<(S:Int):=by omega
 have E:IntKind.i64.wrap ((k:Int)+1)=((k+1:Nat):Int):=by rw[zAi (by omega) (by omega)];omega
 have a1:IntKind.i64.wrap (2*(i:Int))=2*(i:Int):=zAi (by omega) (by omega);have a2:IntKind.i64.wrap (2*(i:Int)- (S:Int))=2*(i:Int)- (S:Int):=zAi (by omega) (by omega);have a3:IntKind.i64.wrap (2*(i:Int)- (S:Int)+1)=2*(i:Int)- (S:Int)+1:=zAi (by omega) (by omega);have b1:IntKind.i64.wrap (2*(k:Int))=2*(k:Int):=zAi (by omega) (by omega);have b2:IntKind.i64.wrap (2*(k:Int)- (S:Int))=2*(k:Int)- (S:Int):=zAi (by omega) (by omega);have b3:IntKind.i64.wrap (2*(k:Int)- (S:Int)+1)=2*(k:Int)- (S:Int)+1:=zAi (by omega) (by omega)
 have b6:i*S≤9:=by
   calc i*S≤3*3:=Nat.mul_le_mul (by omega) s2
     _=9:=rfl
 have c1:IntKind.i64.wrap ((i:Int)*(S:Int))=((i*S:Nat):Int):=by rw[←Int.natCast_mul,zAi (by omega) (by omega)]
 have c2:IntKind.i64.wrap (((i*S:Nat):Int)+(k:Int))=((i*S+k:Nat):Int):=by rw[zAi (by omega) (by omega)];omega
 have V:(i*S+k+1)*8≤140737488355328:=by omega
 have hp:tI (rowsZ (gridP S (i*S+k)))++[[T.im (.cpx .f32 (FloatKind.f32.nearest (2*(i:Int)- (S:Int)+1)) (FloatKind.f32.nearest (2*(k:Int)- (S:Int)+1)))]]=tI (rowsZ (gridP S (i*S+(k+1)))):=by rw[←zCu1 U];simp[tI,rowsZ,gridPt]
 have hn:tI (rowsN (gridN (i*S+k)))++[[T.im (.int .i64 ((i*S+k:Nat):Int))]]=tI (rowsN (gridN (i*S+(k+1)))):=by rw[show i*S+(k+1)=(i*S+k)+1 by omega,←zCv1];simp[tI,rowsN]
 have lz:(tI (rowsZ (gridP S (i*S+(k+1))))).length=i*S+k+1:=by simp[zAg,zAb,zQv];omega
 have ln:(tI (rowsN (gridN (i*S+(k+1))))).length=i*S+k+1:=by simp[zAg,zAe,zQw];omega
 try simp -dsimp only[go_sem,Z,E,a1,a2,a3,b1,b2,b3,c1,c2,hp,hn,lz,ln,V,appendH,srcRows,List.take_succ_cons,yan,yao,yap,okT,yaq,zAg,zAb,zAe,zQv,zQw]
 exact⟨⟨k+1,by omega⟩,by simp only[];omega,[.fold 1 0 0,.fold 1 0 1],[0,1],by (simp only[go_sem,yai,lz,ln,zKf,zKg])<;>simp[lk,zAn,zKf,zKg]⟩
theorem okAgg2 {i j:I}:OkD false 0 (.agg [.im i,.im j]):=.agg _ (fun x hx=>by
 simp only[yac,yad,or_false] at hx
 rcases hx with rfl|rfl<;>exact .im _ (.inl rfl))
theorem zXg (z:Pt):∀(l:List Pt) (k:Nat) (b:Int) (m:Nat),-1≤b → -1≤nearGo z l k b m
 | [],k,b,m,hb=>hb
 | p::l,k,b,m,hb=>by
  simp only[nearGo];split
  ·exact zXg z l (k+1) k _ (by omega)
  ·exact zXg z l (k+1) b m hb
noncomputable def zMx:Ct:=fam true (fun x:Tb×Pt=>([.agg [.im (.sl 1 (rowsZ x.1.1.1)),.im (.sl 1 (rowsN x.1.1.2))],.c (.im (.cpx .f32 x.2.1 x.2.2))],[])) (fun x=>.one {val:=.c (.im (.int .i64 (nearGo x.2 x.1.1.1 0 (-1) 0)))})
theorem zPy {pts:List Pt}{lab:List Int}(h1:pts.length≤sm)(h2:lab.length≤sm)(u v:Nat):zMx.run [.agg [.im (.sl 1 (rowsZ pts)),.im (.sl 1 (rowsN lab))],.c (.im (.cpx .f32 u v))] []=some (.one {val:=.c (.im (.int .i64 (nearGo (u,v) pts 0 (-1) 0)))}):=by
 refine zAc (ct:=zMx) rfl ?_ (⟨(pts,lab),h1,h2⟩,(u,v));rintro ⟨⟨⟨a,b⟩,_⟩,⟨c,d⟩⟩ ⟨⟨⟨G,F⟩,_⟩,⟨E,d'⟩⟩ h;simp[zAs,zAx] at h ⊢;simp[h]
theorem zFb1:Law prog 250 zMx:=by
 refine zAf (zAa zWq1 zAd) hmixA func250 rfl rfl (fun ⟨⟨⟨pts,lab⟩,h1,h2⟩,⟨u,v⟩⟩=>⟨zAv rfl,by simp[f250],?_⟩);simp only at h1 h2 ⊢;try simp -dsimp only[go_sem,f250,zAb]
 refine zAp (ι:={x:Nat×Int×Nat//x.1≤pts.length∧nearGo (u,v) pts 0 (-1) 0=nearGo (u,v) (pts.drop x.1) x.1 x.2.1 x.2.2}) (fun x=>⟨[(1,some (.c (.im (.cpx .f32 u v)))),(5,some (.c (.im (.int .i64 x.1.2.1)))),(6,some (.c (.im (.flt .f32 x.1.2.2)))),(11,some (.c (.im (.sl 1 (rowsZ pts))))),(12,some (.c (.im (.int .i64 (pts.length:Int))))),(13,some (.c (.im (.int .i64 (x.1.1:Int)))))],
  [],0⟩) (fun x=>pts.length-x.1.1) ⟨(0,-1,0),by simp⟩ ⟨[],[],by ((simp only[go_sem,yai])<;>(try (simp -dsimp only[go_sem,yaj,yai])))<;>simp⟩ (fun ⟨⟨k,b,m⟩,hk,E⟩=>?_)
 by_cases a7:k<pts.length
 ·obtain ⟨p,hp⟩:∃p,pts[k]?=some p:=⟨_,List.getElem?_eq_getElem a7⟩;have J:=zBz hp;have hI:((k:Int)<(pts.length:Int))=True:=by simp;omega
  have h0:0≤(k:Int):=by simp
  have Z:=zXh (z:=(u,v)) (b:=b) (m:=m) hp;have U:=zDh h1 a7;obtain ⟨a,c⟩:=p;simp only[] at E hk;rw[Z] at E;clear Z;generalize hd:distF (a,c) (u,v)=d at*
  cases F:fcmp .eql .f32 d d with
  | false=>
   simp only[F,yar,yat,yau] at E;(try simp -dsimp only[go_sem,hI,h0,Int.toNat_natCast,J,zCr,hd,F,U]);exact⟨⟨(k+1,b,m),by simp only[];omega,E⟩,by simp only[];omega,[],[],by (simp only[go_sem,yai])<;>simp⟩
  | true=>
   by_cases hb:b<0
   ·have G:(b<0)=True:=(by simp[hb]);simp only[F,G,yaM,Bool.true_or,yas,yav] at E;clear hb;(try simp -dsimp only[go_sem,hI,h0,Int.toNat_natCast,J,zCr,hd,F,G,U]);exact⟨⟨(k+1,(k:Int),d),by simp only[];omega,E⟩,by simp only[];omega,[],[],by (simp only[go_sem,yai])<;>simp⟩
   ·have G:(b<0)=False:=(by simp[hb]);clear hb
    cases V:fcmp .lss .f32 d m with
    | false=>
     simp only[F,G,V,yaL,yaT,yas,yat,yau] at E;(try simp -dsimp only[go_sem,hI,h0,Int.toNat_natCast,J,zCr,hd,F,V,G,U]);exact⟨⟨(k+1,b,m),by simp only[];omega,E⟩,by simp only[];omega,[],[],by (simp only[go_sem,yai])<;>simp⟩
    | true=>
     simp only[F,G,V,yaL,yaT,yas,yav] at E;(try simp -dsimp only[go_sem,hI,h0,Int.toNat_natCast,J,zCr,hd,F,V,G,U]);exact⟨⟨(k+1,(k:Int),d),by simp only[];omega,E⟩,by simp only[];omega,[],[],by (simp only[go_sem,yai])<;>simp⟩
 ·have hI:((k:Int)<(pts.length:Int))=False:=by simp only[] at hk;simp;omega
  simp only[] at hk E;have b0:k=pts.length:=by omega
  subst b0;rw[List.drop_length] at E;simp only[nearGo] at E;try simp -dsimp only[go_sem,f250,hI,E]
def rMB (m:Mod)(b:Bool):Res:={val:=.tup [.agg (modC m),.c (.im (.bool b))]}
theorem zVm1 {m:Mod}{b:Bool}:OkR false (rMB m b):=by
 refine⟨.tup _ (fun d hd=>?_),by simp[rMB],by simp[rMB]⟩;simp only[yac,yad,or_false] at hd;rcases hd with rfl|rfl
 ·refine .inr ⟨_,rfl,fun x hx=>?_⟩;simp only[modC,yac,yad,or_false] at hx;rcases hx with rfl|rfl|rfl|rfl|rfl|rfl|rfl|rfl|rfl|rfl|rfl<;>exact .im _ (.inl rfl)
 ·exact .inl ⟨_,rfl,.im _ (.inl rfl)⟩
noncomputable def zNe:Ct:=fam false (fun x:QTab=>([.agg [.im (.sl 1 (rowsZ x.1.1)),.im (.sl 1 (rowsN x.1.2))]],[])) (fun x=>.one (rMB (mSlicer' x.1.1 x.1.2 0) true))
theorem zDy1 {pts:List Pt}{lab:List Int}(h:isTableF pts lab=true):zNe.run [.agg [.im (.sl 1 (rowsZ pts)),.im (.sl 1 (rowsN lab))]] []=some (.one (rMB (mSlicer' pts lab 0) true)):=by
 refine zAc (ct:=zNe) rfl ?_ ⟨(pts,lab),h⟩;rintro ⟨⟨a,b⟩,_⟩ ⟨⟨F,E⟩,_⟩ h;simp[zAs,zAx] at h ⊢;exact h
theorem zFi1:Law prog 119 zNe:=by
 refine zAw (zAa zIt (zAa zNv zAd)) hmixA func119 rfl rfl (fun ⟨⟨pts,lab⟩,G⟩=>⟨okO zVm1,by simp[f119],?_⟩);simp only at G;obtain ⟨U,J⟩:=zEn G;have h1:pts.length≤sm:=by have:sm=16777216:=rfl;omega
 have h2:lab.length≤sm:=by have:sm=16777216:=rfl;omega
 have E:mapO (mapO imT) (tI (rowsZ pts))=some (rowsZ pts):=zCb _;have F:mapO (mapO imT) (tI (rowsN lab))=some (rowsN lab):=zCb _;simp only[rMB,modC,mSlicer',zAk];try simp -dsimp only[go_sem,f119,zBq h1 h2,G,zCn h1 h2,rTb]
 refine zAh [.frz 2 [.b 1 0 7],.frz 3 [.b 1 0 8],.nilI 1 [.b 1 0 4]] ?_;simp -dsimp only[go_sem,E,F,zAg,zAb,zAe]
def rRB (st:List Pt)(a c:Int)(b:Bool):Res:={val:=.tup [.agg [.im (.sl 1 (rowsZ st)),.im (.int .i64 a),.im (.int .i64 c)],.c (.im (.bool b))]}
theorem zKv2 {st:List Pt}{a c:Int}{b:Bool}:OkR false (rRB st a c b):=by
 refine⟨.tup _ (fun d hd=>?_),by simp[rRB],by simp[rRB]⟩;simp only[yac,yad,or_false] at hd;rcases hd with rfl|rfl
 ·refine .inr ⟨_,rfl,fun x hx=>?_⟩;simp only[yac,yad,or_false] at hx;rcases hx with rfl|rfl|rfl<;>exact .im _ (.inl rfl)
 ·exact .inl ⟨_,rfl,.im _ (.inl rfl)⟩
abbrev zrs (n:Nat):List Pt:=List.replicate n (0,0)
abbrev N16':={n:Nat//1≤n∧n≤16}
noncomputable def zGo1:Ct:=fam false (fun x:N16'=>([.c (.im (.int .i64 (x.1:Int)))],[])) (fun x=>.one (rRB (zrs x.1) 0 0 true))
theorem zUc1 {n:Nat}(h1:1≤n)(h2:n≤16):zGo1.run [.c (.im (.int .i64 (n:Int)))] []=some (.one (rRB (zrs n) 0 0 true)):=zAc (ct:=zGo1) rfl (by
 intro a b h
 simp only[Prod.mk.injEq,List.cons.injEq,D.c.injEq,C.im.injEq,I.int.injEq,Int.natCast_inj,true_and,and_true] at h
 (try simp only[yah])
 (try simp only[zAs,zAx] at h)
 simp_all) (⟨n,h1,h2⟩:N16')
theorem zEq2 (n:Nat):List.replicate n [T.im (.cpx .f32 0 0)]=tI (rowsZ (zrs n)):=by simp[tI,rowsZ,zrs]
theorem zWn1:Law prog 191 zGo1:=by
 refine zAw (zAa zIu zAd) hmixA func191 rfl rfl (fun ⟨n,h1,h2⟩=>⟨okO zKv2,by simp[f191],?_⟩);simp only[rRB];have hb:(decide ((1:Int)≤(n:Int))&&decide ((n:Int)≤16))=true:=by simp;omega
 have J:0≤(n:Int):=by omega
 have G:(n:Int)≤9223372036854775807:=by omega
 have F:((8:Nat):Int)*(n:Int)≤281474976710656:=by omega
 have E:mapO (mapO imT) (tI (rowsZ (zrs n)))=some (rowsZ (zrs n)):=zCb _;try simp -dsimp only[go_sem,f191,zBx,hb,zEq2,J,G,F,Int.toNat_natCast]
 refine zAh [.frz 1 [.b 0 0 0]] ?_;simp -dsimp only[go_sem,E,zAg,zAb,List.length_replicate]
noncomputable def zYv:Ct:=fam false (fun x:N16'=>([.c (.im (.int .i64 (x.1:Int)))],[])) (fun x=>.one (rMB (mDelay' (zrs x.1) 0) true))
theorem zQw1 {n:Nat}(h1:1≤n)(h2:n≤16):zYv.run [.c (.im (.int .i64 (n:Int)))] []=some (.one (rMB (mDelay' (zrs n) 0) true)):=zAc (ct:=zYv) rfl (by
 intro a b h
 simp only[Prod.mk.injEq,List.cons.injEq,D.c.injEq,C.im.injEq,I.int.injEq,Int.natCast_inj,true_and,and_true] at h
 (try simp only[yah])
 (try simp only[zAs,zAx] at h)
 simp_all) (⟨n,h1,h2⟩:N16')
theorem zRx1:Law prog 118 zYv:=by
 refine zAw (zAa zWn1 zAd) hmixA func118 rfl rfl (fun ⟨n,h1,h2⟩=>⟨okO zVm1,by simp[f118],?_⟩);simp only[rMB,modC,mDelay',zAk,zAq];have F:(rowsZ (zrs n)).length=n:=by simp[zAb]
 have E:(zrs n).length=n:=by simp
 try simp -dsimp only[go_sem,f118,zUc1 h1 h2,rRB,F,E]
 refine zAh [.nilI 1 [.b 0 0 7,.b 0 0 8]] ?_;simp -dsimp only[go_sem]
abbrev N100h:={n:Nat//1≤n∧n≤100}
noncomputable def zGp1:Ct:=fam false (fun x:N100h=>([.c (.im (.int .i64 (x.1:Int)))],[])) (fun x=>.one (rMB (mHold' (0,0) (x.1:Int) 0) true))
theorem zUd1 {n:Nat}(h1:1≤n)(h2:n≤100):zGp1.run [.c (.im (.int .i64 (n:Int)))] []=some (.one (rMB (mHold' (0,0) (n:Int) 0) true)):=zAc (ct:=zGp1) rfl (by
 intro a b h
 simp only[Prod.mk.injEq,List.cons.injEq,D.c.injEq,C.im.injEq,I.int.injEq,Int.natCast_inj,true_and,and_true] at h
 (try simp only[yah])
 (try simp only[zAs,zAx] at h)
 simp_all) (⟨n,h1,h2⟩:N100h)
theorem zWo1:Law prog 122 zGp1:=by
 refine zAw (zAa zIu zAd) hmixA func122 rfl rfl (fun ⟨n,h1,h2⟩=>⟨okO zVm1,by simp[f122],?_⟩);simp only[rMB,modC,mHold',zAk,zAq];have hb:(decide ((1:Int)≤(n:Int))&&decide ((n:Int)≤100))=true:=by simp;omega
 try simp -dsimp only[go_sem,f122,zBx,hb]
 refine zAh [.nilI 1 [.b 0 0 4,.b 0 0 7,.b 0 0 8]] ?_;simp -dsimp only[go_sem]
theorem zJv:Law prog 199 zGi:=by
 refine zAf zAd hmixA func199 rfl rfl (fun ⟨⟨l,hl⟩,a,c⟩=>⟨okO ⟨.agg _ (fun x hx=>?_),fun r hr=>?_,by simp⟩,by simp[f199],?_⟩)
 ·simp at hx;rcases hx with rfl|rfl|rfl
  ·exact .view _ _ _ _ (by simp)
  ·exact zBr rfl
  ·exact zBr rfl
 ·simp at hr;subst hr;exact zDg (zCz _)
 try simp -dsimp only[go_sem,f199,zAb,zEb hl (show 8≤128 by decide),zEg,zAg,appendH,srcRows]
 with_reducible repeat' first|refine sl_i ?_|refine ro_i ?_
 refine⟨[_],?_,?_,?_,rfl⟩<;>simp[rtOk]
theorem zGc:(zGi.sc=true)=True:=by simp[zGi,fam]
structure ARg where
 st:List Pt
 a:Nat
 h1:1≤st.length
 h2:st.length≤16
 h3:a<st.length
theorem zZq1 {x y:ARg}(h:x.st=y.st∧x.a=y.a):x=y:=by
 obtain ⟨s,a,_,_,_⟩:=x;obtain ⟨t,b,_,_,_⟩:=y;obtain ⟨rfl,rfl⟩:=h;rfl
def rTake (st:List Pt)(a:Nat):Res:={val:=.tup [.agg [.view 0 1 0 st.length,.im (.int .i64 (((a+1)%st.length:Nat):Int)),.im (.int .i64 ((st.length-1:Nat):Int))],.c (.im (.cpx .f32 (st.getD a (0,0)).1 (st.getD a (0,0)).2))],roots:=[.arr 1 (tI (rowsZ (st.set a (0,0))))]}
theorem zBo2 {sc:Bool}{st:List Pt}{a:Nat}:OkR sc (rTake st a):=by
 refine⟨.tup _ (fun d hd=>?_),fun r hr=>?_,by simp[rTake]⟩
 ·simp only[yac,yad,or_false] at hd;rcases hd with rfl|rfl
  ·exact .inr ⟨_,rfl,fun x hx=>by
    simp only[yac,yad,or_false] at hx
    rcases hx with rfl|rfl|rfl<;>first|exact zBr rfl|exact .view _ _ _ _ (by simp[rTake])⟩
  ·exact .inl ⟨_,rfl,zBr rfl⟩
 ·simp only[rTake,yac,yad,or_false] at hr;subst hr;exact zDg (zCz _)
noncomputable def zMv:Ct:=fam true (fun x:ARg=>([.agg [.im (.sl 1 (rowsZ x.st)),.im (.int .i64 (x.a:Int)),.im (.int .i64 (x.st.length:Int))]],[])) (fun x=>.one (rTake x.st x.a))
theorem zQz1 {st:List Pt}{a:Nat}(h1:1≤st.length)(h2:st.length≤16)(h3:a<st.length):zMv.run [.agg [.im (.sl 1 (rowsZ st)),.im (.int .i64 (a:Int)),.im (.int .i64 (st.length:Int))]] []=some (.one (rTake st a)):=by
 refine zAc (ct:=zMv) rfl (fun x y h=>?_) ⟨st,a,h1,h2,h3⟩;simp[zAs] at h;exact zZq1 ⟨h.1,by omega⟩
theorem zTt1:(zMv.sc=true)=True:=by simp[zMv,fam]
theorem setZ (st:List Pt)(a:Nat)(u v:Nat):(tI (rowsZ st)).set a [T.im (.cpx .f32 u v)]=tI (rowsZ (st.set a (u,v))):=by simp[tI,rowsZ,List.map_set]
theorem zSc1:Law prog 249 zMv:=by
 refine zAf (zAa zJv zAd) hmixA func249 rfl rfl (fun ⟨st,a,h1,h2,h3⟩=>⟨okO zBo2,by simp[f249],?_⟩);simp only[rTake];have hs:st.length≤sm:=by have:sm=16777216:=rfl;omega
 obtain ⟨⟨p,q⟩,F⟩:∃p,st[a]?=some p:=⟨_,List.getElem?_eq_getElem h3⟩;have E:(tI (rowsZ st))[a]?=some [T.im (.cpx .f32 p q)]:=zPn (zBz F);have V:st.getD a (0,0)=(p,q):=by rw[List.getD_eq_getElem?_getD,F];rfl
 have h0:0≤(a:Int):=by simp
 have Z:(a:Int)<(st.length:Int):=by omega
 have J:IntKind.i64.wrap ((a:Int)+1)=((a+1:Nat):Int):=by rw[zAi (by omega) (by omega)];omega
 have G:((st.length:Int)=0)=False:=eq_false (by omega);have U:((a+1:Nat):Int).tmod (st.length:Int)=(((a+1)%st.length:Nat):Int):=by rw[Int.tmod_eq_emod_of_nonneg (by omega)];exact (Int.natCast_emod _ _).symm
 have hc:IntKind.i64.wrap ((st.length:Int)-1)=((st.length-1:Nat):Int):=by rw[zAi (by omega) (by omega)];omega
 try simp -dsimp only[go_sem,f249,zEf hs,zGc,E,h0,Z,J,G,U,hc,setZ,Int.toNat_natCast]
 refine⟨[2],?_,?_,?_,?_⟩<;>simp[rtOk,F]
noncomputable def zZe:Ct:=fam false (fun x:ARg×Pt=>([.agg [.im (.sl 1 (rowsZ x.1.st)),.im (.int .i64 (x.1.a:Int)),.im (.int .i64 (x.1.st.length:Int))],.c (.im (.cpx .f32 x.2.1 x.2.2))],[]))
 (fun x=>.one {val:=.tup [.agg [.im (.sl 1 (rowsZ (x.1.st.set x.1.a x.2))),.im (.int .i64 (((x.1.a+1)%x.1.st.length:Nat):Int)),.im (.int .i64 (x.1.st.length:Int))],.c (.im (.cpx .f32 (x.1.st.getD x.1.a (0,0)).1 (x.1.st.getD x.1.a (0,0)).2))]})
theorem zRa1 {st:List Pt}{a:Nat}(h1:1≤st.length)(h2:st.length≤16)(h3:a<st.length)(u v:Nat):zZe.run [.agg [.im (.sl 1 (rowsZ st)),.im (.int .i64 (a:Int)),.im (.int .i64 (st.length:Int))],.c (.im (.cpx .f32 u v))] []=
 some (.one {val:=.tup [.agg [.im (.sl 1 (rowsZ (st.set a (u,v)))),.im (.int .i64 (((a+1)%st.length:Nat):Int)),.im (.int .i64 (st.length:Int))],.c (.im (.cpx .f32 (st.getD a (0,0)).1 (st.getD a (0,0)).2))]}):=by
 refine zAc (ct:=zZe) rfl (fun x y h=>?_) (⟨st,a,h1,h2,h3⟩,(u,v));simp[zAs] at h;exact Prod.ext (zZq1 ⟨h.1.1,by omega⟩) (Prod.ext h.2.1 h.2.2)
theorem zBq2 {st:List Pt}{a:Int}{c:Int}{p q:Nat}:OkR false {val:=.tup [.agg [.im (.sl 1 (rowsZ st)),.im (.int .i64 a),.im (.int .i64 c)],.c (.im (.cpx .f32 p q))]}:=by
 refine⟨.tup _ (fun d hd=>?_),by simp,by simp⟩;simp only[yac,yad,or_false] at hd;rcases hd with rfl|rfl
 ·refine .inr ⟨_,rfl,fun x hx=>?_⟩;simp only[yac,yad,or_false] at hx;rcases hx with rfl|rfl|rfl<;>exact .im _ (.inl rfl)
 ·exact .inl ⟨_,rfl,.im _ (.inl rfl)⟩
theorem zOn1 {a n:Nat}(h:a<n):((a+1)%n+(n-1))%n=a:=by
 by_cases e:a+1=n
 ·rw[e,Nat.mod_self,Nat.zero_add,Nat.mod_eq_of_lt (by omega)];omega
 ·rw[Nat.mod_eq_of_lt (show a+1<n by omega),show a+1+(n-1)=a+n by omega,Nat.add_mod_right,Nat.mod_eq_of_lt h]
theorem zSe1:Law prog 197 zZe:=by
 refine zAw (zAa zJv (zAa zSc1 zAd)) hmixA func197 rfl rfl (fun ⟨⟨st,a,h1,h2,h3⟩,⟨u,v⟩⟩=>⟨okO zBq2,by simp[f197],?_⟩);simp only;have hs:st.length≤sm:=by have:sm=16777216:=rfl;omega
 obtain ⟨⟨p,q⟩,hp⟩:∃p,st[a]?=some p:=⟨_,List.getElem?_eq_getElem h3⟩;have V:st.getD a (0,0)=(p,q):=by rw[List.getD_eq_getElem?_getD,hp];rfl
 have a8:(a+1)%st.length<st.length:=Nat.mod_lt _ (by omega);have Z:IntKind.i64.wrap ((((a+1)%st.length:Nat):Int)+((st.length-1:Nat):Int))=(((a+1)%st.length+(st.length-1):Nat):Int):=by rw[zAi (by omega) (by omega)];omega
 have J:((st.length:Int)=0)=False:=eq_false (by omega);have hm:(((a+1)%st.length+(st.length-1):Nat):Int).tmod (st.length:Int)=(a:Int):=by rw[Int.tmod_eq_emod_of_nonneg (by omega),←Int.natCast_emod,zOn1 h3]
 have hc:IntKind.i64.wrap (((st.length-1:Nat):Int)+1)=(st.length:Int):=by rw[zAi (by omega) (by omega)];omega
 have h0:0≤(a:Int):=by simp
 have hI:(a:Int)<(st.length:Int):=by omega
 have E:(tI (rowsZ (st.set a (0,0))))[a]?=some [T.im (.cpx .f32 0 0)]:=zPn (zBz (by rw[List.getElem?_set_self h3]));have F:(tI (rowsZ (st.set a (0,0)))).set a [T.im (.cpx .f32 u v)]=tI (rowsZ (st.set a (u,v))):=by rw[setZ,List.set_set]
 have U:mapO (mapO imT) (tI (rowsZ (st.set a (u,v))))=some (rowsZ (st.set a (u,v))):=zCb _;have G:List.take st.length (tI (rowsZ st))=tI (rowsZ st):=List.take_of_length_le (by simp[zAg,zAb]);try simp -dsimp only[go_sem,f197,zEf hs,zGc,zQz1 h1 h2 h3,zTt1,rTake,V,Z,J,hm,hc,h0,hI,E,F,G,zBj,Int.toNat_natCast,zAg,zAb]
 with_reducible repeat' first|refine sl_i ?_|refine ro_i ?_
 refine zAh [.frz 4 [.b 1 0 0]] ?_;simp -dsimp only[go_sem,U,zAg,zAb,yaD]
theorem zEx2 {m:Mod}{p q:Nat}:OkR false {val:=.tup [.agg (modC m),.c (.im (.cpx .f32 p q))]}:=by
 refine⟨.tup _ (fun d hd=>?_),by simp,by simp⟩;simp only[yac,yad,or_false] at hd;rcases hd with rfl|rfl
 ·refine .inr ⟨_,rfl,fun x hx=>?_⟩;simp only[modC,yac,yad,or_false] at hx;rcases hx with rfl|rfl|rfl|rfl|rfl|rfl|rfl|rfl|rfl|rfl|rfl<;>exact .im _ (.inl rfl)
 ·exact .inl ⟨_,rfl,.im _ (.inl rfl)⟩
noncomputable def zZd:Ct:=fam false (fun x:MdA=>([.agg (modC x.1)],[])) (fun x=>.one (rM x.1))
theorem zBx1 {k:Int}{t1 t2 s1 s2 lv:Nat}{st:List Pt}{ra rc:Int}{pts:List Pt}{lab:List Int}{c l:Int}(hst:st.length≤sm)(hp:pts.length≤sm)(hl:lab.length≤sm):
 zZd.run [.agg [.im (.int .i64 k),.im (.cpx .f32 t1 t2),.im (.cpx .f32 s1 s2),.im (.flt .f32 lv),.im (.sl 1 (rowsZ st)),.im (.int .i64 ra),.im (.int .i64 rc),.im (.sl 1 (rowsZ pts)),.im (.sl 1 (rowsN lab)),.im (.int .i64 c),.im (.int .i64 l)]] []=
  some (.one (rM ⟨k,(t1,t2),(s1,s2),lv,st,ra,rc,pts,lab,c,l⟩)):=by
 refine zAc (ct:=zZd) rfl ?_ ⟨⟨k,(t1,t2),(s1,s2),lv,st,ra,rc,pts,lab,c,l⟩,⟨hst,hp,hl⟩⟩;rintro ⟨a,_⟩ ⟨b,_⟩ h;simp at h ⊢;exact zDj h
theorem zCn1:Law prog 124 zZd:=by
 refine zAw (zAa zJv (zAa zNv zAd)) hmixA func124 rfl rfl (fun ⟨⟨k,⟨t1,t2⟩,⟨s1,s2⟩,lv,st,ra,rc,pts,lab,c,l⟩,⟨V,U,J⟩⟩=>⟨okO zMj1,by simp[f124],?_⟩);simp only at V U J;have F:mapO (mapO imT) (tI (rowsZ pts))=some (rowsZ pts):=zCb _;have G:mapO (mapO imT) (tI (rowsN lab))=some (rowsN lab):=zCb _;have E:mapO (mapO imT) (tI (rowsZ st))=some (rowsZ st):=zCb _;simp only[modC,rM];try simp -dsimp only[go_sem,f124,zEf V,zCn U J,rTb,zGc,zEd]
 with_reducible repeat' first|refine sl_i ?_|refine ro_i ?_
 refine zAh [.frz 82 [.b 1 0 4],.frz 106 [.b 1 0 7],.frz 107 [.b 1 0 8]] ?_;simp -dsimp only[go_sem,F,G,E,zAg,zAb,zAe]
theorem zTa1 (t s:Pt):Drawn ⟨2,t,s,0,[],0,0,[],[],0,0⟩:=⟨⟨by simp[sm],by simp[sm],by simp[sm]⟩,by simp[isModuleF,zBc],by simp⟩
def mz11:List B:=[.t (.im (.int .i64 0)),.t (.im (.cpx .f32 0 0)),.t (.im (.cpx .f32 0 0)),.t (.im (.flt .f32 0)),.t .nil,.t (.im (.int .i64 0)),.t (.im (.int .i64 0)),.t .nil,.t .nil,.t (.im (.int .i64 0)),.t (.im (.int .i64 0))]
theorem zYf1 {X:Nat}(h:X<5):Drawn (mDelay' (zrs (X+1)) 0):=by
 have hl:(zrs (X+1)).length=X+1:=by simp
 exact zOx (by omega) (by omega) (by omega) (by omega)
def modIB (m:Mod):List B:=[.t (.im (.int .i64 m.kind)),.t (.im (.cpx .f32 m.turn.1 m.turn.2)),.t (.im (.cpx .f32 m.state.1 m.state.2)),.t (.im (.flt .f32 m.level)),.t (.im (.sl 1 (rowsZ m.store))),.t (.im (.int .i64 m.rat)),.t (.im (.int .i64 m.rcnt)),.t (.im (.sl 1 (rowsZ m.pts))),.t (.im (.sl 1 (rowsN m.lab))),.t (.im (.int .i64 m.count)),.t (.im (.int .i64 m.left))]
theorem zHt2 {m:Mod}:OkD false 0 (.agg (modC m)):=.agg _ (fun x hx=>by
 simp only[modC,yac,yad,or_false] at hx
 rcases hx with rfl|rfl|rfl|rfl|rfl|rfl|rfl|rfl|rfl|rfl|rfl<;>exact .im _ (.inl rfl))
theorem cases8 {p:Prop}{v:Int}(h1:0≤v)(h2:v<8)(h0:v=0→p)(h1':v=1→p)(h2':v=2→p)(h3:v=3→p)(h4:v=4→p)(h5:v=5→p)(h6:v=6→p)(h7:v=7→p):p:=by
 have:v=0∨v=1∨v=2∨v=3∨v=4∨v=5∨v=6∨v=7:=by omega
 rcases this with h|h|h|h|h|h|h|h
 ·exact h0 h
 ·exact h1' h
 ·exact h2' h
 ·exact h3 h
 ·exact h4 h
 ·exact h5 h
 ·exact h6 h
 ·exact h7 h
def strL (l:List UInt8):ByteArray:=⟨l.toArray⟩
theorem zOc1 (a b:List UInt8):strL a++strL b=strL (a++b):=by
 apply ByteArray.ext;simp[strL]
theorem zPo (l:List UInt8):(strL l).size=l.length:=by simp[strL,ByteArray.size]
theorem zZy (E:List Int):bytesS E=strL (E.map fun n=>UInt8.ofNat n.toNat):=by
 have F:∀(E:List Int) (r:ByteArray),E.foldl (fun r n=>r.push (UInt8.ofNat n.toNat)) r=r++strL (E.map fun n=>UInt8.ofNat n.toNat):=by
  intro E
  induction E with
  | nil=>intro r;simp[strL];apply ByteArray.ext;simp
  | cons n E ih=>
   intro r;simp only[List.foldl_cons,ih,List.map_cons];apply ByteArray.ext;simp[strL]
 have h:=F E ByteArray.empty;have e:ByteArray.empty++strL (E.map fun n=>UInt8.ofNat n.toNat)=strL (E.map fun n=>UInt8.ofNat n.toNat):=by apply ByteArray.ext;simp[strL]
 unfold bytesS;rw[h,e]
def dig (d:Nat):UInt8:=UInt8.ofNat (48+d)
def digF:Nat→Nat→List UInt8
 | 0,_=>[]
 | f+1,n=>if n<10 then [dig n] else digF f (n / 10)++[dig (n%10)]
theorem zKp1:∀(f g n:Nat),n<10^ f→n<10^ g→0<f→0<g→digF f n=digF g n
 | 0,_,_,_,_,h,_=>by omega
 | _,0,_,_,_,_,h=>by omega
 | f+1,g+1,n,h1,h2,_,_=>by
  simp only[digF];split
  ·rfl
  ·rename_i G;rw[Nat.pow_succ] at h1 h2;have a1:n / 10<10^ f:=Nat.div_lt_of_lt_mul (by omega);have a2:n / 10<10^ g:=Nat.div_lt_of_lt_mul (by omega)
   have F:0<f:=by
    rcases Nat.eq_zero_or_pos f with rfl|h
    ·simp at a1;omega
    ·exact h
   have E:0<g:=by
    rcases Nat.eq_zero_or_pos g with rfl|h
    ·simp at a2;omega
    ·exact h
   rw[zKp1 f g (n / 10) a1 a2 F E]
def digs (n:Nat):List UInt8:=digF 20 n
theorem zTb1 {n:Nat}(h:n<10):digs n=[dig n]:=by simp[digs,digF,h]
theorem zYj1 {n:Nat}(h:10≤n)(h2:n<10^ 19):digs n=digs (n / 10)++[dig (n%10)]:=by
 have:¬n<10:=by omega
 have e:digs n=digF 19 (n / 10)++[dig (n%10)]:=by
  unfold digs;rw[show (20:Nat)=19+1 from rfl];simp only[digF,this,yau]
 rw[e,digs,zKp1 19 20 (n / 10) (by omega) (by omega) (by omega) (by omega)]
theorem zUz:∀(f n:Nat),(digF f n).length≤f
 | 0,n=>by simp[digF]
 | f+1,n=>by
  simp only[digF];split
  ·simp
  ·have:=zUz f (n / 10);simp;omega
def digR (k:Nat)(cur:List UInt8):List UInt8:=if k=0 then cur else digs k++cur
theorem zRa {k:Nat}(h:0<k)(h2:k<10^ 19)(cur:List UInt8):digR k cur=digR (k / 10) (dig (k%10)::cur):=by
 unfold digR;rw[if_neg (by omega)];by_cases E:k<10
 ·rw[if_pos (by omega),zTb1 E,Nat.mod_eq_of_lt E];rfl
 ·rw[if_neg (by omega),zYj1 (by omega) h2,List.append_assoc];rfl
abbrev NNum:={n:Nat//n<9223372036854775808}
noncomputable def zPe:Ct:=fam true (fun x:NNum=>([.c (.im (.int .i64 (x.1:Int)))],[])) (fun x=>.one {val:=.c (.im (.str (strL (digs x.1))))})
theorem zIl1 {n:Nat}(h:n<9223372036854775808):zPe.run [.c (.im (.int .i64 (n:Int)))] []=some (.one {val:=.c (.im (.str (strL (digs n))))}):=zAc (ct:=zPe) rfl (by
 intro a b h
 simp only[Prod.mk.injEq,List.cons.injEq,D.c.injEq,C.im.injEq,I.int.injEq,Int.natCast_inj,true_and,and_true] at h
 (try simp only[yah])
 (try simp only[zAs,zAx] at h)
 simp_all) (⟨n,h⟩:NNum)
theorem zJr1:Law prog 133 zPe:=by
 refine zAf zAd hmixA func133 rfl rfl (fun ⟨n,hn⟩=>⟨zAv rfl,by simp[f133],?_⟩);simp only;have J:¬((n:Int)<0):=by omega
 have V:((10:Int)=0)=False:=by simp
 have hm:∀k:Nat,(k:Int).tmod 10=((k%10:Nat):Int):=fun k=>by rw[Int.tmod_eq_emod_of_nonneg (by omega)];omega
 have hd:∀k:Nat,k<9223372036854775808→IntKind.i64.wrap ((k:Int).tdiv 10)=((k / 10:Nat):Int):=fun k hk=>by rw[Int.tdiv_eq_ediv_of_nonneg (by omega),zAi (by omega) (by omega)];omega
 have hw:∀k:Nat,IntKind.i64.wrap (48+((k%10:Nat):Int))=((48+k%10:Nat):Int):=fun k=>by rw[zAi (by omega) (by omega)];omega
 have G:∀k:Nat,IntKind.u8.wrap ((48+k%10:Nat):Int)=((48+k%10:Nat):Int):=fun k=>by
  show (((48+k%10:Nat):Int)%256)=_;omega
 have U:∀k:Nat,bytesS [((48+k%10:Nat):Int)]=strL [dig (k%10)]:=fun k=>by rw[zZy];rfl
 try simp -dsimp only[go_sem,f133,J,V,hm,hd n hn,hw,G,U]
 refine zAp (ι:={x:Nat×List UInt8//x.1<9223372036854775808∧digR x.1 x.2=digs n}) (fun x=>⟨[(0,some (.c (.im (.int .i64 (x.1.1:Int))))),(3,some (.c (.im (.str (strL x.1.2)))))],[],0⟩) (fun x=>x.1.1)
  ⟨(n / 10,[dig (n%10)]),by omega,by
   by_cases Z:n=0
   ·subst Z;rfl
   ·rw[←zRa (by omega) (by omega) []];simp[digR,Z]⟩ ⟨[],[],by (simp only[go_sem,yai])<;>simp⟩ (fun ⟨⟨k,F⟩,hk,E⟩=>?_)
 simp only at hk E ⊢;by_cases Z:k=0
 ·subst Z;have hI:¬((0:Int)<((0:Nat):Int)):=by simp
  simp only[digR,yav] at E;try simp -dsimp only[go_sem,f133,hI,E]
 ·have hI:(0:Int)<(k:Int):=by omega
  have b2:F.length≤20:=by
   have:=congrArg List.length E;have b4:=zUz 20 n;simp only[digR,Z,yau,yaw] at this;unfold digs at this;omega
  have a6:((strL [dig (k%10)]).size+(strL F).size≤4611686018427387904)=True:=eq_true (by rw[zPo,zPo];simp;omega);rw[zRa (by omega) (by omega)] at E;try simp -dsimp only[go_sem,hI,V,hm,hd k hk,hw,G,U,a6,zOc1]
  exact⟨⟨(k / 10,dig (k%10)::F),by omega,E⟩,by simp only[];omega,[],[],by (simp only[go_sem,yai])<;>simp⟩
def usesF (k:Int):List (List I):=
 if k=1∨k=2 then [[.bool true],[.bool true],[.bool false],[.bool false],[.bool false],[.bool false],[.bool false]]
 else if k=3∨k=7 then [[.bool false],[.bool false],[.bool true],[.bool false],[.bool false],[.bool false],[.bool false]]
 else if k=4 then [[.bool false],[.bool false],[.bool false],[.bool true],[.bool false],[.bool false],[.bool false]]
 else if k=6 then [[.bool false],[.bool false],[.bool false],[.bool false],[.bool true],[.bool true],[.bool false]]
 else if k=8 then [[.bool false],[.bool true],[.bool false],[.bool false],[.bool false],[.bool true],[.bool true]]
 else [[.bool false],[.bool false],[.bool false],[.bool false],[.bool false],[.bool false],[.bool false]]
abbrev NKnd:={k:Int//k=1∨k=2∨k=3∨k=4∨k=5∨k=6∨k=7∨k=8}
noncomputable def zZb:Ct:=fam false (fun x:NKnd=>([.c (.im (.int .i64 x.1))],[])) (fun x=>.one {val:=.c (.im (.sl 1 (usesF x.1)))})
theorem zQy1 {k:Int}(h:k=1∨k=2∨k=3∨k=4∨k=5∨k=6∨k=7∨k=8):zZb.run [.c (.im (.int .i64 k))] []=some (.one {val:=.c (.im (.sl 1 (usesF k)))}):=zAc (ct:=zZb) rfl (by
 intro a b h
 simp only[Prod.mk.injEq,List.cons.injEq,D.c.injEq,C.im.injEq,I.int.injEq,true_and,and_true] at h
 (try simp only[yah])
 (try simp only[zAs,zAx] at h)
 simp_all) (⟨k,h⟩:NKnd)
theorem zSb1:Law prog 128 zZb:=by
 refine zAw zAd hmixA func128 rfl rfl (fun ⟨k,F⟩=>⟨okO ⟨.c _ (.im _ (.inl rfl)),by simp,by simp⟩,by simp[f128],?_⟩);simp only at F ⊢;have E:(((1:Nat):Int)*7≤281474976710656)=True:=by decide
 rcases F with rfl|rfl|rfl|rfl|rfl|rfl|rfl|rfl
 all_goals (
   try simp -dsimp only[go_sem,f128,E,Int.reduceEq,Int.reduceLE,Int.reduceToNat]
   refine zAh [.frz 0 [.s 2]] ?_
   simp -dsimp only[go_sem,usesF,Int.reduceEq])
end Go.SX
namespace Go.SX
open Go Ieee
theorem two_pow_pos (k:Nat):(0:Int)<2^ k:=by
 have:=Nat.two_pow_pos k
 exact_mod_cast this
theorem zFv1 {α:Type}{f:α→Bool}:∀(l:List α) (k:Nat),(0≤idxF f l k)↔∃x∈l,f x=true
 | [],k=>by simp[idxF]
 | x::l,k=>by
  simp only[idxF];split
  ·rename_i h;simp[h]
  ·rename_i h;rw[zFv1 l (k+1)];simp[h]
theorem zIw {l:List Int}{v:Int}:hasF l v=true↔v∈l:=by
 simp only[hasF,yaG,zFv1];constructor
 ·rintro ⟨x,hx,rfl⟩;exact hx
 ·intro h;exact⟨v,h,rfl⟩
def iL (k:Nat):List Int:=(List.range k).map fun (i:Nat)=>(i:Int)
theorem zWa1 {k:Nat}{v:Int}:v∈iL k↔0≤v∧v<k:=by
 simp only[iL,List.mem_map,List.mem_range];constructor
 ·rintro ⟨i,hi,rfl⟩;omega
 ·rintro ⟨h1,h2⟩;exact⟨v.toNat,by omega,by omega⟩
theorem zIt2 (k:Nat):iL k++[(k:Int)]=iL (k+1):=by simp[iL,List.range_succ]
theorem zUw1 {ms:List Mod}{cs:List Cbl}(h:∀c∈cs,0≤c.1∧c.1<c.2)(k i:Nat)(hi:i≤k):readyF ms cs (iL k) (i:Int)=decide (i=k):=by
 unfold readyF;by_cases E:i=k
 ·subst E;have h1:hasF (iL i) (i:Int)=false:=by rw[Bool.eq_false_iff];intro e;rw[zIw,zWa1] at e;omega
  have h2:anyF ms (iL i) (i:Int) cs=false:=by
   rw[Bool.eq_false_iff];intro e;simp only[anyF,yaG,zFv1] at e;obtain ⟨c,hc,hb⟩:=e;simp only[blocks,yay,yaG,Bool.not_eq_true'] at hb;obtain ⟨U,J,F⟩:=hb;have:=h c hc;have G:hasF (iL i) c.1=true:=(by rw[zIw,zWa1];omega);rw[G] at F;cases F
  simp[h1,h2]
 ·have h1:hasF (iL k) (i:Int)=true:=by rw[zIw,zWa1];omega
  simp[h1,E]
theorem zTq {ms:List Mod}{cs:List Cbl}(h:∀c∈cs,0≤c.1∧c.1<c.2)(k:Nat):∀f i,i≤k→k<i+f→readyIdx ms cs (iL k) f i=k
 | 0,i,h1,h2=>by omega
 | f+1,i,h1,h2=>by
  simp only[readyIdx,zUw1 h k i h1,yaG];split
  ·rename_i e;exact e
  ·exact zTq h k f (i+1) (by omega) (by omega)
theorem zWz {ms:List Mod}{cs:List Cbl}(h:∀c∈cs,0≤c.1∧c.1<c.2):∀f k,k+f=ms.length→orderGo ms cs f (iL k)=some (iL ms.length)
 | 0,k,e=>by simp[orderGo];rw[←e];rfl
 | f+1,k,e=>by
  have hr:=zTq (ms:=ms) h k ms.length 0 (by omega) (by omega);simp only[orderGo,hr];rw[if_neg (by omega),zIt2];exact zWz h f (k+1) (by omega)
theorem zVe1 {ms:List Mod}{cs:List Cbl}(h:∀c∈cs,0≤c.1∧c.1<c.2):orderF ms cs=some (iL ms.length):=zWz (ms:=ms) h ms.length 0 (by omega)
end Go.SX
namespace Go.SX
open Go Go.Proofs Tryz
def hasR (n:Nat)(i:Int):Bool:=decide (0≤i)&&decide (i<(n:Int))
noncomputable def zGt1:Ct:=fam true (fun x:(List Mod×List Cbl)×Int=>([.agg [.im (.sl 11 (rowsM x.1.1)),.im (.sl 2 (rowsC x.1.2))],.c (.im (.int .i64 x.2))],[])) (fun x=>.one {val:=.c (.im (.bool (hasR x.1.1.length x.2)))})
theorem zVx (ms:List Mod)(cs:List Cbl)(i:Int):zGt1.run [.agg [.im (.sl 11 (rowsM ms)),.im (.sl 2 (rowsC cs))],.c (.im (.int .i64 i))] []=some (.one {val:=.c (.im (.bool (hasR ms.length i)))}):=by
 refine zAc (ct:=zGt1) rfl ?_ ((ms,cs),i);rintro ⟨⟨a,b⟩,c⟩ ⟨⟨G,F⟩,E⟩ h;simp[zBp,zBh] at h ⊢;simp[h]
theorem zWv1:Law prog 148 zGt1:=by
 refine zAf zAd hmixA func148 rfl rfl (fun ⟨⟨ms,cs⟩,i⟩=>⟨zAv rfl,by simp[f148],?_⟩);simp only[hasR];by_cases h1:0≤i
 ·have E:=eq_true h1;clear h1;try simp -dsimp only[go_sem,f148,zAj,E,yas]
 ·have E:=eq_false h1;clear h1;try simp -dsimp only[go_sem,f148,E,yar]
def rowsBo (l:List Bool):List (List I):=l.map fun b=>[.bool b]
theorem zRz (l:List Bool):(rowsBo l).length=l.length:=by simp[rowsBo]
theorem zWt {l:List Bool}{k:Nat}{p:Bool}(h:l[k]?=some p):(rowsBo l)[k]?=some [.bool p]:=by simp[rowsBo,h]
theorem zRh1 {l m:List Bool}(h:rowsBo l=rowsBo m):l=m:=by
 induction l generalizing m with
 | nil=>cases m with|nil=>rfl|cons=>simp[rowsBo] at h
 | cons p l ih=>
  cases m with
  | nil=>simp[rowsBo] at h
  | cons q m=>
   simp only[rowsBo,List.map_cons,List.cons.injEq,I.bool.injEq,and_true] at h;rw[ih h.2,h.1]
theorem zUu1 {l m:List Bool}:(rowsBo l=rowsBo m)=(l=m):=propext ⟨zRh1,fun h=>by rw[h]⟩
def blkS (ms:List Mod)(L:List Bool)(i:Int)(c:Cbl):Bool:=decide (c.2=i)&&(!(L.getD c.1.toNat false)&&!(decide (kindOf ms c.1=4)))
def rdyS (ms:List Mod)(cs:List Cbl)(L:List Bool)(i:Nat):Bool:=!(L.getD i false)&&!(cs.any (blkS ms L (i:Int)))
structure ARy where
 ms:List Mod
 cs:List Cbl
 L:List Bool
 i:Nat
 cl:cs.length≤sm
 ll:L.length=ms.length
 il:i<ms.length
 ok:∀c∈cs,0≤c.1∧c.1<ms.length
noncomputable def zJy:Ct:=fam true (fun x:ARy=>([.agg [.im (.sl 11 (rowsM x.ms)),.im (.sl 2 (rowsC x.cs))],.c (.im (.sl 1 (rowsBo x.L))),.c (.im (.int .i64 (x.i:Int)))],[])) (fun x=>.one {val:=.c (.im (.bool (rdyS x.ms x.cs x.L x.i)))})
theorem zVw {ms:List Mod}{cs:List Cbl}{L:List Bool}{i:Nat}(h1:cs.length≤sm)(h2:L.length=ms.length)(h3:i<ms.length)(h4:∀c∈cs,0≤c.1∧c.1<ms.length):
 zJy.run [.agg [.im (.sl 11 (rowsM ms)),.im (.sl 2 (rowsC cs))],.c (.im (.sl 1 (rowsBo L))),.c (.im (.int .i64 (i:Int)))] []=some (.one {val:=.c (.im (.bool (rdyS ms cs L i)))}):=by
 refine zAc (ct:=zJy) rfl ?_ ⟨ms,cs,L,i,h1,h2,h3,h4⟩;rintro ⟨a,b,c,d,_,_,_,_⟩ ⟨G,F,E,d',_,_,_,_⟩ h;simp[zBp,zBh,zUu1] at h ⊢;exact⟨h.1.1,h.1.2,h.2.1,by omega⟩
theorem zBs1:(zJy.sc=true)=True:=by simp[zJy,fam]
theorem zEc2 {α:Type}{f:α→Bool}{l:List α}{k:Nat}{p:α}(h:l[k]?=some p):(l.drop k).any f=(f p||(l.drop (k+1)).any f):=by
 have E:k<l.length:=(List.getElem?_eq_some_iff.1 h).1;have F:l[k]=p:=by rw[List.getElem?_eq_getElem E] at h;injection h
 rw[List.drop_eq_getElem_cons E,F,List.any_cons]
theorem zMr1:Law prog 208 zJy:=by
 refine zAf zAd hmixA func208 rfl rfl (fun ⟨ms,cs,L,i,h1,h2,h3,h4⟩=>⟨zAv rfl,by simp[f208],?_⟩);simp only[rdyS];obtain ⟨b,hb⟩:∃b,L[i]?=some b:=⟨_,List.getElem?_eq_getElem (by omega)⟩;have b8:L.getD i false=b:=by rw[List.getD_eq_getElem?_getD,hb];rfl
 have b1:=zWt hb;have i0:0≤(i:Int):=by simp
 rw[b8]
 cases b with
 | true=> try simp -dsimp only[go_sem,f208,b1,i0,Int.toNat_natCast,yaH,yar]
 | false=>
  try simp -dsimp only[go_sem,f208,zAo,b1,i0,Int.toNat_natCast]
  refine zAp (ι:={k:Nat//k≤cs.length∧cs.any (blkS ms L (i:Int))=(cs.drop k).any (blkS ms L (i:Int))}) (fun k=>⟨[(1,some (.c (.im (.sl 1 (rowsBo L))))),(2,some (.c (.im (.int .i64 (i:Int))))),(3,some (.c (.ptr 0 0 0 0))),(14,some (.c (.im (.sl 2 (rowsC cs))))),(15,some (.c (.im (.int .i64 (cs.length:Int))))),(16,some (.c (.im (.int .i64 (k.1:Int)))))],
   [(0,some (.box [.t (.im (.sl 11 (rowsM ms))),.t (.im (.sl 2 (rowsC cs)))]))],1⟩) (fun k=>cs.length-k.1) ⟨0,by simp⟩ ⟨[],[],by ((simp only[go_sem,yai])<;>(try (simp -dsimp only[go_sem,yaj,yai])))<;>simp[]⟩ (fun ⟨k,hk,E⟩=>?_)
  simp only;by_cases b2:k<cs.length;rotate_left
  ·have hI:¬((k:Int)<(cs.length:Int)):=(by omega);obtain rfl:k=cs.length:=by omega
   rw[List.drop_length,List.any_nil] at E;try simp -dsimp only[go_sem,f208,hI,E,yaI,yas]
  obtain ⟨⟨f,t⟩,hp⟩:∃p,cs[k]?=some p:=⟨_,List.getElem?_eq_getElem b2⟩;have J:=zIq hp;have hI:(k:Int)<(cs.length:Int):=by omega
  have k0:0≤(k:Int):=by simp
  have Z:=zDh h1 b2;have V:=zEc2 (f:=blkS ms L (i:Int)) hp;rw[V] at E;clear V;obtain ⟨f1,f2⟩:=h4 _ (List.mem_of_getElem? hp);simp only at f1 f2;obtain ⟨F,rfl⟩:=Int.eq_ofNat_of_zero_le f1;obtain ⟨lb,b3⟩:∃b,L[F]?=some b:=⟨_,List.getElem?_eq_getElem (by omega)⟩;obtain ⟨m,hm⟩:∃m,ms[F]?=some m:=⟨_,List.getElem?_eq_getElem (by omega)⟩;have a6:=zWt b3;have b0:=zIp hm;have b6:L.getD F false=lb:=by rw[List.getD_eq_getElem?_getD,b3];rfl
  have b7:kindOf ms (F:Int)=m.kind:=by simp[kindOf,hm]
  have F0:0≤(F:Int):=by simp
  simp only[blkS,Int.toNat_natCast,b6,b7] at E;by_cases ht:t=(i:Int);rotate_left
  ·have G:=eq_false ht;simp only[G,yaL,yar,yaT] at E;clear ht;(try simp -dsimp only[go_sem,hI,k0,J,Z,G,Int.toNat_natCast]);exact⟨⟨k+1,by omega,E⟩,by simp only[];omega,[],[0],by (simp only[go_sem,yai])<;>simp[lk,zAn]⟩
  have G:=eq_true ht
  cases lb with
  | true=>
   simp only[G,yaM,yaH,yar,yas,yaT] at E;clear ht;(try simp -dsimp only[go_sem,hI,k0,J,Z,G,a6,F0,Int.toNat_natCast,yaH]);exact⟨⟨k+1,by omega,E⟩,by simp only[];omega,[],[0],by (simp only[go_sem,yai])<;>simp[lk,zAn]⟩
  | false=>
   by_cases hd:m.kind=4
   ·have U:=eq_true hd;simp only[G,U,yaM,yaH,yaI,yaN,yaT] at E;clear ht hd;(try simp -dsimp only[go_sem,hI,k0,J,Z,G,U,a6,b0,F0,Int.toNat_natCast,yaH,yaI]);exact⟨⟨k+1,by omega,E⟩,by simp only[];omega,[],[0],by (simp only[go_sem,yai])<;>simp[lk,zAn]⟩
   ·have U:=eq_false hd;simp only[G,U,yaM,yaL,yaI,yaQ,Bool.true_or] at E;clear ht hd;try simp -dsimp only[go_sem,f208,hI,k0,J,G,U,a6,b0,F0,E,Int.toNat_natCast,yaH,yaI,yas]
def lsF (n:Nat)(out:List Int):List Bool:=(List.range n).map fun (i:Nat)=>hasF out (i:Int)
theorem zWb1 (n:Nat)(out:List Int):(lsF n out).length=n:=by simp[lsF]
theorem zWc1 {n:Nat}{out:List Int}{i:Nat}(h:i<n):(lsF n out).getD i false=hasF out (i:Int):=by rw[List.getD_eq_getElem?_getD];simp[lsF,h]
theorem zKc2 {ms:List Mod}{cs:List Cbl}{out:List Int}{i:Nat}(h:i<ms.length)(h4:∀c∈cs,0≤c.1∧c.1<ms.length):rdyS ms cs (lsF ms.length out) i=readyF ms cs out (i:Int):=by
 unfold rdyS readyF;rw[zWc1 h];congr 2;unfold anyF;rw[Bool.eq_iff_iff,List.any_eq_true,decide_eq_true_eq,zFv1];constructor
 ·rintro ⟨c,hc,hb⟩;refine⟨c,hc,?_⟩;obtain ⟨F,E⟩:=h4 c hc;simp only[blkS,blocks] at hb ⊢;rw[zWc1 (show c.1.toNat<ms.length by omega),show ((c.1.toNat:Nat):Int)=c.1 by omega] at hb
  revert hb
  cases decide (c.2=(i:Int))<;>cases hasF out c.1<;>cases decide (kindOf ms c.1=4)<;>simp
 ·rintro ⟨c,hc,hb⟩;refine⟨c,hc,?_⟩;obtain ⟨F,E⟩:=h4 c hc;simp only[blkS,blocks] at hb ⊢;rw[zWc1 (show c.1.toNat<ms.length by omega),show ((c.1.toNat:Nat):Int)=c.1 by omega]
  revert hb
  cases decide (c.2=(i:Int))<;>cases hasF out c.1<;>cases decide (kindOf ms c.1=4)<;>simp
theorem zIj2 {n:Nat}{out:List Int}{i:Nat}(h:i<n):(lsF n out).set i true=lsF n (out++[(i:Int)]):=by
 apply List.ext_getElem?;intro j;rw[List.getElem?_set];simp only[zWb1];by_cases hj:j<n
 ·have E:∀o:List Int,(lsF n o)[j]?=some (hasF o (j:Int)):=fun o=>by simp[lsF,hj]
  rw[E,E];by_cases e:i=j
  ·subst e;rw[if_pos rfl,if_pos h];have:hasF (out++[(i:Int)]) (i:Int)=true:=(by rw[zIw];simp);rw[this]
  ·rw[if_neg e];congr 1;rw[Bool.eq_iff_iff,zIw,zIw];simp;omega
 ·have E:∀o:List Int,(lsF n o)[j]?=none:=fun o=>by simp[lsF];omega
  rw[E,E];by_cases e:i=j
  ·omega
  ·rw[if_neg e]
theorem zDh1 (l:List Bool):MvR false (.arr 1 (tI (rowsBo l)))=True:=eq_true (zBv _ _)
theorem zJb (l:List Int):MvR false (.arr 1 (tI (rowsN l)))=True:=eq_true (zBv _ _)
theorem setBo (l:List Bool)(i:Nat)(b:Bool):(tI (rowsBo l)).set i [T.im (.bool b)]=tI (rowsBo (l.set i b)):=by simp[tI,rowsBo,List.map_set]
theorem zIk2 (n:Nat):List.replicate n [T.im (.bool false)]=tI (rowsBo (lsF n [])):=by
 have:lsF n []=List.replicate n false:=by
  apply List.ext_getElem?;intro j;by_cases hj:j<n
  ·simp[lsF,hj,hasF,idxF]
  ·simp[lsF,hj]
 rw[this];simp[tI,rowsBo]
def nxF (ms:List Mod)(cs:List Cbl)(out:List Int)(j:Nat):Int:=if readyIdx ms cs out (ms.length-j) j=ms.length then -1 else (readyIdx ms cs out (ms.length-j) j:Int)
theorem zHu2 (ms:List Mod)(cs:List Cbl)(out:List Int):nxF ms cs out ms.length = -1:=by simp[nxF,readyIdx]
theorem zBu2 {ms:List Mod}{cs:List Cbl}{out:List Int}{j:Nat}(h:j<ms.length):nxF ms cs out j=if readyF ms cs out (j:Int)=true then (j:Int) else nxF ms cs out (j+1):=by
 unfold nxF;rw[show ms.length-j=(ms.length- (j+1))+1 by omega];simp only[readyIdx];split
 ·rw[if_neg (by omega)]
 ·rfl
theorem zMt1:Law prog 149 zNx:=by
 refine zAw (zAa zMr1 zAd) hmixA func149 rfl rfl (fun ⟨ms,cs,h1,h2,h5⟩=>⟨zXd _,by simp[f149],?_⟩);have c1:sm=16777216:=rfl;simp only[orderF];have k1:0≤(ms.length:Int):=by simp
 have k2:(ms.length:Int)≤9223372036854775807:=by omega
 have k3:((1:Nat):Int)*(ms.length:Int)≤281474976710656:=by omega
 try simp -dsimp only[go_sem,f149,zAj,k1,k2,k3,zIk2,Int.toNat_natCast]
 refine zAp (ι:={x:List Int//x.length≤ms.length∧orderGo ms cs ms.length []=orderGo ms cs (ms.length-x.length) x}) (fun x=>⟨[(1,some (.c (.ptr 0 0 0 0))),(4,some (.c (.view 1 1 0 ms.length))),(5,some (.c (.view 2 1 0 x.1.length)))],
  [(0,some (.box [.t (.im (.sl 11 (rowsM ms))),.t (.im (.sl 2 (rowsC cs)))])),(1,some (.arr 1 (tI (rowsBo (lsF ms.length x.1))))),(2,some (.arr 1 (tI (rowsN x.1))))],3⟩) (fun x=>ms.length-x.1.length) ⟨[],by simp⟩ ⟨[],[0,1,2],by ((simp only[go_sem,yai,zDh1])<;>(try (simp -dsimp only[go_sem,yaj,yai,zDh1])))<;>simp[tI,rowsN]⟩ (fun ⟨out,hk,E⟩=>?_)
 simp only;have c6:(rowsN out).length=out.length:=zAe _;by_cases c7:out.length<ms.length;rotate_left
 ·have hI:¬((out.length:Int)<(ms.length:Int)):=by omega
  rw[show ms.length-out.length=0 by omega] at E;simp only[orderGo] at E;try simp -dsimp only[go_sem,f149,hI,zAj,E,oOrder]
  refine zAh [] ?_;simp -dsimp only[go_sem];refine⟨[2],?_,?_,?_,rfl⟩<;>simp[rtOk]
 have hI:(out.length:Int)<(ms.length:Int):=by omega
 have b1:IntKind.i64.wrap ((ms.length:Int)-1)=(ms.length:Int)-1:=zAi (by omega) (by omega);try simp -dsimp only[go_sem,hI,b1,zAj]
 refine zAp (ι:={j:Nat//j≤ms.length}) (fun j=>⟨[(1,some (.c (.ptr 0 0 0 0))),(4,some (.c (.view 1 1 0 ms.length))),(5,some (.c (.view 2 1 0 out.length))),(6,some (.c (.im (.int .i64 (nxF ms cs out j.1))))),(7,some (.c (.im (.int .i64 ((j.1:Int)-1)))))],
  [(0,some (.box [.t (.im (.sl 11 (rowsM ms))),.t (.im (.sl 2 (rowsC cs)))])),(1,some (.arr 1 (tI (rowsBo (lsF ms.length out))))),(2,some (.arr 1 (tI (rowsN out))))],3⟩) (fun j=>j.1) ⟨ms.length,by omega⟩ ⟨[],[0,1,2],by (simp only[go_sem,yai,zDh1,zJb,zHu2])<;>simp[lk,zAn]⟩ (fun ⟨j,hj⟩=>?_)
 simp only;have V:(lsF ms.length out).length=ms.length:=zWb1 _ _
 match j,hj with
 | j+1,hj=>
  have hJ:0≤((j+1:Nat):Int)-1:=by omega
  have b0:((j+1:Nat):Int)-1=(j:Int):=by omega
  have j0:0≤(j:Int):=by simp
  have a6:IntKind.i64.wrap ((j:Int)-1)=(j:Int)-1:=zAi (by omega) (by omega);have Z:List.take ms.length (tI (rowsBo (lsF ms.length out)))=tI (rowsBo (lsF ms.length out)):=List.take_of_length_le (by rw[zAg,zRz,V];omega);have G:=zBu2 (ms:=ms) (cs:=cs) (out:=out) (j:=j) (by omega);have J:=zKc2 (out:=out) (i:=j) (by omega) h5
  cases hr:readyF ms cs out (j:Int) with
  | true=>
   rw[hr,if_pos rfl] at G;rw[hr] at J;(try simp -dsimp only[go_sem,b0,j0,a6,Z,zVw h2 V (show j<ms.length by omega) h5,J,zBs1,zBj,zAg,zRz,V]);exact⟨⟨j,by omega⟩,by simp only[];omega,[],[0,1,2],by (simp only[go_sem,yai,zDh1,zJb,G])<;>simp[lk,zAn]⟩
  | false=>
   rw[hr,if_neg (by simp)] at G;rw[hr] at J;(try simp -dsimp only[go_sem,b0,j0,a6,Z,zVw h2 V (show j<ms.length by omega) h5,J,zBs1,zBj,zAg,zRz,V]);exact⟨⟨j,by omega⟩,by simp only[];omega,[],[0,1,2],by (simp only[go_sem,yai,zDh1,zJb,G])<;>simp[lk,zAn]⟩
 | 0,hj=>
  have hJ:¬(0≤((0:Nat):Int)-1):=by simp
  rw[show ms.length-out.length=(ms.length- (out.length+1))+1 by omega] at E;simp only[orderGo] at E;have U:nxF ms cs out 0=if readyIdx ms cs out ms.length 0=ms.length then -1 else (readyIdx ms cs out ms.length 0:Int):=rfl;have c8:=zOq ms cs out ms.length 0;by_cases F:readyIdx ms cs out ms.length 0=ms.length
  ·rw[if_pos F] at U E;(try simp -dsimp only[go_sem,f149,hJ,U,E,oOrder,Int.reduceLT]);refine zAh [] ?_;simp -dsimp only[go_sem]
  ·rw[if_neg F] at U E;generalize readyIdx ms cs out ms.length 0=R at*;have hR:¬((R:Int)<0):=(by omega);have R0:0≤(R:Int):=(by simp);have R1:(R:Int)<(ms.length:Int):=(by omega);obtain ⟨b,hb⟩:∃b,(lsF ms.length out)[R]?=some b:=⟨_,List.getElem?_eq_getElem (by rw[V];omega)⟩;have a8:(tI (rowsBo (lsF ms.length out)))[R]?=some [T.im (.bool b)]:=zPn (zWt hb);have b2:(out.length+1)*8≤140737488355328:=(by omega);have a7:(tI (rowsBo (lsF ms.length out))).set R [T.im (.bool true)]=tI (rowsBo (lsF ms.length (out++[(R:Int)]))):=(by rw[setBo,zIj2 (by omega)]);(try simp -dsimp only[go_sem,hJ,U,hR,R0,R1,a8,a7,b2,zRm,appendH,srcRows,List.take_succ_cons,yan,yao,yap,okT,yaq,yaw,zAg,zAe,Int.toNat_natCast]);exact⟨⟨out++[(R:Int)],by simp;omega,by rw[List.length_append];exact E⟩,by simp only[yaw,yab,List.length_nil];omega,[],[0,1,4],by (simp only[go_sem,yai,zDh1,zJb,yaw])<;>simp[lk,zAn]⟩
structure ADr where
 ms:List Mod
 cs:List Cbl
 ml:ms.length≤sm
 cl:cs.length≤sm
 dr:∀m∈ms,Drawn m
theorem zJp2 {x y:ADr}(h:x.ms=y.ms∧x.cs=y.cs):x=y:=by
 obtain ⟨a,b,_,_,_⟩:=x;obtain ⟨c,d,_,_,_⟩:=y;obtain ⟨rfl,rfl⟩:=h;rfl
theorem zHd1 (n:Nat)(c:Cbl):cabF n c=(hasR n c.1&&hasR n c.2):=by
 simp only[cabF,hasR];rw[Bool.eq_iff_iff];simp;omega
def rRk (ms:List Mod)(cs:List Cbl):Res:={val:=.agg [.view 0 11 0 ms.length,.view 1 2 0 cs.length],roots:=[.arr 11 (tI (rowsM ms)),.arr 2 (tI (rowsC cs))]}
theorem zKt2 {ms:List Mod}{cs:List Cbl}:OkR false (rRk ms cs):=by
 refine⟨.agg _ (fun x hx=>?_),fun r hr=>?_,by simp[rRk]⟩
 ·simp[rRk] at hx ⊢;rcases hx with rfl|rfl<;>exact .view _ _ _ _ (by simp)
 ·simp[rRk] at hr;rcases hr with rfl|rfl<;>exact zBv _ _
noncomputable def zZa:Ct:=fam false (fun x:ADr=>([.agg [.im (.sl 11 (rowsM x.ms)),.im (.sl 2 (rowsC x.cs))]],[])) (fun x=>.one (rRk x.ms x.cs))
theorem zBw1 {ms:List Mod}{cs:List Cbl}(h1:ms.length≤sm)(h2:cs.length≤sm)(h5:∀m∈ms,Drawn m):zZa.run [.agg [.im (.sl 11 (rowsM ms)),.im (.sl 2 (rowsC cs))]] []=some (.one (rRk ms cs)):=by
 refine zAc (ct:=zZa) rfl (fun x y h=>?_) ⟨ms,cs,h1,h2,h5⟩;simp[zBp,zBh] at h;exact zJp2 h
theorem zFz (ms:List Mod):MvR false (.arr 11 (tI (rowsM ms)))=True:=eq_true (zBv _ _)
theorem zZj1 (l:List Cbl):MvR false (.arr 2 (tI (rowsC l)))=True:=eq_true (zBv _ _)
theorem zTp1 (ms:List Mod)(m:Mod):tI (rowsM ms)++[[T.im (.int .i64 m.kind),.im (.cpx .f32 m.turn.1 m.turn.2),.im (.cpx .f32 m.state.1 m.state.2),.im (.flt .f32 m.level),.im (.sl 1 (rowsZ m.store)),.im (.int .i64 m.rat),.im (.int .i64 m.rcnt),.im (.sl 1 (rowsZ m.pts)),.im (.sl 1 (rowsN m.lab)),.im (.int .i64 m.count),.im (.int .i64 m.left)]]=tI (rowsM (ms++[m])):=by simp[tI,rowsM,modI]
theorem zSa1:Law prog 215 zZa:=by
 refine zAw (zAa zCn1 zAd) hmixA func215 rfl rfl (fun ⟨ms,cs,h1,h2,h5⟩=>⟨okO zKt2,by simp[f215],?_⟩);simp only[rRk];have a7:(cs.length*16≤140737488355328)=True:=zEb h2 (by decide);try simp -dsimp only[go_sem,f215,zAj,zAo,a7,zEg,zAg,appendH,srcRows]
 refine zAp (ι:={k:Nat//k≤ms.length}) (fun k=>⟨[(2,some (.c (.ptr 1 0 0 0))),(3,some (.c (.ptr 3 0 0 0))),(12,some (.c (.im (.sl 11 (rowsM ms))))),(13,some (.c (.im (.int .i64 (ms.length:Int))))),(14,some (.c (.im (.int .i64 (k.1:Int)))))],
  [(1,some (.box [.t .nil,.t .nil])),(2,some (.arr 2 (tI (rowsC cs)))),(3,some (.box [.t (.lent 4 11 k.1),.t (.lent 2 2 cs.length)])),(4,some (.arr 11 (tI (rowsM (ms.take k.1)))))],5⟩) (fun k=>ms.length-k.1) ⟨0,by simp⟩ ⟨[.nilT 4 0 0 11,.unf 4 0 0],[1,3,4,5],by ((simp only[go_sem,yai,yan,zZj1,zFz])<;>(try (simp -dsimp only[go_sem,yaj,yai,yak,yan,zZj1,zFz])))<;>simp[tI,rowsM]⟩ (fun ⟨k,hk⟩=>?_)
 simp only;have U:(ms.take k).length=k:=by rw[List.length_take];omega
 by_cases G:k<ms.length;rotate_left
 ·have hI:¬((k:Int)<(ms.length:Int)):=by omega
  obtain rfl:k=ms.length:=by omega
  rw[List.take_length];try simp -dsimp only[go_sem,f215,hI]
  refine zAh [] ?_;simp -dsimp only[go_sem];refine⟨[4,2],?_,?_,?_,rfl,rfl⟩<;>simp[rtOk]
 obtain ⟨m,Z⟩:∃p,ms[k]?=some p:=⟨_,List.getElem?_eq_getElem G⟩;have F:=zIp Z;have hI:(k:Int)<(ms.length:Int):=by omega
 have h0:0≤(k:Int):=by simp
 have V:=zDh h1 G;obtain ⟨q1,q2,q3⟩:=(h5 m (List.mem_of_getElem? Z)).ok;have a6:((k+1)*136≤140737488355328)=True:=zLb1 (by omega) (by decide);have E:=zTp1 (ms.take k) m;rw[←zCy Z] at E;have ll:(tI (rowsM (ms.take k))).length=k:=by rw[zAg,zAj,U]
 have J:(tI (rowsM (ms.take (k+1)))).length=k+1:=by rw[zAg,zAj,List.length_take];omega
 try simp -dsimp only[go_sem,hI,h0,V,F,Int.toNat_natCast,zBx1 q1 q2 q3,rM,modC,a6,E,ll,J,appendH,srcRows,List.take_succ_cons,yan,yao,yap,okT,yaq]
 with_reducible repeat' first|refine sl_i ?_|refine ro_i ?_
 exact⟨⟨k+1,by omega⟩,by simp only[];omega,[],[1,2,3,46],by (simp only[go_sem,yai,zZj1,zFz])<;>simp[lk,zAn]⟩
theorem zIr1:rowsM []=[]:=rfl
theorem zWs:rowsC []=[]:=rfl
def rRO (ms:List Mod)(cs:List Cbl)(b:Bool):Res:={val:=.tup [.agg [.im (.sl 11 (rowsM ms)),.im (.sl 2 (rowsC cs))],.c (.im (.bool b))]}
theorem zKu2 {ms:List Mod}{cs:List Cbl}{b:Bool}:OkR false (rRO ms cs b):=by
 refine⟨.tup _ (fun d hd=>?_),by simp[rRO],by simp[rRO]⟩;simp only[yac,yad,or_false] at hd;rcases hd with rfl|rfl
 ·refine .inr ⟨_,rfl,fun x hx=>?_⟩;simp only[yac,yad,or_false] at hx;rcases hx with rfl|rfl<;>exact .im _ (.inl rfl)
 ·exact .inl ⟨_,rfl,.im _ (.inl rfl)⟩
def addR' (ms:List Mod)(cs:List Cbl)(f t:Int):Res:=if isRackF ms (cs++[(f,t)])=true then rRO ms (cs++[(f,t)]) true else rRO [] [] false
structure GoodRk (ms:List Mod) (cs:List Cbl):Prop where
 dr:∀m∈ms,Drawn m
 rk:isRackF ms cs=true
theorem GoodRk.len {ms:List Mod}{cs:List Cbl}(h:GoodRk ms cs):ms.length≤16∧cs.length≤40:=by
 have:=h.rk;simp only[isRackF,yay,yaG] at this;exact⟨this.1,this.2.1⟩
theorem zDl1 (cs:List Cbl)(f t:Int):tI (rowsC cs)++[[T.im (.int .i64 f),T.im (.int .i64 t)]]=tI (rowsC (cs++[(f,t)])):=by simp[tI,rowsC]
theorem zUx {ms:List Mod}(h:∀m∈ms,Drawn m)(hl:ms.length≤16):GoodRk ms []:=by
 refine⟨h,?_⟩;have ho:orderF ms []=some (iL ms.length):=zVe1 (by simp);simp only[isRackF,ho,Option.isSome_some,yap,yaq,yay,yaG,List.all_eq_true,List.length_nil];exact⟨hl,by omega,fun m E=>(h m E).mod⟩
end Go.SX
