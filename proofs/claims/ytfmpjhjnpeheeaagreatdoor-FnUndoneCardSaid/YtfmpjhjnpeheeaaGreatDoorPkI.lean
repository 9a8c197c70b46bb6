/-
  Modules whose words are below 2^32: l5Slice, l5Step, l5Module, MakeModule.
  A step, a reset, a control keep a module valid, its words below 2^32: plain words.
  Valid racks whose words are below 2^32: a run and a reset keep them so; rows of racks.
  Tables as own memory: spec.GridTable, PutPoint, l2Table (turned out of SpD, UaB).
  spec: l2Odd: a table that need not be one.
  Rings of any count as own memory: spec.NewRing, l4Take, l4Push.
  spec: l4Ring, as own memory.
  spec: l01Pick.
  impl.ParseSingle, singleOf.
  Double precision: halves, doubles, whole parts, comparisons of m * 2 ^ e.
  No condition.
-/
import Derived.Test.YtfmpjhjnpeheeaaGreatDoorPkH
set_option maxRecDepth 100000
set_option maxHeartbeats 16000000
set_option linter.unusedVariables false
set_option linter.unusedSimpArgs false
namespace Go.SX
open Go Go.Proofs Tryz Ieee
structure Wd (m:Mod):Prop where
 w:W32 m
 rat:i64B m.rat
 cnt:i64B m.count
 lft:i64B m.left
 lab:∀x∈m.lab,i64B x
theorem zDx:i64B 0:=⟨by decide,by decide⟩
theorem zJs:(0:Nat)<4294967296∧(0:Nat)<4294967296:=⟨by decide,by decide⟩
theorem zBl1:Wd mSum':=⟨⟨zJs,zJs,by decide,by simp[mSum'],by simp[mSum']⟩,zDx,zDx,zDx,by simp[mSum']⟩
theorem wd_2 {k:Int}{t s:Pt}(ht:t.1<4294967296∧t.2<4294967296)(hs:s.1<4294967296∧s.2<4294967296):Wd ⟨k,t,s,0,[],0,0,[],[],0,0⟩:=⟨⟨ht,hs,by simp,by simp,by simp⟩,zDx,zDx,zDx,by simp⟩
theorem wd_1 {k:Int}{l:Nat}(h:l<4294967296):Wd ⟨k,(0,0),(0,0),l,[],0,0,[],[],0,0⟩:=⟨⟨zJs,zJs,h,by simp,by simp⟩,zDx,zDx,zDx,by simp⟩
theorem zUo {st:List Pt}{a:Int}(h:∀p∈st,p.1<4294967296∧p.2<4294967296)(ha:i64B a):Wd (mDelay' st a):=⟨⟨zJs,zJs,by simp[mDelay'],h,by simp[mDelay']⟩,ha,zDx,zDx,by simp[mDelay']⟩
theorem zVd {pts:List Pt}{lab:List Int}{c:Int}(h:TbW pts lab)(hc:i64B c):Wd (mSlicer' pts lab c):=⟨⟨zJs,zJs,by simp[mSlicer'],by simp[mSlicer'],h.1⟩,zDx,hc,zDx,h.2⟩
theorem zRk {s:Pt}{c l:Int}(hs:s.1<4294967296∧s.2<4294967296)(h2:1≤c)(h3:c≤100)(h4:0≤l)(h5:l<c):Wd (mHold' s c l):=⟨⟨zJs,hs,by simp[mHold'],by simp[mHold'],by simp[mHold']⟩,zDx,⟨by simp[mHold'];omega,by simp[mHold'];omega⟩,⟨by simp[mHold'];omega,by simp[mHold'];omega⟩,by simp[mHold']⟩
theorem set32 {st:List Pt}(h:∀p∈st,p.1<4294967296∧p.2<4294967296){z:Pt}(hz:z.1<4294967296∧z.2<4294967296)(A:Nat):∀p∈st.set A z,p.1<4294967296∧p.2<4294967296:=fun p E=>by
 rcases List.mem_or_eq_of_mem_set E with h'|rfl
 ·exact h p h'
 ·exact hz
theorem mul32 (o:Nat×Nat)(p q:Pt):(mulPt o p q).1<4294967296∧(mulPt o p q).2<4294967296:=⟨narrow32 _ _,narrow32 _ _⟩
theorem lvl32 {x:Nat}(h:lvlB x=true):x<4294967296:=by rcases zJg1 h with rfl|rfl|rfl|rfl<;>decide
structure DrU (m:Mod):Prop where
 d:Drawn m
 w:Wd m
structure ASlU where
 pts:List Pt
 lab:List Int
 c:Int
 z:Pt
 t:isTableF pts lab=true
 tw:TbW pts lab
def oSlU (pts:List Pt)(lab:List Int):Outs:=.any (I64u×Pt) (fun q=>{val:=.tup [.agg (modC (mSlicer' pts lab q.1.1)),.c (.im (.cpx .f32 q.2.1 q.2.2))]})
theorem zIe2:Nonempty (I64u×Pt)=True:=by simp only[eq_iff_iff,iff_true];exact⟨(⟨0,zDx⟩,(0,0))⟩
noncomputable def zPb:Ct:=fam false (fun x:ASlU=>([.agg (modC (mSlicer' x.pts x.lab x.c)),.c (.im (.cpx .f32 x.z.1 x.z.2))],[])) (fun x=>oSlU x.pts x.lab)
theorem zIh1 {pts:List Pt}{lab:List Int}(h:isTableF pts lab=true)(hW:TbW pts lab)(c:Int)(u v:Nat):zPb.run [.agg [.im (.int .i64 6),.im (.cpx .f32 0 0),.im (.cpx .f32 0 0),.im (.flt .f32 0),.im (.sl 1 []),.im (.int .i64 0),.im (.int .i64 0),.im (.sl 1 (rowsZ pts)),.im (.sl 1 (rowsN lab)),.im (.int .i64 c),.im (.int .i64 0)],.c (.im (.cpx .f32 u v))] []=some (oSlU pts lab):=by
 refine zHd (ct:=zPb) rfl ?_ ⟨pts,lab,c,(u,v),h,hW⟩;rintro ⟨p,l,_,_,_,_⟩ ⟨E,l',_,_,_,_⟩ h;simp[modC,mSlicer',zAs,zAx] at h ⊢;obtain ⟨⟨rfl,rfl,_⟩,_⟩:=h;rfl
theorem zJn1:Law prog 198 zPb:=by
 refine zAw (zAa zFb1 zAd) hmixA func198 rfl rfl (fun ⟨pts,lab,c,⟨u,v⟩,hT,hW⟩=>⟨okA (fun o=>zEx2),by simp[f198],?_⟩);obtain ⟨e1,e2⟩:=zEn hT;have h1:pts.length≤sm:=by have:sm=16777216:=rfl;omega
 have h2:lab.length≤sm:=by have:sm=16777216:=rfl;omega
 simp only[oSlU,modC,mSlicer',zAk];have U:=zXg (u,v) pts 0 (-1) 0 (by omega);have V:=zQj (u,v) pts.length pts 0 (-1) 0 (by omega) (by omega);obtain ⟨N,Z⟩:∃n,nearGo (u,v) pts 0 (-1) 0=n:=⟨_,rfl⟩;rw[Z] at U V;by_cases E:N<0
 ·have F:=eq_true E;try simp -dsimp only[go_sem,f198,zPy h1 h2,Z,F]
  refine zAh [] ?_;simp -dsimp only[go_sem];exact⟨(⟨-1,by decide,by decide⟩,(_,_)),rfl,rfl,rfl⟩
 ·have F:=eq_false E;obtain ⟨K,rfl⟩:=Int.eq_ofNat_of_zero_le (show 0≤N by omega);obtain ⟨q,hq⟩:∃q,lab[K]?=some q:=⟨_,List.getElem?_eq_getElem (by omega)⟩;obtain ⟨⟨x,y⟩,hp⟩:∃q,pts[K]?=some q:=⟨_,List.getElem?_eq_getElem (by omega)⟩;have G:=zEx hq;have J:=zBz hp;have h0:0≤(K:Int):=by simp
  try simp -dsimp only[go_sem,f198,zPy h1 h2,Z,F,G,J,h0,Int.toNat_natCast]
  with_reducible repeat' first|refine sl_i ?_|refine ro_i ?_
  refine zAh [] ?_;simp -dsimp only[go_sem];exact⟨(⟨q,hW.2 q (List.mem_of_getElem? hq)⟩,(x,y)),rfl,rfl,rfl⟩
structure AStpU where
 m:Mod
 z:Pt
 d:Drawn m
 w:Wd m
 zw:z.1<4294967296∧z.2<4294967296
 s1:lvlB (absS z.1)=true
 s2:lvlB (absS z.2)=true
abbrev QStpU:={q:Mod×Pt//DrU q.1}
def oStpU:Outs:=.any QStpU (fun q=>{val:=.tup [.agg (modC q.1.1),.c (.im (.cpx .f32 q.1.2.1 q.1.2.2))]})
theorem zHy2:Nonempty QStpU=True:=by simp only[eq_iff_iff,iff_true];exact⟨⟨(mSum',(0,0)),zIe,zBl1⟩⟩
noncomputable def zSw:Ct:=fam false (fun x:AStpU=>([.agg (modC x.m),.c (.im (.cpx .f32 x.z.1 x.z.2))],[])) (fun _=>oStpU)
theorem zLq1 {m:Mod}(h:Drawn m)(hw:Wd m){u v:Nat}(hz:u<4294967296∧v<4294967296)(h1:lvlB (absS u)=true)(h2:lvlB (absS v)=true):zSw.run [.agg (modC m),.c (.im (.cpx .f32 u v))] []=some oStpU:=
 zHd (ct:=zSw) rfl (fun _ _ _=>rfl) ⟨m,(u,v),h,hw,hz,h1,h2⟩
theorem zMv1:Law prog 123 zSw:=by
 refine zAw (zAa zCo2 (zAa zRw1 (zAa zSe1 (zAa zJn1 (zAa zXx zAd))))) hmixA func123 rfl rfl (fun ⟨m,⟨u,v⟩,hD,E,hz,hu,hv⟩=>⟨okA (fun o=>zEx2),by simp[f123],?_⟩);simp only at hu hv;simp only[oStpU];rcases hD.forms with ⟨⟨t1,t2⟩,⟨s1,s2⟩,rfl⟩|⟨⟨t1,t2⟩,⟨s1,s2⟩,rfl⟩|⟨lv,rfl⟩|⟨st,a,rfl,J,G,q3,q4⟩|rfl|⟨pts,lab,c,rfl,hT⟩|⟨lv,rfl,hl⟩|⟨⟨s1,s2⟩,c,l,rfl,J,G,q3,q4⟩
 ·simp only[modC,mSrc',zAk,zAq];try simp -dsimp only[go_sem,f123,zCj,oMul,zRn1]
  intro o;try simp -dsimp only[go_sem,yaj,f123]
  refine zAh [] ?_;simp -dsimp only[go_sem];exact⟨⟨(mSrc' (t1,t2) (mulPt o (s1,s2) (t1,t2)),(s1,s2)),zQy _ _,wd_2 E.w.turn (mul32 _ _ _)⟩,by simp[mSrc',rowsZ,rowsN]⟩
 ·simp only[modC,zAk,zAq];try simp -dsimp only[go_sem,f123,Int.reduceEq,zCj,oMul,zRn1]
  intro o;try simp -dsimp only[go_sem,yaj,f123,zCj,oMul,zRn1]
  intro o2;try simp -dsimp only[go_sem,yaj,f123]
  refine zAh [] ?_;simp -dsimp only[go_sem];exact⟨⟨(⟨2,(t1,t2),mulPt o2 (s1,s2) (t1,t2),0,[],0,0,[],[],0,0⟩,mulPt o (u,v) (s1,s2)),zTa1 _ _,wd_2 E.w.turn (mul32 _ _ _)⟩,by simp[rowsZ,rowsN]⟩
 ·simp only[modC,mGain',zAk,zAq];try simp -dsimp only[go_sem,f123,Int.reduceEq,zQv1]
  with_reducible repeat' first|refine sl_i ?_|refine ro_i ?_
  refine zAh [] ?_;simp -dsimp only[go_sem];exact⟨⟨(mGain' lv,(flushS (fop .mul .f32 u lv),flushS (fop .mul .f32 v lv))),zDb1 _,wd_1 E.w.level⟩,by simp[mGain',rowsZ,rowsN]⟩
 ·obtain ⟨A,rfl⟩:=Int.eq_ofNat_of_zero_le q3;have V:A<st.length:=by omega
  simp only[modC,mDelay',zAk,zAq];try simp -dsimp only[go_sem,f123,Int.reduceEq,zRa1 J G V]
  refine zAh [] ?_;simp -dsimp only[go_sem];exact⟨⟨(mDelay' (st.set A (u,v)) (((A+1)%st.length:Nat):Int),st.getD A (0,0)),zOx (by simp;omega) (by simp;omega) (by omega) (by have:=Nat.mod_lt (A+1) (show 0<st.length by omega);simp only[yaD];omega),zUo (set32 E.w.store hz A) ⟨by omega,by have:=Nat.mod_lt (A+1) (show 0<st.length by omega);omega⟩⟩,by simp[mDelay',rowsZ,rowsN]⟩
 ·simp only[modC,mSum',zAk,zAq];try simp -dsimp only[go_sem,f123,Int.reduceEq]
  refine zAh [] ?_;simp -dsimp only[go_sem];exact⟨⟨(mSum',(u,v)),zIe,zBl1⟩,by simp[mSum',rowsZ,rowsN]⟩
 ·simp only[modC,mSlicer',zAk];try simp -dsimp only[go_sem,f123,Int.reduceEq,zIh1 hT ⟨E.w.pts,E.lab⟩,oSlU,zIe2,modC,mSlicer',zAk]
  rintro ⟨⟨c',a7⟩,⟨x,y⟩⟩;try simp -dsimp only[go_sem]
  refine zAh [] ?_;simp -dsimp only[go_sem];exact⟨⟨(mSlicer' pts lab c',(x,y)),zUb hT,zVd ⟨E.w.pts,E.lab⟩ a7⟩,by simp[mSlicer',rowsZ]⟩
 ·simp only[modC,mMeterL,zAk,zAq];try simp -dsimp only[go_sem,f123,Int.reduceEq]
  refine zAp (ι:={k:Nat//k≤2}×{l:Nat//lvlB l=true}) (fun x=>⟨[(1,some (.c (.im (.cpx .f32 u v)))),(2,some (.c (.ptr 0 0 0 0))),(4,some (.c (.ptr 1 0 0 0))),(82,some (.c (.view 2 1 0 2))),(83,some (.c (.im (.int .i64 2)))),(84,some (.c (.im (.int .i64 (x.1.1:Int)))))],
   [(0,some (.box [.t (.im (.int .i64 7)),.t (.im (.cpx .f32 0 0)),.t (.im (.cpx .f32 0 0)),.t (.im (.flt .f32 x.2.1)),.t (.im (.sl 1 [])),.t (.im (.int .i64 0)),.t (.im (.int .i64 0)),.t (.im (.sl 1 [])),.t (.im (.sl 1 [])),.t (.im (.int .i64 0)),.t (.im (.int .i64 0))])),
    (1,some (.box mz11)),(2,some (.arr 1 [[.im (.flt .f32 u)],[.im (.flt .f32 v)]]))],3⟩) (fun x=>2-x.1.1) (⟨0,by omega⟩,⟨lv,hl⟩) ⟨[],[0,1,2],by ((simp only[go_sem,yai,mz11])<;>(try (simp -dsimp only[go_sem,yaj,yai,mz11])))<;>simp[]⟩ (fun ⟨⟨k,hk⟩,⟨lv,hl⟩⟩=>?_)
  have a6:k=0∨k=1∨k=2:=by omega
  simp only[mz11];have c2:((2:Nat):Int)=2:=rfl;have c1:((1:Nat):Int)=1:=rfl;have c0:((0:Nat):Int)=0:=rfl;have w1:IntKind.i64.wrap 1=1:=rfl;have w2:IntKind.i64.wrap 2=2:=rfl;rcases a6 with rfl|rfl|rfl
  ·cases hc:fcmp .gtr .f32 (absS u) lv with
   | true=>
    try simp -dsimp only[go_sem,c0,c2,w1,hc,zHs,Int.reduceLT,Int.reduceAdd,Int.toNat_zero]
    with_reducible repeat' first|refine sl_i ?_|refine ro_i ?_
    exact⟨(⟨1,by omega⟩,⟨absS u,hu⟩),by simp,[],[0,1,2],by ((simp only[go_sem,yai])<;>(try (simp -dsimp only[go_sem,yaj,yai,mz11])))<;>simp[]⟩
   | false=>
    try simp -dsimp only[go_sem,c0,c2,w1,hc,zHs,Int.reduceLT,Int.reduceAdd,Int.toNat_zero]
    with_reducible repeat' first|refine sl_i ?_|refine ro_i ?_
    exact⟨(⟨1,by omega⟩,⟨lv,hl⟩),by simp,[],[0,1,2],by ((simp only[go_sem,yai])<;>(try (simp -dsimp only[go_sem,yaj,yai,mz11])))<;>simp[]⟩
  ·cases hc:fcmp .gtr .f32 (absS v) lv with
   | true=>
    try simp -dsimp only[go_sem,c1,c2,w2,hc,zHs,Int.reduceLT,Int.reduceLE,Int.reduceToNat,Int.reduceAdd]
    with_reducible repeat' first|refine sl_i ?_|refine ro_i ?_
    exact⟨(⟨2,by omega⟩,⟨absS v,hv⟩),by simp,[],[0,1,2],by ((simp only[go_sem,yai])<;>(try (simp -dsimp only[go_sem,yaj,yai,mz11])))<;>simp[]⟩
   | false=>
    try simp -dsimp only[go_sem,c1,c2,w2,hc,zHs,Int.reduceLT,Int.reduceLE,Int.reduceToNat,Int.reduceAdd]
    with_reducible repeat' first|refine sl_i ?_|refine ro_i ?_
    exact⟨(⟨2,by omega⟩,⟨lv,hl⟩),by simp,[],[0,1,2],by ((simp only[go_sem,yai])<;>(try (simp -dsimp only[go_sem,yaj,yai,mz11])))<;>simp[]⟩
  ·skip
   (try simp -dsimp only[go_sem,f123,c2,Int.reduceLT]);refine zAh [] ?_;simp -dsimp only[go_sem];exact⟨⟨(mMeterL lv,(u,v)),zKn1 hl,wd_1 (lvl32 hl)⟩,by simp[mMeterL,rowsZ,rowsN]⟩
 ·simp only[modC,mHold',zAk,zAq];by_cases U:l=0
  ·have F:=eq_true U;have Z:IntKind.i64.wrap (c-1)=c-1:=zAi (by omega) (by omega);try simp -dsimp only[go_sem,f123,Int.reduceEq,F,Z]
   with_reducible repeat' first|refine sl_i ?_|refine ro_i ?_
   refine zAh [] ?_;simp -dsimp only[go_sem];exact⟨⟨(mHold' (u,v) c (c-1),(u,v)),zJx J G (by omega) (by omega),zRk hz J G (by omega) (by omega)⟩,by simp[mHold',rowsZ,rowsN]⟩
  ·have F:=eq_false U;have Z:IntKind.i64.wrap (l-1)=l-1:=zAi (by omega) (by omega);try simp -dsimp only[go_sem,f123,Int.reduceEq,F,Z]
   with_reducible repeat' first|refine sl_i ?_|refine ro_i ?_
   refine zAh [] ?_;simp -dsimp only[go_sem];exact⟨⟨(mHold' (s1,s2) c (l-1),(s1,s2)),zJx J G (by omega) (by omega),zRk E.w.state J G (by omega) (by omega)⟩,by simp[mHold',rowsZ,rowsN]⟩
abbrev QModU:={m:Mod//DrU m}
def oModU (l:List Int):Outs:=.any (QModU×SK l) (fun q=>{val:=.agg (modC q.1.1),places:=hsK l q.2.1.1 q.2.1.2})
theorem zVx1 (l:List Int):Nonempty (QModU×SK l)=True:=by simp only[eq_iff_iff,iff_true];exact⟨(⟨mSum',zIe,zBl1⟩,⟨(0,0),by simp⟩)⟩
noncomputable def zMu:Ct:=fam false (fun x:AKn=>([.c (.ptr 0 0 0 0)],hsK x.l x.a x.h)) (fun x=>oModU x.l)
theorem zPx {l:List Int}{a h:Int}(h1:l.length≤1048576)(h2:∀b∈l,0≤b∧b<256)(h3:0≤a)(h4:a≤l.length):zMu.run [.c (.ptr 0 0 0 0)] [[.t (.im (.sl 1 (rowsB l))),.t (.im (.int .i64 a)),.t (.im (.int .i64 h))]]=some (oModU l):=by
 refine zAc (ct:=zMu) rfl (fun x y h=>?_) ⟨l,h1,h2,a,h,h3,h4⟩;simp only[Prod.mk.injEq,true_and] at h;exact zEa (zDy h)
theorem zQm:Law prog 54 zMu:=by
 refine zAw (zAa zCn2 (zAa zBf (zAa zMu1 (zAa zIb (zAa zXs (zAa zRu1 (zAa zCo1 (zAa zWp1 (zAa zRx1 (zAa zJo1 (zAa zFi1 (zAa zRv1 (zAa zWo1 (zAa zCn1 (zAa zMv1 zAd)))))))))))))))
   hmixA func54 rfl rfl (fun ⟨l,h1,h2,a,h,h3,h4⟩=>⟨okA (fun o=>okK (n:=0) zHt2),by simp[f54],?_⟩)
 simp only[oModU,hsK];have h8:∀(a h:Int),0≤a→a≤l.length→zDf.run [.c (.ptr 0 0 0 0),.c (.im (.int .i64 8))] [[.t (.im (.sl 1 (rowsB l))),.t (.im (.int .i64 a)),.t (.im (.int .i64 h))]]=some (oBelow l 8):=fun a h q1 q2=>zAl h1 h2 q1 q2 (n:=8) (by decide) (by decide);try simp -dsimp only[go_sem,f54,zAv2,rM,modC,mSum',zAk,zAq,h8 a h h3 h4,oBelow,zAy l (n:=8) (by decide),hsK]
 rintro ⟨⟨v,⟨⟨a1,k1⟩,J⟩⟩,v1,v2⟩;simp only at v1 v2;refine cases8 v1 v2 ?h0 ?h1 ?h2 ?h3 ?h4 ?h5 ?h6 ?h7<;>rintro rfl
 case' h0=>
   (try simp -dsimp only[go_sem,zVy h1 h2 J.1 J.2,oPtU,zMg,hsK]);rintro ⟨⟨⟨t1,t2⟩,ht⟩,⟨⟨a2,V⟩,G⟩⟩;(try simp -dsimp only[go_sem,hsK,zEz h1 h2 G.1 G.2,oSmall,zKp]);rintro ⟨⟨⟨x,y⟩,⟨⟨a3,k3⟩,b3⟩⟩,_,_,_,_⟩;have a7:=wI32 x;have a6:=wI32 y;obtain ⟨X,hX⟩:∃q,wI x=q:=⟨_,rfl⟩;rw[hX] at a7;obtain ⟨Y,hY⟩:∃q,wI y=q:=⟨_,rfl⟩;rw[hY] at a6;(try simp -dsimp only[go_sem,hX,hY,zVs,rM,modC,mSrc',hsK,h8 a3 k3 b3.1 b3.2,oBelow,zAy l (n:=8) (by decide)]);rintro ⟨⟨v9,⟨⟨a,k⟩,b⟩⟩,F,U⟩;simp only at F U b;obtain ⟨N,rfl⟩:=Int.eq_ofNat_of_zero_le F;(try simp -dsimp only[go_sem]);obtain ⟨i0,E⟩:∃w:({m:Mod//DrU m}×SK l)×{n:Nat//n≤8},w=((⟨(mSrc' (t1,t2) (X,Y)),zQy _ _,wd_2 ht ⟨a7,a6⟩⟩,⟨(a,k),b⟩),⟨N,by omega⟩):=⟨_,rfl⟩
   refine zAp (ι:=({m:Mod//DrU m}×SK l)×{n:Nat//n≤8}) (fun x=>⟨[(0,some (.c (.ptr 0 0 0 0))),(2,some (.c (.ptr 1 0 0 0))),(3,some (.c (.ptr 2 0 0 0))),(4,some (.c (.im (.int .i64 (x.2.1:Int)))))],
     [(0,some (.box [.t (.im (.sl 1 (rowsB l))),.t (.im (.int .i64 x.1.2.1.1)),.t (.im (.int .i64 x.1.2.1.2))])),(1,some (.box mz11)),(2,some (.box (modIB x.1.1.1)))],3⟩) (fun x=>x.2.1) i0 ⟨[],[0,1,2],by subst E;(simp only[go_sem,modIB,mz11,mSrc',zAk,zAq])<;>simp[lk,zAn,modIB,mSrc',mMix',mGain',mDelay',mSlicer',mMeter',mHold',mSum',zAk,zAq]<;>(try rfl)⟩ (fun ⟨⟨⟨m,Z⟩,⟨⟨a,k⟩,b⟩⟩,⟨n,hn⟩⟩=>?_)
 case' h1=>
   (try simp -dsimp only[go_sem,Int.reduceEq,zVy h1 h2 J.1 J.2,oPtU,zMg,hsK]);rintro ⟨⟨⟨t1,t2⟩,ht⟩,⟨⟨a2,V⟩,G⟩⟩;(try simp -dsimp only[go_sem,zQt1,rM,modC,mMix',hsK,h8 a2 V G.1 G.2,oBelow,zAy l (n:=8) (by decide)]);rintro ⟨⟨v9,⟨⟨a,k⟩,b⟩⟩,F,U⟩;simp only at F U b;obtain ⟨N,rfl⟩:=Int.eq_ofNat_of_zero_le F;(try simp -dsimp only[go_sem]);obtain ⟨i0,E⟩:∃w:({m:Mod//DrU m}×SK l)×{n:Nat//n≤8},w=((⟨(mMix' (t1,t2)),zYg1 _,wd_2 ht (by decide)⟩,⟨(a,k),b⟩),⟨N,by omega⟩):=⟨_,rfl⟩
   refine zAp (ι:=({m:Mod//DrU m}×SK l)×{n:Nat//n≤8}) (fun x=>⟨[(0,some (.c (.ptr 0 0 0 0))),(2,some (.c (.ptr 1 0 0 0))),(3,some (.c (.ptr 2 0 0 0))),(4,some (.c (.im (.int .i64 (x.2.1:Int)))))],
     [(0,some (.box [.t (.im (.sl 1 (rowsB l))),.t (.im (.int .i64 x.1.2.1.1)),.t (.im (.int .i64 x.1.2.1.2))])),(1,some (.box mz11)),(2,some (.box (modIB x.1.1.1)))],3⟩) (fun x=>x.2.1) i0 ⟨[],[0,1,2],by subst E;(simp only[go_sem,modIB,mz11,mMix',zAk,zAq])<;>simp[lk,zAn,modIB,mSrc',mMix',mGain',mDelay',mSlicer',mMeter',mHold',mSum',zAk,zAq]<;>(try rfl)⟩ (fun ⟨⟨⟨m,Z⟩,⟨⟨a,k⟩,b⟩⟩,⟨n,hn⟩⟩=>?_)
 case' h2=>
   (try simp -dsimp only[go_sem,Int.reduceEq,runNatU h1 h2 J.1 J.2,oNatU,zIs,hsK]);rintro ⟨⟨x,hx⟩,⟨⟨a2,V⟩,G⟩⟩;(try simp -dsimp only[go_sem,zUe1,rM,modC,mGain',hsK,h8 a2 V G.1 G.2,oBelow,zAy l (n:=8) (by decide)]);rintro ⟨⟨v9,⟨⟨a,k⟩,b⟩⟩,F,U⟩;simp only at F U b;obtain ⟨N,rfl⟩:=Int.eq_ofNat_of_zero_le F;(try simp -dsimp only[go_sem]);obtain ⟨i0,E⟩:∃w:({m:Mod//DrU m}×SK l)×{n:Nat//n≤8},w=((⟨(mGain' x),zDb1 _,wd_1 hx⟩,⟨(a,k),b⟩),⟨N,by omega⟩):=⟨_,rfl⟩
   refine zAp (ι:=({m:Mod//DrU m}×SK l)×{n:Nat//n≤8}) (fun x=>⟨[(0,some (.c (.ptr 0 0 0 0))),(2,some (.c (.ptr 1 0 0 0))),(3,some (.c (.ptr 2 0 0 0))),(4,some (.c (.im (.int .i64 (x.2.1:Int)))))],
     [(0,some (.box [.t (.im (.sl 1 (rowsB l))),.t (.im (.int .i64 x.1.2.1.1)),.t (.im (.int .i64 x.1.2.1.2))])),(1,some (.box mz11)),(2,some (.box (modIB x.1.1.1)))],3⟩) (fun x=>x.2.1) i0 ⟨[],[0,1,2],by subst E;(simp only[go_sem,modIB,mz11,mGain',zAk,zAq])<;>simp[lk,zAn,modIB,mSrc',mMix',mGain',mDelay',mSlicer',mMeter',mHold',mSum',zAk,zAq]<;>(try rfl)⟩ (fun ⟨⟨⟨m,Z⟩,⟨⟨a,k⟩,b⟩⟩,⟨n,hn⟩⟩=>?_)
 case' h3=>
   (try simp -dsimp only[go_sem,Int.reduceEq,zAl h1 h2 J.1 J.2 (n:=5) (by decide) (by decide),oBelow,zAy l (n:=5) (by decide),hsK]);rintro ⟨⟨x,⟨⟨a2,V⟩,G⟩⟩,x1,x2⟩;simp only at x1 x2;obtain ⟨X,rfl⟩:=Int.eq_ofNat_of_zero_le x1;have hw:IntKind.i64.wrap (1+(X:Int))=((X+1:Nat):Int):=(by rw[zAi (by omega) (by omega)];omega);(try simp -dsimp only[go_sem,hw,zQw1 (n:=X+1) (by omega) (by omega),rMB,modC,mDelay',hsK,h8 a2 V G.1 G.2,oBelow,zAy l (n:=8) (by decide)]);rintro ⟨⟨v9,⟨⟨a,k⟩,b⟩⟩,F,U⟩;simp only at F U b;obtain ⟨N,rfl⟩:=Int.eq_ofNat_of_zero_le F;(try simp -dsimp only[go_sem]);obtain ⟨i0,E⟩:∃w:({m:Mod//DrU m}×SK l)×{n:Nat//n≤8},w=((⟨(mDelay' (zrs (X+1)) 0),zYf1 (by omega),zUo (fun p hp=>by rw[(List.mem_replicate.1 hp).2];exact zJs) zDx⟩,⟨(a,k),b⟩),⟨N,by omega⟩):=⟨_,rfl⟩
   refine zAp (ι:=({m:Mod//DrU m}×SK l)×{n:Nat//n≤8}) (fun x=>⟨[(0,some (.c (.ptr 0 0 0 0))),(2,some (.c (.ptr 1 0 0 0))),(3,some (.c (.ptr 2 0 0 0))),(4,some (.c (.im (.int .i64 (x.2.1:Int)))))],
     [(0,some (.box [.t (.im (.sl 1 (rowsB l))),.t (.im (.int .i64 x.1.2.1.1)),.t (.im (.int .i64 x.1.2.1.2))])),(1,some (.box mz11)),(2,some (.box (modIB x.1.1.1)))],3⟩) (fun x=>x.2.1) i0 ⟨[],[0,1,2],by subst E;(simp only[go_sem,modIB,mz11,mDelay',zAk,zAq])<;>simp[lk,zAn,modIB,mSrc',mMix',mGain',mDelay',mSlicer',mMeter',mHold',mSum',zAk,zAq]<;>(try rfl)⟩ (fun ⟨⟨⟨m,Z⟩,⟨⟨a,k⟩,b⟩⟩,⟨n,hn⟩⟩=>?_)
 case' h4=>
   (try simp -dsimp only[go_sem,Int.reduceEq,zIj1 h1 h2 J.1 J.2,oTabU,zHw2,hsK]);rintro ⟨⟨⟨pts,lab⟩,hT,hW⟩,⟨⟨a2,V⟩,G⟩⟩;(try simp -dsimp only[go_sem,zDy1 hT,rMB,modC,mSlicer',hsK,h8 a2 V G.1 G.2,oBelow,zAy l (n:=8) (by decide)]);rintro ⟨⟨v9,⟨⟨a,k⟩,b⟩⟩,F,U⟩;simp only at F U b;obtain ⟨N,rfl⟩:=Int.eq_ofNat_of_zero_le F;(try simp -dsimp only[go_sem]);obtain ⟨i0,E⟩:∃w:({m:Mod//DrU m}×SK l)×{n:Nat//n≤8},w=((⟨(mSlicer' pts lab 0),zUb hT,zVd hW zDx⟩,⟨(a,k),b⟩),⟨N,by omega⟩):=⟨_,rfl⟩
   refine zAp (ι:=({m:Mod//DrU m}×SK l)×{n:Nat//n≤8}) (fun x=>⟨[(0,some (.c (.ptr 0 0 0 0))),(2,some (.c (.ptr 1 0 0 0))),(3,some (.c (.ptr 2 0 0 0))),(4,some (.c (.im (.int .i64 (x.2.1:Int)))))],
     [(0,some (.box [.t (.im (.sl 1 (rowsB l))),.t (.im (.int .i64 x.1.2.1.1)),.t (.im (.int .i64 x.1.2.1.2))])),(1,some (.box mz11)),(2,some (.box (modIB x.1.1.1)))],3⟩) (fun x=>x.2.1) i0 ⟨[],[0,1,2],by subst E;(simp only[go_sem,modIB,mz11,mSlicer',zAk])<;>simp[lk,zAn,modIB,mSrc',mMix',mGain',mDelay',mSlicer',mMeter',mHold',mSum',zAk,zAq]<;>(try rfl)⟩ (fun ⟨⟨⟨m,Z⟩,⟨⟨a,k⟩,b⟩⟩,⟨n,hn⟩⟩=>?_)
 case' h5=>
   (try simp -dsimp only[go_sem,Int.reduceEq,zQu1,rM,modC,mMeter',hsK,h8 a1 k1 J.1 J.2,oBelow,zAy l (n:=8) (by decide)]);rintro ⟨⟨v9,⟨⟨a,k⟩,b⟩⟩,F,U⟩;simp only at F U b;obtain ⟨N,rfl⟩:=Int.eq_ofNat_of_zero_le F;(try simp -dsimp only[go_sem]);obtain ⟨i0,E⟩:∃w:({m:Mod//DrU m}×SK l)×{n:Nat//n≤8},w=((⟨mMeter',zNj1,wd_1 (by decide)⟩,⟨(a,k),b⟩),⟨N,by omega⟩):=⟨_,rfl⟩
   refine zAp (ι:=({m:Mod//DrU m}×SK l)×{n:Nat//n≤8}) (fun x=>⟨[(0,some (.c (.ptr 0 0 0 0))),(2,some (.c (.ptr 1 0 0 0))),(3,some (.c (.ptr 2 0 0 0))),(4,some (.c (.im (.int .i64 (x.2.1:Int)))))],
     [(0,some (.box [.t (.im (.sl 1 (rowsB l))),.t (.im (.int .i64 x.1.2.1.1)),.t (.im (.int .i64 x.1.2.1.2))])),(1,some (.box mz11)),(2,some (.box (modIB x.1.1.1)))],3⟩) (fun x=>x.2.1) i0 ⟨[],[0,1,2],by subst E;(simp only[go_sem,modIB,mz11,mMeter',zAk,zAq])<;>simp[lk,zAn,modIB,mSrc',mMix',mGain',mDelay',mSlicer',mMeter',mHold',mSum',zAk,zAq]<;>(try rfl)⟩ (fun ⟨⟨⟨m,Z⟩,⟨⟨a,k⟩,b⟩⟩,⟨n,hn⟩⟩=>?_)
 case' h6=>
   (try simp -dsimp only[go_sem,Int.reduceEq,zAl h1 h2 J.1 J.2 (n:=6) (by decide) (by decide),oBelow,zAy l (n:=6) (by decide),hsK]);rintro ⟨⟨x,⟨⟨a2,V⟩,G⟩⟩,x1,x2⟩;simp only at x1 x2;obtain ⟨X,rfl⟩:=Int.eq_ofNat_of_zero_le x1;have hw:IntKind.i64.wrap (1+(X:Int))=((X+1:Nat):Int):=(by rw[zAi (by omega) (by omega)];omega);(try simp -dsimp only[go_sem,hw,zUd1 (n:=X+1) (by omega) (by omega),rMB,modC,mHold',hsK,h8 a2 V G.1 G.2,oBelow,zAy l (n:=8) (by decide)]);rintro ⟨⟨v9,⟨⟨a,k⟩,b⟩⟩,F,U⟩;simp only at F U b;obtain ⟨N,rfl⟩:=Int.eq_ofNat_of_zero_le F;(try simp -dsimp only[go_sem]);obtain ⟨i0,E⟩:∃w:({m:Mod//DrU m}×SK l)×{n:Nat//n≤8},w=((⟨(mHold' (0,0) ((X+1:Nat):Int) 0),zJx (by omega) (by omega) (by omega) (by omega),zRk zJs (by omega) (by omega) (by omega) (by omega)⟩,⟨(a,k),b⟩),⟨N,by omega⟩):=⟨_,rfl⟩
   refine zAp (ι:=({m:Mod//DrU m}×SK l)×{n:Nat//n≤8}) (fun x=>⟨[(0,some (.c (.ptr 0 0 0 0))),(2,some (.c (.ptr 1 0 0 0))),(3,some (.c (.ptr 2 0 0 0))),(4,some (.c (.im (.int .i64 (x.2.1:Int)))))],
     [(0,some (.box [.t (.im (.sl 1 (rowsB l))),.t (.im (.int .i64 x.1.2.1.1)),.t (.im (.int .i64 x.1.2.1.2))])),(1,some (.box mz11)),(2,some (.box (modIB x.1.1.1)))],3⟩) (fun x=>x.2.1) i0 ⟨[],[0,1,2],by subst E;(simp only[go_sem,modIB,mz11,mHold',zAk,zAq])<;>simp[lk,zAn,modIB,mSrc',mMix',mGain',mDelay',mSlicer',mMeter',mHold',mSum',zAk,zAq]<;>(try rfl)⟩ (fun ⟨⟨⟨m,Z⟩,⟨⟨a,k⟩,b⟩⟩,⟨n,hn⟩⟩=>?_)
 case' h7=>
   (try simp -dsimp only[go_sem,Int.reduceEq,hsK,h8 a1 k1 J.1 J.2,oBelow,zAy l (n:=8) (by decide)]);rintro ⟨⟨v9,⟨⟨a,k⟩,b⟩⟩,F,U⟩;simp only at F U b;obtain ⟨N,rfl⟩:=Int.eq_ofNat_of_zero_le F;(try simp -dsimp only[go_sem]);obtain ⟨i0,E⟩:∃w:({m:Mod//DrU m}×SK l)×{n:Nat//n≤8},w=((⟨mSum',zIe,zBl1⟩,⟨(a,k),b⟩),⟨N,by omega⟩):=⟨_,rfl⟩
   refine zAp (ι:=({m:Mod//DrU m}×SK l)×{n:Nat//n≤8}) (fun x=>⟨[(0,some (.c (.ptr 0 0 0 0))),(2,some (.c (.ptr 1 0 0 0))),(3,some (.c (.ptr 2 0 0 0))),(4,some (.c (.im (.int .i64 (x.2.1:Int)))))],
     [(0,some (.box [.t (.im (.sl 1 (rowsB l))),.t (.im (.int .i64 x.1.2.1.1)),.t (.im (.int .i64 x.1.2.1.2))])),(1,some (.box mz11)),(2,some (.box (modIB x.1.1.1)))],3⟩) (fun x=>x.2.1) i0 ⟨[],[0,1,2],by subst E;(simp only[go_sem,modIB,mz11,mSum',zAk,zAq])<;>simp[lk,zAn,modIB,mSrc',mMix',mGain',mDelay',mSlicer',mMeter',mHold',mSum',zAk,zAq]<;>(try rfl)⟩ (fun ⟨⟨⟨m,Z⟩,⟨⟨a,k⟩,b⟩⟩,⟨n,hn⟩⟩=>?_)
 all_goals (
   simp only[modIB,mz11] at Z b ⊢
   obtain ⟨kd,⟨t1,t2⟩,⟨s1,s2⟩,lv,st,ra,rc,pts,lab,c,le⟩:=m
   match n with
   | 0=>
     have c0:((0:Nat):Int)=0:=rfl
     have d0:¬((0:Int)<0):=by simp
     try simp -dsimp only[go_sem,f54,c0,d0]
     refine zAh [] ?_
     simp -dsimp only[go_sem,modC]
     exact⟨(⟨⟨kd,(t1,t2),(s1,s2),lv,st,ra,rc,pts,lab,c,le⟩,Z⟩,⟨(a,k),b⟩),rfl,by simp⟩
   | n+1=>
     have d0:(0:Int)<((n+1:Nat):Int):=by omega
     have hk:IntKind.i64.wrap (((n+1:Nat):Int)-1)=(n:Int):=by rw[zAi (by omega) (by omega)];omega
     obtain ⟨q1,q2,q3⟩:=Z.d.ok
     simp only at q1 q2 q3
     try simp -dsimp only[go_sem,d0,zBx1 q1 q2 q3,rM,modC,zEz h1 h2 b.1 b.2,oSmall,hsK,zKp]
     rintro ⟨⟨⟨x,y⟩,⟨⟨a2,V⟩,G⟩⟩,x1,x2,y1,y2⟩
     simp only at x1 x2 y1 y2
     have hx:=zLg1 x1 x2
     have hy:=zLg1 y1 y2
     have a7:=wI32 x
     have a6:=wI32 y
     generalize hX:wI x=X at hx a7
     generalize hY:wI y=Y at hy a6
     have rs:=zLq1 Z.d Z.w ⟨a7,a6⟩ hx hy
     simp only[modC] at rs
     try simp -dsimp only[go_sem,rs,oStpU,zHy2,modC]
     rintro ⟨⟨m',z'⟩,c7⟩
     try simp -dsimp only[go_sem,hk]
     exact⟨((⟨m',c7⟩,⟨(a2,V),G⟩),⟨n,by omega⟩),by simp only[];omega,[],[0,1,2],by (simp only[go_sem])<;>simp[lk,zAn]⟩)
theorem zOd1 (m k:Nat):signed false m k=((m*2^ k:Nat):Int):=by
 unfold signed;rw[Nat.shiftLeft_eq];simp
theorem zAo2 (m k:Nat):signed true m k = -((m*2^ k:Nat):Int):=by
 unfold signed;rw[Nat.shiftLeft_eq];simp
theorem zHy1 {s:Bool}{m k:Nat}{b:Int}(hb:0≤b)(h:b<signed s m k):s=false∧0<m:=by
 cases s with
 | false=>
  rw[zOd1] at h;refine⟨rfl,Nat.pos_of_ne_zero fun E=>?_⟩;subst E;rw[Nat.zero_mul] at h;omega
 | true=>
  exfalso
  rw[zAo2] at h;omega
theorem zBr1 {m k:Nat}(h:0<m):0<signed false m k:=by
 have:=Nat.mul_pos h (Nat.two_pow_pos k);rw[zOd1];omega
theorem zVl (s:Bool)(k:Nat):signed s 0 k=0:=by cases s<;>simp[signed]
theorem zYx1 {a b:Int}:compare a b=.gt↔b<a:=by
 simp only[compare,compareOfLessAndEq];split
 ·simp;omega
 ·split
  ·simp;omega
  ·simp;omega
def PosD (d:Datum):Prop:=d=.infinity false∨∃m e,d=.number false m e∧0<m
theorem zKh2 {d:Datum}{e:Int}(h:d.order (.number false 0 e)=some .gt):PosD d:=by
 cases d with
 | nan s t=>cases h
 | infinity s=>cases s<;>first|exact .inl rfl|cases h
 | number s m i=>
  simp only[Datum.order,yaC,zYx1,zVl] at h;obtain ⟨rfl,E⟩:=zHy1 (Int.le_refl 0) h;exact .inr ⟨m,i,rfl,E⟩
theorem zKg2 {d:Datum}{e:Int}(h:PosD d):d.order (.number false 0 e)=some .gt:=by
 rcases h with rfl|⟨m,i,rfl,h0⟩
 ·rfl
 ·simp only[Datum.order,yaC,zYx1,zVl];exact zBr1 h0
theorem zKf2 {a l:Datum}(h:a.order l=some .gt)(hl:PosD l):PosD a:=by
 rcases hl with rfl|⟨n,j,rfl,F⟩
 ·cases a with
  | nan s t=>cases h
  | infinity s=>cases s<;>cases h
  | number s m i=>cases h
 ·cases a with
  | nan s t=>cases h
  | infinity s=>cases s<;>first|exact .inl rfl|cases h
  | number s m i=>
   simp only[Datum.order,yaC,zYx1] at h;obtain ⟨rfl,E⟩:=zHy1 (Int.le_of_lt (zBr1 F)) h;exact .inr ⟨m,i,rfl,E⟩
theorem zDk2 (w:Nat):fcmp .gtr .f32 w 0=true↔PosD (single.read w):=by
 have hz:single.read 0=.number false 0 (-149):=by decide
 have:fcmp .gtr .f32 w 0=(((single.read w).order (single.read 0)) ==some .gt):=rfl;rw[this,hz];simp only[beq_iff_eq];exact⟨zKh2,zKg2⟩
theorem zOy1 {l x:Nat}(h:(nz l||fcmp .gtr .f32 l 0)=true):(nz (maxLv l x)||fcmp .gtr .f32 (maxLv l x) 0)=true:=by
 unfold maxLv;split
 ·rename_i E;rw[Bool.or_eq_true] at h ⊢;right;rcases h with h|h
  ·have:l=0:=(by simp only[nz,yaG] at h;omega);subst this;exact E
  ·rw[zDk2] at h ⊢
   have:(single.read (absF x)).order (single.read l)=some .gt:=by
    have e:fcmp .gtr .f32 (absF x) l=(((single.read (absF x)).order (single.read l)) ==some .gt):=rfl;rw[e] at E;simpa using E
   exact zKf2 this h
 ·exact h
theorem abs32 {x:Nat}(h:x<4294967296):absF x<4294967296:=by
 unfold absF;split
 ·exact zHg h
 ·exact h
theorem maxLv32 {l x:Nat}(hl:l<4294967296)(h:x<4294967296):maxLv l x<4294967296:=by
 unfold maxLv;split
 ·exact abs32 h
 ·exact hl
theorem zEn1 {st:List Pt}{a c:Int}(h:isRingF st a c=true):1≤st.length∧st.length≤16∧0≤a∧a<st.length:=by
 simp only[isRingF,yay,yaG] at h;obtain ⟨⟨h1,h2,h3,h4,_⟩,_⟩:=h;exact⟨h1,h2,h3,h4⟩
theorem zLn2 (t s:Pt):isModuleF ⟨1,t,s,0,[],0,0,[],[],0,0⟩=true:=by simp[isModuleF,zBc]
theorem zIh2 (t s:Pt):isModuleF ⟨2,t,s,0,[],0,0,[],[],0,0⟩=true:=by simp[isModuleF,zBc]
theorem zLm2 (l:Nat):isModuleF ⟨3,(0,0),(0,0),l,[],0,0,[],[],0,0⟩=true:=by simp[isModuleF,zBc]
theorem zLl2 {pts:List Pt}{lab:List Int}(c:Int)(h:isTableF pts lab=true):isModuleF ⟨6,(0,0),(0,0),0,[],0,0,pts,lab,c,0⟩=true:=by simp[isModuleF,zBc,h]
theorem zLk2 {l:Nat}(h:(nz l||fcmp .gtr .f32 l 0)=true):isModuleF ⟨7,(0,0),(0,0),l,[],0,0,[],[],0,0⟩=true:=by
 have:bareF ⟨7,(0,0),(0,0),0,[],0,0,[],[],0,0⟩=true:=by simp[zBc]
 simp only[isModuleF,Int.reduceEq,yav,yau,this,yaq];exact h
theorem zQn1 {o:Or}{m:Mod}{z:Pt}(hv:isModuleF m=true)(hw:Wd m)(hz:z.1<4294967296∧z.2<4294967296):isModuleF (stepF o m z).1=true∧Wd (stepF o m z).1:=by
 rcases zEc hv with ⟨t,s,rfl⟩|⟨t,s,rfl⟩|⟨l,rfl⟩|⟨st,a,rfl,hr⟩|rfl|⟨pts,lab,c,rfl,F⟩|⟨l,rfl,hl⟩|⟨s,c,l,rfl,h1,h2,h3,h4⟩
 ·exact⟨zLn2 _ _,wd_2 hw.w.turn (mul32 _ _ _)⟩
 ·exact⟨zIh2 _ _,wd_2 hw.w.turn (mul32 _ _ _)⟩
 ·exact⟨zLm2 _,hw⟩
 ·obtain ⟨r1,r2,Z,V⟩:=zEn1 hr;have e:(stepF o ⟨4,(0,0),(0,0),0,st,a,(st.length:Int),[],[],0,0⟩ z).1=mDelay' (st.set a.toNat z) ((a+1)%(st.length:Int)):=by simp[stepF,mDelay']
  have U:0≤(a+1)%(st.length:Int):=Int.emod_nonneg _ (by omega);have J:(a+1)%(st.length:Int)<(st.length:Int):=Int.emod_lt_of_pos _ (by omega);rw[e];exact⟨(zOx (by simp;omega) (by simp;omega) U (by rw[List.length_set];exact J)).mod,zUo (set32 hw.w.store hz _) ⟨by omega,by omega⟩⟩
 ·exact⟨hv,hw⟩
 ·have e:∀r,nearF pts lab z=r→(stepF o ⟨6,(0,0),(0,0),0,[],0,0,pts,lab,c,0⟩ z).1=mSlicer' pts lab (match r with|none => -1|some i=>lab.getD i 0):=by
   intro r hr;simp only[stepF,Int.reduceEq,yav,yau,hr]
   cases r<;>rfl
  have G:∀r:Option Nat,i64B (match r with|none => -1|some i=>lab.getD i 0):=by
   intro r
   cases r with
   | none=>exact (show i64B (-1) from ⟨by decide,by decide⟩)
   | some i=>
    show i64B (lab.getD i 0);rw[List.getD_eq_getElem?_getD]
    cases hi:lab[i]? with
    | none=>exact zDx
    | some q=>exact hw.lab q (List.mem_of_getElem? hi)
  rw[e _ rfl];exact⟨zLl2 _ F,zVd ⟨hw.w.pts,hw.lab⟩ (G _)⟩
 ·exact⟨zLk2 (zOy1 (zOy1 hl)),wd_1 (maxLv32 (maxLv32 hw.w.level hz.1) hz.2)⟩
 ·by_cases E:l=0
  ·have e:(stepF o ⟨8,(0,0),s,0,[],0,0,[],[],c,l⟩ z).1=mHold' z c (c-1):=(by simp[stepF,mHold',E]);rw[e];exact⟨(zJx h1 h2 (by omega) (by omega)).mod,zRk hz h1 h2 (by omega) (by omega)⟩
  ·have e:(stepF o ⟨8,(0,0),s,0,[],0,0,[],[],c,l⟩ z).1=mHold' s c (l-1):=(by simp[stepF,mHold',E]);rw[e];exact⟨(zJx h1 h2 (by omega) (by omega)).mod,zRk hw.w.state h1 h2 (by omega) (by omega)⟩
def ctlM (m:Mod)(z:Pt):Mod:=if m.kind=3 then {m with level:=z.1} else {m with turn:=z}
theorem zYn1 {m:Mod}{z:Pt}(hv:isModuleF m=true)(hk:m.kind=1∨m.kind=2∨m.kind=3)(hw:Wd m)(hz:z.1<4294967296∧z.2<4294967296):isModuleF (ctlM m z)=true∧Wd (ctlM m z):=by
 rcases zEc hv with ⟨t,s,rfl⟩|⟨t,s,rfl⟩|⟨l,rfl⟩|⟨st,a,rfl,hr⟩|rfl|⟨pts,lab,c,rfl,E⟩|⟨l,rfl,hl⟩|⟨s,c,l,rfl,h1,h2,h3,h4⟩
 ·exact⟨zLn2 _ _,wd_2 hz hw.w.state⟩
 ·exact⟨zIh2 _ _,wd_2 hz hw.w.state⟩
 ·exact⟨zLm2 _,wd_1 hz.1⟩
 all_goals (exfalso;revert hk;simp)
theorem zKh1 {m:Mod}(hw:Wd m):(fmtM m).length≤10000:=by
 cases E:isModuleF m with
 | false=>simp[fmtM,E]
 | true=>
  have e:fmtM m=nameT m.kind++behind (restW m):=by simp[fmtM,E]
  have F:∀k,(nameT k).length≤6:=fun k=>by
   unfold nameT
   repeat' split
   all_goals decide
  have F:=F m.kind;rw[e,List.length_append];clear e;generalize nameT m.kind=NM at F ⊢;rcases zEc E with ⟨t,s,rfl⟩|⟨t,s,rfl⟩|⟨l,rfl⟩|⟨st,a,rfl,hr⟩|rfl|⟨pts,lab,c,rfl,V⟩|⟨l,rfl,hl⟩|⟨s,c,l,rfl,h1,h2,h3,h4⟩
  ·have lb:=zBn [t,s] (by simp;exact⟨hw.w.turn,hw.w.state⟩);have:restW ⟨1,t,s,0,[],0,0,[],[],0,0⟩=ptsW [t,s]:=(by simp[restW,ptsW]);rw[this];simp only[yab,List.length_nil] at lb;omega
  ·have lb:=zBn [t,s] (by simp;exact⟨hw.w.turn,hw.w.state⟩);have:restW ⟨2,t,s,0,[],0,0,[],[],0,0⟩=ptsW [t,s]:=(by simp[restW,ptsW]);rw[this];simp only[yab,List.length_nil] at lb;omega
  ·have lb:=zDi hw.w.level;have:behind (restW ⟨3,(0,0),(0,0),l,[],0,0,[],[],0,0⟩)=32::sglT l:=(by simp[restW,behind]);rw[this,List.length_cons];simp only at lb;omega
  ·have la:=zBm hw.rat;have lb:=zBn st hw.w.store;obtain ⟨J,G,r3,Z⟩:=zEn1 hr;have:behind (restW ⟨4,(0,0),(0,0),0,st,a,(st.length:Int),[],[],0,0⟩)=32::Lib.itoa a++behind (ptsW st):=(by simp[restW,behind]);rw[this];simp only[yaw,yab];simp only at la;omega
  ·have:behind (restW ⟨5,(0,0),(0,0),0,[],0,0,[],[],0,0⟩)=[]:=(by simp[restW,behind]);rw[this,List.length_nil];omega
  ·have la:=zBm hw.cnt;have lb:=zUp pts lab hw.w.pts hw.lab;obtain ⟨J,G⟩:=zEn V;have:behind (restW ⟨6,(0,0),(0,0),0,[],0,0,pts,lab,c,0⟩)=32::Lib.itoa c++behind (tabW pts lab):=(by simp[restW,behind]);rw[this];simp only[yaw,yab];simp only at la;omega
  ·have lb:=zDi hw.w.level;have:behind (restW ⟨7,(0,0),(0,0),l,[],0,0,[],[],0,0⟩)=32::sglT l:=(by simp[restW,behind]);rw[this,List.length_cons];simp only at lb;omega
  ·have la:=zBm hw.cnt;have U:=zBm hw.lft;have lb:=zBn [s] (by simp;exact hw.w.state);have:behind (restW ⟨8,(0,0),s,0,[],0,0,[],[],c,l⟩)=32::Lib.itoa c++(32::Lib.itoa l++behind (ptsW [s])):=(by simp[restW,behind,ptsW]);rw[this];simp only[yaw,yab,List.length_nil] at lb ⊢;simp only at la U;omega
abbrev Rk:=List Mod×List Cbl
def VM (m:Mod):Prop:=isModuleF m=true∧Wd m
structure VR (r:Rk):Prop where
 rk:isRackF r.1 r.2=true
 wd:∀m∈r.1,Wd m
theorem zMm2 {m:Mod}(hv:isModuleF m=true):m.store.length≤16∧m.pts.length≤64∧m.lab.length≤64:=by
 rcases zEc hv with ⟨t,u,rfl⟩|⟨t,u,rfl⟩|⟨l,rfl⟩|⟨st,a,rfl,hr⟩|rfl|⟨pts,lab,c,rfl,E⟩|⟨l,rfl,_⟩|⟨u,c,l,rfl,_⟩
 ·simp
 ·simp
 ·simp
 ·have:=(zEn1 hr).2.1;simp;omega
 ·simp
 ·obtain ⟨h1,h2⟩:=zEn E;simp;omega
 ·simp
 ·simp
theorem zBk1 {m:Mod}(hv:isModuleF m=true):OkM m:=by
 have hsm:sm=16777216:=rfl;obtain ⟨h1,h2,h3⟩:=zMm2 hv;exact⟨by omega,by omega,by omega⟩
theorem VR.parts {r:Rk}(h:VR r):r.1.length≤16∧r.2.length≤40∧(∀m∈r.1,isModuleF m=true)∧(∀c∈r.2,0≤c.1∧c.1<r.1.length∧0≤c.2∧c.2<r.1.length)∧(orderF r.1 r.2).isSome=true:=zFi.1 h.rk
theorem VR.ok {r:Rk}(h:VR r):∀m∈r.1,OkM m:=fun m hm=>zBk1 (h.parts.2.2.1 m hm)
theorem VR.vm {r:Rk}(h:VR r):∀m∈r.1,VM m:=fun m hm=>⟨h.parts.2.2.1 m hm,h.wd m hm⟩
theorem VR.sm1 {r:Rk}(h:VR r):r.1.length≤sm:=by have:=h.parts.1;have hsm:sm=16777216:=rfl;omega
theorem VR.sm2 {r:Rk}(h:VR r):r.2.length≤sm:=by have:=h.parts.2.1;have hsm:sm=16777216:=rfl;omega
abbrev W2 (p:Pt):Prop:=p.1<4294967296∧p.2<4294967296
theorem add32 (p q:Pt):W2 (addPt p q):=⟨fop32 _ _ _,fop32 _ _ _⟩
theorem foldl32 {α:Type}(f:α→Pt):∀(l:List α) (s:Pt),W2 s→W2 (l.foldl (fun s x=>addPt s (f x)) s)
 | [],_,h=>h
 | x::l,s,h=>foldl32 f l _ (add32 _ _)
theorem inSum32 (cs:List Cbl)(i inn:Int)(z:Pt)(outs:List Pt):W2 (inSum cs i inn z outs):=by
 unfold inSum;refine foldl32 (fun f:Int=>outs.getD f.toNat (0,0)) _ _ ?_;split
 ·exact add32 _ _
 ·exact⟨by decide,by decide⟩
theorem flush32 {x:Nat}(h:x<4294967296):flushF x<4294967296:=by
 unfold flushF;split
 ·have:x / 2147483648%2<2:=Nat.mod_lt _ (by decide);omega
 ·exact h
theorem getD2 {l:List Pt}(h:∀p∈l,W2 p)(i:Nat):W2 (l.getD i (0,0)):=by
 rw[List.getD_eq_getElem?_getD]
 cases hi:l[i]? with
 | none=>exact⟨by decide,by decide⟩
 | some p=>exact h p (List.mem_of_getElem? hi)
theorem zAk2 {o:Or}{m:Mod}{z:Pt}(hw:Wd m)(hz:W2 z):W2 (stepF o m z).2:=by
 have z0:W2 (0,0):=⟨by decide,by decide⟩;have E:∀p l,W2 (scaleF p l):=fun p l=>⟨flush32 (fop32 _ _ _),flush32 (fop32 _ _ _)⟩;unfold stepF;split
 ·exact hw.w.state
 split
 ·exact mul32 _ _ _
 split
 ·exact E _ _
 split
 ·exact getD2 hw.w.store _
 split
 ·split
  ·exact z0
  ·exact getD2 hw.w.pts _
 split
 ·exact hz
 split
 ·split
  ·exact hz
  ·exact hw.w.state
 ·exact hz
def SwOk (s:List Mod×List Pt):Prop:=(∀m∈s.1,VM m)∧∀p∈s.2,W2 p
theorem zTq1 {o:Or}{cs:List Cbl}{inn:Int}{z:Pt}{i:Int}{s:List Mod×List Pt}(hi:0≤i∧i<s.1.length)(h:SwOk s):SwOk (sweep1 o cs inn z i s):=by
 have G:i.toNat<s.1.length:=by omega
 have F:s.1.getD i.toNat dMod∈s.1:=by
  rw[List.getD_eq_getElem?_getD,List.getElem?_eq_getElem G];exact List.getElem_mem G
 obtain ⟨J,v2⟩:=h.1 _ F;have hz:=inSum32 cs i inn z s.2;obtain ⟨Z,V⟩:=zQn1 (o:=o) J v2 hz;have U:=zAk2 (o:=o) v2 hz;simp only[sweep1];refine⟨fun m F=>?_,fun p E=>?_⟩
 ·rcases List.mem_or_eq_of_mem_set F with F|rfl
  ·exact h.1 m F
  ·exact⟨Z,V⟩
 ·simp only at E;split at E
  ·exact h.2 p E
  ·rcases List.mem_or_eq_of_mem_set E with E|rfl
   ·exact h.2 p E
   ·exact U
theorem zHq1 {o:Nat→Or}{cs:List Cbl}{inn:Int}{z:Pt}:∀(l:List Int) (j:Nat) (s:List Mod×List Pt),(∀i∈l,0≤i∧i<s.1.length)→SwOk s→SwOk (sweep o cs inn z l j s)
 | [],_,_,_,h=>h
 | i::l,j,s,hl,h=>by
  simp only[sweep];refine zHq1 l (j+1) _ (fun k E=>?_) (zTq1 (hl i (by simp)) h);rw[zNn.1];exact hl k (by simp[E])
theorem zVi {o:Nat→Or}{cs:List Cbl}{inn:Int}{z:Pt}:∀(l:List Int) (j:Nat) (s:List Mod×List Pt),KEq (sweep o cs inn z l j s).1 s.1
 | [],_,s=>⟨rfl,fun _=>rfl⟩
 | i::l,j,s=>by
  obtain ⟨h1,h2⟩:=zVi (o:=o) (cs:=cs) (inn:=inn) (z:=z) l (j+1) (sweep1 (o j) cs inn z i s);simp only[sweep];refine⟨h1.trans zNn.1,fun k=>(h2 k).trans ?_⟩;simp only[sweep1];exact zSt1 k
theorem KEq.trans {a b c:List Mod}(h:KEq a b)(k:KEq b c):KEq a c:=⟨h.1.trans k.1,fun i=>(h.2 i).trans (k.2 i)⟩
theorem zBl2 {ms:List Mod}(h:∀m∈ms,VM m):∀p∈outs0 ms,W2 p:=by
 intro p E;simp only[outs0,List.mem_map] at E;obtain ⟨m,F,rfl⟩:=E;split
 ·exact getD2 (h m F).2.w.store _
 ·exact⟨by decide,by decide⟩
theorem zHt1 {o:Nat→Or}{cs:List Cbl}{inn:Int}{z:Pt}{ms:List Mod}(h:∀m∈ms,VM m):SwOk (stepRackF o cs inn z ms)∧KEq (stepRackF o cs inn z ms).1 ms:=
 ⟨zHq1 _ _ _ (fun i hi=>zEs1 i hi) ⟨h,zBl2 h⟩,zVi _ _ _⟩
theorem zOh1 {O:Nat→Nat→Or}{cs:List Cbl}{a b:Int}{xs:List Pt}{ms:List Mod}(h:∀m∈ms,VM m):∀k,SwOk (runS O cs a b xs ms k)∧KEq (runS O cs a b xs ms k).1 ms∧(runS O cs a b xs ms k).2.length=k
 | 0=>⟨⟨h,by simp[runS]⟩,⟨rfl,fun _=>rfl⟩,rfl⟩
 | k+1=>by
  obtain ⟨⟨h1,h2⟩,h3,h4⟩:=zOh1 (O:=O) (cs:=cs) (a:=a) (b:=b) (xs:=xs) h k;obtain ⟨⟨g1,g2⟩,g3⟩:=zHt1 (o:=O k) (cs:=cs) (inn:=a) (z:=xs.getD k (0,0)) h1;simp only[runS];refine⟨⟨g1,fun p E=>?_⟩,g3.trans h3,by simp[h4]⟩;simp only[List.mem_append,yaz] at E;rcases E with E|rfl
  ·exact h2 p E
  ·exact getD2 g2 _
theorem zRk1 {a b:List Mod}{cs:List Cbl}(hk:KEq b a)(hv:∀m∈b,isModuleF m=true)(h:isRackF a cs=true):isRackF b cs=true:=by
 obtain ⟨h1,h2,h3,h4,E⟩:=zFi.1 h;refine zFi.2 ⟨by rw[hk.1];exact h1,h2,hv,fun c hc=>by rw[hk.1];exact h4 c hc,by rw[zMf1 hk];exact E⟩
theorem zJy2 {O:Nat→Nat→Or}{a b:Int}{xs:List Pt}{r:Rk}(h:VR r)(k:Nat):VR ((runS O r.2 a b xs r.1 k).1,r.2)∧(∀p∈(runS O r.2 a b xs r.1 k).2,W2 p)∧(runS O r.2 a b xs r.1 k).2.length=k:=by
 obtain ⟨⟨h1,h2⟩,h3,h4⟩:=zOh1 (O:=O) (cs:=r.2) (a:=a) (b:=b) (xs:=xs) h.vm k;exact⟨⟨zRk1 h3 (fun m E=>(h1 m E).1) h.rk,fun m E=>(h1 m E).2⟩,h2,h4⟩
theorem zBh2 {m:Mod}(h:VM m):VM (resetM m):=by
 obtain ⟨G,E⟩:=h;have F:W2 (0,0):=⟨by decide,by decide⟩;rcases zEc G with ⟨t,s,rfl⟩|⟨t,s,rfl⟩|⟨l,rfl⟩|⟨st,a,rfl,hr⟩|rfl|⟨pts,lab,c,rfl,ht⟩|⟨l,rfl,hl⟩|⟨s,c,l,rfl,h1,h2,h3,h4⟩
 ·exact⟨G,E⟩
 ·exact⟨zIh2 _ _,wd_2 E.w.turn (by decide)⟩
 ·exact⟨G,E⟩
 ·obtain ⟨Z,V,U,J⟩:=zEn1 hr;have e:resetM ⟨4,(0,0),(0,0),0,st,a,(st.length:Int),[],[],0,0⟩=mDelay' (List.replicate st.length (0,0)) a:=by simp[resetM,mDelay']
  rw[e];refine⟨?_,zUo (fun p hp=>by rw[(List.mem_replicate.1 hp).2];exact F) E.rat⟩
  have hz:isRingF (List.replicate st.length ((0,0):Pt)) a (st.length:Int)=true:=by
   unfold isRingF;rw[Bool.and_eq_true];refine⟨decide_eq_true ?_,?_⟩
   ·unfold ringC;rw[List.length_replicate];exact⟨Z,V,U,J,by omega,by omega⟩
   ·rw[List.length_replicate,show st.length- ((st.length:Nat):Int).toNat=0 by omega];rfl
  simp[isModuleF,mDelay',zBc,hz]
 ·exact⟨G,E⟩
 ·have e:resetM ⟨6,(0,0),(0,0),0,[],0,0,pts,lab,c,0⟩=⟨6,(0,0),(0,0),0,[],0,0,pts,lab,0,0⟩:=by simp[resetM]
  rw[e];exact⟨zLl2 0 ht,⟨⟨F,F,by simp,by simp,E.w.pts⟩,zDx,zDx,zDx,E.lab⟩⟩
 ·have e:resetM ⟨7,(0,0),(0,0),l,[],0,0,[],[],0,0⟩=⟨7,(0,0),(0,0),0,[],0,0,[],[],0,0⟩:=by simp[resetM]
  rw[e];exact⟨zLk2 (by decide),wd_1 (by decide)⟩
 ·have e:resetM ⟨8,(0,0),s,0,[],0,0,[],[],c,l⟩=mHold' (0,0) c 0:=by simp[resetM,mHold']
  rw[e];refine⟨?_,zRk F h1 h2 (by omega) (by omega)⟩;simp[isModuleF,mHold',zBc,h1,h2];exact decide_eq_true (by omega)
theorem zMh2 {m:Mod}{z:Pt}(h:VM m)(hk:m.kind=1∨m.kind=2∨m.kind=3)(hz:W2 z):VM (ctlM m z):=zYn1 h.1 hk h.2 hz
def rkI (r:Rk):List I:=[.sl 11 (rowsM r.1),.sl 2 (rowsC r.2)]
def rowsR (l:List Rk):List (List I):=l.map rkI
theorem zCc (l:List Rk):(rowsR l).length=l.length:=by simp[rowsR]
theorem zQf {l:List Rk}{k:Nat}{r:Rk}(h:l[k]?=some r):(rowsR l)[k]?=some [.sl 11 (rowsM r.1),.sl 2 (rowsC r.2)]:=by simp[rowsR,h,rkI]
theorem zIq1:∀{a b:List Rk},rowsR a=rowsR b→a=b
 | [],[],_=>rfl
 | [],_::_,h=>by simp[rowsR] at h
 | _::_,[],h=>by simp[rowsR] at h
 | (x,y)::a,(u,v)::b,h=>by
  simp only[rowsR,List.map_cons,List.cons.injEq,rkI,I.sl.injEq,true_and,and_true,zBp,zBh] at h;obtain ⟨⟨rfl,rfl⟩,h⟩:=h;rw[zIq1 (a:=a) (b:=b) h]
theorem zEk1 {a b:List Rk}:(rowsR a=rowsR b)=(a=b):=propext ⟨zIq1,fun h=>by rw[h]⟩
theorem zRg1 (l:List Rk)(k:Nat):(rowsR l).take k=rowsR (l.take k):=by simp[rowsR,List.map_take]
theorem zFq:rowsR []=[]:=rfl
theorem zLl1 (l:List Rk)(r:Rk):tI (rowsR l)++[[T.im (.sl 11 (rowsM r.1)),T.im (.sl 2 (rowsC r.2))]]=tI (rowsR (l++[r])):=by simp[tI,rowsR,rkI]
def rkC (r:Rk):List C:=[.im (.sl 11 (rowsM r.1)),.im (.sl 2 (rowsC r.2))]
def sesC (R:Rk)(past:List Rk):List C:=[.im (.sl 11 (rowsM R.1)),.im (.sl 2 (rowsC R.2)),.im (.sl 2 (rowsR past))]
theorem zJd {a b:Rk}(h:rkC a=rkC b):a=b:=by
 simp only[rkC,List.cons.injEq,C.im.injEq,I.sl.injEq,true_and,and_true,zBp,zBh] at h;exact Prod.ext h.1 h.2
theorem zIl {a b:Rk}{p q:List Rk}(h:sesC a p=sesC b q):a=b∧p=q:=by
 simp only[sesC,List.cons.injEq,C.im.injEq,I.sl.injEq,true_and,and_true,zBp,zBh,zEk1] at h;exact⟨Prod.ext h.1 h.2.1,h.2.2⟩
structure VS (R:Rk) (past:List Rk):Prop where
 r:VR R
 p:∀x∈past,VR x
def rTB (pts:List Pt)(lab:List Int):Res:={val:=.tup [.agg [.view 0 1 0 pts.length,.view 1 1 0 lab.length],.c (.im (.bool true))],roots:=[.arr 1 (tI (rowsZ pts)),.arr 1 (tI (rowsN lab))]}
def rTF:Res:={val:=.tup [.agg [.nil,.nil],.c (.im (.bool false))]}
theorem zEw2 {sc:Bool}{pts:List Pt}{lab:List Int}:OkR sc (rTB pts lab):=by
 refine⟨.tup _ (fun d hd=>?_),fun r hr=>?_,by simp[rTB]⟩
 ·simp only[yac,yad,or_false] at hd;rcases hd with rfl|rfl
  ·refine .inr ⟨_,rfl,fun x hx=>?_⟩;simp only[yac,yad,or_false] at hx;rcases hx with rfl|rfl<;>exact .view _ _ _ _ (by simp[rTB])
  ·exact .inl ⟨_,rfl,zBr rfl⟩
 ·simp only[rTB,yac,yad,or_false] at hr;rcases hr with rfl|rfl
  ·exact zDg (zCz _)
  ·exact zDg (zEw _)
theorem zKs2 {sc:Bool}:OkR sc rTF:=by
 refine⟨.tup _ (fun d hd=>?_),by simp[rTF],by simp[rTF]⟩;simp only[yac,yad,or_false] at hd;rcases hd with rfl|rfl
 ·exact .inr ⟨_,rfl,fun x hx=>by simp at hx;subst hx;exact .nil⟩
 ·exact .inl ⟨_,rfl,zBr rfl⟩
noncomputable def zLc:Ct:=fam true (fun x:N3=>([.c (.im (.int .i64 (x.1:Int)))],[])) (fun x=>.one (rTB (gridP x.1 (x.1*x.1)) (gridN (x.1*x.1))))
theorem zAp1 {n:Nat}(h1:1≤n)(h2:n≤3):zLc.run [.c (.im (.int .i64 (n:Int)))] []=some (.one (rTB (gridP n (n*n)) (gridN (n*n)))):=zAc (ct:=zLc) rfl (by
 intro a b h
 simp only[Prod.mk.injEq,List.cons.injEq,D.c.injEq,C.im.injEq,I.int.injEq,Int.natCast_inj,true_and,and_true] at h
 (try simp only[yah])
 (try simp only[zAs,zAx] at h)
 simp_all) (⟨n,h1,h2⟩:N3)
theorem zBc1:Law prog 193 zLc:=by
 refine zAw (zAa zIu zAd) hmixA func193 rfl rfl (fun ⟨S,s1,s2⟩=>⟨okO zEw2,by simp[f193],?_⟩);simp only[rTB];have hb:(decide ((1:Int)≤(S:Int))&&decide ((S:Int)≤8))=true:=by simp;omega
 try simp -dsimp only[go_sem,f193,zBx,hb]
 refine zAp (ι:={i:Nat//i≤S}) (fun i=>⟨[(0,some (.c (.im (.int .i64 (S:Int))))),(2,some (.c (.ptr 0 0 0 0))),(4,some (.c (.ptr 1 0 0 0))),(5,some (.c (.im (.int .i64 (i.1:Int)))))],
   [(0,some (.box [.t .nil,.t .nil])),(1,some (.box [.t (.own 1 (tI (rowsZ (gridP S (i.1*S))))),.t (.own 1 (tI (rowsN (gridN (i.1*S)))))]))],2⟩) (fun i=>S-i.1) ⟨0,by omega⟩ ⟨[.nilT 1 0 0 1,.nilT 1 0 1 1],[0,1],by ((simp only[go_sem,yai,Nat.zero_mul,zKf,zKg])<;>(try (simp -dsimp only[go_sem,yaj,yai,yak,Nat.zero_mul,zKf,zKg])))<;>simp[gridP,gridN,rowsZ,rowsN,tI]⟩ (fun ⟨i,hi⟩=>?_)
 simp only;by_cases b5:i<S;rotate_left
 · have V:¬((i:Int)<(S:Int)):=(by omega);obtain rfl:i=S:=by omega
   have b0:mapO (mapO imT) (tI (rowsZ (gridP i (i*i))))=some (rowsZ (gridP i (i*i))):=zCb _;have b4:mapO (mapO imT) (tI (rowsN (gridN (i*i))))=some (rowsN (gridN (i*i))):=zCb _;(try simp -dsimp only[go_sem,f193,V,zAg,zAb,zAe]);refine zAh [] ?_;simp -dsimp only[go_sem];refine⟨[_,_],?_,?_,?_,rfl,rfl⟩<;>simp[rtOk]
 have V:(i:Int)<(S:Int):=by omega
 have F:IntKind.i64.wrap ((i:Int)+1)=((i+1:Nat):Int):=by rw[zAi (by omega) (by omega)];omega
 try simp -dsimp only[go_sem,V]
 refine zAp (ι:={k:Nat//k≤S}) (fun k=>⟨[(0,some (.c (.im (.int .i64 (S:Int))))),(2,some (.c (.ptr 0 0 0 0))),(4,some (.c (.ptr 1 0 0 0))),(5,some (.c (.im (.int .i64 (i:Int))))),(6,some (.c (.im (.int .i64 (k.1:Int)))))],
   [(0,some (.box [.t .nil,.t .nil])),(1,some (.box [.t (.own 1 (tI (rowsZ (gridP S (i*S+k.1))))),.t (.own 1 (tI (rowsN (gridN (i*S+k.1)))))]))],2⟩) (fun k=>S-k.1) ⟨0,by omega⟩ ⟨[],[0,1],by ((simp only[go_sem,yai,zKf,zKg,yal])<;>(try (simp -dsimp only[go_sem,yaj,yai,zKf,zKg,yal])))<;>simp[]⟩ (fun ⟨k,hk⟩=>?_)
 simp only;by_cases G:k<S;rotate_left
 · have U:¬((k:Int)<(S:Int)):=(by omega);obtain rfl:k=S:=by omega
   (try simp -dsimp only[go_sem,U,F]);exact⟨⟨i+1,by omega⟩,by simp only[];omega,[],[0,1],by (simp only[go_sem,yai,zKf,zKg,Nat.succ_mul])<;>simp[lk,zAn,zKf,zKg]⟩
 have U:(k:Int)<(S:Int):=by omega
 have E:IntKind.i64.wrap ((k:Int)+1)=((k+1:Nat):Int):=by rw[zAi (by omega) (by omega)];omega
 have a1:IntKind.i64.wrap (2*(i:Int))=2*(i:Int):=zAi (by omega) (by omega);have a2:IntKind.i64.wrap (2*(i:Int)- (S:Int))=2*(i:Int)- (S:Int):=zAi (by omega) (by omega);have a3:IntKind.i64.wrap (2*(i:Int)- (S:Int)+1)=2*(i:Int)- (S:Int)+1:=zAi (by omega) (by omega);have b1:IntKind.i64.wrap (2*(k:Int))=2*(k:Int):=zAi (by omega) (by omega);have b2:IntKind.i64.wrap (2*(k:Int)- (S:Int))=2*(k:Int)- (S:Int):=zAi (by omega) (by omega);have b3:IntKind.i64.wrap (2*(k:Int)- (S:Int)+1)=2*(k:Int)- (S:Int)+1:=zAi (by omega) (by omega)
 have b6:i*S≤9:=by
   calc i*S≤3*3:=Nat.mul_le_mul (by omega) s2
     _=9:=rfl
 have c1:IntKind.i64.wrap ((i:Int)*(S:Int))=((i*S:Nat):Int):=by rw[←Int.natCast_mul,zAi (by omega) (by omega)]
 have c2:IntKind.i64.wrap (((i*S:Nat):Int)+(k:Int))=((i*S+k:Nat):Int):=by rw[zAi (by omega) (by omega)];omega
 have J:(i*S+k+1)*8≤140737488355328:=by omega
 have hp:tI (rowsZ (gridP S (i*S+k)))++[[T.im (.cpx .f32 (FloatKind.f32.nearest (2*(i:Int)- (S:Int)+1)) (FloatKind.f32.nearest (2*(k:Int)- (S:Int)+1)))]]=tI (rowsZ (gridP S (i*S+(k+1)))):=by rw[←zCu1 G];simp[tI,rowsZ,gridPt]
 have hn:tI (rowsN (gridN (i*S+k)))++[[T.im (.int .i64 ((i*S+k:Nat):Int))]]=tI (rowsN (gridN (i*S+(k+1)))):=by rw[show i*S+(k+1)=(i*S+k)+1 by omega,←zCv1];simp[tI,rowsN]
 have Z:(tI (rowsZ (gridP S (i*S+(k+1))))).length=i*S+k+1:=by simp[zAg,zAb,zQv];omega
 have ln:(tI (rowsN (gridN (i*S+(k+1))))).length=i*S+k+1:=by simp[zAg,zAe,zQw];omega
 try simp -dsimp only[go_sem,U,E,a1,a2,a3,b1,b2,b3,c1,c2,hp,hn,Z,ln,J,appendH,srcRows,List.take_succ_cons,yan,yao,yap,okT,yaq,zAg,zAb,zAe,zQv,zQw]
 exact⟨⟨k+1,by omega⟩,by simp only[];omega,[.fold 1 0 0,.fold 1 0 1],[0,1],by (simp only[go_sem,yai,Z,ln,zKf,zKg])<;>simp[lk,zAn,zKf,zKg]⟩
def oPutO:Outs:=.any (QTabU×Bool) (fun q=>if q.2=true then rTB q.1.1.1 q.1.1.2 else rTF)
theorem zIb2:Nonempty (QTabU×Bool)=True:=by simp only[eq_iff_iff,iff_true];exact⟨(⟨([],[]),zLr,zLg⟩,true)⟩
noncomputable def zGv:Ct:=fam true (fun x:QTabU×P32×I64u=>([.agg [.im (.sl 1 (rowsZ x.1.1.1)),.im (.sl 1 (rowsN x.1.1.2))],.c (.im (.cpx .f32 x.2.1.1.1 x.2.1.1.2)),.c (.im (.int .i64 x.2.2.1))],[])) (fun _=>oPutO)
theorem zDx1 {pts:List Pt}{lab:List Int}(h:isTableF pts lab=true)(hW:TbW pts lab){u v:Nat}(hu:u<4294967296)(hv:v<4294967296){n:Int}(hn:i64B n):zGv.run [.agg [.im (.sl 1 (rowsZ pts)),.im (.sl 1 (rowsN lab))],.c (.im (.cpx .f32 u v)),.c (.im (.int .i64 n))] []=some oPutO:=
 zHd (ct:=zGv) rfl (fun _ _ _=>rfl) (⟨(pts,lab),h,hW⟩,⟨(u,v),hu,hv⟩,⟨n,hn⟩)
theorem zFh1:Law prog 194 zGv:=by
 refine zAw (zAa zIt (zAa zNv (zAa zPg1 zAd))) hmixA func194 rfl rfl (fun ⟨⟨⟨pts,lab⟩,V,hW⟩,⟨⟨u,v⟩,hu,hv⟩,⟨n,hn⟩⟩=>⟨okA (fun o=>by split;exact zEw2;exact zKs2),by simp[f194],?_⟩);simp only at V hW hu hv;obtain ⟨e1,e2⟩:=zEn V;have h1:pts.length≤sm:=by have:sm=16777216:=rfl;omega
 have h2:lab.length≤sm:=by have:sm=16777216:=rfl;omega
 simp only[oPutO];by_cases hi:0≤idxF (eqPt · (u,v)) pts 0
 ·obtain ⟨K,hK⟩:=Int.eq_ofNat_of_zero_le hi;have d1:K<pts.length:=by have:=zNg1 (eqPt · (u,v)) pts 0;rw[hK] at this;omega
  obtain ⟨q,hq⟩:∃q,lab[K]?=some q:=⟨_,List.getElem?_eq_getElem (by omega)⟩;have a8:(tI (rowsN lab))[K]?=some [T.im (.int .i64 q)]:=zPn (zEx hq);have a7:(tI (rowsN lab)).set K [T.im (.int .i64 n)]=tI (rowsN (lab.set K n)):=by simp[tI,rowsN,List.map_set]
  have b6:0≤(K:Int):=by simp
  have b5:(K:Int)<(lab.length:Int):=by omega
  have b3:mapO (mapO imT) (tI (rowsZ pts))=some (rowsZ pts):=zCb _;have b4:mapO (mapO imT) (tI (rowsN (lab.set K n)))=some (rowsN (lab.set K n)):=zCb _;try simp -dsimp only[go_sem,f194,zBq h1 h2,V,zCn h1 h2,rTb,zNr h1 h2,hK,b6,b5,a8,a7,zHj,zEd,zRo,Int.toNat_natCast]
  refine zAh [] ?_;simp -dsimp only[go_sem];refine⟨(⟨(pts,lab.set K n),zHm1 V (by simp),zZd1 hW hn K⟩,true),?_⟩;simp -dsimp only[go_sem,rTB,yaD];refine⟨[2,3],?_,?_,?_,?_⟩<;>simp[rtOk]
 have b0:=eq_false hi;have F:(pts.length+1)*8≤140737488355328:=by omega
 have E:(lab.length+1)*8≤140737488355328:=by omega
 have J:tI (rowsZ pts)++[[T.im (.cpx .f32 u v)]]=tI (rowsZ (pts++[(u,v)])):=by simp[tI,rowsZ]
 have G:tI (rowsN lab)++[[T.im (.int .i64 n)]]=tI (rowsN (lab++[n])):=by simp[tI,rowsN]
 have b3:mapO (mapO imT) (tI (rowsZ (pts++[(u,v)])))=some (rowsZ (pts++[(u,v)])):=zCb _;have b4:mapO (mapO imT) (tI (rowsN (lab++[n])))=some (rowsN (lab++[n])):=zCb _;have b2:(pts++[(u,v)]).length≤sm:=by have:sm=16777216:=rfl;simp;omega
 have b1:(lab++[n]).length≤sm:=by have:sm=16777216:=rfl;simp;omega
 have lz:(tI (rowsZ (pts++[(u,v)]))).length=pts.length+1:=by simp[zAg,zAb]
 have ln:(tI (rowsN (lab++[n]))).length=lab.length+1:=by simp[zAg,zAe]
 have Z:List.take (pts.length+1) (tI (rowsZ (pts++[(u,v)])))=tI (rowsZ (pts++[(u,v)])):=List.take_of_length_le (by omega);have a6:List.take (lab.length+1) (tI (rowsN (lab++[n])))=tI (rowsN (lab++[n])):=List.take_of_length_le (by omega)
 cases U:isTableF (pts++[(u,v)]) (lab++[n]) with
 | true=>
  try simp -dsimp only[go_sem,f194,zBq h1 h2,V,zCn h1 h2,rTb,zNr h1 h2,b0,F,E,J,G,lz,ln,Z,a6,zBq b2 b1,U,appendH,srcRows,List.take_succ_cons,yan,yao,yap,okT,yaq,zBj,zAg,zAb,zAe,zHj,zEd,zRo]
  refine zAh [] ?_;simp -dsimp only[go_sem];refine⟨(⟨(pts++[(u,v)],lab++[n]),U,zZe1 hW hu hv hn⟩,true),?_⟩;simp -dsimp only[go_sem,rTB,yaw];refine⟨[6,8],?_,?_,?_,?_⟩<;>simp[rtOk]
 | false=>
  try simp -dsimp only[go_sem,f194,zBq h1 h2,V,zCn h1 h2,rTb,zNr h1 h2,b0,F,E,J,G,lz,ln,Z,a6,zBq b2 b1,U,appendH,srcRows,List.take_succ_cons,yan,yao,yap,okT,yaq,zBj,zAg,zAb,zAe,zHj,zEd,zRo]
  refine zAh [] ?_;simp -dsimp only[go_sem];refine⟨(⟨([],[]),zLr,zLg⟩,false),?_⟩;simp -dsimp only[go_sem,yat,rTF]
def oTabO (l:List Int):Outs:=.any (QTabU×SK l) (fun q=>{val:=.agg [.view 0 1 0 q.1.1.1.length,.view 1 1 0 q.1.1.2.length],roots:=[.arr 1 (tI (rowsZ q.1.1.1)),.arr 1 (tI (rowsN q.1.1.2))],places:=hsK l q.2.1.1 q.2.1.2})
theorem zHx2 (l:List Int):Nonempty (QTabU×SK l)=True:=by simp only[eq_iff_iff,iff_true];exact⟨(⟨([],[]),zLr,zLg⟩,⟨(0,0),by simp⟩)⟩
noncomputable def zPd:Ct:=fam false (fun x:AKn=>([.c (.ptr 0 0 0 0)],hsK x.l x.a x.h)) (fun x=>oTabO x.l)
theorem zIk1 {l:List Int}{a h:Int}(h1:l.length≤1048576)(h2:∀b∈l,0≤b∧b<256)(h3:0≤a)(h4:a≤l.length):zPd.run [.c (.ptr 0 0 0 0)] [[.t (.im (.sl 1 (rowsB l))),.t (.im (.int .i64 a)),.t (.im (.int .i64 h))]]=some (oTabO l):=by
 refine zAc (ct:=zPd) rfl (fun x y h=>?_) ⟨l,h1,h2,a,h,h3,h4⟩;simp only[Prod.mk.injEq,true_and] at h;exact zEa (zDy h)
theorem zIa1:(zGv.sc=true)=True:=by simp[zGv,fam]
theorem zAe1 (l:List Pt):MvR false (.arr 1 (tI (rowsZ l)))=True:=eq_true (zBv _ _)
theorem zAg1 (l:List Int):MvR false (.arr 1 (tI (rowsN l)))=True:=eq_true (zBv _ _)
theorem zJp1:Law prog 120 zPd:=by
 refine zAf (zAa zFc (zAa zBf (zAa zBc1 (zAa zIb (zAa zHm (zAa zFh1 zAd)))))) hmixA func120 rfl rfl (fun ⟨l,h1,h2,a,h,h3,h4⟩=>⟨okA (fun q=>⟨.agg _ (fun x hx=>?_),fun r hr=>?_,(okK (n:=0) (v:=.c (.im (.bool true))) okDi).places⟩),by simp[f120],?_⟩)
 · simp only[yac,yad,or_false] at hx;rcases hx with rfl|rfl<;>exact .view _ _ _ _ (by simp)
 · simp only[yac,yad,or_false] at hr;rcases hr with rfl|rfl<;>exact zBv _ _
 simp only[oTabO,hsK];have h7:∀(a h:Int),0≤a→a≤l.length→zDf.run [.c (.ptr 0 0 0 0),.c (.im (.int .i64 7))] [[.t (.im (.sl 1 (rowsB l))),.t (.im (.int .i64 a)),.t (.im (.int .i64 h))]]=some (oBelow l 7):=fun a h q1 q2=>zAl h1 h2 q1 q2 (n:=7) (by decide) (by decide);try simp -dsimp only[go_sem,f120,zCu h1 h2 h3 h4 (n:=4) (by decide) (by decide),oOnce,hsK,zHz]
 rintro ⟨c1,⟨⟨a1,k1⟩,b1⟩⟩
 cases c1
 case' true=>
   (try simp -dsimp only[go_sem,zAl h1 h2 b1.1 b1.2 (n:=3) (by decide) (by decide),oBelow,hsK,zAy l (n:=3) (by decide)]);rintro ⟨⟨v,⟨⟨a2,k2⟩,b2⟩⟩,v1,v2⟩;simp only at v1 v2;obtain ⟨V,rfl⟩:=Int.eq_ofNat_of_zero_le v1;have hw:IntKind.i64.wrap (1+(V:Int))=((V+1:Nat):Int):=(by rw[zAi (by omega) (by omega)];omega);obtain ⟨E,G⟩:∃p,gridP (V+1) ((V+1)*(V+1))=p:=⟨_,rfl⟩;obtain ⟨F,J⟩:∃p,gridN ((V+1)*(V+1))=p:=⟨_,rfl⟩;have e3:isTableF E F=true:=(by rw[←G,←J];exact zPn1 (by omega) (by omega));have d9:TbW E F:=(by rw[←G,←J];exact zFh2 (by omega));have rg:=zAp1 (n:=V+1) (by omega) (by omega);rw[G,J] at rg;simp only[rTB] at rg;clear G J;(try simp -dsimp only[go_sem,hw,rg,hsK,h7 a2 k2 b2.1 b2.2,oBelow,zAy l (n:=7) (by decide)]);rintro ⟨⟨v7,⟨⟨a,k⟩,b⟩⟩,Z,r2⟩;simp only at Z r2 b;obtain ⟨N,rfl⟩:=Int.eq_ofNat_of_zero_le Z;(try simp -dsimp only[go_sem]);have i0:∃x:(QTabU×SK l)×{n:Nat//n≤7},x=((⟨(E,F),e3,d9⟩,⟨(a,k),b⟩),⟨N,by omega⟩):=⟨_,rfl⟩;obtain ⟨i0,a6⟩:=i0
   refine zAp (ι:=(QTabU×SK l)×{n:Nat//n≤7}) (fun x=>⟨[(0,some (.c (.ptr 0 0 0 0))),(2,some (.c (.ptr 1 0 0 0))),(3,some (.c (.ptr 2 0 0 0))),(4,some (.c (.im (.int .i64 (x.2.1:Int)))))],
     [(0,some (.box [.t (.im (.sl 1 (rowsB l))),.t (.im (.int .i64 x.1.2.1.1)),.t (.im (.int .i64 x.1.2.1.2))])),(1,some (.box [.t .nil,.t .nil])),(2,some (.box [.t (.lent 3 1 x.1.1.1.1.length),.t (.lent 4 1 x.1.1.1.2.length)])),(3,some (.arr 1 (tI (rowsZ x.1.1.1.1)))),(4,some (.arr 1 (tI (rowsN x.1.1.1.2))))],5⟩) (fun x=>x.2.1) i0 ⟨[],[0,1,2,3,4],?sub⟩ (fun ⟨⟨⟨⟨pts,lab⟩,hT,hW⟩,⟨⟨a,k⟩,b⟩⟩,⟨n,hn⟩⟩=>?_)
   case sub=>
     subst a6
     (simp only[go_sem,zAe1,zAg1])
     all_goals simp[lk,zAn,MvRt]
 case' false=>
   (try simp -dsimp only[go_sem,hsK,h7 a1 k1 b1.1 b1.2,oBelow,zAy l (n:=7) (by decide)]);rintro ⟨⟨v7,⟨⟨a,k⟩,b⟩⟩,Z,r2⟩;simp only at Z r2 b;obtain ⟨N,rfl⟩:=Int.eq_ofNat_of_zero_le Z;(try simp -dsimp only[go_sem]);have i0:∃x:(QTabU×SK l)×{n:Nat//n≤7},x=((⟨([],[]),zLr,zLg⟩,⟨(a,k),b⟩),⟨N,by omega⟩):=⟨_,rfl⟩;obtain ⟨i0,a6⟩:=i0
   refine zAp (ι:=(QTabU×SK l)×{n:Nat//n≤7}) (fun x=>⟨[(0,some (.c (.ptr 0 0 0 0))),(2,some (.c (.ptr 1 0 0 0))),(3,some (.c (.ptr 2 0 0 0))),(4,some (.c (.im (.int .i64 (x.2.1:Int)))))],
     [(0,some (.box [.t (.im (.sl 1 (rowsB l))),.t (.im (.int .i64 x.1.2.1.1)),.t (.im (.int .i64 x.1.2.1.2))])),(1,some (.box [.t .nil,.t .nil])),(2,some (.box [.t (.lent 3 1 x.1.1.1.1.length),.t (.lent 4 1 x.1.1.1.2.length)])),(3,some (.arr 1 (tI (rowsZ x.1.1.1.1)))),(4,some (.arr 1 (tI (rowsN x.1.1.1.2))))],5⟩) (fun x=>x.2.1) i0 ⟨[.nilT 2 0 0 1,.nilT 2 0 1 1,.unf 2 0 0,.unf 2 0 1],[0,1,2,3,4],by subst a6;((simp only[go_sem,zAk,zAq])<;>(try (simp -dsimp only[go_sem,yaj,yai,yak,zAe1,zAg1,zAk,zAq])))<;>simp[tI]⟩ (fun ⟨⟨⟨⟨pts,lab⟩,hT,hW⟩,⟨⟨a,k⟩,b⟩⟩,⟨n,hn⟩⟩=>?_)
 all_goals (
   simp only at hT hW b ⊢
   obtain ⟨e1,e2⟩:=zEn hT
   have d2:List.take pts.length (tI (rowsZ pts))=tI (rowsZ pts):=List.take_of_length_le (by simp[zAg,zAb])
   have d3:List.take lab.length (tI (rowsN lab))=tI (rowsN lab):=List.take_of_length_le (by simp[zAg,zAe])
   have h6:∀(a h:Int),0≤a→a≤l.length→zDf.run [.c (.ptr 0 0 0 0),.c (.im (.int .i64 6))] [[.t (.im (.sl 1 (rowsB l))),.t (.im (.int .i64 a)),.t (.im (.int .i64 h))]]=some (oBelow l 6):=fun a h q1 q2=>zAl h1 h2 q1 q2 (n:=6) (by decide) (by decide)
   match n with
   | 0=>
     have c0:((0:Nat):Int)=0:=rfl
     have d0:¬((0:Int)<0):=by simp
     try simp -dsimp only[go_sem,f120,c0,d0]
     exact⟨(⟨(pts,lab),hT,hW⟩,⟨(a,k),b⟩),rfl,[3,4],by simp,by simp,by simp[rtOk],by simp⟩
   | n+1=>
     have d0:(0:Int)<((n+1:Nat):Int):=by omega
     have hk:IntKind.i64.wrap (((n+1:Nat):Int)-1)=(n:Int):=by rw[zAi (by omega) (by omega)];omega
     try simp -dsimp only[go_sem,d0,zEz h1 h2 b.1 b.2,oSmall,hsK,zKp]
     rintro ⟨⟨⟨u,v⟩,⟨⟨a2,k2⟩,b2⟩⟩,u1,u2,v1,v2⟩
     obtain ⟨U,hU⟩:∃x,wI u=x:=⟨_,rfl⟩
     have hu:=wI32 u
     obtain ⟨V,hV⟩:∃x,wI v=x:=⟨_,rfl⟩
     have hv:=wI32 v
     rw[hU] at hu
     rw[hV] at hv
     try simp -dsimp only[go_sem,hU,hV,hsK,zCu h1 h2 b2.1 b2.2 (n:=6) (by decide) (by decide),oOnce,zHz]
     rintro ⟨c,⟨⟨a3,k3⟩,b3⟩⟩
     cases c
     case' false=>
       try simp -dsimp only[go_sem,hsK,h6 a3 k3 b3.1 b3.2,oBelow,zAy l (n:=6) (by decide)]
       with_reducible repeat' refine sl_i ?_
     case' true=>
       try simp -dsimp only[go_sem,hsK,zHk h1 h2 b3.1 b3.2,oPtU,zMg]
       rintro ⟨⟨⟨U,V⟩,hu,hv⟩,⟨⟨a3,k3⟩,b3⟩⟩
       try simp -dsimp only[go_sem,hsK,h6 a3 k3 b3.1 b3.2,oBelow,zAy l (n:=6) (by decide)]
       with_reducible repeat' refine sl_i ?_
     all_goals (
       rintro ⟨⟨v6,⟨⟨a4,k4⟩,b4⟩⟩,Z,r2⟩
       simp only at Z r2 b4
       have d7:IntKind.i64.wrap (v6-2)=v6-2:=zAi (by omega) (by omega)
       have d8:i64B (v6-2):=⟨by omega,by omega⟩
       try simp only at hu hv
       try simp -dsimp only[go_sem,d7,zDx1 hT hW hu hv d8,zIa1,oPutO,zIb2,d2,d3,zBj,zAg,zAb,zAe]
       rintro ⟨⟨⟨b5,b6⟩,e4,e0⟩,ok⟩
       cases ok
       · skip
         try simp -dsimp only[go_sem,hk,rTF,yat]
         with_reducible repeat' refine ro_i ?_
         exact⟨((⟨(pts,lab),hT,hW⟩,⟨(a4,k4),b4⟩),⟨n,by omega⟩),by simp only[];omega,[],[0,1,2,3,4],by (simp only[go_sem,zAe1,zAg1])<;>simp[lk,zAn]⟩
       · skip
         try simp -dsimp only[go_sem,hk,rTB]
         with_reducible repeat' refine ro_i ?_
         refine⟨((⟨(b5,b6),e4,e0⟩,⟨(a4,k4),b4⟩),⟨n,by omega⟩),by simp only[];omega,[],[0,1,2,45,46],by (simp only[go_sem,zAe1,zAg1])<;>simp[lk,zAn]⟩))
abbrev QTo:={t:List Pt×List Int//t.1.length≤200∧t.2.length≤200∧TbW t.1 t.2}
def oTo (l:List Int):Outs:=.any (QTo×SK l) (fun q=>{val:=.agg [.im (.sl 1 (rowsZ q.1.1.1)),.im (.sl 1 (rowsN q.1.1.2))],places:=hsK l q.2.1.1 q.2.1.2})
theorem zMv2 (l:List Int):Nonempty (QTo×SK l)=True:=by simp only[eq_iff_iff,iff_true];exact⟨(⟨([],[]),by simp,by simp,zLg⟩,⟨(0,0),by simp⟩)⟩
noncomputable def zGv1:Ct:=fam false (fun x:AKn=>([.c (.ptr 0 0 0 0)],hsK x.l x.a x.h)) (fun x=>oTo x.l)
theorem zUj1 {l:List Int}{a h:Int}(h1:l.length≤1048576)(h2:∀b∈l,0≤b∧b<256)(h3:0≤a)(h4:a≤l.length):zGv1.run [.c (.ptr 0 0 0 0)] [[.t (.im (.sl 1 (rowsB l))),.t (.im (.int .i64 a)),.t (.im (.int .i64 h))]]=some (oTo l):=by
 refine zAc (ct:=zGv1) rfl (fun x y h=>?_) ⟨l,h1,h2,a,h,h3,h4⟩;simp only[Prod.mk.injEq,true_and] at h;exact zEa (zDy h)
theorem zQi1 {pts:List Pt}{lab:List Int}(h:TbW pts lab){z:Pt}(hz:W2 z):TbW (pts++[z]) lab:=⟨fun p E=>by
 rcases List.mem_append.1 E with E|E
 ·exact h.1 p E
 ·rw[List.mem_singleton.1 E];exact hz,h.2⟩
theorem zHi1 {pts:List Pt}{lab:List Int}(h:TbW pts lab){n:Int}(hn:i64B n):TbW pts (lab++[n]):=⟨h.1,fun p E=>by
 rcases List.mem_append.1 E with E|E
 ·exact h.2 p E
 ·rw[List.mem_singleton.1 E];exact hn⟩
theorem zEe2 {pts:List Pt}{lab:List Int}(h:TbW pts lab){z:Pt}(hz:W2 z)(k:Nat):TbW (pts.set k z) lab:=⟨fun p hp=>by
 rcases List.mem_or_eq_of_mem_set hp with hp|rfl
 ·exact h.1 p hp
 ·exact hz,h.2⟩
theorem zWy1:Law prog 235 zGv1:=by
 refine zAw (zAa zJp1 (zAa zFc (zAa zBf (zAa zSk zAd)))) hmixA func235 rfl rfl (fun ⟨l,h1,h2,a,h,h3,h4⟩=>⟨okA (fun q=>okK (n:=0) okAgg2),by simp[f235],?_⟩);simp only[oTo,hsK];try simp -dsimp only[go_sem,f235,zIk1 h1 h2 h3 h4,oTabO,zHx2,hsK]
 rintro ⟨⟨⟨pts,lab⟩,hT,hW⟩,⟨⟨a1,k1⟩,b1⟩⟩;obtain ⟨e1,e2⟩:=zEn hT;simp only at hW b1 e1 e2;have lz:(tI (rowsZ pts)).length=pts.length:=by rw[zAg,zAb]
 have ln:(tI (rowsN lab)).length=lab.length:=by rw[zAg,zAe]
 have G:mapO (mapO imT) (tI (rowsZ pts))=some (rowsZ pts):=zCb _;have J:mapO (mapO imT) (tI (rowsN lab))=some (rowsN lab):=zCb _;try simp -dsimp only[go_sem,hsK,zCu h1 h2 b1.1 b1.2 (n:=10) (by decide) (by decide),oOnce,zHz]
 rintro ⟨c,⟨⟨a2,k2⟩,b2⟩⟩
 cases c with
 | false=>
  try simp -dsimp only[go_sem,f235]
  refine zAh [.frz 2 [.b 1 0 0],.frz 3 [.b 1 0 1]] ?_;simp -dsimp only[go_sem,G,J,lz,ln];exact⟨(⟨(pts,lab),by simp;omega,by simp;omega,hW⟩,⟨(a2,k2),b2⟩),by simp⟩
 | true=>
  try simp -dsimp only[go_sem,hsK,zAl h1 h2 b2.1 b2.2 (n:=4) (by decide) (by decide),oBelow,zAy l (n:=4) (by decide)]
  rintro ⟨⟨v,⟨⟨a3,k3⟩,b3⟩⟩,v1,v2⟩;simp only at v1 v2 b3;have hv:v=0∨v=1∨v=2∨v=3:=by omega
  rcases hv with rfl|rfl|rfl|rfl
  ·have b0:tI (rowsN lab)++[[T.im (.int .i64 1)]]=tI (rowsN (lab++[1])):=(by simp[tI,rowsN]);have a7:(lab.length+1)*8≤140737488355328:=(by omega);have E:(tI (rowsN (lab++[1]))).length=lab.length+1:=(by simp[zAg,zAe]);have Z:mapO (mapO imT) (tI (rowsN (lab++[1])))=some (rowsN (lab++[1])):=zCb _;(try simp -dsimp only[go_sem,f235,b0,a7,ln,E,appendH,srcRows,List.take_succ_cons,yan,yao,yap,okT,yaq]);refine zAh [.frz 2 [.b 1 0 0],.frz 6 [.b 1 0 1]] ?_;simp -dsimp only[go_sem,G,Z,lz,E];exact⟨(⟨(pts,lab++[1]),by simp;omega,by simp;omega,zHi1 hW ⟨by decide,by decide⟩⟩,⟨(a3,k3),b3⟩),by simp⟩
  ·by_cases d5:pts.length=0
   ·have z0:¬((0:Int)<(pts.length:Int)):=(by omega);(try simp -dsimp only[go_sem,f235,z0,Int.reduceEq]);refine zAh [.frz 2 [.b 1 0 0],.frz 3 [.b 1 0 1]] ?_;simp -dsimp only[go_sem,G,J,lz,ln];exact⟨(⟨(pts,lab),by simp;omega,by simp;omega,hW⟩,⟨(a3,k3),b3⟩),by simp⟩
   ·have z0:(0:Int)<(pts.length:Int):=(by omega);obtain ⟨⟨p0,p1⟩,hp⟩:∃p,pts[0]?=some p:=⟨_,List.getElem?_eq_getElem (by omega)⟩;have U:(tI (rowsZ pts))[0]?=some [T.im (.cpx .f32 p0 p1)]:=zPn (zBz hp);try simp -dsimp only[go_sem,hsK,z0,Int.reduceEq,runNatU h1 h2 b3.1 b3.2,oNatU,zIs]
    with_reducible repeat' refine sl_i ?_
    rintro ⟨⟨x,hx⟩,⟨⟨a4,k4⟩,b4⟩⟩;have d1:(tI (rowsZ (pts.set 0 (x,0)))).length=pts.length:=(by simp[zAg,zAb]);have V:mapO (mapO imT) (tI (rowsZ (pts.set 0 (x,0))))=some (rowsZ (pts.set 0 (x,0))):=zCb _;try simp -dsimp only[go_sem,f235,U,setZ]
    with_reducible repeat' refine ro_i ?_
    refine zAh [.frz 2 [.b 1 0 0],.frz 3 [.b 1 0 1]] ?_;simp -dsimp only[go_sem,V,J,d1,ln];exact⟨(⟨(pts.set 0 (x,0),lab),by simp;omega,by simp;omega,zEe2 hW ⟨hx,show (0:Nat)<4294967296 by decide⟩ 0⟩,⟨(a4,k4),b4⟩),by simp⟩
  ·by_cases d5:pts.length=0
   ·have z0:¬((0:Int)<(pts.length:Int)):=(by omega);(try simp -dsimp only[go_sem,f235,z0,Int.reduceEq]);refine zAh [.frz 2 [.b 1 0 0],.frz 3 [.b 1 0 1]] ?_;simp -dsimp only[go_sem,G,J,lz,ln];exact⟨(⟨(pts,lab),by simp;omega,by simp;omega,hW⟩,⟨(a3,k3),b3⟩),by simp⟩
   ·have z0:(0:Int)<(pts.length:Int):=(by omega);obtain ⟨⟨p0,p1⟩,hp⟩:∃p,pts[0]?=some p:=⟨_,List.getElem?_eq_getElem (by omega)⟩;have U:(tI (rowsZ pts))[0]?=some [T.im (.cpx .f32 p0 p1)]:=zPn (zBz hp);have d3:=hW.1 _ (List.mem_of_getElem? hp);have b0:tI (rowsN lab)++[[T.im (.int .i64 5)]]=tI (rowsN (lab++[5])):=(by simp[tI,rowsN]);have a8:tI (rowsZ pts)++[[T.im (.cpx .f32 p0 p1)]]=tI (rowsZ (pts++[(p0,p1)])):=(by simp[tI,rowsZ]);have a7:(lab.length+1)*8≤140737488355328:=(by omega);have a6:(pts.length+1)*8≤140737488355328:=(by omega);have E:(tI (rowsN (lab++[5]))).length=lab.length+1:=(by simp[zAg,zAe]);have b7:(tI (rowsZ (pts++[(p0,p1)]))).length=pts.length+1:=(by simp[zAg,zAb]);have Z:mapO (mapO imT) (tI (rowsN (lab++[5])))=some (rowsN (lab++[5])):=zCb _;have V:mapO (mapO imT) (tI (rowsZ (pts++[(p0,p1)])))=some (rowsZ (pts++[(p0,p1)])):=zCb _;try simp -dsimp only[go_sem,f235,z0,Int.reduceEq,lz,ln,b7,E,U,b0,a8,a7,a6,appendH,srcRows,List.take_succ_cons,yan,yao,yap,okT,yaq,Int.toNat_zero,Int.le_refl]
    with_reducible repeat' first|refine sl_i ?_|refine ro_i ?_
    refine zAh [.frz 61 [.b 1 0 0],.frz 86 [.b 1 0 1]] ?_;simp -dsimp only[go_sem,V,Z,b7,E];exact⟨(⟨(pts++[(p0,p1)],lab++[5]),by simp;omega,by simp;omega,zHi1 (zQi1 hW d3) ⟨by decide,by decide⟩⟩,⟨(a3,k3),b3⟩),by simp⟩
  ·skip
   try simp -dsimp only[go_sem,Int.reduceEq]
   refine zAp (ι:={x:(List Pt×List Int)×Nat//x.1.1.length=pts.length+x.2∧x.1.2.length=lab.length+x.2∧x.2≤65∧TbW x.1.1 x.1.2}) (fun x=>⟨[(2,some (.c (.ptr 1 0 0 0))),(3,some (.c (.ptr 4 0 0 0))),(4,some (.c (.im (.int .i64 (x.1.2:Int)))))],
    [(0,some (.box [.t (.im (.sl 1 (rowsB l))),.t (.im (.int .i64 a3)),.t (.im (.int .i64 k3))])),(1,some (.box [.t .nil,.t .nil])),(2,some (.arr 1 (tI (rowsZ x.1.1.1)))),(3,some (.arr 1 (tI (rowsN x.1.1.2)))),(4,some (.box [.t (.lent 2 1 x.1.1.1.length),.t (.lent 3 1 x.1.1.2.length)]))],5⟩) (fun x=>65-x.1.2) ⟨((pts,lab),0),by simp,by simp,by simp,hW⟩ ⟨[],[0,1,2,3,4],by ((simp only[go_sem,zAe1,zAg1])<;>(try (simp -dsimp only[go_sem,yaj,yai,zAe1,zAg1])))<;>simp[]⟩ (fun ⟨⟨⟨ps,ls⟩,k⟩,x1,x2,x3,x4⟩=>?_)
   simp only at x1 x2 x3 x4 ⊢;have lz:(tI (rowsZ ps)).length=ps.length:=(by rw[zAg,zAb]);have ln:(tI (rowsN ls)).length=ls.length:=(by rw[zAg,zAe]);by_cases hk:k<65;rotate_left
   ·have hI:¬((k:Int)<65):=(by omega);have G:mapO (mapO imT) (tI (rowsZ ps))=some (rowsZ ps):=zCb _;have J:mapO (mapO imT) (tI (rowsN ls))=some (rowsN ls):=zCb _;(try simp -dsimp only[go_sem,f235,hI]);refine zAh [.frz 2 [.b 1 0 0],.frz 3 [.b 1 0 1]] ?_;simp -dsimp only[go_sem,G,J,lz,ln];exact⟨(⟨(ps,ls),by simp;omega,by simp;omega,x4⟩,⟨(a3,k3),b3⟩),by simp⟩
   have hI:(k:Int)<65:=(by omega);have d2:IntKind.i64.wrap ((k:Int)+1)=((k+1:Nat):Int):=(by rw[zAi (by omega) (by omega)];omega);have d4:IntKind.i64.wrap (100+(k:Int))=100+(k:Int):=zAi (by omega) (by omega);obtain ⟨F,hF⟩:∃F,FloatKind.f32.nearest (100+(k:Int))=F:=⟨_,rfl⟩;have d7:F<4294967296:=(by rw[←hF];exact nr32 _);have b0:tI (rowsN ls)++[[T.im (.int .i64 (k:Int))]]=tI (rowsN (ls++[(k:Int)])):=(by simp[tI,rowsN]);have a8:tI (rowsZ ps)++[[T.im (.cpx .f32 F 0)]]=tI (rowsZ (ps++[(F,0)])):=(by simp[tI,rowsZ]);have a7:(ls.length+1)*8≤140737488355328:=(by omega);have a6:(ps.length+1)*8≤140737488355328:=(by omega);have E:(tI (rowsN (ls++[(k:Int)]))).length=ls.length+1:=(by simp[zAg,zAe]);have b7:(tI (rowsZ (ps++[(F,0)]))).length=ps.length+1:=(by simp[zAg,zAb]);(try simp -dsimp only[go_sem,hI,d2,d4,hF,lz,ln,b7,E,b0,a8,a7,a6,appendH,srcRows,List.take_succ_cons,yan,yao,yap,okT,yaq]);refine⟨⟨((ps++[(F,0)],ls++[(k:Int)]),k+1),by simp;omega,by simp;omega,by simp only[];omega,zHi1 (zQi1 x4 ⟨d7,show (0:Nat)<4294967296 by decide⟩) ⟨by omega,by omega⟩⟩,by simp only[];omega,[],[0,1,6,8,4],by (simp only[go_sem,zAe1,zAg1,yaw,List.length_singleton])<;>simp[lk,zAn,MvRt]⟩
def rRg (st:List Pt)(a c:Nat)(z:Pt):Res:={val:=.tup [.agg [.view 0 1 0 st.length,.im (.int .i64 (a:Int)),.im (.int .i64 (c:Int))],.c (.im (.cpx .f32 z.1 z.2))],roots:=[.arr 1 (tI (rowsZ st))]}
theorem zEu2 {sc:Bool}{st:List Pt}{a c:Nat}{z:Pt}:OkR sc (rRg st a c z):=by
 refine⟨.tup _ (fun d hd=>?_),fun r hr=>?_,by simp[rRg]⟩
 ·simp only[yac,yad,or_false] at hd;rcases hd with rfl|rfl
  ·exact .inr ⟨_,rfl,fun x hx=>by
    simp only[yac,yad,or_false] at hx
    rcases hx with rfl|rfl|rfl<;>first|exact zBr rfl|exact .view _ _ _ _ (by simp[rRg])⟩
  ·exact .inl ⟨_,rfl,zBr rfl⟩
 ·simp only[rRg,yac,yad,or_false] at hr;subst hr;exact zDg (zCz _)
def rRn (n:Nat):Res:={val:=.tup [.agg [.view 0 1 0 n,.im (.int .i64 0),.im (.int .i64 0)],.c (.im (.bool true))],roots:=[.arr 1 (tI (rowsZ (zrs n)))]}
noncomputable def zYu:Ct:=fam true (fun x:N16'=>([.c (.im (.int .i64 (x.1:Int)))],[])) (fun x=>.one (rRn x.1))
theorem zQs1 {n:Nat}(h1:1≤n)(h2:n≤16):zYu.run [.c (.im (.int .i64 (n:Int)))] []=some (.one (rRn n)):=zAc (ct:=zYu) rfl (by
 intro a b h
 simp only[Prod.mk.injEq,List.cons.injEq,D.c.injEq,C.im.injEq,I.int.injEq,Int.natCast_inj,true_and,and_true] at h
 (try simp only[yah])
 (try simp only[zAs,zAx] at h)
 simp_all) (⟨n,h1,h2⟩:N16')
theorem zRt1:Law prog 191 zYu:=by
 refine zAf (zAa zIu zAd) hmixA func191 rfl rfl (fun ⟨n,h1,h2⟩=>⟨okO ⟨.tup _ (fun d hd=>?_),fun r hr=>?_,by simp[rRn]⟩,by simp[f191],?_⟩)
 ·simp only[yac,yad,or_false] at hd;rcases hd with rfl|rfl
  ·exact .inr ⟨_,rfl,fun x hx=>by
    simp only[yac,yad,or_false] at hx
    rcases hx with rfl|rfl|rfl<;>first|exact zBr rfl|exact .view _ _ _ _ (by simp[rRn])⟩
  ·exact .inl ⟨_,rfl,zBr rfl⟩
 ·simp only[rRn,yac,yad,or_false] at hr;subst hr;exact zDg (zCz _)
 simp only[rRn];have hb:(decide ((1:Int)≤(n:Int))&&decide ((n:Int)≤16))=true:=by simp;omega
 have G:0≤(n:Int):=by omega
 have F:(n:Int)≤9223372036854775807:=by omega
 have E:((8:Nat):Int)*(n:Int)≤281474976710656:=by omega
 try simp -dsimp only[go_sem,f191,zBx,hb,zEq2,G,F,E,Int.toNat_natCast]
 refine⟨[1],?_,?_,?_,?_⟩<;>simp[rtOk]
structure ARgG where
 st:List Pt
 a:Nat
 c:Nat
 h1:1≤st.length
 h2:st.length≤16
 h3:a<st.length
 h4:c≤st.length
theorem zQj1 {x y:ARgG}(h:x.st=y.st∧x.a=y.a∧x.c=y.c):x=y:=by
 obtain ⟨s,a,c,_,_,_,_⟩:=x;obtain ⟨t,b,d,_,_,_,_⟩:=y;obtain ⟨rfl,rfl,rfl⟩:=h;rfl
noncomputable def zJz:Ct:=fam true (fun x:{x:ARgG//1≤x.c}=>([.agg [.im (.sl 1 (rowsZ x.1.st)),.im (.int .i64 (x.1.a:Int)),.im (.int .i64 (x.1.c:Int))]],[])) (fun x=>.one (rRg (x.1.st.set x.1.a (0,0)) ((x.1.a+1)%x.1.st.length) (x.1.c-1) (x.1.st.getD x.1.a (0,0))))
theorem zVz {st:List Pt}{a c:Nat}(h1:1≤st.length)(h2:st.length≤16)(h3:a<st.length)(h4:c≤st.length)(h5:1≤c):zJz.run [.agg [.im (.sl 1 (rowsZ st)),.im (.int .i64 (a:Int)),.im (.int .i64 (c:Int))]] []=some (.one (rRg (st.set a (0,0)) ((a+1)%st.length) (c-1) (st.getD a (0,0)))):=by
 refine zAc (ct:=zJz) rfl (fun x y h=>?_) ⟨⟨st,a,c,h1,h2,h3,h4⟩,h5⟩;simp[zAs] at h;exact Subtype.ext (zQj1 ⟨h.1,by omega,by omega⟩)
theorem zBt1:(zJz.sc=true)=True:=by simp[zJz,fam]
theorem zXw:Law prog 249 zJz:=by
 refine zAf (zAa zJv zAd) hmixA func249 rfl rfl (fun ⟨⟨st,a,c,h1,h2,h3,h4⟩,h5⟩=>⟨okO zEu2,by simp[f249],?_⟩);simp only at h5;simp only[rRg];have hs:st.length≤sm:=by have:sm=16777216:=rfl;omega
 obtain ⟨⟨p,q⟩,F⟩:∃p,st[a]?=some p:=⟨_,List.getElem?_eq_getElem h3⟩;have E:(tI (rowsZ st))[a]?=some [T.im (.cpx .f32 p q)]:=zPn (zBz F);have V:st.getD a (0,0)=(p,q):=by rw[List.getD_eq_getElem?_getD,F];rfl
 have h0:0≤(a:Int):=by simp
 have Z:(a:Int)<(st.length:Int):=by omega
 have J:IntKind.i64.wrap ((a:Int)+1)=((a+1:Nat):Int):=by rw[zAi (by omega) (by omega)];omega
 have G:((st.length:Int)=0)=False:=eq_false (by omega);have U:((a+1:Nat):Int).tmod (st.length:Int)=(((a+1)%st.length:Nat):Int):=by rw[Int.tmod_eq_emod_of_nonneg (by omega)];exact (Int.natCast_emod _ _).symm
 have hc:IntKind.i64.wrap ((c:Int)-1)=((c-1:Nat):Int):=by rw[zAi (by omega) (by omega)];omega
 try simp -dsimp only[go_sem,f249,zEf hs,zGc,E,h0,Z,J,G,U,hc,setZ,Int.toNat_natCast,yaD]
 refine⟨[2],?_,?_,?_,?_⟩<;>simp[rtOk,F]
def pshS (st:List Pt)(a c:Nat)(p:Pt):List Pt:=if c=st.length then st.set a p else st.set ((a+c)%st.length) p
def pshA (st:List Pt)(a c:Nat):Nat:=if c=st.length then (a+1)%st.length else a
def pshC (st:List Pt)(c:Nat):Nat:=if c=st.length then c else c+1
def pshO (st:List Pt)(a c:Nat):Pt:=if c=st.length then st.getD a (0,0) else (0,0)
noncomputable def zKa:Ct:=fam true (fun x:ARgG×Pt=>([.agg [.im (.sl 1 (rowsZ x.1.st)),.im (.int .i64 (x.1.a:Int)),.im (.int .i64 (x.1.c:Int))],.c (.im (.cpx .f32 x.2.1 x.2.2))],[]))
 (fun x=>.one (rRg (pshS x.1.st x.1.a x.1.c x.2) (pshA x.1.st x.1.a x.1.c) (pshC x.1.st x.1.c) (pshO x.1.st x.1.a x.1.c)))
theorem zWa {st:List Pt}{a c:Nat}(h1:1≤st.length)(h2:st.length≤16)(h3:a<st.length)(h4:c≤st.length)(u v:Nat):zKa.run [.agg [.im (.sl 1 (rowsZ st)),.im (.int .i64 (a:Int)),.im (.int .i64 (c:Int))],.c (.im (.cpx .f32 u v))] []=
 some (.one (rRg (pshS st a c (u,v)) (pshA st a c) (pshC st c) (pshO st a c))):=by
 refine zAc (ct:=zKa) rfl (fun x y h=>?_) (⟨st,a,c,h1,h2,h3,h4⟩,(u,v));simp[zAs] at h;exact Prod.ext (zQj1 ⟨h.1.1,by omega,by omega⟩) (Prod.ext h.2.1 h.2.2)
theorem zBu1:(zKa.sc=true)=True:=by simp[zKa,fam]
theorem zMw1:Law prog 197 zKa:=by
 refine zAf (zAa zJv (zAa zXw zAd)) hmixA func197 rfl rfl (fun ⟨⟨st,a,c,h1,h2,h3,h4⟩,⟨u,v⟩⟩=>⟨okO zEu2,by simp[f197],?_⟩);have hs:st.length≤sm:=by have:sm=16777216:=rfl;omega
 have U:((st.length:Int)=0)=False:=eq_false (by omega);by_cases hf:c=st.length
 ·subst hf;obtain ⟨⟨p,q⟩,hp⟩:∃p,st[a]?=some p:=⟨_,List.getElem?_eq_getElem h3⟩;have Z:st.getD a (0,0)=(p,q):=by rw[List.getD_eq_getElem?_getD,hp];rfl
  have V:(a+1)%st.length<st.length:=Nat.mod_lt _ (by omega);have hw:IntKind.i64.wrap ((((a+1)%st.length:Nat):Int)+((st.length-1:Nat):Int))=(((a+1)%st.length+(st.length-1):Nat):Int):=by rw[zAi (by omega) (by omega)];omega
  have hm:(((a+1)%st.length+(st.length-1):Nat):Int).tmod (st.length:Int)=(a:Int):=by rw[Int.tmod_eq_emod_of_nonneg (by omega),←Int.natCast_emod,zOn1 h3]
  have hc:IntKind.i64.wrap (((st.length-1:Nat):Int)+1)=(st.length:Int):=by rw[zAi (by omega) (by omega)];omega
  have h0:0≤(a:Int):=by simp
  have hI:(a:Int)<(st.length:Int):=by omega
  have E:(tI (rowsZ (st.set a (0,0))))[a]?=some [T.im (.cpx .f32 0 0)]:=zPn (zBz (by rw[List.getElem?_set_self h3]));have G:(tI (rowsZ (st.set a (0,0)))).set a [T.im (.cpx .f32 u v)]=tI (rowsZ (st.set a (u,v))):=by rw[setZ,List.set_set]
  have F:List.take st.length (tI (rowsZ st))=tI (rowsZ st):=List.take_of_length_le (by simp[zAg,zAb]);have e1:pshS st a st.length (u,v)=st.set a (u,v):=if_pos rfl;have e2:pshA st a st.length=(a+1)%st.length:=if_pos rfl;have e3:pshC st st.length=st.length:=if_pos rfl;have e4:pshO st a st.length=(p,q):=by simp only[pshO,yav,Z]
  have rt:=zVz h1 h2 h3 h4 h1;rw[Z] at rt;simp only[rRg] at rt;try simp -dsimp only[go_sem,f197,zEf hs,zGc,rt,zBt1,hw,U,hm,hc,h0,hI,E,G,F,zBj,Int.toNat_natCast,zAg,zAb,yaD,rRg]
  with_reducible repeat' first|refine sl_i ?_|refine ro_i ?_
  simp only[e1,e2,e3,e4];refine⟨[4],?_,?_,?_,?_⟩<;>simp[rtOk]
 ·have hw:IntKind.i64.wrap ((a:Int)+(c:Int))=((a+c:Nat):Int):=by rw[zAi (by omega) (by omega)];omega
  have hm:((a+c:Nat):Int).tmod (st.length:Int)=(((a+c)%st.length:Nat):Int):=by rw[Int.tmod_eq_emod_of_nonneg (by omega)];exact (Int.natCast_emod _ _).symm
  have V:(a+c)%st.length<st.length:=Nat.mod_lt _ (by omega);have hc:IntKind.i64.wrap ((c:Int)+1)=((c+1:Nat):Int):=by rw[zAi (by omega) (by omega)];omega
  have e1:pshS st a c (u,v)=st.set ((a+c)%st.length) (u,v):=if_neg hf;have e2:pshA st a c=a:=if_neg hf;have e3:pshC st c=c+1:=if_neg hf;have e4:pshO st a c=(0,0):=if_neg hf;have b1:((c:Int)=(st.length:Int))=False:=eq_false (by omega);generalize (a+c)%st.length=k at*;have h0:0≤(k:Int):=by simp
  have hI:(k:Int)<(st.length:Int):=by omega
  obtain ⟨⟨p,q⟩,hp⟩:∃p,st[k]?=some p:=⟨_,List.getElem?_eq_getElem V⟩;have J:(tI (rowsZ st))[k]?=some [T.im (.cpx .f32 p q)]:=zPn (zBz hp);have F:List.take st.length (tI (rowsZ st))=tI (rowsZ st):=List.take_of_length_le (by simp[zAg,zAb]);clear hf;try simp -dsimp only[go_sem,f197,zEf hs,zGc,b1,hw,U,hm,hc,h0,hI,J,setZ,Int.toNat_natCast,rRg]
  with_reducible repeat' first|refine sl_i ?_|refine ro_i ?_
  simp only[e1,e2,e3,e4];refine⟨[2],?_,?_,?_,?_⟩<;>simp[rtOk]
theorem zLj1 (l:List Pt):MvR false (.arr 1 (tI (rowsZ l)))=True:=eq_true (zBv _ _)
structure RgOk (st:List Pt) (a c:Nat):Prop where
 h1:1≤st.length
 h2:st.length≤16
 h3:a<st.length
 h4:c≤st.length
 w:∀p∈st,W2 p
theorem zLh1 {st:List Pt}(h:∀p∈st,W2 p)(k:Nat){z:Pt}(hz:W2 z):∀p∈st.set k z,W2 p:=fun p hp=>by
 rcases List.mem_or_eq_of_mem_set hp with hp|rfl
 ·exact h p hp
 ·exact hz
theorem zEp2 {n:Nat}(h1:1≤n)(h2:n≤16):RgOk (zrs n) 0 0:=⟨by simp;omega,by simp;omega,by simp;omega,by simp,fun p hp=>by rw[(List.mem_replicate.1 hp).2];exact⟨by decide,by decide⟩⟩
theorem zHl2 {st:List Pt}{a c:Nat}(h:RgOk st a c):RgOk (st.set a (0,0)) ((a+1)%st.length) (c-1):=by
 obtain ⟨h1,h2,h3,h4,w⟩:=h;exact⟨by simp;omega,by simp;omega,by simp;exact Nat.mod_lt _ (by omega),by simp;omega,zLh1 w _ ⟨by decide,by decide⟩⟩
theorem zUv1 {st:List Pt}{a c:Nat}{z:Pt}(h:RgOk st a c)(hz:W2 z):RgOk (pshS st a c z) (pshA st a c) (pshC st c):=by
 obtain ⟨h1,h2,h3,h4,w⟩:=h;unfold pshS pshA pshC;split
 ·exact⟨by simp;omega,by simp;omega,by simp;exact Nat.mod_lt _ (by omega),by simp;omega,zLh1 w _ hz⟩
 ·exact⟨by simp;omega,by simp;omega,by simp;exact h3,by simp;omega,zLh1 w _ hz⟩
abbrev QRg:={q:List Pt×Nat×Nat//RgOk q.1 q.2.1 q.2.2}
def oRgO (l:List Int):Outs:=.any (QRg×SK l) (fun q=>{val:=.agg [.view 0 1 0 q.1.1.1.length,.im (.int .i64 (q.1.1.2.1:Int)),.im (.int .i64 (q.1.1.2.2:Int))],roots:=[.arr 1 (tI (rowsZ q.1.1.1))],places:=hsK l q.2.1.1 q.2.1.2})
theorem zEz2 (l:List Int):Nonempty (QRg×SK l)=True:=by simp only[eq_iff_iff,iff_true];exact⟨(⟨(zrs 1,0,0),zEp2 (by decide) (by decide)⟩,⟨(0,0),by simp⟩)⟩
noncomputable def zMw:Ct:=fam false (fun x:AKn×N16'=>([.c (.ptr 0 0 0 0),.c (.im (.int .i64 (x.2.1:Int)))],hsK x.1.l x.1.a x.1.h)) (fun x=>oRgO x.1.l)
theorem zBy1 {l:List Int}{a h:Int}{n:Nat}(h1:l.length≤1048576)(h2:∀b∈l,0≤b∧b<256)(h3:0≤a)(h4:a≤l.length)(h5:1≤n)(h6:n≤16):zMw.run [.c (.ptr 0 0 0 0),.c (.im (.int .i64 (n:Int)))] [[.t (.im (.sl 1 (rowsB l))),.t (.im (.int .i64 a)),.t (.im (.int .i64 h))]]=some (oRgO l):=by
 refine zAc (ct:=zMw) rfl (fun x y h=>?_) (⟨l,h1,h2,a,h,h3,h4⟩,⟨n,h5,h6⟩);simp only[Prod.mk.injEq,List.cons.injEq,D.c.injEq,C.im.injEq,I.int.injEq,true_and,and_true] at h;exact Prod.ext (zEa (zDy h.2)) (Subtype.ext (by omega))
theorem zSd1:Law prog 273 zMw:=by
 refine zAf (zAa zBf (zAa zRt1 (zAa zFc (zAa zXw (zAa zIb (zAa zMw1 zAd)))))) hmixA func273 rfl rfl (fun ⟨⟨l,h1,h2,a,h,h3,h4⟩,⟨n,h5,h6⟩⟩=>⟨okA (fun q=>⟨.agg _ (fun x hx=>?_),fun r hr=>?_,(okK (n:=0) (v:=.c (.im (.bool true))) okDi).places⟩),by simp[f273],?_⟩)
 ·simp only[yac,yad,or_false] at hx;rcases hx with rfl|rfl|rfl<;>first|exact .im _ (.inl rfl)|exact .view _ _ _ _ (by simp)
 ·simp only[yac,yad,or_false] at hr;subst hr;exact zBv _ _
 simp only[oRgO,hsK];try simp -dsimp only[go_sem,f273,zAl h1 h2 h3 h4 (n:=(n:Int)) (by omega) (by omega),oBelow,hsK,zAy l (n:=(n:Int)) (by omega)]
 rintro ⟨⟨v,⟨⟨a0,g0⟩,b0⟩⟩,v1,v2⟩;simp only at v1 v2 b0;obtain ⟨V,rfl⟩:=Int.eq_ofNat_of_zero_le v1;have hw:IntKind.i64.wrap (1+(V:Int))=((V+1:Nat):Int):=by rw[zAi (by omega) (by omega)];omega
 have rr:=zQs1 (n:=V+1) (by omega) (by omega);simp only[rRn] at rr;have c7:∀(a h:Int),0≤a→a≤l.length→zDf.run [.c (.ptr 0 0 0 0),.c (.im (.int .i64 20))] [[.t (.im (.sl 1 (rowsB l))),.t (.im (.int .i64 a)),.t (.im (.int .i64 h))]]=some (oBelow l 20):=fun a h q1 q2=>zAl h1 h2 q1 q2 (n:=20) (by decide) (by decide);have a7:=zEp2 (n:=V+1) (by omega) (by omega);have b5:(zrs (V+1)).length=V+1:=by simp
 obtain ⟨Z,hZ⟩:∃Z,zrs (V+1)=Z:=⟨_,rfl⟩;rw[hZ] at rr a7 b5;clear hZ;try simp -dsimp only[go_sem,hw,rr,hsK,c7 a0 g0 b0.1 b0.2,oBelow,zAy l (n:=20) (by decide)]
 rintro ⟨⟨v7,⟨⟨a1,g1⟩,b1⟩⟩,r1,r2⟩;simp only at r1 r2 b1;obtain ⟨N,rfl⟩:=Int.eq_ofNat_of_zero_le r1;try simp -dsimp only[go_sem]
 rw[←b5]
 refine zAp (ι:=(QRg×SK l)×{k:Nat//k≤20}) (fun x=>⟨[(0,some (.c (.ptr 0 0 0 0))),(4,some (.c (.ptr 1 0 0 0))),(5,some (.c (.ptr 2 0 0 0))),(7,some (.c (.im (.int .i64 (x.2.1:Int)))))],
  [(0,some (.box [.t (.im (.sl 1 (rowsB l))),.t (.im (.int .i64 x.1.2.1.1)),.t (.im (.int .i64 x.1.2.1.2))])),(1,some (.box [.t .nil,.t (.im (.int .i64 0)),.t (.im (.int .i64 0))])),(2,some (.box [.t (.lent 3 1 x.1.1.1.1.length),.t (.im (.int .i64 (x.1.1.1.2.1:Int))),.t (.im (.int .i64 (x.1.1.1.2.2:Int)))])),(3,some (.arr 1 (tI (rowsZ x.1.1.1.1))))],4⟩) (fun x=>x.2.1) ((⟨(Z,0,0),a7⟩,⟨(a1,g1),b1⟩),⟨N,by omega⟩) ⟨[],[0,1,3,2],?sub⟩ (fun ⟨⟨⟨⟨st,A,C⟩,E⟩,⟨⟨a,g⟩,b⟩⟩,⟨k,hk⟩⟩=>?_)
 case sub=>
  ((simp only[go_sem,zLj1])<;>(try (simp -dsimp only[go_sem,yaj,yai,zLj1])))
  all_goals simp[]
 simp only at E b ⊢;have G:List.take st.length (tI (rowsZ st))=tI (rowsZ st):=List.take_of_length_le (by simp[zAg,zAb]);have lz:(tI (rowsZ st)).length=st.length:=by rw[zAg,zAb]
 match k with
 | 0=>
  have c0:((0:Nat):Int)=0:=rfl;have d0:¬((0:Int)<0):=by simp
  try simp -dsimp only[go_sem,f273,c0,d0]
  exact⟨(⟨(st,A,C),E⟩,⟨(a,g),b⟩),rfl,[3],by simp,by simp,by simp[rtOk],by simp⟩
 | k+1=>
  have d0:(0:Int)<((k+1:Nat):Int):=by omega
  have J:IntKind.i64.wrap (((k+1:Nat):Int)-1)=(k:Int):=by rw[zAi (by omega) (by omega)];omega
  try simp -dsimp only[go_sem,d0,zCu h1 h2 b.1 b.2 (n:=3) (by decide) (by decide),oOnce,hsK,zHz]
  rintro ⟨cc,⟨⟨a3,g3⟩,b3⟩⟩
  cases cc with
  | false=>
   try simp -dsimp only[go_sem,zEz h1 h2 b3.1 b3.2,oSmall,hsK,zKp]
   with_reducible repeat' refine sl_i ?_
   rintro ⟨⟨⟨u,v⟩,⟨⟨a4,g4⟩,b4⟩⟩,u1,u2,v1,v2⟩;have hu:=wI32 u;have hv:=wI32 v;obtain ⟨U,hU⟩:∃x,wI u=x:=⟨_,rfl⟩;obtain ⟨Y,hY⟩:∃x,wI v=x:=⟨_,rfl⟩;rw[hU] at hu;rw[hY] at hv;have rp:=zWa E.h1 E.h2 E.h3 E.h4 U Y;have F:=zUv1 E (z:=(U,Y)) ⟨hu,hv⟩;generalize pshS st A C (U,Y)=st2 at*;generalize pshA st A C=A2 at*;generalize pshC st C=C2 at*;generalize pshO st A C=z2 at*;simp only[rRg] at rp;try simp -dsimp only[go_sem,J,hU,hY,rp,zBu1,G,lz,zBj]
   with_reducible repeat' refine ro_i ?_
   refine⟨((⟨(st2,A2,C2),F⟩,⟨(a4,g4),b4⟩),⟨k,by omega⟩),by simp only[];omega,[],[0,1,2,28],?_⟩
   (simp only[go_sem,zLj1])
   all_goals simp[lk,zAn,MvRt]
  | true=>
   by_cases hC:C=0
   ·have z0:¬((0:Int)<(C:Int)):=(by omega);try simp -dsimp only[go_sem,z0,zEz h1 h2 b3.1 b3.2,oSmall,hsK,zKp]
    with_reducible repeat' refine sl_i ?_
    rintro ⟨⟨⟨u,v⟩,⟨⟨a4,g4⟩,b4⟩⟩,u1,u2,v1,v2⟩;have hu:=wI32 u;have hv:=wI32 v;obtain ⟨U,hU⟩:∃x,wI u=x:=⟨_,rfl⟩;obtain ⟨Y,hY⟩:∃x,wI v=x:=⟨_,rfl⟩;rw[hU] at hu;rw[hY] at hv;have rp:=zWa E.h1 E.h2 E.h3 E.h4 U Y;have F:=zUv1 E (z:=(U,Y)) ⟨hu,hv⟩;generalize pshS st A C (U,Y)=st2 at*;generalize pshA st A C=A2 at*;generalize pshC st C=C2 at*;generalize pshO st A C=z2 at*;simp only[rRg] at rp;try simp -dsimp only[go_sem,J,hU,hY,rp,zBu1,G,lz,zBj]
    with_reducible repeat' refine ro_i ?_
    refine⟨((⟨(st2,A2,C2),F⟩,⟨(a4,g4),b4⟩),⟨k,by omega⟩),by simp only[];omega,[],[0,1,2,28],?_⟩
    (simp only[go_sem,zLj1])
    all_goals simp[lk,zAn,MvRt]
   ·have z0:(0:Int)<(C:Int):=(by omega);have rt:=zVz E.h1 E.h2 E.h3 E.h4 (by omega);have F:=zHl2 E;have e3:(st.set A (0,0)).length=st.length:=(by simp);generalize st.set A (0,0)=st2 at*;generalize (A+1)%st.length=A2 at*;generalize C-1=C2 at*;generalize st.getD A (0,0)=z2 at*;simp only[rRg] at rt;(try simp -dsimp only[go_sem,J,z0,rt,zBt1,G,lz,zBj]);refine⟨((⟨(st2,A2,C2),F⟩,⟨(a3,g3),b3⟩),⟨k,by omega⟩),by simp only[];omega,[],[0,1,2,4],?_⟩
    (simp only[go_sem,zLj1])
    all_goals simp[lk,zAn,MvRt]
abbrev LTx:={l:List Txt//1≤l.length∧l.length≤1000}
def oPick (l:List Int)(m:List Txt):Outs:=.any ({x:Txt//x∈m}×SK l) (fun q=>{val:=.c (.im (.str ⟨q.1.1.toArray⟩)),places:=hsK l q.2.1.1 q.2.1.2})
noncomputable def zKb:Ct:=fam false (fun x:AKn×LTx=>([.c (.ptr 0 0 0 0),.c (.im (.sl 1 (rowsS x.2.1)))],hsK x.1.l x.1.a x.1.h)) (fun x=>oPick x.1.l x.2.1)
theorem zHt {l:List Int}{a h:Int}{m:List Txt}(h1:l.length≤1048576)(h2:∀b∈l,0≤b∧b<256)(h3:0≤a)(h4:a≤l.length)(h5:1≤m.length)(h6:m.length≤1000):zKb.run [.c (.ptr 0 0 0 0),.c (.im (.sl 1 (rowsS m)))] [[.t (.im (.sl 1 (rowsB l))),.t (.im (.int .i64 a)),.t (.im (.int .i64 h))]]=some (oPick l m):=by
 refine zAc (ct:=zKb) rfl (fun x y h=>?_) (⟨l,h1,h2,a,h,h3,h4⟩,⟨m,h5,h6⟩);simp only[Prod.mk.injEq,List.cons.injEq,D.c.injEq,C.im.injEq,I.sl.injEq,zUu,true_and,and_true] at h;exact Prod.ext (zEa (zDy h.2)) (Subtype.ext h.1)
theorem zJo:(zKb.sc=true)=False:=by simp[zKb,fam]
theorem zXi (l:List Int){m:List Txt}(h:1≤m.length):Nonempty ({x:Txt//x∈m}×SK l)=True:=by
 simp only[eq_iff_iff,iff_true];obtain ⟨x,hx⟩:=List.exists_mem_of_length_pos (show 0<m.length by omega);exact⟨(⟨x,hx⟩,⟨(0,0),by simp⟩)⟩
theorem zMy1:Law prog 176 zKb:=by
 refine zAf (zAa zBf zAd) hmixA func176 rfl rfl (fun ⟨⟨l,h1,h2,a,h,h3,h4⟩,⟨m,n1,n2⟩⟩=>⟨okA (fun o=>okK (n:=0) okDi),by simp[f176],?_⟩);simp only[oPick,hsK];try simp -dsimp only[go_sem,f176,zBe,zAl h1 h2 h3 h4 (n:=(m.length:Int)) (by omega) (by omega),oBelow,hsK,zAy l (n:=(m.length:Int)) (by omega)]
 rintro ⟨⟨v,⟨⟨a1,J⟩,Z⟩⟩,F,v2⟩;obtain ⟨V,rfl⟩:=Int.eq_ofNat_of_zero_le F;simp only at v2;have U:V<m.length:=by omega
 obtain ⟨x,hx⟩:∃x,m[V]?=some x:=⟨_,List.getElem?_eq_getElem U⟩;have E:=zOi1 hx;have G:0≤(V:Int):=by simp
 try simp -dsimp only[go_sem,f176,E,G,Int.toNat_natCast]
 exact⟨(⟨x,List.mem_of_getElem? hx⟩,⟨(a1,J),Z⟩),rfl,rfl⟩
abbrev QRo:={q:List Pt×Int×Int//q.1.length≤40∧(∀p∈q.1,W2 p)∧i64B q.2.1∧i64B q.2.2}
def oRo (l:List Int):Outs:=.any (QRo×SK l) (fun q=>{val:=.agg [.im (.sl 1 (rowsZ q.1.1.1)),.im (.int .i64 q.1.1.2.1),.im (.int .i64 q.1.1.2.2)],places:=hsK l q.2.1.1 q.2.1.2})
theorem zMw2 (l:List Int):Nonempty (QRo×SK l)=True:=by simp only[eq_iff_iff,iff_true];exact⟨(⟨([],0,0),by simp,by simp,zDx,zDx⟩,⟨(0,0),by simp⟩)⟩
noncomputable def zKz:Ct:=fam false (fun x:AKn=>([.c (.ptr 0 0 0 0)],hsK x.l x.a x.h)) (fun x=>oRo x.l)
theorem zUi1 {l:List Int}{a h:Int}(h1:l.length≤1048576)(h2:∀b∈l,0≤b∧b<256)(h3:0≤a)(h4:a≤l.length):zKz.run [.c (.ptr 0 0 0 0)] [[.t (.im (.sl 1 (rowsB l))),.t (.im (.int .i64 a)),.t (.im (.int .i64 h))]]=some (oRo l):=by
 refine zAc (ct:=zKz) rfl (fun x y h=>?_) ⟨l,h1,h2,a,h,h3,h4⟩;simp only[Prod.mk.injEq,true_and] at h;exact zEa (zDy h)
theorem zGj1 {r:Nat}(h0:0<r)(h1:r<2139095040)(s:Bool):fcmp .eql .f32 (single.word s r) 0=false:=by
 have hr:=zGs (f:=single) (by decide) (r:=r) (by rw[ir1];exact h1) s;have hz:single.read 0=.number false 0 (-149):=by decide
 show (single.order (single.word s r) 0 ==some .eq)=false;unfold Format.order;rw[hr,hz];simp only[Datum.order];have E:=zHq h0;have h2:∀k,signed false 0 k=0:=fun k=>by simp[signed]
 rw[h2];obtain ⟨k,G⟩:∃k,(rgE single r-min (rgE single r) (-149)).toNat=k:=⟨_,rfl⟩;rw[G];have J:=Nat.mul_pos E (Nat.two_pow_pos k);generalize hx:rgM single r*2^ k=X at J
 have F:signed s (rgM single r) k≠0:=by
  cases s<;>simp[signed,zGa,hx]<;>omega
 have:compare (signed s (rgM single r) k) 0≠.eq:=by
  simp only[compare,compareOfLessAndEq];split
  ·simp
  ·simp[]
 cases hc:compare (signed s (rgM single r) k) 0 with
 | lt=>rfl
 | eq=>exact absurd hc this
 | gt=>rfl
theorem zYf:Law prog 185 zJk:=by
 refine zAf (zAa zFq1 (zAa zXh1 (zAa zSj (zAa zXf1 (zAa zLk (zDn zTz zAd)))))) hmixA func185 rfl rfl (fun ⟨s,hs⟩=>⟨zKx2 s,by simp[f185],?_⟩);simp only[oPs] at hs ⊢;have G:=zEg1 hs 45;have d9:=zDu2 45 s;have d0:zPf.run [.c (.im (.int .u32 2147483648))] []=some (.one {val:=.c (.im (.flt .f32 2147483648))}):=zTp 2147483648;simp only[oCp] at G
 cases hp:prsT s with
 | some w=>
  obtain ⟨hw,hT⟩:=zWu hp;have ho:prsO s=(w,true):=by simp[prsO,hp]
  rw[ho];rw[←hT,zDv2 hw,hT] at G;have b9:=zBy hw.lt;rw[zIy2 hw,hT] at b9;have d7:(s=s)=True:=eq_self s;by_cases c7:w%2147483648=0
  ·have hm:magT (w%2147483648)=[48]:=(by rw[c7];rfl);rw[hm] at G;by_cases b3:2147483648≤w
   ·have d2:w=2147483648:=(by have:=hw.lt;omega);subst d2;have n0:fcmp .eql .f32 (Op.negFloat .f32 0) 0=true:=(by decide +kernel);obtain ⟨z,hz⟩:∃z,Op.negFloat .f32 0=z:=⟨_,rfl⟩;rw[hz] at n0;rw[decide_eq_true b3] at G;generalize (2147483648:Nat)=w at*;try simp -dsimp only[go_sem,f185,G,zAr,hz,n0,d0,b9,yaH]
   ·have d2:w=0:=(by have:=hw.lt;omega);subst d2;rw[decide_eq_false b3] at G;try simp -dsimp only[go_sem,f185,G,zAr,b9,yaH]
  ·obtain ⟨r,hr⟩:∃r,w%2147483648=r:=⟨_,rfl⟩;have c6:=hw.fin;rw[hr] at c7 c6 G;have d3:=Nat.pos_of_ne_zero c7;have U:=zMo1 d3 c6;have b6:magT r=Lib.itoa (mdM r)++112::Lib.itoa (mdE r):=(by simp[magT,c7]);have b1:i64B ((mdM r:Nat):Int):=⟨by omega,by have:=U.lt;omega⟩;have b2:i64B (mdE r):=⟨by have:=U.lo;omega,by have:=U.hi;omega⟩
   have d8:(magT r).length≤2097152:=by
    rw[b6,List.length_append,List.length_cons];have:=zBm b1;have:=zBm b2;omega
   have rc:=zLy1 d8 112;simp only[oCut] at rc;have V:Lib.cut (magT r) [112]=(Lib.itoa (mdM r),Lib.itoa (mdE r),true):=(by rw[b6];exact zPz1 (zFu1 _));rw[V] at rc;have rn1:=zGd (s:=Lib.itoa (mdM r)) (by have:=zBm b1;omega);have J:=zGd (s:=Lib.itoa (mdE r)) (by have:=zBm b2;omega);rw[zJc1 b1.1 b1.2] at rn1;rw[zJc1 b2.1 b2.2] at J
   have F:(magT r=[48])=False:=eq_false (fun e=>by
    have:(112:UInt8)∈magT r:=by rw[b6];simp
    rw[e] at this;simp at this)
   have rl:=zIo1 (m:=mdM r) (e:=mdE r) U.pos U.lt (by have:=U.lo;omega) (by have:=U.hi;omega);have b4:=zSd (m:=mdM r);have a8:=zKl1 (m:=mdM r) (e:=mdE r) ⟨U.pos,by have:=U.lt;omega,by have:=U.lo;omega,by have:=U.hi;omega⟩ d3 c6 U.sv;have k1:(((mdM r:Nat):Int)<1)=False:=eq_false (by have:=U.pos;omega);have k2:((16777216:Int)≤((mdM r:Nat):Int))=False:=eq_false (by have:=U.lt;omega);have k3:(mdE r < -200)=False:=eq_false (by have:=U.lo;omega);have k4:((200:Int)<mdE r)=False:=eq_false (by have:=U.hi;omega);clear b6 V U d8 b1 b2;generalize Lib.itoa (mdM r)=A at*;generalize Lib.itoa (mdE r)=B at*;generalize magT r=T at*;generalize dW (mdM r) (mdE r)=y at*;generalize dW (mdM r) 0=y0 at*;generalize mdE r=E at*;by_cases b3:2147483648≤w
   ·have hx:Op.negFloat .f32 r=w:=(by rw[neg32 (by omega)];have:=hw.lt;omega)
    have e0:fcmp .eql .f32 w 0=false:=by
     have:=zGj1 d3 c6 true;have f5:single.word true r=w:=(by unfold Format.word;rw[sw1,if_pos rfl];have:=hw.lt;omega);rw[f5] at this;exact this
    rw[decide_eq_true b3] at G;try simp -dsimp only[go_sem,f185,G,zAr,F,rc,rn1,J,k1,k2,k3,k4,b4,rl,a8,hx,e0,b9,yaH,yaI,Int.reduceNeg]
   ·have hx:r=w:=(by have:=hw.lt;omega);subst hx;rw[decide_eq_false b3] at G;try simp -dsimp only[go_sem,f185,G,zAr,F,rc,rn1,J,k1,k2,k3,k4,b4,rl,a8,b9,yaH,yaI,Int.reduceNeg]
 | none=>
  have ho:prsO s=(0,false):=by simp[prsO,hp]
  rw[ho];obtain ⟨T,ng,Z⟩:∃T ng,cutP 45 s=(T,ng):=⟨_,_,rfl⟩;rw[Z] at G d9;simp only at G d9
  have e1:T≠[48]:=fun e=>by
   subst e
   have f6:s=[48]∨s=[45,48]:=by
    cases s with
    | nil=>simp[cutP] at Z
    | cons b t=>
     simp only[cutP] at Z;split at Z
     ·rename_i hb;simp only[Prod.mk.injEq] at Z;right;rw[hb,Z.1]
     ·simp only[Prod.mk.injEq] at Z;left;exact Z.1
   rcases f6 with e|e
   ·exact zWv hp (w:=0) ⟨by omega,by omega⟩ (by rw[e];decide)
   ·exact zWv hp (w:=2147483648) ⟨by omega,by omega⟩ (by rw[e];decide)
  have F:=eq_false e1;have rc:=zLy1 (s:=T) (by omega) 112;simp only[oCut] at rc;obtain ⟨e3,e2⟩:=zYl1 T 112;obtain ⟨A,B,f,V⟩:∃A B f,Lib.cut T [112]=(A,B,f):=⟨_,_,_,rfl⟩;rw[V] at rc e3 e2;simp only at rc e3 e2;have rn1:=zGd (s:=A) (by omega);have J:=zGd (s:=B) (by omega)
  cases o1:(numF A).2 with
  | false=>
   rw[o1] at rn1;try simp -dsimp only[go_sem,f185,G,zAr,F,rc,rn1,J,yaI]
  | true=>
  cases o2:(numF B).2 with
  | false=>
   rw[o1] at rn1;rw[o2] at J;try simp -dsimp only[go_sem,f185,G,zAr,F,rc,rn1,J,yaH,yaI]
  | true=>
  have d7:s≠[]:=fun e=>by
   subst e;simp[cutP] at Z;obtain ⟨rfl,rfl⟩:=Z;have:Lib.cut [] [112]=([],[],false):=zGm1 (by simp);rw[this] at V;simp only[Prod.mk.injEq] at V;obtain ⟨rfl,-,-⟩:=V;have:numF []=(0,false):=(by decide);rw[this] at o1;cases o1
  rw[o1] at rn1;rw[o2] at J;generalize (numF A).1=m at*;generalize (numF B).1=E at*;have b7:∀x,x<4294967296→((fsT x=s)=False)∧zEk.run [.c (.im (.flt .f32 x))] []=some (.one {val:=.c (.im (.str ⟨(fsT x).toArray⟩))}):=fun x hx=>⟨eq_false (zDo2 hp d7 hx),zBy hx⟩;by_cases k1:m<1
  ·have k1:=eq_true k1;try simp -dsimp only[go_sem,f185,G,zAr,F,rc,rn1,J,k1,yaH,yaI,Int.reduceNeg]
  by_cases k2:16777216≤m
  ·have k1:=eq_false k1;have k2:=eq_true k2;try simp -dsimp only[go_sem,f185,G,zAr,F,rc,rn1,J,k1,k2,yaH,yaI,Int.reduceNeg]
  by_cases k3:E < -200
  ·have k1:=eq_false k1;have k2:=eq_false k2;have k3:=eq_true k3;try simp -dsimp only[go_sem,f185,G,zAr,F,rc,rn1,J,k1,k2,k3,yaH,yaI,Int.reduceNeg]
  by_cases k4:200<E
  ·have k1:=eq_false k1;have k2:=eq_false k2;have k3:=eq_false k3;have k4:=eq_true k4;try simp -dsimp only[go_sem,f185,G,zAr,F,rc,rn1,J,k1,k2,k3,k4,yaH,yaI,Int.reduceNeg]
  obtain ⟨mn,rfl⟩:∃n:Nat,m=(n:Int):=⟨m.toNat,by omega⟩;have rl:=zIo1 (m:=mn) (e:=E) (by omega) (by omega) (by omega) (by omega);have b4:=zSd (m:=mn);have k1:=eq_false k1;have k2:=eq_false k2;have k3:=eq_false k3;have k4:=eq_false k4;generalize dW mn E=y at*;generalize dW mn 0=y0 at*;clear Z V e1 o1 o2;have fin:∀x,x<4294967296→∃x',x'=Op.negFloat .f32 x∧x'< 4294967296:=fun x hx=>⟨_,rfl,zHg hx⟩
  cases a8:fconv .f64 y .f32 with
  | some x=>
   have hx:=zPr1 a8;obtain ⟨q1,q2⟩:=b7 x hx
   cases ng with
   | false=> try simp -dsimp only[go_sem,f185,G,zAr,F,rc,rn1,J,k1,k2,k3,k4,b4,rl,a8,q1,q2,yaH,yaI,Int.reduceNeg]
   | true=>
    obtain ⟨x',d1,d4⟩:=fin x hx;obtain ⟨q3,q4⟩:=b7 x' d4;have b0:=d1.symm
    cases hz:fcmp .eql .f32 x' 0 with
    | false=> try simp -dsimp only[go_sem,f185,G,zAr,F,rc,rn1,J,k1,k2,k3,k4,b4,rl,a8,b0,hz,q3,q4,yaH,yaI,Int.reduceNeg]
    | true=>
     obtain ⟨q5,q6⟩:=b7 2147483648 (by omega);generalize (2147483648:Nat)=z at*;try simp -dsimp (maxSteps:=1000000) only[go_sem,f185,G,zAr,F,rc,rn1,J,k1,k2,k3,k4,b4,rl,a8,b0,hz,d0,q5,q6,yaH,yaI,Int.reduceNeg]
  | none=>
   cases ng with
   | false=>
    (try simp -dsimp only[go_sem,f185,G,zAr,F,rc,rn1,J,k1,k2,k3,k4,b4,rl,a8,cKn,yaH,yaI,Int.reduceNeg]);intro x hx;obtain ⟨q1,q2⟩:=b7 x hx;try simp -dsimp only[go_sem,f185,q1,q2,zAr,yaI]
   | true=>
    (try simp -dsimp only[go_sem,f185,G,zAr,F,rc,rn1,J,k1,k2,k3,k4,b4,rl,a8,cKn,yaH,yaI,Int.reduceNeg]);intro x hx;obtain ⟨x',d1,d4⟩:=fin x hx;obtain ⟨q3,q4⟩:=b7 x' d4;have b0:=d1.symm
    cases hz:fcmp .eql .f32 x' 0 with
    | false=> try simp -dsimp only[go_sem,f185,b0,hz,q3,q4,zAr,yaI]
    | true=>
     obtain ⟨q5,q6⟩:=b7 2147483648 (by omega);generalize (2147483648:Nat)=z at*;try simp -dsimp only[go_sem,f185,b0,hz,d0,q5,q6,zAr,yaI]
theorem two64:double.read 4611686018427387904=.number false 4503599627370496 (-51):=by decide +kernel
theorem zCg1 {m:Nat}{e:Int}(h:Dr m e):∃M i,double.read (dW m e)=.number false M i∧SV M i m e∧4503599627370496≤M∧M<9007199254740992∧i+52=e+m.log2∧M.log2=52:=by
 obtain ⟨E,g1,g2,hl⟩:=zDr h;refine⟨_,_,zQg h,(SV.shl m e _).symm,g1,g2,by omega,?_⟩;have a:=zQl (M:=m*2^ (52-m.log2)) (k:=52) (by simpa using g1);have b:=zDd (M:=m*2^ (52-m.log2)) (k:=52) (by omega) (by simpa using g2);omega
theorem half64 {m:Nat}{e:Int}(h:Dr m e):fop .quo .f64 (dW m e) 4611686018427387904=dW m (e-1):=by
 obtain ⟨M,i,r,sv,g1,g2,hi,hl⟩:=zCg1 h
 have Z:double.div (dW m e) 4611686018427387904=some (dW m (e-1)):=by
  unfold Format.div;rw[r,two64];have V:(4503599627370496:Nat).log2=52:=by decide +kernel
  have hf:double.fractionBits=52:=rfl;simp only[Datum.quotient,V,hl,hf];rw[if_neg (by decide)]
  have U:M <<< (52+2+52-52) / 4503599627370496=M*4:=by
   rw[zGa];show M*18014398509481984 / 4503599627370496=M*4;omega
  have J:M <<< (52+2+52-52)%4503599627370496=0:=by
   rw[zGa];show M*18014398509481984%4503599627370496=0;omega
  rw[U,J];simp only[yak,Format.write,bne_self_eq_false,Bool.toNat_false];rw[dW];refine congrArg some ?_;have s1:=(SV.shl M (i-1) 3).symm.trans (sv.add (-1));have s2:M*2^ 3=2*(M*4)+0:=by omega
  rw[s2] at s1;have G:i-1- ((3:Nat):Int)=i - -51- ↑(52+2+52-52:Nat)-1:=by omega
  rw[G] at s1;obtain ⟨F,last,a,b,_,_,_⟩:=zPu1 h
  have hz:Can double F (last-1)∧SV m (e-1) F (last-1):=by
   refine⟨⟨a.pos,a.lt,?_,?_⟩,b.add (-1)⟩
   ·rw[ep2];omega
   ·rcases a.form with E|E
    ·rw[ep2] at E;omega
    ·exact .inr E
  rw[zFg hz.1 (s1.trans hz.2),zFg hz.1 hz.2]
 show (double.div (dW m e) _).getD _=_;rw[Z];rfl
theorem twice64 {m:Nat}{e:Int}(h:Dr m e)(h':Dr m (e+1)):fop .mul .f64 (dW m e) 4611686018427387904=dW m (e+1):=by
 obtain ⟨M,i,r,sv,g1,g2,hi,hl⟩:=zCg1 h
 have E:double.mul (dW m e) 4611686018427387904=some (dW m (e+1)):=by
  unfold Format.mul;rw[r,two64];simp only[Datum.product,yak,Format.write,Bool.false_xor];congr 1;refine zMm1 h' ?_;have b:SV 1 1 4503599627370496 (-51):=SV.shl 1 1 52;have:=SV.mul sv.symm b;rw[Nat.mul_one] at this;exact this
 show (double.mul (dW m e) _).getD _=_;rw[E];rfl
theorem zYw1 (a b:Nat):compare (a:Int) (b:Int)=if a<b then .lt else if a=b then .eq else .gt:=by
 simp only[compare,compareOfLessAndEq];have h1:((a:Int)<b)=(a<b):=by simp
 have h2:((a:Int)=b)=(a=b):=propext ⟨fun h=>by omega,fun h=>by omega⟩;simp only[h1,h2]
theorem geq24 {m:Nat}{e:Int}(h:Dr m e):fcmp .geq .f64 (dW m e) 4715268809856909312=decide (24≤e+m.log2):=by
 have hc:double.read 4715268809856909312=.number false 4503599627370496 (-28):=by decide +kernel
 obtain ⟨M,i,r,sv,g1,g2,hi,hl⟩:=zCg1 h;show (double.order (dW m e) 4715268809856909312 ==some .gt||double.order (dW m e) 4715268809856909312 ==some .eq)=_;unfold Format.order;rw[r,hc];simp only[Datum.order];have s:∀n k:Nat,signed false n k=((n*2^ k:Nat):Int):=fun n k=>by simp[signed,zGa]
 rw[s,s,zYw1];by_cases F:24≤e+m.log2
 ·rw[decide_eq_true F];have E:min i (-28) = -28:=by omega
  rw[E];have z:(-28 - -28:Int).toNat=0:=rfl;rw[z,Nat.pow_zero,Nat.mul_one];have:=Nat.mul_le_mul g1 (Nat.two_pow_pos (i - -28).toNat);rw[if_neg (by omega)];split<;>rfl
 ·rw[decide_eq_false F];have E:min i (-28)=i:=by omega
  rw[E];have z:(i-i:Int).toNat=0:=by omega
  rw[z,Nat.pow_zero,Nat.mul_one];have p:2^ 1≤2^ (-28-i).toNat:=Nat.pow_le_pow_right (by omega) (by omega);have:=Nat.mul_le_mul_left 4503599627370496 p;rw[if_pos (by omega)];rfl
theorem neq64 {m n:Nat}{e j:Int}(h:Dr m e)(h':Dr n j)(hs:¬SV m e n j):fcmp .neq .f64 (dW m e) (dW n j)=true:=by
 obtain ⟨M,i,r,sv,_⟩:=zCg1 h;obtain ⟨G,E,r',F,_⟩:=zCg1 h';show (double.order (dW m e) (dW n j) !=some .eq)=true;unfold Format.order;rw[r,r'];simp only[Datum.order];have s:∀n k:Nat,signed false n k=((n*2^ k:Nat):Int):=fun n k=>by simp[signed,zGa]
 rw[s,s,zYw1]
 have J:¬M*2^ (i-min i E).toNat=G* 2^ (E- min i E).toNat:=fun U=>
  hs (sv.symm.trans ((show SV M i G E from ⟨min i E,by omega,by omega,U⟩).trans F))
 rw[if_neg J];split<;>rfl
theorem whole64 {m:Nat}{e:Int}(h:Dr m e)(hs:e+m.log2≤23):∃T:Nat,T<16777216∧(FloatKind.f64.decode (dW m e)).toInt .zero=some (T:Int)∧((fcmp .neq .f64 (dW m e) (FloatKind.f64.nearest (T:Int))=false∧SV m e T 0∧0<T)∨(fcmp .neq .f64 (dW m e) (FloatKind.f64.nearest (T:Int))=true∧e<0)):=by
 obtain ⟨M,i,r,sv,g1,g2,hi,hl⟩:=zCg1 h;have a7:i<0:=by omega
 obtain ⟨k,hk⟩:∃k:Nat,i = -(k:Int):=⟨(-i).toNat,by omega⟩;have F:29≤k:=by omega
 refine⟨M / 2^ k,?_,?_,?_⟩
 · have p:2^ 29≤2^ k:=Nat.pow_le_pow_right (by omega) F
   calc M / 2^ k≤M / 2^ 29:=Nat.div_le_div_left p (by omega)
     _<16777216:=by omega
 · have hd:FloatKind.f64.decode (dW m e)=.number false M i:=r;rw[hd];unfold Datum.toInt Datum.integral;have z:i.toNat=0:=(by omega);have z2:(-i).toNat=k:=(by omega);simp only[z,z2,Nat.shiftLeft_zero]
   have hc:Toward.zero.cut false M k=M / 2^ k:=by
     unfold Toward.cut;simp only[Bool.toNat_false,yal,zGa,Nat.one_mul];by_cases J:k≤M.log2+2
     · rw[Nat.min_eq_left J]
     · rw[Nat.min_eq_right (by omega)];have a:M<2^ (M.log2+2):=Nat.lt_trans Nat.lt_log2_self (Nat.pow_lt_pow_right (by omega) (by omega));have b:M<2^ k:=Nat.lt_of_lt_of_le a (Nat.pow_le_pow_right (by omega) (by omega));rw[Nat.div_eq_of_lt a,Nat.div_eq_of_lt b]
   rw[hc];simp[signed]
 · rw[zSd];by_cases E:SV m e (M / 2^ k) 0
   · have Z:=E.pos h.pos;refine .inl ⟨?_,E,Z⟩;rw[zNg2 h E];exact zFk2 h
   · refine .inr ⟨?_,?_⟩
     · by_cases V:M / 2^ k=0
       · rw[V];have z:dW 0 0=0:=(by decide +kernel);rw[z];show (double.order (dW m e) 0 !=some .eq)=true;rw[zKq1 h];rfl
       · have G:M / 2^ k<9007199254740992:=Nat.lt_of_le_of_lt (Nat.div_le_self _ _) g2;exact neq64 h (Dr.nat (Nat.pos_of_ne_zero V) G) E
     · apply Classical.byContradiction;intro he;apply E;have s1:=SV.shl m e e.toNat;have z:e- (e.toNat:Int)=0:=(by omega);rw[z] at s1;have s2:=sv.trans s1;rw[hk] at s2;have U:=s2.symm.le (by omega);have z2:((0:Int) - -(k:Int)).toNat=k:=(by omega);rw[z2] at U;have:M / 2^ k=m*2^ e.toNat:=(by rw[U,Nat.mul_div_cancel _ (Nat.two_pow_pos k)]);rw[this];exact s1
end Go.SX
