/-
  place, IsTable, NearestPoint.
  slices.Clone, copyTable, copyRing.
  copyRing, IsRing, isBare, IsModule, copyModule.
  isBare.
  IsModule, copyModule.
  slices.Contains, slices.ContainsFunc, the order of a rack.
  The order of a rack.
  The order of a rack, its end.
  IsRack.
  feeds, copyRack.
  copyRack.
  A step of a module.
  asItIs, sample, isPlug; the pure step of a rack.
  stepRack.
  stepRack: the walk.
  No condition.
-/
import Derived.Test.YtfmpjhjnpeheeaaGreatDoorPkD
set_option maxRecDepth 100000
set_option maxHeartbeats 16000000
set_option linter.unusedVariables false
set_option linter.unusedSimpArgs false
namespace Go.SX
open Go Go.Proofs Tryz
theorem zCe1 (l:List Pt)(k:Nat):(rowsZ l).take k=rowsZ (l.take k):=by simp[rowsZ,List.map_take]
noncomputable def zGq1:Ct:=fam true (fun x:{l:List Pt//l.length≤sm}×Pt=>([.c (.im (.sl 1 (rowsZ x.1.1))),.c (.im (.cpx .f32 x.2.1 x.2.2))],[])) (fun x=>.one {val:=.c (.im (.int .i64 (idxF (eqPt · x.2) x.1.1 0)))})
theorem zIg1 {l:List Pt}(hl:l.length≤sm)(u v:Nat):zGq1.run [.c (.im (.sl 1 (rowsZ l))),.c (.im (.cpx .f32 u v))] []=some (.one {val:=.c (.im (.int .i64 (idxF (eqPt · (u,v)) l 0)))}):=by
 refine zAc (ct:=zGq1) rfl ?_ (⟨l,hl⟩,(u,v));rintro ⟨⟨a,b⟩,⟨c,d⟩⟩ ⟨⟨G,F⟩,⟨E,d'⟩⟩ h;simp[zAs] at h ⊢;simp[h]
theorem zWs1:Law prog 188 zGq1:=by
 refine zAf (zAa zKs zAd) hmixA func188 rfl rfl (fun ⟨⟨l,hl⟩,⟨u,v⟩⟩=>⟨zAv rfl,by simp[f188],?_⟩);try simp -dsimp only[go_sem,f188,zKm hl]
def tblGo (pts:List Pt):List Pt→Nat→Bool
 | [],_=>true
 | p::l,k=>(isFin p.1&&isFin p.2)&&(decide (idxF (eqPt · p) (pts.take k) 0<0)&&tblGo pts l (k+1))
def isTableF (pts:List Pt)(lab:List Int):Bool:=decide (pts.length=lab.length)&&(decide (pts.length≤64)&&tblGo pts pts 0)
theorem zBm1 {pts:List Pt}{k:Nat}{p:Pt}(h:pts[k]?=some p):tblGo pts (pts.drop k) k=((isFin p.1&&isFin p.2)&&(decide (idxF (eqPt · p) (pts.take k) 0<0)&&tblGo pts (pts.drop (k+1)) (k+1))):=by
 have E:k<pts.length:=(List.getElem?_eq_some_iff.1 h).1;have F:pts[k]=p:=by rw[List.getElem?_eq_getElem E] at h;injection h
 rw[List.drop_eq_getElem_cons E,F];rfl
abbrev Tb:={t:List Pt×List Int//t.1.length≤sm∧t.2.length≤sm}
noncomputable def zHn:Ct:=fam true (fun x:Tb=>([.agg [.im (.sl 1 (rowsZ x.1.1)),.im (.sl 1 (rowsN x.1.2))]],[])) (fun x=>.one {val:=.c (.im (.bool (isTableF x.1.1 x.1.2)))})
theorem zBq {pts:List Pt}{lab:List Int}(h1:pts.length≤sm)(h2:lab.length≤sm):zHn.run [.agg [.im (.sl 1 (rowsZ pts)),.im (.sl 1 (rowsN lab))]] []=some (.one {val:=.c (.im (.bool (isTableF pts lab)))}):=by
 refine zAc (ct:=zHn) rfl ?_ ⟨(pts,lab),h1,h2⟩;rintro ⟨⟨a,b⟩,_⟩ ⟨⟨F,E⟩,_⟩ h;simp[zAs,zAx] at h ⊢;simp[h]
theorem zYh:Law prog 105 zHn:=by
 refine zAf (zAa zSm (zAa zWs1 zAd)) hmixA func105 rfl rfl (fun ⟨⟨pts,lab⟩,h1,h2⟩=>⟨zAv rfl,by simp[f105],?_⟩);simp only[] at h1 h2;by_cases G:pts.length=lab.length;rotate_left
 ·have e1:((pts.length:Int)=(lab.length:Int))=False:=by simp;omega
  have Z:isTableF pts lab=false:=by simp[isTableF,G]
  clear G;try simp -dsimp only[go_sem,f105,zAb,zAe,e1,Z]
 have e1:((pts.length:Int)=(lab.length:Int))=True:=by simp;omega
 by_cases U:pts.length≤64;rotate_left
 ·have e2:((64:Int)<(pts.length:Int))=True:=by simp;omega
  have Z:isTableF pts lab=false:=by simp[isTableF,U]
  clear G U;try simp -dsimp only[go_sem,f105,zAb,zAe,e1,e2,Z]
 have e2:((64:Int)<(pts.length:Int))=False:=by simp;omega
 have Z:isTableF pts lab=tblGo pts pts 0:=by unfold isTableF;rw[decide_eq_true G,decide_eq_true U];simp
 rw[Z];clear G U Z;try simp -dsimp only[go_sem,f105,zAb,zAe,e1,e2]
 refine zAp (ι:={k:Nat//k≤pts.length∧tblGo pts pts 0=tblGo pts (pts.drop k) k}) (fun k=>⟨[(1,some (.c (.ptr 0 0 0 0))),(19,some (.c (.im (.sl 1 (rowsZ pts))))),(20,some (.c (.im (.int .i64 (pts.length:Int))))),(21,some (.c (.im (.int .i64 (k.1:Int)))))],
  [(0,some (.box [.t (.im (.sl 1 (rowsZ pts))),.t (.im (.sl 1 (rowsN lab)))]))],1⟩) (fun k=>pts.length-k.1) ⟨0,by simp⟩ ⟨[],[],by ((simp only[go_sem,yai])<;>(try (simp -dsimp only[go_sem,yaj,yai])))<;>simp⟩ (fun ⟨k,hk,F⟩=>?_)
 by_cases a7:k<pts.length
 ·obtain ⟨p,hp⟩:∃p,pts[k]?=some p:=⟨_,List.getElem?_eq_getElem a7⟩;have J:=zBz hp;have hI:((k:Int)<(pts.length:Int))=True:=by simp;omega
  have h0:0≤(k:Int):=by simp
  have a8:((k:Int)≤(pts.length:Int))=True:=by simp;omega
  have E:=zBm1 hp;have b3:=zDh h1 a7;have a6:(pts.take k).length≤sm:=by rw[List.length_take];omega
  obtain ⟨a,b⟩:=p
  cases hf:(isFin a&&isFin b) with
  | false=>
   simp only[hf,yar] at E;rw[E] at F;clear E;try simp -dsimp only[go_sem,f105,hI,h0,Int.toNat_natCast,J,zGe,hf,F]
  | true=>
   by_cases hq:idxF (eqPt · (a,b)) (pts.take k) 0<0
   ·have V:((0:Int)≤idxF (eqPt · (a,b)) (pts.take k) 0)=False:=(by simp;omega);simp only[hf,hq,yaM,yas] at E;rw[E] at F;clear E hq;(try simp -dsimp only[go_sem,hI,h0,a8,Int.toNat_natCast,J,zGe,hf,zCe1,zIg1 a6,V,b3,zAb]);exact⟨⟨k+1,by omega,F⟩,by simp only[];omega,[],[],by (simp only[go_sem,yai])<;>simp⟩
   ·have V:((0:Int)≤idxF (eqPt · (a,b)) (pts.take k) 0)=True:=(by simp;omega);simp only[hf,hq,yaL,yas,yar] at E;rw[E] at F;clear E hq;try simp -dsimp only[go_sem,f105,hI,h0,a8,Int.toNat_natCast,J,zGe,hf,zCe1,zIg1 a6,V,F,zAb]
 ·have hI:((k:Int)<(pts.length:Int))=False:=by simp;omega
  have b4:k=pts.length:=by omega
  subst b4;rw[List.drop_length] at F;try simp -dsimp only[go_sem,f105,hI,F,tblGo]
def nearGo (z:Pt):List Pt→Nat→Int→Nat→Int
 | [],_,b,_=>b
 | p::l,k,b,m=>if (fcmp .eql .f32 (distF p z) (distF p z)&&(decide (b<0)||fcmp .lss .f32 (distF p z) m))=true then nearGo z l (k+1) k (distF p z) else nearGo z l (k+1) b m
theorem zXh {z:Pt}{pts:List Pt}{k:Nat}{b:Int}{m:Nat}{p:Pt}(h:pts[k]?=some p):nearGo z (pts.drop k) k b m=
 if (fcmp .eql .f32 (distF p z) (distF p z)&&(decide (b<0)||fcmp .lss .f32 (distF p z) m))=true then nearGo z (pts.drop (k+1)) (k+1) k (distF p z) else nearGo z (pts.drop (k+1)) (k+1) b m:=by
 have E:k<pts.length:=(List.getElem?_eq_some_iff.1 h).1;have F:pts[k]=p:=by rw[List.getElem?_eq_getElem E] at h;injection h
 rw[List.drop_eq_getElem_cons E,F];rfl
def nearF (pts:List Pt)(lab:List Int)(z:Pt):Option Nat:=if isTableF pts lab=true then (if nearGo z pts 0 (-1) 0<0 then none else some (nearGo z pts 0 (-1) 0).toNat) else none
def oNear:Option Nat→Outs
 | some k=>.one {val:=.tup [.c (.im (.int .i64 k)),.c (.im (.bool true))]}
 | none=>.one {val:=.tup [.c (.im (.int .i64 0)),.c (.im (.bool false))]}
noncomputable def zEj:Ct:=fam true (fun x:Tb×Pt=>([.agg [.im (.sl 1 (rowsZ x.1.1.1)),.im (.sl 1 (rowsN x.1.1.2))],.c (.im (.cpx .f32 x.2.1 x.2.2))],[])) (fun x=>oNear (nearF x.1.1.1 x.1.1.2 x.2))
theorem zLi {pts:List Pt}{lab:List Int}(h1:pts.length≤sm)(h2:lab.length≤sm)(u v:Nat):zEj.run [.agg [.im (.sl 1 (rowsZ pts)),.im (.sl 1 (rowsN lab))],.c (.im (.cpx .f32 u v))] []=some (oNear (nearF pts lab (u,v))):=by
 refine zAc (ct:=zEj) rfl ?_ (⟨(pts,lab),h1,h2⟩,(u,v));rintro ⟨⟨⟨a,b⟩,_⟩,⟨c,d⟩⟩ ⟨⟨⟨G,F⟩,_⟩,⟨E,d'⟩⟩ h;simp[zAs,zAx] at h ⊢;simp[h]
theorem zBn2 {sc:Bool}{i j:I}(h1:scI i=true)(h2:scI j=true):OkR sc {val:=.tup [.c (.im i),.c (.im j)]}:=
 ⟨.tup _ (by intro d hd;simp at hd;rcases hd with rfl|rfl;exact .inl ⟨_,rfl,zBr h1⟩;exact .inl ⟨_,rfl,zBr h2⟩),by simp,by simp⟩
theorem zUh:Law prog 141 zEj:=by
 refine zAf (zAa zYh (zAa zBg1 zAd)) hmixA func141 rfl rfl (fun ⟨⟨⟨pts,lab⟩,h1,h2⟩,⟨u,v⟩⟩=>⟨?_,by simp[f141],?_⟩)
 ·unfold oNear;split<;>exact okO (zBn2 rfl rfl)
 simp only[nearF]
 cases ht:isTableF pts lab with
 | false=> try simp -dsimp only[go_sem,f141,zBq h1 h2,ht,oNear]
 | true=>
  rw[if_pos rfl];try simp -dsimp only[go_sem,f141,zBq h1 h2,ht,zAb]
  refine zAp (ι:={x:Nat×Int×Nat//x.1≤pts.length∧nearGo (u,v) pts 0 (-1) 0=nearGo (u,v) (pts.drop x.1) x.1 x.2.1 x.2.2}) (fun x=>⟨[(1,some (.c (.im (.cpx .f32 u v)))),(6,some (.c (.im (.int .i64 x.1.2.1)))),(7,some (.c (.im (.flt .f32 x.1.2.2)))),(15,some (.c (.im (.sl 1 (rowsZ pts))))),(16,some (.c (.im (.int .i64 (pts.length:Int))))),(17,some (.c (.im (.int .i64 (x.1.1:Int)))))],
   [],0⟩) (fun x=>pts.length-x.1.1) ⟨(0,-1,0),by simp⟩ ⟨[],[],by ((simp only[go_sem,yai])<;>(try (simp -dsimp only[go_sem,yaj,yai])))<;>simp⟩ (fun ⟨⟨k,b,m⟩,hk,E⟩=>?_)
  by_cases a7:k<pts.length
  ·obtain ⟨p,hp⟩:∃p,pts[k]?=some p:=⟨_,List.getElem?_eq_getElem a7⟩;have J:=zBz hp;have hI:((k:Int)<(pts.length:Int))=True:=(by simp;omega);have h0:0≤(k:Int):=(by simp);have Z:=zXh (z:=(u,v)) (b:=b) (m:=m) hp;have U:=zDh h1 a7;obtain ⟨a,c⟩:=p;simp only[] at E hk;rw[Z] at E;clear Z;generalize hd:distF (a,c) (u,v)=d at*
   cases G:fcmp .eql .f32 d d with
   | false=>
    simp only[G,yar,yat,yau] at E;(try simp -dsimp only[go_sem,hI,h0,Int.toNat_natCast,J,zCr,hd,G,U]);exact⟨⟨(k+1,b,m),by simp only[];omega,E⟩,by simp only[];omega,[],[],by (simp only[go_sem,yai])<;>simp⟩
   | true=>
    by_cases hb:b<0
    ·have F:(b<0)=True:=(by simp[hb]);simp only[G,F,yaM,Bool.true_or,yas,yav] at E;clear hb;(try simp -dsimp only[go_sem,hI,h0,Int.toNat_natCast,J,zCr,hd,G,F,U]);exact⟨⟨(k+1,(k:Int),d),by simp only[];omega,E⟩,by simp only[];omega,[],[],by (simp only[go_sem,yai])<;>simp⟩
    ·have F:(b<0)=False:=(by simp[hb]);clear hb
     cases V:fcmp .lss .f32 d m with
     | false=>
      simp only[G,F,V,yaL,yaT,yas,yat,yau] at E;(try simp -dsimp only[go_sem,hI,h0,Int.toNat_natCast,J,zCr,hd,G,V,F,U]);exact⟨⟨(k+1,b,m),by simp only[];omega,E⟩,by simp only[];omega,[],[],by (simp only[go_sem,yai])<;>simp⟩
     | true=>
      simp only[G,F,V,yaL,yaT,yas,yav] at E;(try simp -dsimp only[go_sem,hI,h0,Int.toNat_natCast,J,zCr,hd,G,V,F,U]);exact⟨⟨(k+1,(k:Int),d),by simp only[];omega,E⟩,by simp only[];omega,[],[],by (simp only[go_sem,yai])<;>simp⟩
  ·have hI:((k:Int)<(pts.length:Int))=False:=(by simp only[] at hk;simp;omega);simp only[] at hk E;have b0:k=pts.length:=(by omega);subst b0;rw[List.drop_length] at E;simp only[nearGo] at E;by_cases hb:b<0
   ·have F:(b<0)=True:=(by simp[hb]);clear hb;try simp -dsimp only[go_sem,f141,hI,E,F,oNear]
   ·have F:(b<0)=False:=(by simp[hb]);have b2:((b.toNat:Nat):Int)=b:=(by omega);clear hb;try simp -dsimp only[go_sem,f141,hI,E,F,b2,oNear]
theorem zDg {sc:Bool}{sz:Nat}{rows:List (List I)}(h:∀r∈rows,∀i∈r,scI i=true):MvR sc (.arr sz (tI rows)):=by
 intro r hr t F;simp only[tI,List.mem_map] at hr;obtain ⟨r0,E,rfl⟩:=hr;simp only[List.mem_map] at F;obtain ⟨i,hi,rfl⟩:=F;exact .im _ (.inr (h r0 E i hi))
theorem zCz (l:List Pt):∀r∈rowsZ l,∀i∈r,scI i=true:=by
 intro r hr i hi;simp only[rowsZ,List.mem_map] at hr;obtain ⟨p,_,rfl⟩:=hr;simp at hi;subst hi;rfl
theorem zEw (l:List Int):∀r∈rowsN l,∀i∈r,scI i=true:=by
 intro r hr i hi;simp only[rowsN,List.mem_map] at hr;obtain ⟨p,_,rfl⟩:=hr;simp at hi;subst hi;rfl
def rNew (sz:Nat)(rows:List (List I)):Res:={val:=.c (.view 0 sz 0 rows.length),roots:=[.arr sz (tI rows)]}
theorem zSc {sc:Bool}{sz:Nat}{rows:List (List I)}(h:∀r∈rows,∀i∈r,scI i=true):OkR sc (rNew sz rows):=
 ⟨.c _ (.view _ _ _ _ (by simp[rNew])),by intro r hr;simp[rNew] at hr;subst hr;exact zDg h,by simp[rNew]⟩
theorem zEg (rows:List (List I)):List.map (fun r=>List.map T.im r) rows=tI rows:=rfl
theorem zEb {n k:Nat}(h:n≤sm)(hk:k≤128):(n*k≤140737488355328)=True:=by
 have:sm=16777216:=rfl;simp only[eq_iff_iff,iff_true]
 calc n*k≤16777216*128:=Nat.mul_le_mul (by omega) hk
   _≤_:=by decide
noncomputable def zFw:Ct:=fam true (fun x:{l:List Pt//l.length≤sm}=>([.c (.im (.sl 1 (rowsZ x.1)))],[])) (fun x=>.one (rNew 1 (rowsZ x.1)))
theorem zHw {l:List Pt}(hl:l.length≤sm):zFw.run [.c (.im (.sl 1 (rowsZ l)))] []=some (.one (rNew 1 (rowsZ l))):=by
 refine zAc (ct:=zFw) rfl ?_ ⟨l,hl⟩;rintro ⟨a,_⟩ ⟨b,_⟩ h;simp[zAs] at h ⊢;exact h
theorem zIc:Law prog 200 zFw:=by
 refine zAw zAd hmixA func200 rfl rfl (fun ⟨l,hl⟩=>⟨okO (zSc (zCz l)),by simp[f200],?_⟩);simp only[rNew];try simp -dsimp only[go_sem,f200,zAb,zEb hl (show 8≤128 by decide),zEg,zAg,appendH,srcRows]
 refine⟨zAh [] ?_,fun F=>zAh [.nilS 2 1] ?_⟩
 ·simp -dsimp only[go_sem];exact⟨[1],by simp,by simp,by simp[rtOk],by simp⟩
 ·have E:l=[]:=by cases l with|nil=>rfl|cons=>simp[rowsZ] at F
  subst E;simp -dsimp only[go_sem];exact⟨[0],by simp,by simp,by simp[rtOk,tI,rowsZ],by simp⟩
noncomputable def zNk:Ct:=fam true (fun x:{l:List Int//l.length≤sm}=>([.c (.im (.sl 1 (rowsN x.1)))],[])) (fun x=>.one (rNew 1 (rowsN x.1)))
theorem zEh1 {l:List Int}(hl:l.length≤sm):zNk.run [.c (.im (.sl 1 (rowsN l)))] []=some (.one (rNew 1 (rowsN l))):=by
 refine zAc (ct:=zNk) rfl ?_ ⟨l,hl⟩;rintro ⟨a,_⟩ ⟨b,_⟩ h;simp[zAx] at h ⊢;exact h
theorem zFr1:Law prog 201 zNk:=by
 refine zAw zAd hmixA func201 rfl rfl (fun ⟨l,hl⟩=>⟨okO (zSc (zEw l)),by simp[f201],?_⟩);simp only[rNew];try simp -dsimp only[go_sem,f201,zAe,zEb hl (show 8≤128 by decide),zEg,zAg,appendH,srcRows]
 refine⟨zAh [] ?_,fun F=>zAh [.nilS 2 1] ?_⟩
 ·simp -dsimp only[go_sem];exact⟨[1],by simp,by simp,by simp[rtOk],by simp⟩
 ·have E:l=[]:=by cases l with|nil=>rfl|cons=>simp[rowsN] at F
  subst E;simp -dsimp only[go_sem];exact⟨[0],by simp,by simp,by simp[rtOk,tI,rowsN],by simp⟩
abbrev Cbl:=Int×Int
def rowsC (l:List Cbl):List (List I):=l.map fun c=>[.int .i64 c.1,.int .i64 c.2]
theorem zAo (l:List Cbl):(rowsC l).length=l.length:=by simp[rowsC]
theorem zIq {l:List Cbl}{k:Nat}{p:Cbl}(h:l[k]?=some p):(rowsC l)[k]?=some [.int .i64 p.1,.int .i64 p.2]:=by simp[rowsC,h]
theorem zUt1 {l m:List Cbl}(h:rowsC l=rowsC m):l=m:=by
 induction l generalizing m with
 | nil=>cases m with|nil=>rfl|cons=>simp[rowsC] at h
 | cons p l ih=>
  cases m with
  | nil=>simp[rowsC] at h
  | cons q m=>
   simp only[rowsC,List.map_cons,List.cons.injEq,I.int.injEq,true_and,and_true] at h;rw[ih h.2,show p=q from Prod.ext h.1.1 h.1.2]
theorem zBh {l m:List Cbl}:(rowsC l=rowsC m)=(l=m):=propext ⟨zUt1,fun h=>by rw[h]⟩
theorem zIm (l:List Cbl):∀r∈rowsC l,∀i∈r,scI i=true:=by
 intro r hr i hi;simp only[rowsC,List.mem_map] at hr;obtain ⟨p,_,rfl⟩:=hr;simp at hi;rcases hi with rfl|rfl<;>rfl
noncomputable def zJn:Ct:=fam true (fun x:{l:List Cbl//l.length≤sm}=>([.c (.im (.sl 2 (rowsC x.1)))],[])) (fun x=>.one (rNew 2 (rowsC x.1)))
theorem zWn {l:List Cbl}(hl:l.length≤sm):zJn.run [.c (.im (.sl 2 (rowsC l)))] []=some (.one (rNew 2 (rowsC l))):=by
 refine zAc (ct:=zJn) rfl ?_ ⟨l,hl⟩;rintro ⟨a,_⟩ ⟨b,_⟩ h;simp[zBh] at h ⊢;exact h
theorem zYl:Law prog 217 zJn:=by
 refine zAw zAd hmixA func217 rfl rfl (fun ⟨l,hl⟩=>⟨okO (zSc (zIm l)),by simp[f217],?_⟩);simp only[rNew];try simp -dsimp only[go_sem,f217,zAo,zEb hl (show 16≤128 by decide),zEg,zAg,appendH,srcRows]
 refine⟨zAh [] ?_,fun F=>zAh [.nilS 2 2] ?_⟩
 ·simp -dsimp only[go_sem];exact⟨[1],by simp,by simp,by simp[rtOk],by simp⟩
 ·have E:l=[]:=by cases l with|nil=>rfl|cons=>simp[rowsC] at F
  subst E;simp -dsimp only[go_sem];exact⟨[0],by simp,by simp,by simp[rtOk,tI,rowsC],by simp⟩
def rTb (pts:List Pt)(lab:List Int):Res:={val:=.agg [.view 0 1 0 pts.length,.view 1 1 0 lab.length],roots:=[.arr 1 (tI (rowsZ pts)),.arr 1 (tI (rowsN lab))]}
theorem zEt2 {sc:Bool}{pts:List Pt}{lab:List Int}:OkR sc (rTb pts lab):=by
 refine⟨.agg _ (fun x hx=>?_),fun r hr=>?_,by simp[rTb]⟩
 ·simp[rTb] at hx ⊢;rcases hx with rfl|rfl<;>exact .view _ _ _ _ (by simp)
 ·simp[rTb] at hr;rcases hr with rfl|rfl
  ·exact zDg (zCz _)
  ·exact zDg (zEw _)
noncomputable def zFj:Ct:=fam true (fun x:Tb=>([.agg [.im (.sl 1 (rowsZ x.1.1)),.im (.sl 1 (rowsN x.1.2))]],[])) (fun x=>.one (rTb x.1.1 x.1.2))
theorem zCn {pts:List Pt}{lab:List Int}(h1:pts.length≤sm)(h2:lab.length≤sm):zFj.run [.agg [.im (.sl 1 (rowsZ pts)),.im (.sl 1 (rowsN lab))]] []=some (.one (rTb pts lab)):=by
 refine zAc (ct:=zFj) rfl ?_ ⟨(pts,lab),h1,h2⟩;rintro ⟨⟨a,b⟩,_⟩ ⟨⟨F,E⟩,_⟩ h;simp[zAs,zAx] at h ⊢;simp[h]
theorem zFd1:Law prog 127 zFj:=by
 refine zAf (zAa zIc (zAa zFr1 zAd)) hmixA func127 rfl rfl (fun ⟨⟨pts,lab⟩,h1,h2⟩=>⟨okO zEt2,by simp[f127],?_⟩);simp only[rTb];try simp -dsimp only[go_sem,f127,zHw h1,zEh1 h2,rNew,zAb,zAe]
 with_reducible repeat' first|refine sl_i ?_|refine ro_i ?_
 refine⟨[_,_],?_,?_,?_,rfl,rfl⟩<;>simp[rtOk]
structure Mod where
 kind:Int
 turn:Pt
 state:Pt
 level:Nat
 store:List Pt
 rat:Int
 rcnt:Int
 pts:List Pt
 lab:List Int
 count:Int
 left:Int
def modI (m:Mod):List I:=[.int .i64 m.kind,.cpx .f32 m.turn.1 m.turn.2,.cpx .f32 m.state.1 m.state.2,.flt .f32 m.level,.sl 1 (rowsZ m.store),.int .i64 m.rat,.int .i64 m.rcnt,.sl 1 (rowsZ m.pts),.sl 1 (rowsN m.lab),.int .i64 m.count,.int .i64 m.left]
def modC (m:Mod):List C:=[.im (.int .i64 m.kind),.im (.cpx .f32 m.turn.1 m.turn.2),.im (.cpx .f32 m.state.1 m.state.2),.im (.flt .f32 m.level),.im (.sl 1 (rowsZ m.store)),.im (.int .i64 m.rat),.im (.int .i64 m.rcnt),.im (.sl 1 (rowsZ m.pts)),.im (.sl 1 (rowsN m.lab)),.im (.int .i64 m.count),.im (.int .i64 m.left)]
theorem zDj {a b:Mod}(h:modC a=modC b):a=b:=by
 obtain ⟨k,⟨t1,t2⟩,⟨s1,s2⟩,l,st,r1,r2,p,la,c,le⟩:=a;obtain ⟨k',⟨t1',t2'⟩,⟨s1',s2'⟩,l',st',r1',r2',p',la',c',le'⟩:=b;simp[modC,zAs,zAx] at h;simp[h]
structure OkM (m:Mod):Prop where
 store:m.store.length≤sm
 pts:m.pts.length≤sm
 lab:m.lab.length≤sm
noncomputable def zGi:Ct:=fam true (fun x:{l:List Pt//l.length≤sm}×Int×Int=>([.agg [.im (.sl 1 (rowsZ x.1.1)),.im (.int .i64 x.2.1),.im (.int .i64 x.2.2)]],[]))
 (fun x=>.one {val:=.agg [.view 0 1 0 x.1.1.length,.im (.int .i64 x.2.1),.im (.int .i64 x.2.2)],roots:=[.arr 1 (tI (rowsZ x.1.1))]})
theorem zEf {l:List Pt}(hl:l.length≤sm)(a c:Int):zGi.run [.agg [.im (.sl 1 (rowsZ l)),.im (.int .i64 a),.im (.int .i64 c)]] []=
 some (.one {val:=.agg [.view 0 1 0 l.length,.im (.int .i64 a),.im (.int .i64 c)],roots:=[.arr 1 (tI (rowsZ l))]}):=by
 refine zAc (ct:=zGi) rfl ?_ (⟨l,hl⟩,a,c);rintro ⟨⟨a,b⟩,c⟩ ⟨⟨G,F⟩,E⟩ h;simp[zAs] at h ⊢;simp[h,yaE]
theorem zJu1:Law prog 126 zGi:=by
 refine zAf (zAa zIc zAd) hmixA func126 rfl rfl (fun ⟨⟨l,hl⟩,a,c⟩=>⟨okO ⟨.agg _ (fun x hx=>?_),fun r hr=>?_,by simp⟩,by simp[f126],?_⟩)
 ·simp at hx;rcases hx with rfl|rfl|rfl
  ·exact .view _ _ _ _ (by simp)
  ·exact zBr rfl
  ·exact zBr rfl
 ·simp at hr;subst hr;exact zDg (zCz _)
 try simp -dsimp only[go_sem,f126,zHw hl,rNew,zAb]
 refine⟨[_],?_,?_,?_,rfl⟩<;>simp[rtOk]
def ringGo (st:List Pt)(a:Nat):Nat→Nat→Bool
 | 0,_=>true
 | f+1,i=>nzP (st.getD ((a+i)%st.length) (0,0))&&ringGo st a f (i+1)
def ringC (st:List Pt)(a c:Int):Prop:=1≤st.length∧st.length≤16∧0≤a∧a<st.length∧0≤c∧c≤st.length
instance (st:List Pt) (a c:Int):Decidable (ringC st a c):=by unfold ringC;infer_instance
def isRingF (st:List Pt)(a c:Int):Bool:=decide (ringC st a c)&&ringGo st a.toNat (st.length-c.toNat) c.toNat
noncomputable def zZt:Ct:=fam true (fun x:{l:List Pt//l.length≤sm}×Int×Int=>([.agg [.im (.sl 1 (rowsZ x.1.1)),.im (.int .i64 x.2.1),.im (.int .i64 x.2.2)]],[]))
 (fun x=>.one {val:=.c (.im (.bool (isRingF x.1.1 x.2.1 x.2.2)))})
theorem zRw {l:List Pt}(hl:l.length≤sm)(a c:Int):zZt.run [.agg [.im (.sl 1 (rowsZ l)),.im (.int .i64 a),.im (.int .i64 c)]] []=some (.one {val:=.c (.im (.bool (isRingF l a c)))}):=by
 refine zAc (ct:=zZt) rfl ?_ (⟨l,hl⟩,a,c);rintro ⟨⟨a,b⟩,c⟩ ⟨⟨G,F⟩,E⟩ h;simp[zAs] at h ⊢;simp[h,yaE]
theorem zSp1:Law prog 104 zZt:=by
 refine zAf (zAa zQo zAd) hmixA func104 rfl rfl (fun ⟨⟨l,hl⟩,a,c⟩=>⟨zAv rfl,by simp[f104],?_⟩);by_cases hC:ringC l a c;rotate_left
 ·have J:isRingF l a c=false:=by simp[isRingF,hC]
  by_cases p1:(l.length:Int)<1
  ·have V:=eq_true p1;clear p1;try simp -dsimp only[go_sem,f104,zAb,J,V]
  have V:=eq_false p1;by_cases p2:(16:Int)<(l.length:Int)
  ·have Z:=eq_true p2;clear p2;try simp -dsimp only[go_sem,f104,zAb,J,V,Z]
  have Z:=eq_false p2;by_cases p3:a<0
  ·have e3:=eq_true p3;clear p3;try simp -dsimp only[go_sem,f104,zAb,J,V,Z,e3]
  have e3:=eq_false p3;by_cases p4:(l.length:Int)≤a
  ·have e4:=eq_true p4;clear p4;try simp -dsimp only[go_sem,f104,zAb,J,V,Z,e3,e4]
  have e4:=eq_false p4;by_cases p5:c<0
  ·have e5:=eq_true p5;clear p5;try simp -dsimp only[go_sem,f104,zAb,J,V,Z,e3,e4,e5]
  have e5:=eq_false p5;by_cases p6:(l.length:Int)<c
  ·have e6:=eq_true p6;clear p6;try simp -dsimp only[go_sem,f104,zAb,J,V,Z,e3,e4,e5,e6]
  have e6:=eq_false p6
  exfalso;apply hC;unfold ringC;omega
 obtain ⟨c1,c2,c3,c4,c5,c6⟩:=hC
 have J:isRingF l a c=ringGo l a.toNat (l.length-c.toNat) c.toNat:=by
  have:ringC l a c:=⟨c1,c2,c3,c4,c5,c6⟩;simp[isRingF,this]
 have q1:((l.length:Int)<1)=False:=by simp;omega
 have q2:((16:Int)<(l.length:Int))=False:=by simp;omega
 have q3:(a<0)=False:=by simp;omega
 have q4:((l.length:Int)≤a)=False:=by simp;omega
 have q5:(c<0)=False:=by simp;omega
 have q6:((l.length:Int)<c)=False:=by simp;omega
 obtain ⟨F,rfl⟩:∃n:Nat,a=n:=⟨a.toNat,by omega⟩;obtain ⟨cn,rfl⟩:∃n:Nat,c=n:=⟨c.toNat,by omega⟩;rw[J];simp only[Int.toNat_natCast] at*;clear J c3 c5;try simp -dsimp only[go_sem,f104,zAb,q1,q2,q3,q4,q5,q6]
 clear q1 q2 q3 q4 q5 q6
 refine zAp (ι:={k:Nat//k≤l.length∧ringGo l F (l.length-cn) cn=ringGo l F (l.length-k) k}) (fun k=>⟨[(1,some (.c (.ptr 0 0 0 0))),(3,some (.c (.im (.int .i64 (l.length:Int))))),(4,some (.c (.im (.int .i64 (k.1:Int)))))],
  [(0,some (.box [.t (.im (.sl 1 (rowsZ l))),.t (.im (.int .i64 (F:Int))),.t (.im (.int .i64 (cn:Int)))]))],1⟩) (fun k=>l.length-k.1) ⟨cn,by omega,rfl⟩ ⟨[],[],by (simp only[go_sem,yai])<;>simp⟩ (fun ⟨k,hk,E⟩=>?_)
 by_cases d0:k<l.length
 ·have a6:(F+k)%l.length<l.length:=Nat.mod_lt _ (by omega);obtain ⟨p,hp⟩:∃p,l[(F+k)%l.length]?=some p:=⟨_,List.getElem?_eq_getElem a6⟩;have U:=zBz hp;have hI:((k:Int)<(l.length:Int))=True:=by simp;omega
  have hw:IntKind.i64.wrap ((F:Int)+(k:Int))=((F+k:Nat):Int):=by rw[zAi]<;>omega
  have hm:(((F+k:Nat):Int)).tmod (l.length:Int)=(((F+k)%l.length:Nat):Int):=by rw[Int.tmod_eq_emod_of_nonneg (Int.natCast_nonneg _)];exact (Int.natCast_emod _ _).symm
  have a8:((l.length:Int)=0)=False:=eq_false (by omega);have a7:(0≤(((F+k)%l.length:Nat):Int))=True:=eq_true (Int.natCast_nonneg _);have c8:=zDh hl d0
  have G:ringGo l F (l.length-k) k=(nzP p&&ringGo l F (l.length- (k+1)) (k+1)):=by
   rw[show l.length-k=(l.length- (k+1))+1 by omega];simp[ringGo,hp]
  obtain ⟨x,y⟩:=p;rw[G] at E
  cases hq:nzP (x,y) with
  | false=>
   rw[hq,Bool.false_and] at E;clear G;try simp -dsimp only[go_sem,f104,hI,hw,hm,a8,a7,Int.toNat_natCast,U,zAm,hq,E]
   with_reducible repeat' first|refine sl_i ?_|exact ro_e
  | true=>
   rw[hq,Bool.true_and] at E;clear G;try simp -dsimp only[go_sem,hI,hw,hm,a8,a7,Int.toNat_natCast,U,zAm,hq,c8]
   with_reducible repeat' first|refine sl_i ?_|refine ro_i ?_
   exact⟨⟨k+1,by omega,E⟩,by simp only[];omega,[],[],by (simp only[go_sem,yai])<;>simp⟩
 ·have hI:((k:Int)<(l.length:Int))=False:=by simp;omega
  have d1:k=l.length:=by omega
  subst d1;rw[Nat.sub_self] at E;try simp -dsimp only[go_sem,f104,hI,E,ringGo]
def bareF (m:Mod):Bool:=nzP m.turn&&(nzP m.state&&(nz m.level&&(decide ((m.store.length:Int)=0)&&(decide (m.rat=0)&&(decide (m.rcnt=0)&&(decide ((m.pts.length:Int)=0)&&(decide ((m.lab.length:Int)=0)&&(decide (m.count=0)&&decide (m.left=0)))))))))
def modV (v:Nat)(m:Mod):List C:=[.im (.int .i64 m.kind),.im (.cpx .f32 m.turn.1 m.turn.2),.im (.cpx .f32 m.state.1 m.state.2),.im (.flt .f32 m.level),(if v=1 then .nil else .im (.sl 1 (rowsZ m.store))),.im (.int .i64 m.rat),.im (.int .i64 m.rcnt),
 (if v=2 then .nil else .im (.sl 1 (rowsZ m.pts))),(if v=2 then .nil else .im (.sl 1 (rowsN m.lab))),.im (.int .i64 m.count),.im (.int .i64 m.left)]
abbrev MdV:={x:Mod×Nat//OkM x.1∧(x.2=0∨(x.2=1∧x.1.store=[])∨(x.2=2∧x.1.pts=[]∧x.1.lab=[]))}
noncomputable def zIg:Ct:=fam true (fun x:MdV=>([.agg (modV x.1.2 x.1.1)],[])) (fun x=>.one {val:=.c (.im (.bool (bareF x.1.1)))})
theorem zSo:∀a b:MdV,([D.agg (modV a.1.2 a.1.1)],([]:List (List B)))=([D.agg (modV b.1.2 b.1.1)],[])→Outs.one {val:=.c (.im (.bool (bareF a.1.1)))}=Outs.one {val:=.c (.im (.bool (bareF b.1.1)))}:=by
 rintro ⟨⟨⟨k,⟨t1,t2⟩,⟨s1,s2⟩,l,st,r1,r2,p,la,c,le⟩,v⟩,_,G⟩ ⟨⟨⟨k',⟨U,J⟩,⟨Z,V⟩,l',st',a7,a6,p',F,c',b0⟩,v'⟩,_,E⟩ h;simp only[Prod.mk.injEq,List.cons.injEq,D.agg.injEq,modV,C.im.injEq,I.cpx.injEq,I.flt.injEq,I.int.injEq,true_and,and_true] at h;obtain ⟨rfl,⟨rfl,rfl⟩,⟨rfl,rfl⟩,rfl,h1,rfl,rfl,h2,h3,rfl,rfl⟩:=h
 have e1:st=st'∧p=p'∧la=F:=by
  simp only at G E;rcases G with rfl|⟨rfl,rfl⟩|⟨rfl,rfl,rfl⟩<;>rcases E with rfl|⟨rfl,rfl⟩|⟨rfl,rfl,rfl⟩<;>simp_all [zAs,zAx]
 obtain ⟨rfl,rfl,rfl⟩:=e1;rfl
theorem zGf {k:Int}{t1 t2 s1 s2 lv:Nat}{ra rc c l:Int}{st:List Pt}{pts:List Pt}{lab:List Int}(hst:st.length≤sm)(hp:pts.length≤sm)(hl:lab.length≤sm):
 zIg.run [.agg [.im (.int .i64 k),.im (.cpx .f32 t1 t2),.im (.cpx .f32 s1 s2),.im (.flt .f32 lv),.im (.sl 1 (rowsZ st)),.im (.int .i64 ra),.im (.int .i64 rc),.im (.sl 1 (rowsZ pts)),.im (.sl 1 (rowsN lab)),.im (.int .i64 c),.im (.int .i64 l)]] []=
  some (.one {val:=.c (.im (.bool (bareF ⟨k,(t1,t2),(s1,s2),lv,st,ra,rc,pts,lab,c,l⟩)))}):=
 zHd (ct:=zIg) rfl zSo ⟨(⟨k,(t1,t2),(s1,s2),lv,st,ra,rc,pts,lab,c,l⟩,0),⟨hst,hp,hl⟩,.inl rfl⟩
theorem zLs1 {k:Int}{t1 t2 s1 s2 lv:Nat}{ra rc c l:Int}{pts:List Pt}{lab:List Int}(hp:pts.length≤sm)(hl:lab.length≤sm):
 zIg.run [.agg [.im (.int .i64 k),.im (.cpx .f32 t1 t2),.im (.cpx .f32 s1 s2),.im (.flt .f32 lv),.nil,.im (.int .i64 ra),.im (.int .i64 rc),.im (.sl 1 (rowsZ pts)),.im (.sl 1 (rowsN lab)),.im (.int .i64 c),.im (.int .i64 l)]] []=
  some (.one {val:=.c (.im (.bool (bareF ⟨k,(t1,t2),(s1,s2),lv,[],ra,rc,pts,lab,c,l⟩)))}):=
 zHd (ct:=zIg) rfl zSo ⟨(⟨k,(t1,t2),(s1,s2),lv,[],ra,rc,pts,lab,c,l⟩,1),⟨(by simp[sm]),hp,hl⟩,.inr (.inl ⟨rfl,rfl⟩)⟩
theorem zLr1 {k:Int}{t1 t2 s1 s2 lv:Nat}{ra rc c l:Int}{st:List Pt}(hst:st.length≤sm):
 zIg.run [.agg [.im (.int .i64 k),.im (.cpx .f32 t1 t2),.im (.cpx .f32 s1 s2),.im (.flt .f32 lv),.im (.sl 1 (rowsZ st)),.im (.int .i64 ra),.im (.int .i64 rc),.nil,.nil,.im (.int .i64 c),.im (.int .i64 l)]] []=
  some (.one {val:=.c (.im (.bool (bareF ⟨k,(t1,t2),(s1,s2),lv,st,ra,rc,[],[],c,l⟩)))}):=
 zHd (ct:=zIg) rfl zSo ⟨(⟨k,(t1,t2),(s1,s2),lv,st,ra,rc,[],[],c,l⟩,2),⟨hst,(by simp[sm]),(by simp[sm])⟩,.inr (.inr ⟨rfl,rfl,rfl⟩)⟩
theorem zSh1:Law prog 107 zIg:=by
 refine zAf (zAa zQo (zAa zMk zAd)) hmixA func107 rfl rfl (fun ⟨⟨⟨k,⟨t1,t2⟩,⟨s1,s2⟩,lv,st,ra,rc,pts,lab,c,l⟩,v⟩,hm,hv⟩=>⟨zAv rfl,by simp[f107],?_⟩);simp only at hv;rcases hv with rfl|⟨rfl,rfl⟩|⟨rfl,rfl,rfl⟩
 ·simp only[modV,↓reduceIte,(eq_false (by decide):((0:Nat)=1)=False),(eq_false (by decide):((0:Nat)=2)=False)]
  cases h1:nzP (t1,t2) with
  | false=>
   (try simp -dsimp only[go_sem,f107,zAm,h1]);simp[bareF,h1]
  | true=>
   cases h2:nzP (s1,s2) with
   | false=>
    (try simp -dsimp only[go_sem,f107,zAm,h1,h2]);simp[bareF,h1,h2]
   | true=>
    by_cases p1:(lv:Int)=0;rotate_left
    ·have E:=eq_false p1;clear p1;try simp -dsimp only[go_sem,f107,zAm,zAt,h1,h2,E]
     all_goals (simp only[bareF,nz, *,yaL,yar,yaN])
    have E:=eq_true p1;by_cases p2:(st.length:Int)=0;rotate_left
    ·have F:=eq_false p2;clear p2;try simp -dsimp only[go_sem,f107,zAm,zAt,h1,h2,zAb,E,F]
     all_goals (simp only[bareF,nz, *,yaL,yaM,yar,yaN])
    have F:=eq_true p2;by_cases p3:ra=0;rotate_left
    ·have G:=eq_false p3;clear p3;try simp -dsimp only[go_sem,f107,zAm,zAt,h1,h2,zAb,E,F,G]
     all_goals (simp only[bareF,nz, *,yaL,yaM,yar,yaN])
    have G:=eq_true p3;by_cases p4:rc=0;rotate_left
    ·have J:=eq_false p4;clear p4;try simp -dsimp only[go_sem,f107,zAm,zAt,h1,h2,zAb,E,F,G,J]
     all_goals (simp only[bareF,nz, *,yaL,yaM,yar,yaN])
    have J:=eq_true p4;by_cases Z:(pts.length:Int)=0;rotate_left
    ·have U:=eq_false Z;clear Z;try simp -dsimp only[go_sem,f107,zAm,zAt,h1,h2,zAb,E,F,G,J,U]
     all_goals (simp only[bareF,nz, *,yaL,yaM,yar,yaN])
    have U:=eq_true Z;by_cases V:(lab.length:Int)=0;rotate_left
    ·have e6:=eq_false V;clear V;try simp -dsimp only[go_sem,f107,zAm,zAt,h1,h2,zAb,zAe,E,F,G,J,U,e6]
     all_goals (simp only[bareF,nz, *,yaL,yaM,yar,yaN])
    have e6:=eq_true V;by_cases p7:c=0;rotate_left
    ·have e7:=eq_false p7;clear p7;try simp -dsimp only[go_sem,f107,zAm,zAt,h1,h2,zAb,zAe,E,F,G,J,U,e6,e7]
     all_goals (simp only[bareF,nz, *,yaL,yaM,yar,yaN])
    have e7:=eq_true p7;by_cases p8:l=0;rotate_left
    ·have e8:=eq_false p8;clear p8;try simp -dsimp only[go_sem,f107,zAm,zAt,h1,h2,zAb,zAe,E,F,G,J,U,e6,e7,e8]
     all_goals (simp only[bareF,nz, *,yaL,yaM,yaN])
    have e8:=eq_true p8;clear p1 p2 p3 p4 Z V p7 p8;(try simp -dsimp only[go_sem,f107,zAm,zAt,h1,h2,zAb,zAe,E,F,G,J,U,e6,e7,e8]);simp only[bareF,nz, *,yaM,yas]
 ·simp only[modV,↓reduceIte,(eq_false (by decide):((1:Nat)=2)=False)]
  cases h1:nzP (t1,t2) with
  | false=>
   (try simp -dsimp only[go_sem,f107,zAm,h1]);simp[bareF,h1]
  | true=>
   cases h2:nzP (s1,s2) with
   | false=>
    (try simp -dsimp only[go_sem,f107,zAm,h1,h2]);simp[bareF,h1,h2]
   | true=>
    by_cases p1:(lv:Int)=0;rotate_left
    ·have E:=eq_false p1;clear p1;try simp -dsimp only[go_sem,f107,zAm,zAt,h1,h2,E]
     all_goals (simp only[bareF,nz, *,yaL,yaM,yar,yas,yaN,List.length_nil,Int.ofNat_zero])
    have E:=eq_true p1;by_cases p2:ra=0;rotate_left
    ·have F:=eq_false p2;clear p2;try simp -dsimp only[go_sem,f107,zAm,zAt,h1,h2,E,F]
     all_goals (simp only[bareF,nz, *,yaL,yaM,yar,yaN,List.length_nil,Int.ofNat_zero])
    have F:=eq_true p2;by_cases p3:rc=0;rotate_left
    ·have G:=eq_false p3;clear p3;try simp -dsimp only[go_sem,f107,zAm,zAt,h1,h2,E,F,G]
     all_goals (simp only[bareF,nz, *,yaL,yaM,yar,yaN,List.length_nil,Int.ofNat_zero])
    have G:=eq_true p3;by_cases p4:(pts.length:Int)=0;rotate_left
    ·have J:=eq_false p4;clear p4;try simp -dsimp only[go_sem,f107,zAm,zAt,h1,h2,zAb,E,F,G,J]
     all_goals (simp only[bareF,nz, *,yaL,yaM,yar,yaN,List.length_nil,Int.ofNat_zero])
    have J:=eq_true p4;by_cases Z:(lab.length:Int)=0;rotate_left
    ·have U:=eq_false Z;clear Z;try simp -dsimp only[go_sem,f107,zAm,zAt,h1,h2,zAb,zAe,E,F,G,J,U]
     all_goals (simp only[bareF,nz, *,yaL,yaM,yar,yaN,List.length_nil,Int.ofNat_zero])
    have U:=eq_true Z;by_cases V:c=0;rotate_left
    ·have e6:=eq_false V;clear V;try simp -dsimp only[go_sem,f107,zAm,zAt,h1,h2,zAb,zAe,E,F,G,J,U,e6]
     all_goals (simp only[bareF,nz, *,yaL,yaM,yar,yaN,List.length_nil,Int.ofNat_zero])
    have e6:=eq_true V;by_cases p7:l=0;rotate_left
    ·have e7:=eq_false p7;clear p7;try simp -dsimp only[go_sem,f107,zAm,zAt,h1,h2,zAb,zAe,E,F,G,J,U,e6,e7]
     all_goals (simp only[bareF,nz, *,yaL,yaM,yaN,List.length_nil,Int.ofNat_zero])
    have e7:=eq_true p7;clear p1 p2 p3 p4 Z V p7;(try simp -dsimp only[go_sem,f107,zAm,zAt,h1,h2,zAb,zAe,E,F,G,J,U,e6,e7]);simp only[bareF,nz, *,yaM,yas,List.length_nil,Int.ofNat_zero]
 ·simp only[modV,↓reduceIte,(eq_false (by decide):((2:Nat)=1)=False)]
  cases h1:nzP (t1,t2) with
  | false=>
   (try simp -dsimp only[go_sem,f107,zAm,h1]);simp[bareF,h1]
  | true=>
   cases h2:nzP (s1,s2) with
   | false=>
    (try simp -dsimp only[go_sem,f107,zAm,h1,h2]);simp[bareF,h1,h2]
   | true=>
    by_cases p1:(lv:Int)=0;rotate_left
    ·have E:=eq_false p1;clear p1;try simp -dsimp only[go_sem,f107,zAm,zAt,h1,h2,E]
     all_goals (simp only[bareF,nz, *,yaL,yaM,yar,yas,yaN,List.length_nil,Int.ofNat_zero])
    have E:=eq_true p1;by_cases p2:(st.length:Int)=0;rotate_left
    ·have F:=eq_false p2;clear p2;try simp -dsimp only[go_sem,f107,zAm,zAt,h1,h2,zAb,E,F]
     all_goals (simp only[bareF,nz, *,yaL,yaM,yar,yas,yaN,List.length_nil,Int.ofNat_zero])
    have F:=eq_true p2;by_cases p3:ra=0;rotate_left
    ·have G:=eq_false p3;clear p3;try simp -dsimp only[go_sem,f107,zAm,zAt,h1,h2,zAb,E,F,G]
     all_goals (simp only[bareF,nz, *,yaL,yaM,yar,yas,yaN,List.length_nil,Int.ofNat_zero])
    have G:=eq_true p3;by_cases p4:rc=0;rotate_left
    ·have J:=eq_false p4;clear p4;try simp -dsimp only[go_sem,f107,zAm,zAt,h1,h2,zAb,E,F,G,J]
     all_goals (simp only[bareF,nz, *,yaL,yaM,yar,yas,yaN,List.length_nil,Int.ofNat_zero])
    have J:=eq_true p4;by_cases Z:c=0;rotate_left
    ·have U:=eq_false Z;clear Z;try simp -dsimp only[go_sem,f107,zAm,zAt,h1,h2,zAb,E,F,G,J,U]
     all_goals (simp only[bareF,nz, *,yaL,yaM,yar,yaN,List.length_nil,Int.ofNat_zero])
    have U:=eq_true Z;by_cases V:l=0;rotate_left
    ·have e6:=eq_false V;clear V;try simp -dsimp only[go_sem,f107,zAm,zAt,h1,h2,zAb,E,F,G,J,U,e6]
     all_goals (simp only[bareF,nz, *,yaL,yaM,yaN,List.length_nil,Int.ofNat_zero])
    have e6:=eq_true V;clear p1 p2 p3 p4 Z V;(try simp -dsimp only[go_sem,f107,zAm,zAt,h1,h2,zAb,E,F,G,J,U,e6]);simp only[bareF,nz, *,yaM,yas,List.length_nil,Int.ofNat_zero]
def isModuleF (m:Mod):Bool:=
 if m.kind=1 then bareF {m with turn:=(0,0),state:=(0,0)}
 else if m.kind=2 then bareF {m with turn:=(0,0),state:=(0,0)}
 else if m.kind=3 then bareF {m with level:=0}
 else if m.kind=4 then (isRingF m.store m.rat m.rcnt&&decide (m.rcnt=(m.store.length:Int)))&&bareF {m with store:=[],rat:=0,rcnt:=0}
 else if m.kind=5 then bareF m
 else if m.kind=6 then isTableF m.pts m.lab&&bareF {m with pts:=[],lab:=[],count:=0}
 else if m.kind=7 then (nz m.level||fcmp .gtr .f32 m.level 0)&&bareF {m with level:=0}
 else if m.kind=8 then (decide (1≤m.count)&&(decide (m.count≤100)&&(decide (0≤m.left)&&decide (m.left<m.count))))&&bareF {m with state:=(0,0),count:=0,left:=0}
 else false
abbrev MdA:={m:Mod//OkM m}
noncomputable def zIi:Ct:=fam true (fun x:MdA=>([.agg (modC x.1)],[])) (fun x=>.one {val:=.c (.im (.bool (isModuleF x.1)))})
theorem zBk {k:Int}{t1 t2 s1 s2 lv:Nat}{st:List Pt}{ra rc:Int}{pts:List Pt}{lab:List Int}{c l:Int}(hst:st.length≤sm)(hp:pts.length≤sm)(hl:lab.length≤sm):
 zIi.run [.agg [.im (.int .i64 k),.im (.cpx .f32 t1 t2),.im (.cpx .f32 s1 s2),.im (.flt .f32 lv),.im (.sl 1 (rowsZ st)),.im (.int .i64 ra),.im (.int .i64 rc),.im (.sl 1 (rowsZ pts)),.im (.sl 1 (rowsN lab)),.im (.int .i64 c),.im (.int .i64 l)]] []=
  some (.one {val:=.c (.im (.bool (isModuleF ⟨k,(t1,t2),(s1,s2),lv,st,ra,rc,pts,lab,c,l⟩)))}):=by
 refine zAc (ct:=zIi) rfl ?_ ⟨⟨k,(t1,t2),(s1,s2),lv,st,ra,rc,pts,lab,c,l⟩,⟨hst,hp,hl⟩⟩;rintro ⟨a,_⟩ ⟨b,_⟩ h;simp at h ⊢;exact zDj h
theorem zFh:Law prog 45 zIi:=by
 refine zAf (zAa zSh1 (zAa zSp1 (zAa zYh (zAa zMk zAd)))) hmixA func45 rfl rfl (fun ⟨⟨k,⟨t1,t2⟩,⟨s1,s2⟩,lv,st,ra,rc,pts,lab,c,l⟩,⟨E,G,F⟩⟩=>⟨zAv rfl,by simp[f45],?_⟩);simp only at E G F;simp only[modC];by_cases k1:k=1
 ·subst k1;try simp -dsimp only[go_sem,f45,zGf E G F,isModuleF]
 by_cases k2:k=2
 ·subst k2;try simp -dsimp only[go_sem,f45,zGf E G F,isModuleF,Int.reduceEq]
 by_cases k3:k=3
 ·subst k3;try simp -dsimp only[go_sem,f45,zGf E G F,isModuleF,Int.reduceEq]
 by_cases k4:k=4
 ·subst k4
  cases h1:isRingF st ra rc with
  | false=>
   try simp -dsimp only[go_sem,f45,zRw E,h1,isModuleF,Int.reduceEq,yar]
   with_reducible repeat' first|refine sl_i ?_|exact ro_e
  | true=>
   by_cases h2:rc=(st.length:Int)
   ·have U:=eq_true h2;clear h2;try simp -dsimp only[go_sem,f45,zLs1 G F,zRw E,h1,U,zAb,isModuleF,Int.reduceEq,yas]
    with_reducible repeat' first|refine sl_i ?_|exact ro_e
   ·have U:=eq_false h2;clear h2;try simp -dsimp only[go_sem,f45,zRw E,h1,U,zAb,isModuleF,Int.reduceEq,yas,yar]
    with_reducible repeat' first|refine sl_i ?_|exact ro_e
 by_cases k5:k=5
 ·subst k5;try simp -dsimp only[go_sem,f45,zGf E G F,isModuleF,Int.reduceEq]
 by_cases k6:k=6
 ·subst k6
  cases h1:isTableF pts lab with
  | false=> try simp -dsimp only[go_sem,f45,zBq G F,h1,isModuleF,Int.reduceEq,yar]
  | true=> try simp -dsimp only[go_sem,f45,zLr1 E,zBq G F,h1,isModuleF,Int.reduceEq,yas]
 by_cases k7:k=7
 ·subst k7;by_cases h1:(lv:Int)=0
  ·have J:=eq_true h1;clear h1;try simp -dsimp only[go_sem,f45,zGf E G F,zAt,J,nz,isModuleF,Int.reduceEq,Bool.true_or,yas]
   with_reducible repeat' first|refine sl_i ?_|exact ro_e
  ·have J:=eq_false h1;clear h1
   cases h2:fcmp .gtr .f32 lv 0 with
   | false=>
    try simp -dsimp only[go_sem,f45,zAt,J,h2,nz,isModuleF,Int.reduceEq,yaT,yar]
    with_reducible repeat' first|refine sl_i ?_|exact ro_e
   | true=>
    try simp -dsimp only[go_sem,f45,zGf E G F,zAt,J,h2,nz,isModuleF,Int.reduceEq,yaT,yas]
    with_reducible repeat' first|refine sl_i ?_|exact ro_e
 by_cases k8:k=8
 ·subst k8;by_cases p1:(1:Int)≤c;rotate_left
  ·have V:=eq_false p1;clear p1;try simp -dsimp only[go_sem,f45,isModuleF,Int.reduceEq,yar,V]
  have V:=eq_true p1;by_cases p2:c≤100;rotate_left
  ·have Z:=eq_false p2;clear p2;try simp -dsimp only[go_sem,f45,isModuleF,Int.reduceEq,yar,yaN,V,Z]
  have Z:=eq_true p2;by_cases p3:(0:Int)≤l;rotate_left
  ·have e3:=eq_false p3;clear p3;try simp -dsimp only[go_sem,f45,isModuleF,Int.reduceEq,yar,yaN,V,Z,e3]
  have e3:=eq_true p3;by_cases p4:l<c;rotate_left
  ·have e4:=eq_false p4;clear p4;try simp -dsimp only[go_sem,f45,isModuleF,Int.reduceEq,yar,yaN,V,Z,e3,e4]
  have e4:=eq_true p4;clear p1 p2 p3 p4;try simp -dsimp only[go_sem,f45,zGf E G F,V,Z,e3,e4,isModuleF,Int.reduceEq,yas]
 have d2:=eq_false k1;have d0:=eq_false k2;have c7:=eq_false k3;have c1:=eq_false k4;have b8:=eq_false k5;have b6:=eq_false k6;have b4:=eq_false k7;have b2:=eq_false k8;clear k1 k2 k3 k4 k5 k6 k7 k8;try simp -dsimp only[go_sem,f45,d2,d0,c7,c1,b8,b6,b4,b2,isModuleF]
def modT (m:Mod):List T:=[.im (.int .i64 m.kind),.im (.cpx .f32 m.turn.1 m.turn.2),.im (.cpx .f32 m.state.1 m.state.2),.im (.flt .f32 m.level),.own 1 (tI (rowsZ m.store)),.im (.int .i64 m.rat),.im (.int .i64 m.rcnt),.own 1 (tI (rowsZ m.pts)),.own 1 (tI (rowsN m.lab)),.im (.int .i64 m.count),.im (.int .i64 m.left)]
def rMod (m:Mod):Res:={val:=.agg [.im (.int .i64 m.kind),.im (.cpx .f32 m.turn.1 m.turn.2),.im (.cpx .f32 m.state.1 m.state.2),.im (.flt .f32 m.level),.view 0 1 0 m.store.length,.im (.int .i64 m.rat),.im (.int .i64 m.rcnt),.view 1 1 0 m.pts.length,.view 2 1 0 m.lab.length,.im (.int .i64 m.count),.im (.int .i64 m.left)],roots:=[.arr 1 (tI (rowsZ m.store)),.arr 1 (tI (rowsZ m.pts)),.arr 1 (tI (rowsN m.lab))]}
theorem zMi1 {sc:Bool}{m:Mod}:OkR sc (rMod m):=by
 refine⟨.agg _ (fun x hx=>?_),fun r hr=>?_,by simp[rMod]⟩
 ·simp only[yac,yad,or_false] at hx;rcases hx with rfl|rfl|rfl|rfl|rfl|rfl|rfl|rfl|rfl|rfl|rfl<;>first|exact zBr rfl|exact .view _ _ _ _ (by simp[rMod])
 ·simp only[rMod,yac,yad,or_false] at hr;rcases hr with rfl|rfl|rfl<;>first|exact zDg (zCz _)|exact zDg (zEw _)
noncomputable def zLa:Ct:=fam true (fun x:MdA=>([.agg (modC x.1)],[])) (fun x=>.one (rMod x.1))
theorem zGo {k:Int}{t1 t2 s1 s2 lv:Nat}{st:List Pt}{ra rc:Int}{pts:List Pt}{lab:List Int}{c l:Int}(hst:st.length≤sm)(hp:pts.length≤sm)(hl:lab.length≤sm):
 zLa.run [.agg [.im (.int .i64 k),.im (.cpx .f32 t1 t2),.im (.cpx .f32 s1 s2),.im (.flt .f32 lv),.im (.sl 1 (rowsZ st)),.im (.int .i64 ra),.im (.int .i64 rc),.im (.sl 1 (rowsZ pts)),.im (.sl 1 (rowsN lab)),.im (.int .i64 c),.im (.int .i64 l)]] []=
  some (.one (rMod ⟨k,(t1,t2),(s1,s2),lv,st,ra,rc,pts,lab,c,l⟩)):=by
 refine zAc (ct:=zLa) rfl ?_ ⟨⟨k,(t1,t2),(s1,s2),lv,st,ra,rc,pts,lab,c,l⟩,⟨hst,hp,hl⟩⟩;rintro ⟨a,_⟩ ⟨b,_⟩ h;simp at h ⊢;exact zDj h
theorem zJe:Law prog 57 zLa:=by
 refine zAf (zAa zJu1 (zAa zFd1 zAd)) hmixA func57 rfl rfl (fun ⟨⟨k,⟨t1,t2⟩,⟨s1,s2⟩,lv,st,ra,rc,pts,lab,c,l⟩,⟨G,F,E⟩⟩=>⟨okO zMi1,by simp[f57],?_⟩);simp only at G F E;simp only[modC,rMod];try simp -dsimp only[go_sem,f57,zEf G,zCn F E,rTb]
 with_reducible repeat' first|refine sl_i ?_|refine ro_i ?_
 refine⟨[_,_,_],?_,?_,?_,rfl,rfl,rfl⟩<;>simp[rtOk]
def rowsM (ms:List Mod):List (List I):=ms.map modI
theorem zAj (l:List Mod):(rowsM l).length=l.length:=by simp[rowsM]
theorem zIp {l:List Mod}{k:Nat}{m:Mod}(h:l[k]?=some m):(rowsM l)[k]?=some [.int .i64 m.kind,.cpx .f32 m.turn.1 m.turn.2,.cpx .f32 m.state.1 m.state.2,.flt .f32 m.level,.sl 1 (rowsZ m.store),.int .i64 m.rat,.int .i64 m.rcnt,.sl 1 (rowsZ m.pts),.sl 1 (rowsN m.lab),.int .i64 m.count,.int .i64 m.left]:=by simp[rowsM,h,modI]
theorem zCc2 {a b:Mod}(h:modI a=modI b):a=b:=by
 obtain ⟨k,⟨t1,t2⟩,⟨s1,s2⟩,l,st,r1,r2,p,la,c,le⟩:=a;obtain ⟨k',⟨t1',t2'⟩,⟨s1',s2'⟩,l',st',r1',r2',p',la',c',le'⟩:=b;simp[modI,zAs,zAx] at h;simp[h]
theorem zBp {l m:List Mod}:(rowsM l=rowsM m)=(l=m):=by
 refine propext ⟨fun h=>?_,fun h=>by rw[h]⟩
 induction l generalizing m with
 | nil=>cases m with|nil=>rfl|cons=>simp[rowsM] at h
 | cons p l ih=>
  cases m with
  | nil=>simp[rowsM] at h
  | cons q m=>
   simp only[rowsM,List.map_cons,List.cons.injEq] at h;rw[ih h.2,zCc2 h.1]
theorem zBv (rows:List (List I)):∀(sz:Nat),MvR false (.arr sz (tI rows)):=by
 intro sz r hr t E;simp only[tI,List.mem_map] at hr;obtain ⟨r0,F,rfl⟩:=hr;simp only[List.mem_map] at E;obtain ⟨i,hi,rfl⟩:=E;exact .im _ (.inl rfl)
noncomputable def zNg:Ct:=fam true (fun x:{l:List Int//l.length≤sm}×Int=>([.c (.im (.sl 1 (rowsN x.1.1))),.c (.im (.int .i64 x.2))],[])) (fun x=>.one {val:=.c (.im (.int .i64 (idxF (fun y=>decide (x.2=y)) x.1.1 0)))})
theorem zEb1 {l:List Int}(hl:l.length≤sm)(v:Int):zNg.run [.c (.im (.sl 1 (rowsN l))),.c (.im (.int .i64 v))] []=some (.one {val:=.c (.im (.int .i64 (idxF (fun y=>decide (v=y)) l 0)))}):=by
 refine zAc (ct:=zNg) rfl ?_ (⟨l,hl⟩,v);rintro ⟨⟨a,b⟩,c⟩ ⟨⟨G,F⟩,E⟩ h;simp[zAx] at h ⊢;simp[h]
theorem zFm1:Law prog 125 zNg:=by
 refine zAf zAd hmixA func125 rfl rfl (fun ⟨⟨l,hl⟩,v⟩=>⟨zAv rfl,by simp[f125],?_⟩);try simp -dsimp only[go_sem,f125,zAe]
 refine zAp (ι:={k:Nat//k≤l.length∧idxF (fun y=>decide (v=y)) l 0=idxF (fun y=>decide (v=y)) (l.drop k) k}) (fun k=>⟨[(0,some (.c (.im (.sl 1 (rowsN l))))),(1,some (.c (.im (.int .i64 v)))),(7,some (.c (.im (.int .i64 (l.length:Int))))),(8,some (.c (.im (.int .i64 (k.1:Int)))))],
  [],0⟩) (fun k=>l.length-k.1) ⟨0,by simp⟩ ⟨[],[],by ((simp only[go_sem,yai])<;>(try (simp -dsimp only[go_sem,yaj,yai])))<;>simp⟩ (fun ⟨k,hk,E⟩=>?_)
 by_cases U:k<l.length
 ·obtain ⟨p,hp⟩:∃p,l[k]?=some p:=⟨_,List.getElem?_eq_getElem U⟩;have J:=zEx hp;have Z:((k:Int)<(l.length:Int))=True:=by simp;omega
  have h0:0≤(k:Int):=by simp
  have F:=zJw (f:=(fun y=>decide (v=y))) hp;have a6:=zDh hl U;by_cases V:v=p
  ·have G:=eq_true V;simp only[G,yaM,yav] at F;rw[F] at E;clear F V;try simp -dsimp only[go_sem,f125,Z,h0,Int.toNat_natCast,J,G,E]
  ·have G:=eq_false V;simp only[G,yaL,yau,yat] at F;rw[F] at E;clear F V;(try simp -dsimp only[go_sem,Z,h0,Int.toNat_natCast,J,G,a6]);exact⟨⟨k+1,by omega,E⟩,by simp only[];omega,[],[],by (simp only[go_sem,yai])<;>simp⟩
 ·have Z:((k:Int)<(l.length:Int))=False:=by simp;omega
  have a7:k=l.length:=by omega
  subst a7;rw[List.drop_length] at E;try simp -dsimp only[go_sem,f125,Z,E,idxF]
def hasF (l:List Int)(v:Int):Bool:=decide (0≤idxF (fun y=>decide (v=y)) l 0)
noncomputable def zCh:Ct:=fam true (fun x:{l:List Int//l.length≤sm}×Int=>([.c (.im (.sl 1 (rowsN x.1.1))),.c (.im (.int .i64 x.2))],[])) (fun x=>.one {val:=.c (.im (.bool (hasF x.1.1 x.2)))})
theorem zCt:(zCh.sc=true)=True:=by simp[zCh,fam]
theorem zCk {l:List Int}(hl:l.length≤sm)(v:Int):zCh.run [.c (.im (.sl 1 (rowsN l))),.c (.im (.int .i64 v))] []=some (.one {val:=.c (.im (.bool (hasF l v)))}):=by
 refine zAc (ct:=zCh) rfl ?_ (⟨l,hl⟩,v);rintro ⟨⟨a,b⟩,c⟩ ⟨⟨G,F⟩,E⟩ h;simp[zAx] at h ⊢;simp[h]
theorem zEy:Law prog 56 zCh:=by
 refine zAf (zAa zFm1 zAd) hmixA func56 rfl rfl (fun ⟨⟨l,hl⟩,v⟩=>⟨zAv rfl,by simp[f56],?_⟩);simp only[hasF];try simp -dsimp only[go_sem,f56,zEb1 hl]
def kindOf (ms:List Mod)(i:Int):Int:=match ms[i.toNat]? with
 | some m=>m.kind
 | none=>0
def blocks (ms:List Mod)(out:List Int)(i:Int)(c:Cbl):Bool:=decide (c.2=i)&&(!(decide (kindOf ms c.1=4))&&!(hasF out c.1))
def hsO (i:Int)(ms:List Mod)(cs:List Cbl)(out:List Int):List (List B):=[[.t (.im (.int .i64 i))],[.t (.im (.sl 11 (rowsM ms))),.t (.im (.sl 2 (rowsC cs)))],[.t (.own 1 (tI (rowsN out)))]]
theorem zVy1 {i:Int}{ms:List Mod}{cs:List Cbl}{out:List Int}:∀c∈hsO i ms cs out,∀x∈c,MvB false x:=by
 intro c hc x hx;simp only[hsO,yac,yad,or_false] at hc;rcases hc with rfl|rfl|rfl
 ·simp at hx;subst hx;exact .t _ (.im _ (.inl rfl))
 ·simp at hx;rcases hx with rfl|rfl<;>exact .t _ (.im _ (.inl rfl))
 ·simp at hx;subst hx;exact .t _ (.own _ _ (zBv _ 1))
structure AO where
 i:Int
 ms:List Mod
 cs:List Cbl
 out:List Int
 ml:ms.length≤sm
 cl:cs.length≤sm
 ol:out.length≤sm
theorem zNh1 {a b:AO}(h:hsO a.i a.ms a.cs a.out=hsO b.i b.ms b.cs b.out):a=b:=by
 obtain ⟨i,ms,cs,out,_,_,_⟩:=a;obtain ⟨G,F,cs',E,_,_,_⟩:=b;simp[hsO,zBp,zBh] at h;obtain ⟨rfl,⟨rfl,rfl⟩,h3⟩:=h
 have:out=E:=by
  have h4:=congrArg (mapO (mapO (toI [] (fun _=>none) 0))) h3;rw[zBj,zBj] at h4;simp[zAx] at h4;exact h4
 subst this;rfl
theorem zHn1 (l:List Int):(tI (rowsN l)).take l.length=tI (rowsN l):=by rw[List.take_of_length_le];simp[zAg,zAe]
theorem zEn2 (l:List Pt):(tI (rowsZ l)).take l.length=tI (rowsZ l):=by rw[List.take_of_length_le];simp[zAg,zAb]
theorem zNx1 (l:List Cbl):(tI (rowsC l)).take l.length=tI (rowsC l):=by rw[List.take_of_length_le];simp[zAg,zAo]
theorem zVk1 {i:Int}{ms:List Mod}{cs:List Cbl}{out:List Int}{b:Bool}:OkR false {val:=.c (.im (.bool b)),places:=hsO i ms cs out}:=⟨zQi rfl,by simp,zVy1⟩
noncomputable def zMq:Ct:=fam false (fun x:{x:AO×Cbl//0≤x.2.1∧x.2.1<x.1.ms.length}=>([.agg [.im (.int .i64 x.1.2.1),.im (.int .i64 x.1.2.2)],.c (.ptr 0 0 0 0),.c (.ptr 1 0 0 0),.c (.ptr 2 0 0 0)],hsO x.1.1.i x.1.1.ms x.1.1.cs x.1.1.out))
 (fun x=>.one {val:=.c (.im (.bool (blocks x.1.1.ms x.1.1.out x.1.1.i x.1.2))),places:=hsO x.1.1.i x.1.1.ms x.1.1.cs x.1.1.out})
theorem zPw {i:Int}{ms:List Mod}{cs:List Cbl}{out:List Int}(h1:ms.length≤sm)(h2:cs.length≤sm)(h3:out.length≤sm){a b:Int}(h4:0≤a)(h5:a<ms.length):
 zMq.run [.agg [.im (.int .i64 a),.im (.int .i64 b)],.c (.ptr 0 0 0 0),.c (.ptr 1 0 0 0),.c (.ptr 2 0 0 0)] [[.t (.im (.int .i64 i))],[.t (.im (.sl 11 (rowsM ms))),.t (.im (.sl 2 (rowsC cs)))],[.t (.own 1 (tI (rowsN out)))]]=
  some (.one {val:=.c (.im (.bool (blocks ms out i (a,b)))),places:=hsO i ms cs out}):=by
 refine zAc (ct:=zMq) rfl ?_ ⟨(⟨i,ms,cs,out,h1,h2,h3⟩,(a,b)),h4,h5⟩;rintro ⟨⟨a,b⟩,c⟩ ⟨⟨G,F⟩,E⟩ h;simp only[Prod.mk.injEq,List.cons.injEq,D.agg.injEq,C.im.injEq,I.int.injEq,true_and,and_true] at h;have:=zNh1 h.2;subst this;simp[yaE,h.1]
theorem zEy1:Law prog 214 zMq:=by
 refine zAw (zAa zEy zAd) hmixA func214 rfl rfl (fun ⟨⟨⟨i,ms,cs,out,h1,h2,h3⟩,⟨a,b⟩⟩,h4,h5⟩=>⟨okO zVk1,by simp[f214],?_⟩);simp only at h4 h5;simp only[hsO];by_cases hb:b=i;rotate_left
 ·have E:=eq_false hb;clear hb;try simp -dsimp only[go_sem,f214,E,blocks,yar]
  refine zAh [] ?_;simp -dsimp only[go_sem]
 have E:=eq_true hb;clear hb;obtain ⟨n,rfl⟩:∃n:Nat,a=n:=⟨a.toNat,by omega⟩;have U:n<ms.length:=by omega
 obtain ⟨m,V⟩:∃m,ms[n]?=some m:=⟨_,List.getElem?_eq_getElem U⟩;have F:=zIp V;have Z:kindOf ms (n:Int)=m.kind:=by simp[kindOf,V]
 have h0:0≤(n:Int):=by simp
 by_cases J:m.kind=4
 ·have G:=eq_true J;clear J;try simp -dsimp only[go_sem,f214,E,blocks,Z,G,h0,F,Int.toNat_natCast,yas,yar]
  refine zAh [] ?_;simp -dsimp only[go_sem]
 ·have G:=eq_false J;clear J;try simp -dsimp only[go_sem,f214,E,blocks,Z,G,h0,F,Int.toNat_natCast,yas,zAg,zAe,zHn1,Nat.le_refl,zBj,zCt,zCk h3]
  refine zAh [.fold 2 0 0] ?_;simp -dsimp only[go_sem,zAg,zAe]
abbrev AI:={x:AO×List Cbl//x.2.length≤sm∧∀c∈x.2,0≤c.1∧c.1<x.1.ms.length}
noncomputable def zJa:Ct:=fam false (fun x:AI=>([.c (.im (.sl 2 (rowsC x.1.2))),.c (.fn (.func 214) [.ptr 0 0 0 0,.ptr 1 0 0 0,.ptr 2 0 0 0])],hsO x.1.1.i x.1.1.ms x.1.1.cs x.1.1.out))
 (fun x=>.one {val:=.c (.im (.int .i64 (idxF (blocks x.1.1.ms x.1.1.out x.1.1.i) x.1.2 0))),places:=hsO x.1.1.i x.1.1.ms x.1.1.cs x.1.1.out})
theorem zFo2:∀a b:AI,([D.c (.im (.sl 2 (rowsC a.1.2))),.c (.fn (.func 214) [.ptr 0 0 0 0,.ptr 1 0 0 0,.ptr 2 0 0 0])],hsO a.1.1.i a.1.1.ms a.1.1.cs a.1.1.out)=([D.c (.im (.sl 2 (rowsC b.1.2))),.c (.fn (.func 214) [.ptr 0 0 0 0,.ptr 1 0 0 0,.ptr 2 0 0 0])],hsO b.1.1.i b.1.1.ms b.1.1.cs b.1.1.out)→a=b:=by
 rintro ⟨⟨a,b⟩,c⟩ ⟨⟨G,F⟩,E⟩ h;simp only[Prod.mk.injEq,List.cons.injEq,D.c.injEq,C.im.injEq,I.sl.injEq,true_and,and_true,zBh] at h;have:=zNh1 h.2;subst this;simp[h.1]
theorem zOp {i:Int}{ms:List Mod}{cs ds:List Cbl}{out:List Int}(h1:ms.length≤sm)(h2:cs.length≤sm)(h3:out.length≤sm)(h4:ds.length≤sm)(h5:∀c∈ds,0≤c.1∧c.1<ms.length):
 zJa.run [.c (.im (.sl 2 (rowsC ds))),.c (.fn (.func 214) [.ptr 0 0 0 0,.ptr 1 0 0 0,.ptr 2 0 0 0])] [[.t (.im (.int .i64 i))],[.t (.im (.sl 11 (rowsM ms))),.t (.im (.sl 2 (rowsC cs)))],[.t (.own 1 (tI (rowsN out)))]]=
  some (.one {val:=.c (.im (.int .i64 (idxF (blocks ms out i) ds 0))),places:=hsO i ms cs out}):=
 zBd zFo2 ⟨(⟨i,ms,cs,out,h1,h2,h3⟩,ds),h4,h5⟩
theorem zBt2 {i:Int}{ms:List Mod}{cs:List Cbl}{out:List Int}{z:Int}:OkR false {val:=.c (.im (.int .i64 z)),places:=hsO i ms cs out}:=⟨zQi rfl,by simp,zVy1⟩
theorem zOu:Law prog 263 zJa:=by
 refine zAf (zAa zEy1 zAd) hmixA func263 rfl rfl (fun ⟨⟨⟨i,ms,cs,out,h1,h2,h3⟩,l⟩,hl,h5⟩=>⟨okO zBt2,by simp[f263],?_⟩);simp only at hl h5;simp only[hsO];have G:MvB false (.t (.own 1 (tI (rowsN out))))=True:=eq_true (.t _ (.own _ _ (zBv _ 1)));try simp -dsimp only[go_sem,f263,zAo]
 refine zAp (ι:={k:Nat//k≤l.length∧idxF (blocks ms out i) l 0=idxF (blocks ms out i) (l.drop k) k}) (fun k=>⟨[(0,some (.c (.im (.sl 2 (rowsC l))))),(1,some (.c (.fn (.func 214) [.ptr 0 0 0 0,.ptr 1 0 0 0,.ptr 2 0 0 0]))),(7,some (.c (.im (.int .i64 (l.length:Int))))),(8,some (.c (.im (.int .i64 (k.1:Int)))))],
  [(0,some (.box [.t (.im (.int .i64 i))])),(1,some (.box [.t (.im (.sl 11 (rowsM ms))),.t (.im (.sl 2 (rowsC cs)))])),(2,some (.box [.t (.own 1 (tI (rowsN out)))]))],3⟩) (fun k=>l.length-k.1) ⟨0,by simp⟩ ⟨[],[],by ((simp only[go_sem,G])<;>(try (simp -dsimp only[go_sem,yaj,yai,G])))<;>simp[]⟩ (fun ⟨k,hk,E⟩=>?_)
 by_cases U:k<l.length
 ·obtain ⟨p,hp⟩:∃p,l[k]?=some p:=⟨_,List.getElem?_eq_getElem U⟩;have J:=zIq hp;have Z:((k:Int)<(l.length:Int))=True:=by simp;omega
  have h0:0≤(k:Int):=by simp
  have F:=zJw (f:=blocks ms out i) hp;have a8:=zDh hl U;obtain ⟨q1,q2⟩:=h5 p (List.mem_of_getElem? hp);obtain ⟨a,b⟩:=p;simp only at q1 q2
  cases V:blocks ms out i (a,b) with
  | true=>
   simp only[V,yav] at F;rw[F] at E;clear F;try simp -dsimp only[go_sem,f263,Z,h0,Int.toNat_natCast,J,zPw h1 h2 h3 q1 q2,G,V,E,hsO]
  | false=>
   simp only[V,yau,yat] at F;rw[F] at E;clear F;(try simp -dsimp only[go_sem,Z,h0,Int.toNat_natCast,J,zPw h1 h2 h3 q1 q2,G,V,a8,hsO]);exact⟨⟨k+1,by omega,E⟩,by simp only[];omega,[],[],by (simp only[go_sem,G])<;>simp[G]⟩
 ·have Z:((k:Int)<(l.length:Int))=False:=by simp;omega
  have b1:k=l.length:=by omega
  subst b1;rw[List.drop_length] at E;try simp -dsimp only[go_sem,f263,Z,E,idxF]
def anyF (ms:List Mod)(out:List Int)(i:Int)(cs:List Cbl):Bool:=decide (0≤idxF (blocks ms out i) cs 0)
noncomputable def zGy:Ct:=fam false (fun x:AI=>([.c (.im (.sl 2 (rowsC x.1.2))),.c (.fn (.func 214) [.ptr 0 0 0 0,.ptr 1 0 0 0,.ptr 2 0 0 0])],hsO x.1.1.i x.1.1.ms x.1.1.cs x.1.1.out))
 (fun x=>.one {val:=.c (.im (.bool (anyF x.1.1.ms x.1.1.out x.1.1.i x.1.2))),places:=hsO x.1.1.i x.1.1.ms x.1.1.cs x.1.1.out})
theorem zLp {i:Int}{ms:List Mod}{cs ds:List Cbl}{out:List Int}(h1:ms.length≤sm)(h2:cs.length≤sm)(h3:out.length≤sm)(h4:ds.length≤sm)(h5:∀c∈ds,0≤c.1∧c.1<ms.length):
 zGy.run [.c (.im (.sl 2 (rowsC ds))),.c (.fn (.func 214) [.ptr 0 0 0 0,.ptr 1 0 0 0,.ptr 2 0 0 0])] [[.t (.im (.int .i64 i))],[.t (.im (.sl 11 (rowsM ms))),.t (.im (.sl 2 (rowsC cs)))],[.t (.own 1 (tI (rowsN out)))]]=
  some (.one {val:=.c (.im (.bool (anyF ms out i ds))),places:=hsO i ms cs out}):=
 zBd zFo2 ⟨(⟨i,ms,cs,out,h1,h2,h3⟩,ds),h4,h5⟩
theorem zLq:Law prog 213 zGy:=by
 refine zAf (zAa zOu zAd) hmixA func213 rfl rfl (fun ⟨⟨⟨i,ms,cs,out,h1,h2,h3⟩,l⟩,hl,F⟩=>⟨okO zVk1,by simp[f213],?_⟩);simp only at hl F;simp only[hsO,anyF];have E:MvB false (.t (.own 1 (tI (rowsN out))))=True:=eq_true (.t _ (.own _ _ (zBv _ 1)));try simp -dsimp only[go_sem,f213,zOp h1 h2 h3 hl F,E,hsO]
def hsR (ms:List Mod)(cs:List Cbl)(out:List Int):List (List B):=[[.t (.own 1 (tI (rowsN out)))],[.t (.im (.sl 11 (rowsM ms))),.t (.im (.sl 2 (rowsC cs)))]]
def readyF (ms:List Mod)(cs:List Cbl)(out:List Int)(i:Int):Bool:=!(hasF out i)&&!(anyF ms out i cs)
abbrev AR:={x:AO//∀c∈x.cs,0≤c.1∧c.1<x.ms.length}
noncomputable def zSt:Ct:=fam false (fun x:AR=>([.c (.im (.int .i64 x.1.i)),.c (.ptr 0 0 0 0),.c (.ptr 1 0 0 0)],hsR x.1.ms x.1.cs x.1.out))
 (fun x=>.one {val:=.c (.im (.bool (readyF x.1.ms x.1.cs x.1.out x.1.i))),places:=hsR x.1.ms x.1.cs x.1.out})
theorem zVu {i:Int}{ms:List Mod}{cs:List Cbl}{out:List Int}(h1:ms.length≤sm)(h2:cs.length≤sm)(h3:out.length≤sm)(h5:∀c∈cs,0≤c.1∧c.1<ms.length):
 zSt.run [.c (.im (.int .i64 i)),.c (.ptr 0 0 0 0),.c (.ptr 1 0 0 0)] [[.t (.own 1 (tI (rowsN out)))],[.t (.im (.sl 11 (rowsM ms))),.t (.im (.sl 2 (rowsC cs)))]]=
  some (.one {val:=.c (.im (.bool (readyF ms cs out i))),places:=hsR ms cs out}):=by
 refine zAc (ct:=zSt) rfl ?_ ⟨⟨i,ms,cs,out,h1,h2,h3⟩,h5⟩;rintro ⟨a,c⟩ ⟨E,F⟩ h;simp only[Prod.mk.injEq,List.cons.injEq,D.c.injEq,C.im.injEq,I.int.injEq,true_and,and_true] at h;have:a=E:=zNh1 (by have h2:=h.2;simp only[hsR,List.cons.injEq,and_true] at h2;simp only[hsO];rw[h.1,h2.1,h2.2.1,h2.2.2]);exact Subtype.ext this
theorem zHr2 {ms:List Mod}{cs:List Cbl}{out:List Int}{b:Bool}:OkR false {val:=.c (.im (.bool b)),places:=hsR ms cs out}:=by
 refine⟨zQi rfl,by simp,fun c hc x hx=>?_⟩;simp only[hsR,yac,yad,or_false] at hc;rcases hc with rfl|rfl
 ·simp at hx;subst hx;exact .t _ (.own _ _ (zBv _ 1))
 ·simp at hx;rcases hx with rfl|rfl<;>exact .t _ (.im _ (.inl rfl))
theorem zMq1:Law prog 212 zSt:=by
 refine zAw (zAa zLq (zAa zEy zAd)) hmixA func212 rfl rfl (fun ⟨⟨i,ms,cs,out,h1,h2,h3⟩,G⟩=>⟨okO zHr2,by simp[f212],?_⟩);simp only at G;simp only[hsR];have E:MvB false (.t (.own 1 (tI (rowsN out))))=True:=eq_true (.t _ (.own _ _ (zBv _ 1)))
 cases F:hasF out i with
 | true=>
  try simp -dsimp only[go_sem,f212,zAg,zAe,zHn1,zBj,zCt,zCk h3,F,readyF,yar]
  refine zAh [.fold 0 0 0] ?_;simp -dsimp only[go_sem,zAg,zAe]
 | false=>
  try simp -dsimp only[go_sem,f212,zAg,zAe,zHn1,zBj,zCt,zCk h3,F,zLp h1 h2 h3 h2 G,E,hsO,readyF,yas]
  refine zAh [] ?_;simp -dsimp only[go_sem]
def readyIdx (ms:List Mod)(cs:List Cbl)(out:List Int):Nat→Nat→Nat
 | 0,i=>i
 | f+1,i=>if readyF ms cs out i=true then i else readyIdx ms cs out f (i+1)
def orderGo (ms:List Mod)(cs:List Cbl):Nat→List Int→Option (List Int)
 | 0,out=>some out
 | f+1,out=>if readyIdx ms cs out ms.length 0=ms.length then none else orderGo ms cs f (out++[(readyIdx ms cs out ms.length 0:Int)])
def orderF (ms:List Mod)(cs:List Cbl):Option (List Int):=orderGo ms cs ms.length []
theorem zOq (ms:List Mod)(cs:List Cbl)(out:List Int):∀f i,readyIdx ms cs out f i≤i+f
 | 0,i=>Nat.le_refl _
 | f+1,i=>by
  simp only[readyIdx];split
  ·omega
  ·have:=zOq ms cs out f (i+1);omega
def oOrder:Option (List Int)→Outs
 | some l=>.one {val:=.tup [.c (.view 0 1 0 l.length),.c (.im (.bool true))],roots:=[.arr 1 (tI (rowsN l))]}
 | none=>.one {val:=.tup [.c .nil,.c (.im (.bool false))]}
theorem zXd {sc:Bool}(o:Option (List Int)):∀res,(oOrder o).mem res→OkR sc res:=by
 cases o with
 | none=>exact okO ⟨.tup _ (by intro d hd;simp at hd;rcases hd with rfl|rfl;exact .inl ⟨_,rfl,.nil⟩;exact .inl ⟨_,rfl,zBr rfl⟩),by simp,by simp⟩
 | some l=>exact okO ⟨.tup _ (by intro d hd;simp at hd;rcases hd with rfl|rfl;exact .inl ⟨_,rfl,.view _ _ _ _ (by simp)⟩;exact .inl ⟨_,rfl,zBr rfl⟩),by intro r hr;simp at hr;subst hr;exact zDg (zEw _),by simp⟩
structure ARk where
 ms:List Mod
 cs:List Cbl
 ml:ms.length≤16
 cl:cs.length≤sm
 ok:∀c∈cs,0≤c.1∧c.1<ms.length
noncomputable def zNx:Ct:=fam true (fun x:ARk=>([.agg [.im (.sl 11 (rowsM x.ms)),.im (.sl 2 (rowsC x.cs))]],[])) (fun x=>oOrder (orderF x.ms x.cs))
theorem zHr {ms:List Mod}{cs:List Cbl}(h1:ms.length≤16)(h2:cs.length≤sm)(h5:∀c∈cs,0≤c.1∧c.1<ms.length):zNx.run [.agg [.im (.sl 11 (rowsM ms)),.im (.sl 2 (rowsC cs))]] []=some (oOrder (orderF ms cs)):=by
 refine zAc (ct:=zNx) rfl ?_ ⟨ms,cs,h1,h2,h5⟩;rintro ⟨a,b,_,_,_⟩ ⟨F,E,_,_,_⟩ h;simp[zBp,zBh] at h ⊢;exact h
theorem zUr:(zNx.sc=true)=True:=by simp[zNx,fam]
theorem zRm (l:List Int)(i:Int):tI (rowsN l)++[[T.im (.int .i64 i)]]=tI (rowsN (l++[i])):=by simp[tI,rowsN]
theorem zXt:Law prog 152 zNx:=by
 refine zAw (zAa zMq1 zAd) hmixA func152 rfl rfl (fun ⟨ms,cs,h1,h2,h5⟩=>⟨zXd _,by simp[f152],?_⟩);have b2:sm=16777216:=rfl;have U:ms.length≤sm:=by omega
 simp only[orderF];try simp -dsimp only[go_sem,f152]
 refine zAp (ι:={x:List Int//x.length≤ms.length∧orderGo ms cs ms.length []=orderGo ms cs (ms.length-x.length) x}) (fun x=>⟨[(1,some (.c (.ptr 0 0 0 0))),(4,some (.c (.ptr 2 0 0 0))),(5,some (.c (.fn (.func 212) [.ptr 2 0 0 0,.ptr 0 0 0 0])))],
  [(0,some (.box [.t (.im (.sl 11 (rowsM ms))),.t (.im (.sl 2 (rowsC cs)))])),(2,some (.box [.t (.own 1 (tI (rowsN x.1)))]))],3⟩) (fun x=>ms.length-x.1.length) ⟨[],by simp⟩ ⟨[.fold 2 0 0],[],by (simp only[go_sem,yai,tI,rowsN])<;>simp[lk,zAn]⟩ (fun ⟨out,hk,E⟩=>?_)
 have G:MvB false (.t (.own 1 (tI (rowsN out))))=True:=eq_true (.t _ (.own _ _ (zBv _ 1)));have h3:out.length≤sm:=by omega
 by_cases b3:out.length<ms.length;rotate_left
 ·have hI:((out.length:Int)<(ms.length:Int))=False:=by simp;omega
  rw[show ms.length-out.length=0 by omega] at E;simp only[orderGo] at E;try simp -dsimp only[go_sem,f152,hI,zAg,zAe,zAj,E,oOrder]
  refine zAh [] ?_;simp -dsimp only[go_sem];refine⟨[_],?_,?_,?_,rfl⟩<;>simp[rtOk]
 have hI:((out.length:Int)<(ms.length:Int))=True:=by simp;omega
 try simp -dsimp only[go_sem,hI,zAg,zAe,zAj]
 refine zAp (ι:={i:Nat//i≤ms.length∧readyIdx ms cs out ms.length 0=readyIdx ms cs out (ms.length-i) i}) (fun i=>⟨[(1,some (.c (.ptr 0 0 0 0))),(4,some (.c (.ptr 2 0 0 0))),(5,some (.c (.fn (.func 212) [.ptr 2 0 0 0,.ptr 0 0 0 0]))),(6,some (.c (.im (.int .i64 (i.1:Int)))))],
  [(0,some (.box [.t (.im (.sl 11 (rowsM ms))),.t (.im (.sl 2 (rowsC cs)))])),(2,some (.box [.t (.own 1 (tI (rowsN out)))]))],3⟩) (fun i=>ms.length-i.1) ⟨0,by simp⟩ ⟨[.fold 2 0 0],[],by ((simp only[go_sem,yai,zAg,zAe,G])<;>(try (simp -dsimp only[go_sem,yaj,yai,zAg,zAe,G])))<;>simp[]⟩ (fun ⟨i,hi,F⟩=>?_)
 rw[show ms.length-out.length=(ms.length- (out.length+1))+1 by omega] at E;simp only[orderGo] at E;by_cases a6:i<ms.length
 ·have J:((i:Int)<(ms.length:Int))=True:=by simp;omega
  have a8:((i:Int)=(ms.length:Int))=False:=eq_false (by omega);have Z:=zDh U a6;rw[show ms.length-i=(ms.length- (i+1))+1 by omega] at F;simp only[readyIdx] at F
  cases hr:readyF ms cs out (i:Int) with
  | false=>
   simp only[hr,yat,yau] at F;clear E;(try simp -dsimp only[go_sem,J,Z,zVu U h2 h3 h5,hr,hsR,G,zAj]);exact⟨⟨i+1,by omega,F⟩,by simp only[];omega,[],[],by (simp only[go_sem,yai,G])<;>simp[lk,zAn,G]⟩
  | true=>
   simp only[hr,yav] at F;rw[F,if_neg (by omega)] at E;have hb:((out++[(i:Int)]).length*8≤140737488355328)=True:=zEb (by simp;omega) (by decide);have V:MvB false (.t (.own 1 (tI (rowsN (out++[(i:Int)])))))=True:=eq_true (.t _ (.own _ _ (zBv _ 1)));(try simp -dsimp only[go_sem,J,a8,zVu U h2 h3 h5,hr,hsR,G,hb,zAj,zAg,zAe,appendH,srcRows,List.take_succ_cons,yan,yao,yap,okT,yaq,zRm]);exact⟨⟨out++[(i:Int)],by simp;omega,by rw[List.length_append];exact E⟩,by simp only[yaw,yab,List.length_nil];omega,[.fold 2 0 0],[],by (simp only[go_sem,yai,V,zAg,zAe])<;>simp[lk,zAn,V]⟩
 ·have J:((i:Int)<(ms.length:Int))=False:=by simp;omega
  have a7:i=ms.length:=by omega
  subst a7;rw[Nat.sub_self] at F;simp only[readyIdx] at F;rw[if_pos F] at E;try simp -dsimp only[go_sem,f152,J,zAj,E,oOrder]
  refine zAh [] ?_;simp -dsimp only[go_sem]
def cabF (n:Nat)(c:Cbl):Bool:=decide (0≤c.1)&&(decide (c.1<n)&&(decide (0≤c.2)&&decide (c.2<n)))
def isRackF (ms:List Mod)(cs:List Cbl):Bool:=decide (ms.length≤16)&&(decide (cs.length≤40)&&(ms.all isModuleF&&(cs.all (cabF ms.length)&&(orderF ms cs).isSome)))
theorem zVb {α:Type}{f:α→Bool}{l:List α}{k:Nat}{p:α}(h:l[k]?=some p):(l.drop k).all f=(f p&&(l.drop (k+1)).all f):=by
 have E:k<l.length:=(List.getElem?_eq_some_iff.1 h).1;have F:l[k]=p:=by rw[List.getElem?_eq_getElem E] at h;injection h
 rw[List.drop_eq_getElem_cons E,F,List.all_cons]
structure ARo where
 ms:List Mod
 cs:List Cbl
 ml:ms.length≤sm
 cl:cs.length≤sm
 ok:∀m∈ms,OkM m
noncomputable def zZu:Ct:=fam true (fun x:ARo=>([.agg [.im (.sl 11 (rowsM x.ms)),.im (.sl 2 (rowsC x.cs))]],[])) (fun x=>.one {val:=.c (.im (.bool (isRackF x.ms x.cs)))})
theorem zBi {ms:List Mod}{cs:List Cbl}(h1:ms.length≤sm)(h2:cs.length≤sm)(h5:∀m∈ms,OkM m):zZu.run [.agg [.im (.sl 11 (rowsM ms)),.im (.sl 2 (rowsC cs))]] []=some (.one {val:=.c (.im (.bool (isRackF ms cs)))}):=by
 refine zAc (ct:=zZu) rfl ?_ ⟨ms,cs,h1,h2,h5⟩;rintro ⟨a,b,_,_,_⟩ ⟨F,E,_,_,_⟩ h;simp[zBp,zBh] at h ⊢;exact h
theorem zZk1 (m:Mod):(⟨m.kind,(m.turn.1,m.turn.2),(m.state.1,m.state.2),m.level,m.store,m.rat,m.rcnt,m.pts,m.lab,m.count,m.left⟩:Mod)=m:=rfl
theorem zCs:Law prog 79 zZu:=by
 refine zAf (zAa zFh (zAa zXt zAd)) hmixA func79 rfl rfl (fun ⟨ms,cs,h1,h2,h5⟩=>⟨zAv rfl,by simp[f79],?_⟩);by_cases hm:ms.length≤16;rotate_left
 ·have e1:((16:Int)<(ms.length:Int))=True:=by simp;omega
  have hF:isRackF ms cs=false:=by simp only[isRackF,decide_eq_false hm,yar]
  clear hm;try simp -dsimp only[go_sem,f79,zAj,e1,hF]
 have e1:((16:Int)<(ms.length:Int))=False:=by simp;omega
 by_cases hc:cs.length≤40;rotate_left
 ·have e2:((40:Int)<(cs.length:Int))=True:=by simp;omega
  have hF:isRackF ms cs=false:=by simp only[isRackF,decide_eq_false hc,yar,yaN]
  clear hc;try simp -dsimp only[go_sem,f79,zAj,zAo,e1,e2,hF]
 have e2:((40:Int)<(cs.length:Int))=False:=by simp;omega
 have hF:isRackF ms cs=(ms.all isModuleF&&(cs.all (cabF ms.length)&&(orderF ms cs).isSome)):=by simp only[isRackF,decide_eq_true hm,decide_eq_true hc,yas]
 rw[hF];clear hF;try simp -dsimp only[go_sem,f79,zAj,zAo,e1,e2]
 refine zAp (ι:={k:Nat//k≤ms.length∧ms.all isModuleF=(ms.drop k).all isModuleF}) (fun k=>⟨[(1,some (.c (.ptr 0 0 0 0))),(20,some (.c (.im (.sl 11 (rowsM ms))))),(21,some (.c (.im (.int .i64 (ms.length:Int))))),(22,some (.c (.im (.int .i64 (k.1:Int)))))],
  [(0,some (.box [.t (.im (.sl 11 (rowsM ms))),.t (.im (.sl 2 (rowsC cs)))]))],1⟩) (fun k=>ms.length-k.1) ⟨0,by simp⟩ ⟨[],[],by ((simp only[go_sem,yai])<;>(try (simp -dsimp only[go_sem,yaj,yai])))<;>simp[]⟩ (fun ⟨k,hk,F⟩=>?_)
 by_cases V:k<ms.length
 ·obtain ⟨m,hp⟩:∃p,ms[k]?=some p:=⟨_,List.getElem?_eq_getElem V⟩;have G:=zIp hp;have Z:((k:Int)<(ms.length:Int))=True:=by simp;omega
  have h0:0≤(k:Int):=by simp
  have J:=zVb (f:=isModuleF) hp;have b1:=zDh h1 V;obtain ⟨q1,q2,q3⟩:=h5 m (List.mem_of_getElem? hp);rw[J] at F;clear J
  cases hq:isModuleF m with
  | false=>
   simp only[hq,yar] at F;try simp -dsimp only[go_sem,f79,Z,h0,Int.toNat_natCast,G,zBk q1 q2 q3,zZk1,hq,F,yar]
  | true=>
   simp only[hq,yas] at F;(try simp -dsimp only[go_sem,Z,h0,Int.toNat_natCast,G,zBk q1 q2 q3,zZk1,hq,b1]);exact⟨⟨k+1,by omega,F⟩,by simp only[];omega,[],[],by (simp only[go_sem,yai])<;>simp[lk,zAn]⟩
 have Z:((k:Int)<(ms.length:Int))=False:=by simp;omega
 have b2:k=ms.length:=by omega
 subst b2;rw[List.drop_length,List.all_nil] at F;clear V;try simp -dsimp only[go_sem,Z,zAo]
 refine zAp (ι:={k:Nat//k≤cs.length∧cs.all (cabF ms.length)=(cs.drop k).all (cabF ms.length)}) (fun k=>⟨[(1,some (.c (.ptr 0 0 0 0))),(31,some (.c (.im (.sl 2 (rowsC cs))))),(32,some (.c (.im (.int .i64 (cs.length:Int))))),(33,some (.c (.im (.int .i64 (k.1:Int)))))],
  [(0,some (.box [.t (.im (.sl 11 (rowsM ms))),.t (.im (.sl 2 (rowsC cs)))]))],1⟩) (fun k=>cs.length-k.1) ⟨0,by simp⟩ ⟨[],[],by ((simp only[go_sem,yai])<;>(try (simp -dsimp only[go_sem,yaj,yai])))<;>simp[]⟩ (fun ⟨k,hk,E⟩=>?_)
 by_cases V:k<cs.length
 ·obtain ⟨⟨a,b⟩,hp⟩:∃p,cs[k]?=some p:=⟨_,List.getElem?_eq_getElem V⟩;have G:=zIq hp;have Z:((k:Int)<(cs.length:Int))=True:=by simp;omega
  have h0:0≤(k:Int):=by simp
  have J:=zVb (f:=cabF ms.length) hp;have b1:=zDh h2 V;rw[J] at E;clear J;by_cases hq:0≤a∧a<ms.length∧0≤b∧b<ms.length
  ·obtain ⟨k1,k2,k3,k4⟩:=hq;have g1:¬(a<0):=(by omega);have g2:¬((ms.length:Int)≤a):=(by omega);have g3:¬(b<0):=(by omega);have g4:¬((ms.length:Int)≤b):=(by omega);have U:cabF ms.length (a,b)=true:=(by simp[cabF,k1,k2,k3,k4]);rw[U,Bool.true_and] at E;clear k1 k2 k3 k4 U;(try simp -dsimp only[go_sem,Z,h0,Int.toNat_natCast,G,zAj,g1,g2,g3,g4,b1]);exact⟨⟨k+1,by omega,E⟩,by simp only[];omega,[],[],by (simp only[go_sem,yai])<;>simp[lk,zAn]⟩
  ·have U:cabF ms.length (a,b)=false:=by
    cases b6:cabF ms.length (a,b) with
    | false=>rfl
    | true=>simp[cabF] at b6;exact absurd b6 hq
   rw[U,Bool.false_and] at E;clear U;by_cases p1:a<0
   ·have e1:=eq_true p1;clear p1;try simp -dsimp only[go_sem,f79,Z,h0,Int.toNat_natCast,G,F,E,yas,yar,e1]
   have e1:=eq_false p1;by_cases p2:(ms.length:Int)≤a
   ·have e2:=eq_true p2;clear p2;try simp -dsimp only[go_sem,f79,Z,h0,Int.toNat_natCast,G,zAj,F,E,yas,yar,e1,e2]
   have e2:=eq_false p2;by_cases p3:b<0
   ·have e3:=eq_true p3;clear p3;try simp -dsimp only[go_sem,f79,Z,h0,Int.toNat_natCast,G,zAj,F,E,yas,yar,e1,e2,e3]
   have e3:=eq_false p3;by_cases p4:(ms.length:Int)≤b
   ·have e4:=eq_true p4;clear p4;try simp -dsimp only[go_sem,f79,Z,h0,Int.toNat_natCast,G,zAj,F,E,yas,yar,e1,e2,e3,e4]
   have e4:=eq_false p4
   exfalso;apply hq;omega
 have b7:((k:Int)<(cs.length:Int))=False:=by simp;omega
 have b2:k=cs.length:=by omega
 subst b2;rw[List.drop_length,List.all_nil] at E
 have h6:∀c∈cs,0≤c.1∧c.1<ms.length:=by
  intro c c7;have:=List.all_eq_true.1 E c c7;simp[cabF] at this;exact⟨this.1,this.2.1⟩
 cases ho:orderF ms cs with
 | none=> try simp -dsimp only[go_sem,f79,b7,zUr,zHr hm h2 h6,ho,oOrder,F,E,yas,Option.isSome_none]
 | some l=> try simp -dsimp only[go_sem,f79,b7,zUr,zHr hm h2 h6,ho,oOrder,F,E,yas]
def feedsF (cs:List Cbl)(i:Int):List Int:=(cs.filter fun c=>decide (c.2=i)).map (·.1)
theorem zUy (cs:List Cbl)(i:Int):(feedsF cs i).length≤cs.length:=by simp[feedsF,List.length_filter_le]
theorem zCy {α:Type}{l:List α}{k:Nat}{p:α}(h:l[k]?=some p):l.take (k+1)=l.take k++[p]:=by
 have E:k<l.length:=(List.getElem?_eq_some_iff.1 h).1;have F:l[k]=p:=by rw[List.getElem?_eq_getElem E] at h;injection h
 rw[List.take_succ_eq_append_getElem E,F]
theorem zKj1 {cs:List Cbl}{k:Nat}{a b i:Int}(h:cs[k]?=some (a,b))(hb:b=i):feedsF (cs.take (k+1)) i=feedsF (cs.take k) i++[a]:=by rw[zCy h];simp[feedsF,hb]
theorem zKk1 {cs:List Cbl}{k:Nat}{a b i:Int}(h:cs[k]?=some (a,b))(hb:¬b=i):feedsF (cs.take (k+1)) i=feedsF (cs.take k) i:=by rw[zCy h];simp[feedsF,hb]
noncomputable def zRd:Ct:=fam true (fun x:{x:List Mod×List Cbl//x.2.length≤sm}×Int=>([.agg [.im (.sl 11 (rowsM x.1.1.1)),.im (.sl 2 (rowsC x.1.1.2))],.c (.im (.int .i64 x.2))],[])) (fun x=>.one (rNew 1 (rowsN (feedsF x.1.1.2 x.2))))
theorem zIm1 {ms:List Mod}{cs:List Cbl}(h2:cs.length≤sm)(i:Int):zRd.run [.agg [.im (.sl 11 (rowsM ms)),.im (.sl 2 (rowsC cs))],.c (.im (.int .i64 i))] []=some (.one (rNew 1 (rowsN (feedsF cs i)))):=by
 refine zAc (ct:=zRd) rfl ?_ (⟨(ms,cs),h2⟩,i);rintro ⟨⟨⟨a,b⟩,_⟩,c⟩ ⟨⟨⟨G,F⟩,_⟩,E⟩ h;simp[zBp,zBh] at h ⊢;simp[h]
theorem zOf1:(zRd.sc=true)=True:=by simp[zRd,fam]
theorem zJt1:Law prog 232 zRd:=by
 refine zAf zAd hmixA func232 rfl rfl (fun ⟨⟨⟨ms,cs⟩,h2⟩,i⟩=>⟨okO (zSc (zEw _)),by simp[f232],?_⟩);simp only at h2;simp only[rNew];try simp -dsimp only[go_sem,f232,zAo]
 refine zAp (ι:={k:Nat//k≤cs.length}) (fun k=>⟨[(1,some (.c (.im (.int .i64 i)))),(5,some (.c (.view 1 1 0 (feedsF (cs.take k.1) i).length))),(10,some (.c (.im (.sl 2 (rowsC cs))))),(11,some (.c (.im (.int .i64 (cs.length:Int))))),(12,some (.c (.im (.int .i64 (k.1:Int)))))],
  [(1,some (.arr 1 (tI (rowsN (feedsF (cs.take k.1) i)))))],2⟩) (fun k=>cs.length-k.1) ⟨0,by simp⟩ ⟨[],[],by ((simp only[go_sem,yai,tI,rowsN,feedsF,yan,List.filter_nil])<;>(try (simp -dsimp only[go_sem,yaj,yai,tI,rowsN,feedsF,yan,List.filter_nil])))<;>simp[]⟩ (fun ⟨k,hk⟩=>?_)
 have a8:(feedsF (cs.take k) i).length≤k:=Nat.le_trans (zUy _ _) (List.length_take_le _ _);by_cases J:k<cs.length
 ·obtain ⟨⟨a,b⟩,V⟩:∃p,cs[k]?=some p:=⟨_,List.getElem?_eq_getElem J⟩;have E:=zIq V;have U:((k:Int)<(cs.length:Int))=True:=by simp;omega
  have h0:0≤(k:Int):=by simp
  have G:=zDh h2 J;by_cases hb:b=i
  ·have hf:=zKj1 V hb;have F:=eq_true hb;clear hb;have a6:((feedsF (cs.take k) i++[a]).length*8≤140737488355328)=True:=zEb (by simp;omega) (by decide);(try simp -dsimp only[go_sem,U,h0,Int.toNat_natCast,E,F,G,a6,zAg,zAe,appendH,srcRows,List.take_succ_cons,yan,yao,yap,okT,yaq,zRm]);exact⟨⟨k+1,by omega⟩,by simp only[];omega,[],[4],by (simp only[go_sem,yai,hf])<;>simp[lk,zAn]⟩
  ·have hf:=zKk1 V hb;have F:=eq_false hb;clear hb;(try simp -dsimp only[go_sem,U,h0,Int.toNat_natCast,E,F,G]);exact⟨⟨k+1,by omega⟩,by simp only[];omega,[],[],by (simp only[go_sem,yai,hf])<;>simp[lk,zAn]⟩
 have U:((k:Int)<(cs.length:Int))=False:=by simp;omega
 have Z:k=cs.length:=by omega
 subst Z;rw[List.take_length];try simp -dsimp only[go_sem,f232,U,zAe]
 refine⟨[_],?_,?_,?_,rfl⟩<;>simp[rtOk]
def tM (ms:List Mod):List (List T):=ms.map modT
theorem zFd (ms:List Mod):(tM ms).length=ms.length:=by simp[tM]
theorem zCi2 (ms:List Mod){sz:Nat}:lentR (.arr sz (tM ms))=[]:=by
 simp only[lentR,tM,List.flatMap_eq_nil_iff,List.mem_map];rintro r ⟨m,_,rfl⟩ t E;simp only[modT,yac,yad,or_false] at E;rcases E with rfl|rfl|rfl|rfl|rfl|rfl|rfl|rfl|rfl|rfl|rfl<;>rfl
attribute [go_sem] zCi2
theorem zQk {sc:Bool}{sz:Nat}{rows:List (List I)}(h:∀r∈rows,∀i∈r,scI i=true):Mv sc (.own sz (tI rows)):=.own _ _ (zDg (sz:=sz) h)
theorem zIg2 {sc:Bool}(m:Mod):∀t∈modT m,Mv sc t:=by
 intro t E;simp only[modT,yac,yad,or_false] at E;rcases E with rfl|rfl|rfl|rfl|rfl|rfl|rfl|rfl|rfl|rfl|rfl<;>first|exact .im _ (.inr rfl)|exact zQk (zCz _)|exact zQk (zEw _)
theorem zOg {sc:Bool}{sz:Nat}(ms:List Mod):MvR sc (.arr sz (tM ms)):=by
 intro r hr t ht;simp only[tM,List.mem_map] at hr;obtain ⟨m,_,rfl⟩:=hr;exact zIg2 m t ht
theorem zTh1 (ms:List Mod):MvB false (.t (.own 11 (tM ms)))=True:=eq_true (.t _ (.own _ _ (zOg (sz:=11) ms)))
theorem zTi1 (cs:List Cbl):MvB false (.t (.own 2 (tI (rowsC cs))))=True:=eq_true (.t _ (zQk (zIm _)))
def rRack (ms:List Mod)(cs:List Cbl):Res:={val:=.agg [.view 0 11 0 ms.length,.view 1 2 0 cs.length],roots:=[.arr 11 (tM ms),.arr 2 (tI (rowsC cs))]}
theorem zBp2 {sc:Bool}{ms:List Mod}{cs:List Cbl}:OkR sc (rRack ms cs):=by
 refine⟨.agg _ (fun x hx=>?_),fun r hr=>?_,by simp[rRack]⟩
 ·simp[rRack] at hx ⊢;rcases hx with rfl|rfl<;>exact .view _ _ _ _ (by simp)
 ·simp[rRack] at hr;rcases hr with rfl|rfl
  ·exact zOg _
  ·exact zDg (zIm _)
noncomputable def zPg:Ct:=fam true (fun x:ARo=>([.agg [.im (.sl 11 (rowsM x.ms)),.im (.sl 2 (rowsC x.cs))]],[])) (fun x=>.one (rRack x.ms x.cs))
theorem zIo {ms:List Mod}{cs:List Cbl}(h1:ms.length≤sm)(h2:cs.length≤sm)(h5:∀m∈ms,OkM m):zPg.run [.agg [.im (.sl 11 (rowsM ms)),.im (.sl 2 (rowsC cs))]] []=some (.one (rRack ms cs)):=by
 refine zAc (ct:=zPg) rfl ?_ ⟨ms,cs,h1,h2,h5⟩;rintro ⟨a,b,_,_,_⟩ ⟨F,E,_,_,_⟩ h;simp[zBp,zBh] at h ⊢;exact h
theorem zLb1 {n k:Nat}(h:n≤sm+1)(hk:k≤4096):(n*k≤140737488355328)=True:=by
 have:sm=16777216:=rfl;simp only[eq_iff_iff,iff_true]
 calc n*k≤16777217*4096:=Nat.mul_le_mul (by omega) hk
   _≤_:=by decide
theorem zMl2 {α:Type}{l:List α}{k:Nat}(h:l.length=k)(a:α):(l++[a])[k]?=some a:=by subst h;simp
theorem zJh2 {α:Type}{l:List α}{k:Nat}(h:l.length=k)(a b:α):(l++[a]).set k b=l++[b]:=by subst h;simp
theorem zJi2 {α:Type}{l:List α}{k:Nat}(h:l.length=k)(a:α):(l++[a]).length=k+1:=by subst h;simp
theorem zIv:Law prog 157 zPg:=by
 refine zAf (zAa zJe (zAa zYl zAd)) hmixA func157 rfl rfl (fun ⟨ms,cs,h1,h2,h5⟩=>⟨okO zBp2,by simp[f157],?_⟩);simp only[rRack];try simp -dsimp only[go_sem,f157,zAj,zAo,zWn h2,rNew]
 by_cases hz:ms.length=0
 ·refine zAp (ι:=Unit) (fun _=>⟨[(2,some (.c (.ptr 1 0 0 0))),(3,some (.c (.ptr 3 0 0 0))),(11,some (.c (.im (.sl 11 (rowsM ms))))),(12,some (.c (.im (.int .i64 (ms.length:Int))))),(13,some (.c (.im (.int .i64 (0:Int)))))],
   [(1,some (.box [.t .nil,.t .nil])),(3,some (.box [.t (.own 11 []),.t (.lent 2 2 cs.length)])),(2,some (.arr 2 (tI (rowsC cs))))],4⟩) (fun _=>0) () ⟨[.nilT 3 0 0 11],[],by (simp only[go_sem,yai,forall_eq_or_imp,forall_eq])<;>simp[lk,zAn]⟩ (fun _=>?_)
  have hI:(((0:Int))<(ms.length:Int))=False:=by rw[hz];simp
  have b3:ms=[]:=List.eq_nil_of_length_eq_zero hz;try simp -dsimp only[go_sem,f157,hI]
  refine⟨[4,2],?_,?_,?_,by rw[hz];rfl,rfl⟩<;>simp[rtOk,b3,tM]
 refine zAp (ι:={k:Nat//k≤ms.length}) (fun k=>match k with
  | ⟨0,_⟩=>⟨[(2,some (.c (.ptr 1 0 0 0))),(3,some (.c (.ptr 3 0 0 0))),(11,some (.c (.im (.sl 11 (rowsM ms))))),(12,some (.c (.im (.int .i64 (ms.length:Int))))),(13,some (.c (.im (.int .i64 0))))],
   [(1,some (.box [.t .nil,.t .nil])),(3,some (.box [.t .nil,.t (.lent 2 2 cs.length)])),(2,some (.arr 2 (tI (rowsC cs))))],4⟩
  | ⟨k+1,_⟩=>⟨[(2,some (.c (.ptr 1 0 0 0))),(3,some (.c (.ptr 3 0 0 0))),(11,some (.c (.im (.sl 11 (rowsM ms))))),(12,some (.c (.im (.int .i64 (ms.length:Int))))),(13,some (.c (.im (.int .i64 ((k+1:Nat):Int)))))],
   [(1,some (.box [.t .nil,.t .nil])),(3,some (.box [.t (.lent 45 11 (k+1)),.t (.lent 2 2 cs.length)])),(2,some (.arr 2 (tI (rowsC cs)))),(45,some (.arr 11 (tM (ms.take (k+1)))))],46⟩) (fun k=>ms.length-k.1) ⟨0,by simp⟩ ⟨[],[],by (simp only[go_sem,yai])<;>simp[lk,zAn]⟩ (fun ⟨k,hk⟩=>?_)
 by_cases a7:k<ms.length
 ·obtain ⟨m,hp⟩:∃p,ms[k]?=some p:=⟨_,List.getElem?_eq_getElem a7⟩;have Z:=zIp hp;have hI:((k:Int)<(ms.length:Int))=True:=by simp;omega
  have h0:(0≤(k:Int))=True:=by simp
  have b0:=zDh h1 a7;obtain ⟨q1,q2,q3⟩:=h5 m (List.mem_of_getElem? hp);have F:(tM (ms.take k)).length=k:=by rw[zFd,List.length_take];omega
  have G:tM (ms.take (k+1))=tM (ms.take k)++[modT m]:=by rw[zCy hp];simp[tM]
  have a8:((k+1)*136≤140737488355328)=True:=zLb1 (by omega) (by decide);have U:MvR false (.arr 11 (tM (ms.take (k+1))))=True:=eq_true (zOg _);rw[G] at U;simp only[modT] at G U;have ha:=zMl2 F;have hs:=zJh2 F;have hl:=zJi2 F
  cases k with
  | zero=>
   have E:tM (ms.take 1)=_:=G;rw[show tM (ms.take 0)=[] from rfl,List.nil_append] at E;have J:MvR false (.arr 11 (tM (ms.take 1)))=True:=eq_true (zOg _);rw[E] at J;clear ha hs hl F U G;simp only[Int.natCast_zero] at hI h0;try simp -dsimp only[go_sem,hI,h0,Z,zGo q1 q2 q3,rMod,a8,appendH,srcRows,List.take_succ_cons,yan,yao,yap,okT,yaq]
   with_reducible repeat' first|refine sl_i ?_|refine ro_i ?_
   refine⟨⟨0+1,by omega⟩,by simp only[];omega,[.fold 45 0 4,.fold 45 0 7,.fold 45 0 8],[],?_⟩
   ((simp only[go_sem,yai,yak,forall_eq_or_imp,forall_eq,E,J,zAg,zAb,zAe])<;>(try (simp -dsimp only[go_sem,yaj,yai,yak,forall_eq_or_imp,forall_eq,E,J,zAg,zAb,zAe])))
   simp[IntKind.wrap,IntKind.bits]
  | succ k=>
   try simp -dsimp only[go_sem,hI,h0,Int.toNat_natCast,Z,zGo q1 q2 q3,rMod,b0,F,hl,a8,appendH,srcRows,List.take_succ_cons,yan,yao,yap,okT,yaq]
   with_reducible repeat' first|refine sl_i ?_|refine ro_i ?_
   refine⟨⟨k+1+1,by omega⟩,by simp only[];omega,[.fold 87 (k+1) 4,.fold 87 (k+1) 7,.fold 87 (k+1) 8],[1,3,2,87],?_⟩
   (simp only[go_sem,yai,yak,forall_eq_or_imp,forall_eq,G,ha,hs,U,zAg,zAb,zAe])
 have hI:((k:Int)<(ms.length:Int))=False:=by simp;omega
 have V:k=ms.length:=by omega
 cases k with
 | zero=>exact absurd V.symm hz
 | succ k=>
  have b1:ms.take (k+1)=ms:=by rw[V];exact List.take_length
  have F:(tM ms).length=k+1:=by rw[zFd,V]
  simp only[b1];try simp -dsimp only[go_sem,f157,hI]
  rw[V];refine⟨[_,_],?_,?_,?_,rfl,rfl⟩<;>simp[rtOk]
def modB (m:Mod):List B:=[.t (.im (.int .i64 m.kind)),.t (.im (.cpx .f32 m.turn.1 m.turn.2)),.t (.im (.cpx .f32 m.state.1 m.state.2)),.t (.im (.flt .f32 m.level)),.t (.own 1 (tI (rowsZ m.store))),.t (.im (.int .i64 m.rat)),.t (.im (.int .i64 m.rcnt)),.t (.own 1 (tI (rowsZ m.pts))),.t (.own 1 (tI (rowsN m.lab))),.t (.im (.int .i64 m.count)),.t (.im (.int .i64 m.left))]
theorem zCa2 {sc:Bool}(m:Mod):∀x∈modB m,MvB sc x:=by
 intro t E;simp only[modB,yac,yad,or_false] at E;rcases E with rfl|rfl|rfl|rfl|rfl|rfl|rfl|rfl|rfl|rfl|rfl<;>first|exact .t _ (.im _ (.inr rfl))|exact .t _ (zQk (zCz _))|exact .t _ (zQk (zEw _))
theorem zNz1 {a b:List (List I)}(h:tI a=tI b):a=b:=by
 have h4:=congrArg (mapO (mapO (toI [] (fun _=>none) 0))) h;rw[zBj,zBj] at h4;exact Option.some.inj h4
theorem zOw1 {a b:Mod}(h:modB a=modB b):a=b:=by
 obtain ⟨k,⟨t1,t2⟩,⟨s1,s2⟩,l,st,r1,r2,p,la,c,le⟩:=a;obtain ⟨k',⟨F,E⟩,⟨J,G⟩,l',st',V,U,p',a6,c',Z⟩:=b;simp only[modB,List.cons.injEq,B.t.injEq,T.im.injEq,T.own.injEq,I.int.injEq,I.cpx.injEq,I.flt.injEq,true_and,and_true] at h;obtain ⟨rfl,⟨rfl,rfl⟩,⟨rfl,rfl⟩,rfl,h1,rfl,rfl,h2,h3,rfl,rfl⟩:=h;rw[zWo (zNz1 h1),zWo (zNz1 h2),zWp (zNz1 h3)]
abbrev Or:=(Nat×Nat)×(Nat×Nat)
def maxLv (l x:Nat):Nat:=if fcmp .gtr .f32 (absF x) l=true then absF x else l
def stepF (o:Or)(m:Mod)(z:Pt):Mod×Pt:=
 if m.kind=1 then ({m with state:=mulPt o.1 m.state m.turn},m.state)
 else if m.kind=2 then ({m with state:=mulPt o.2 m.state m.turn},mulPt o.1 z m.state)
 else if m.kind=3 then (m,scaleF z m.level)
 else if m.kind=4 then ({m with store:=m.store.set m.rat.toNat z,rat:=(m.rat+1)%(m.store.length:Int)},m.store.getD m.rat.toNat (0,0))
 else if m.kind=6 then (match nearF m.pts m.lab z with
  | none=>({m with count := -1},(0,0))
  | some i=>({m with count:=m.lab.getD i 0},m.pts.getD i (0,0)))
 else if m.kind=7 then ({m with level:=maxLv (maxLv m.level z.1) z.2},z)
 else if m.kind=8 then (if m.left=0 then ({m with state:=z,left:=m.count-1},z) else ({m with left:=m.left-1},m.state))
 else (m,z)
def mxK (l u v:Nat):Nat→Nat
 | 0=>l
 | 1=>maxLv l u
 | _+2=>maxLv (maxLv l u) v
structure OkS (m:Mod):Prop where
 ok:OkM m
 ring:m.kind=4→0≤m.rat∧m.rat<m.store.length
 hold:m.kind=8→1≤m.count∧m.count≤100∧0≤m.left∧m.left<m.count
theorem zQj (z:Pt)(n:Nat):∀(l:List Pt) (k:Nat) (b:Int) (m:Nat),b<n→k+l.length=n→nearGo z l k b m<n
 | [],k,b,m,hb,hk=>hb
 | p::l,k,b,m,hb,hk=>by
  simp only[nearGo];simp at hk;split
  ·exact zQj z n l (k+1) k _ (by omega) (by omega)
  ·exact zQj z n l (k+1) b m hb (by omega)
theorem zBx2 {pts:List Pt}{lab:List Int}{z:Pt}{i:Nat}(h:nearF pts lab z=some i):i<pts.length∧i<lab.length:=by
 unfold nearF at h;split at h
 ·rename_i E;have hl:pts.length=lab.length:=by simp only[isTableF,yay,yaG] at E;exact E.1
  split at h
  ·cases h
  ·rename_i F;injection h with h
   have hz:pts.length≠0:=by
    intro G;have:pts=[]:=List.eq_nil_of_length_eq_zero G;subst this;simp[nearGo] at F
   have:=zQj z pts.length pts 0 (-1) 0 (by omega) (by omega);omega
 ·cases h
def oStep (m:Mod)(z:Pt):Outs:=.any Or (fun o=>{val:=.c (.im (.cpx .f32 (stepF o m z).2.1 (stepF o m z).2.2)),places:=[modB (stepF o m z).1]})
noncomputable def zGn1:Ct:=fam true (fun x:{m:Mod//OkS m}×Pt=>([.c (.ptr 0 0 0 0),.c (.im (.cpx .f32 x.2.1 x.2.2))],[modB x.1.1])) (fun x=>oStep x.1.1 x.2)
theorem zAu2 {m:Mod}(h:OkS m)(u v:Nat):zGn1.run [.c (.ptr 0 0 0 0),.c (.im (.cpx .f32 u v))] [modB m]=some (oStep m (u,v)):=by
 refine zAc (ct:=zGn1) rfl ?_ (⟨m,h⟩,(u,v));rintro ⟨⟨a,_⟩,b⟩ ⟨⟨F,_⟩,E⟩ h;simp only[Prod.mk.injEq,List.cons.injEq,D.c.injEq,C.im.injEq,I.cpx.injEq,true_and,and_true] at h;have:=zOw1 h.2;subst this;simp[yaE,h.1]
theorem zBy2:Nonempty Or=True:=by simp only[eq_iff_iff,iff_true];exact⟨((0,0),(0,0))⟩
theorem zLt:(zEj.sc=true)=True:=by simp[zEj,fam]
theorem zDk1 (l:List Pt)(k:Nat)(a b:Nat):(tI (rowsZ l)).set k [T.im (.cpx .f32 a b)]=tI (rowsZ (l.set k (a,b))):=by simp[tI,rowsZ,List.map_set]
theorem zTk {l:List Pt}{k:Nat}{p:Pt}(h:l[k]?=some p):(tI (rowsZ l))[k]?=some [T.im (.cpx .f32 p.1 p.2)]:=by simp[tI,rowsZ,h]
theorem zOb1 {l:List Int}{k:Nat}{p:Int}(h:l[k]?=some p):(tI (rowsN l))[k]?=some [T.im (.int .i64 p)]:=by simp[tI,rowsN,h]
theorem zCl2:Law prog 69 zGn1:=by
 refine zPt1 (zAa zQr (zAa zRr1 (zAa zUh (zAa zCm2 zAd)))) hmixA func69 rfl rfl (fun _=>[.unf 0 0 4,.unf 0 0 7,.unf 0 0 8]) (fun ⟨⟨⟨k,⟨t1,t2⟩,⟨s1,s2⟩,lv,st,ra,rc,pts,lab,c,l⟩,⟨⟨q1,q2,q3⟩,hr,hh⟩⟩,⟨u,v⟩⟩=>
  ⟨okA (fun o=>⟨zQi rfl,by simp,fun c hc=>by simp at hc;subst hc;exact zCa2 _⟩),by simp[f69],?_⟩)
 simp only at q1 q2 q3 hr hh;simp only[oStep,modB];by_cases k1:k=1
 ·subst k1;clear hr hh;try simp -dsimp only[go_sem,f69,stepF,zAg,zAb,zAe,zCj,oMul,zRn1]
  with_reducible repeat' refine sl_i ?_
  intro o1;try simp -dsimp only[go_sem,yaj,f69,stepF,Int.reduceEq,zAg,zAb,zAe,yaD]
  with_reducible repeat' refine ro_i ?_
  refine zAh [.fold 0 0 4,.fold 0 0 7,.fold 0 0 8] ?_;simp -dsimp only[go_sem,zAg,zAb,zAe]
  all_goals exact⟨(o1,(0,0)),by simp⟩
 have e1:=eq_false k1;clear k1;by_cases k2:k=2
 ·subst k2;clear hr hh e1;try simp -dsimp only[go_sem,f69,stepF,Int.reduceEq,zAg,zAb,zAe,zCj,oMul,zRn1]
  intro o1;try simp -dsimp only[go_sem,yaj,f69,stepF,Int.reduceEq,zAg,zAb,zAe,yaD,zCj,oMul,zRn1]
  with_reducible repeat' refine sl_i ?_
  intro o2;try simp -dsimp only[go_sem,yaj,f69,stepF,Int.reduceEq,zAg,zAb,zAe,yaD]
  with_reducible repeat' refine ro_i ?_
  refine zAh [.fold 0 0 4,.fold 0 0 7,.fold 0 0 8] ?_;simp -dsimp only[go_sem,zAg,zAb,zAe]
  all_goals exact⟨(o1,o2),by simp⟩
 have e2:=eq_false k2;clear k2;by_cases k3:k=3
 ·subst k3;clear hr hh e1 e2;try simp -dsimp only[go_sem,f69,stepF,Int.reduceEq,zAg,zAb,zAe,zQq1]
  refine zAh [.fold 0 0 4,.fold 0 0 7,.fold 0 0 8] ?_;simp -dsimp only[go_sem,zAg,zAb,zAe]
  all_goals exact⟨((0,0),(0,0)),by simp⟩
 have e3:=eq_false k3;clear k3;by_cases k4:k=4
 ·subst k4;clear hh e1 e2 e3;obtain ⟨b2,d5⟩:=hr rfl;obtain ⟨n,rfl⟩:=Int.eq_ofNat_of_zero_le b2;clear hr b2;have hn:n<st.length:=by omega
  clear d5;obtain ⟨p,hp⟩:∃p,st[n]?=some p:=⟨_,List.getElem?_eq_getElem hn⟩;have F:=zTk hp;have Z:st.getD n (0,0)=p:=by simp[List.getD,hp]
  have hI:((n:Int)<(st.length:Int))=True:=by simp;omega
  have h0:0≤(n:Int):=by simp
  have d6:((st.length:Int)=0)=False:=eq_false (by omega);have d4:IntKind.i64.wrap ((n:Int)+1)=(n:Int)+1:=zDh q1 hn;have b3:((n:Int)+1).tmod (st.length:Int)=((n:Int)+1)%(st.length:Int):=Int.tmod_eq_emod_of_nonneg (by omega);clear hp;try simp -dsimp only[go_sem,f69,stepF,Int.reduceEq,zAg,zAb,zAe,hI,h0,F,Z,d6,d4,b3,zDk1,Int.toNat_natCast]
  with_reducible repeat' first|refine sl_i ?_|refine ro_i ?_
  refine zAh [.fold 0 0 4,.fold 0 0 7,.fold 0 0 8] ?_;simp -dsimp only[go_sem,zAg,zAb,zAe,yaD]
  all_goals exact⟨((0,0),(0,0)),by simp⟩
 have e4:=eq_false k4;clear k4 hr;by_cases k6:k=6
 ·subst k6;clear hh e1 e2 e3 e4
  cases hf:nearF pts lab (u,v) with
  | none=>
   have G:=zLi q2 q3 u v;rw[hf] at G;(try simp -dsimp only[go_sem,f69,stepF,Int.reduceEq,zAg,zAb,zAe,G,oNear,hf,zLt,zBj,zEn2,zHn1]);refine zAh [.fold 0 0 4,.fold 0 0 7,.fold 0 0 8] ?_;simp -dsimp only[go_sem,zAg,zAb,zAe]
   all_goals exact⟨((0,0),(0,0)),by simp⟩
  | some n=>
   have G:=zLi q2 q3 u v;rw[hf] at G;obtain ⟨d8,d7⟩:=zBx2 hf;obtain ⟨p,hp⟩:∃p,pts[n]?=some p:=⟨_,List.getElem?_eq_getElem d8⟩;obtain ⟨y,hy⟩:∃y,lab[n]?=some y:=⟨_,List.getElem?_eq_getElem d7⟩;have F:=zTk hp;have a6:=zOb1 hy;have Z:pts.getD n (0,0)=p:=(by simp[List.getD,hp]);have d9:lab.getD n 0=y:=(by simp[List.getD,hy]);have hI:((n:Int)<(pts.length:Int))=True:=(by simp;omega);have e0:((n:Int)<(lab.length:Int))=True:=(by simp;omega);have h0:0≤(n:Int):=(by simp);(try simp -dsimp only[go_sem,f69,stepF,Int.reduceEq,zAg,zAb,zAe,G,oNear,hf,zLt,zBj,zEn2,zHn1,hI,e0,h0,F,a6,Z,d9,Int.toNat_natCast]);refine zAh [.fold 0 0 4,.fold 0 0 7,.fold 0 0 8] ?_;simp -dsimp only[go_sem,zAg,zAb,zAe]
   all_goals exact⟨((0,0),(0,0)),by simp⟩
 have e6:=eq_false k6;clear k6;by_cases k8:k=8
 ·subst k8;clear e1 e2 e3 e4 e6;obtain ⟨f9,f8,f7,f6⟩:=hh rfl;clear hh;have V:IntKind.i64.wrap (c-1)=c-1:=zAi (by omega) (by omega);have U:IntKind.i64.wrap (l-1)=l-1:=zAi (by omega) (by omega);by_cases hz:l=0
  ·subst hz;(try simp -dsimp only[go_sem,f69,stepF,Int.reduceEq,zAg,zAb,zAe,V]);refine zAh [.fold 0 0 4,.fold 0 0 7,.fold 0 0 8] ?_;simp -dsimp only[go_sem,zAg,zAb,zAe]
   all_goals exact⟨((0,0),(0,0)),by simp⟩
  ·have d3:=eq_false hz;clear hz;(try simp -dsimp only[go_sem,f69,stepF,Int.reduceEq,zAg,zAb,zAe,U,d3]);refine zAh [.fold 0 0 4,.fold 0 0 7,.fold 0 0 8] ?_;simp -dsimp only[go_sem,zAg,zAb,zAe]
   all_goals exact⟨((0,0),(0,0)),by simp⟩
 have e8:=eq_false k8;clear k8 hh;by_cases k7:k=7
 ·subst k7;clear e1 e2 e3 e4 e6 e8;try simp -dsimp only[go_sem,f69,Int.reduceEq,zAg,zAb,zAe]
  refine zAp (ι:={k:Nat//k≤2}) (fun k=>⟨[(0,some (.c (.ptr 0 0 0 0))),(1,some (.c (.im (.cpx .f32 u v)))),(149,some (.c (.view 4 1 0 2))),(150,some (.c (.im (.int .i64 2)))),(151,some (.c (.im (.int .i64 (k.1:Int)))))],
   [(0,some (.box [.t (.im (.int .i64 7)),.t (.im (.cpx .f32 t1 t2)),.t (.im (.cpx .f32 s1 s2)),.t (.im (.flt .f32 (mxK lv u v k.1))),.t (.lent 1 1 st.length),.t (.im (.int .i64 ra)),.t (.im (.int .i64 rc)),.t (.lent 2 1 pts.length),.t (.lent 3 1 lab.length),.t (.im (.int .i64 c)),.t (.im (.int .i64 l))])),
    (1,some (.arr 1 (tI (rowsZ st)))),(2,some (.arr 1 (tI (rowsZ pts)))),(3,some (.arr 1 (tI (rowsN lab)))),(4,some (.arr 1 [[.im (.flt .f32 u)],[.im (.flt .f32 v)]]))],5⟩) (fun k=>2-k.1) ⟨0,by simp⟩ ⟨[],[0,1,2,3,4],by ((simp only[go_sem,mxK,MvRt])<;>(try (simp -dsimp only[go_sem,yaj,yai,mxK,MvRt])))<;>simp[]⟩ (fun ⟨k,hk⟩=>?_)
  have a7:((0:Nat):Int)=0:=rfl;have J:((1:Nat):Int)=1:=rfl;have E:((2:Nat):Int)=2:=rfl;have V:IntKind.i64.wrap 1=1:=zAi (by omega) (by omega);have U:IntKind.i64.wrap 2=2:=zAi (by omega) (by omega)
  match k,hk with
  | 0,hk=>
   try simp -dsimp only[go_sem,zUs,mxK,a7,E,Int.reduceLT]
   repeat' (first
    | (with_reducible refine sl_i ?_)
    | (with_reducible refine ro_i ?_)
    | ((first|(with_reducible refine gS_d ?_ ?_)|(with_reducible refine zQx ?_ ?_)|(with_reducible refine gS_i ?_ ?_))<;>intro Z<;>(try simp -dsimp (maxSteps:=1000000) only[go_sem,yaj,f69,zUs,mxK,a7,J,E,V,U,Int.reduceLT,Int.reduceLE,Int.reduceToNat,Int.reduceAdd,Int.lt_irrefl, *])))
   all_goals refine⟨⟨1,by omega⟩,by simp only[];omega,[],[0,1,2,3,4],?_⟩
   all_goals (simp only[go_sem,maxLv,MvRt,J,Z,yat])
   all_goals simp[lk,zAn,mxK,maxLv,Z]
  | 1,hk=>
   try simp -dsimp only[go_sem,zUs,mxK,J,E,Int.reduceLT,Int.reduceLE,Int.reduceToNat]
   repeat' (first
    | (with_reducible refine sl_i ?_)
    | (with_reducible refine ro_i ?_)
    | ((first|(with_reducible refine gS_d ?_ ?_)|(with_reducible refine zQx ?_ ?_)|(with_reducible refine gS_i ?_ ?_))<;>intro Z<;>(try simp -dsimp (maxSteps:=1000000) only[go_sem,yaj,f69,zUs,mxK,a7,J,E,V,U,Int.reduceLT,Int.reduceLE,Int.reduceToNat,Int.reduceAdd,Int.lt_irrefl, *])))
   all_goals refine⟨⟨2,by omega⟩,by simp only[];omega,[],[0,1,2,3,4],?_⟩
   all_goals ((simp only[go_sem,MvRt,E])<;>(try (simp -dsimp only[go_sem,yaj,yai,mxK,MvRt,J,E])))
   all_goals (generalize maxLv lv u=w at Z ⊢)
   all_goals simp[maxLv,Z]
  | 2,hk=>
   (try simp -dsimp only[go_sem,f69,mxK,stepF,Int.reduceEq,E,Int.lt_irrefl]);refine zAh [.fold 0 0 4,.fold 0 0 7,.fold 0 0 8] ?_;simp -dsimp only[go_sem,zAg,zAb,zAe]
   all_goals exact⟨((0,0),(0,0)),by simp⟩
 have e7:=eq_false k7;clear k7;try simp -dsimp only[go_sem,f69,stepF,zAg,zAb,zAe,e1,e2,e3,e4,e6,e7,e8]
 refine zAh [.fold 0 0 4,.fold 0 0 7,.fold 0 0 8] ?_;simp -dsimp only[go_sem,zAg,zAb,zAe]
 all_goals exact⟨((0,0),(0,0)),by simp⟩
def dMod:Mod:=⟨0,(0,0),(0,0),0,[],0,0,[],[],0,0⟩
def inSum (cs:List Cbl)(i inn:Int)(z:Pt)(outs:List Pt):Pt:=(feedsF cs i).foldl (fun s f=>addPt s (outs.getD f.toNat (0,0))) (if i=inn then addPt (0,0) z else (0,0))
def outs0 (ms:List Mod):List Pt:=ms.map fun m=>if m.kind=4 then m.store.getD m.rat.toNat (0,0) else (0,0)
def sweep1 (o:Or)(cs:List Cbl)(inn:Int)(z:Pt)(i:Int)(s:List Mod×List Pt):List Mod×List Pt:=
 (s.1.set i.toNat (stepF o (s.1.getD i.toNat dMod) (inSum cs i inn z s.2)).1,if (s.1.getD i.toNat dMod).kind=4 then s.2 else s.2.set i.toNat (stepF o (s.1.getD i.toNat dMod) (inSum cs i inn z s.2)).2)
def sweep (o:Nat→Or)(cs:List Cbl)(inn:Int)(z:Pt):List Int→Nat→List Mod×List Pt→List Mod×List Pt
 | [],_,s=>s
 | i::l,j,s=>sweep o cs inn z l (j+1) (sweep1 (o j) cs inn z i s)
def ordL (ms:List Mod)(cs:List Cbl):List Int:=(orderF ms cs).getD []
def stepRackF (o:Nat→Or)(cs:List Cbl)(inn:Int)(z:Pt)(ms:List Mod):List Mod×List Pt:=sweep o cs inn z (ordL ms cs) 0 (ms,outs0 ms)
theorem zVj {o o':Nat→Or}{cs:List Cbl}{inn:Int}{z:Pt}:∀(l:List Int) (j:Nat) (s:List Mod×List Pt),(∀n,j≤n→n<j+l.length→o n=o' n)→sweep o cs inn z l j s=sweep o' cs inn z l j s
 | [],_,_,_=>rfl
 | i::l,j,s,h=>by
  simp only[sweep];rw[h j (Nat.le_refl _) (by simp)];exact zVj l (j+1) _ (fun n h1 h2=>h n (by omega) (by simp;omega))
theorem zHr1 {o:Nat→Or}{cs:List Cbl}{inn:Int}{z:Pt}:∀(l:List Int) (j:Nat) (s:List Mod×List Pt) (i:Int),sweep o cs inn z (l++[i]) j s=sweep1 (o (j+l.length)) cs inn z i (sweep o cs inn z l j s)
 | [],j,s,i=>by simp[sweep]
 | k::l,j,s,i=>by
  simp only[List.cons_append,sweep];rw[zHr1 l (j+1)];simp[Nat.add_assoc,Nat.add_comm 1]
theorem zMc1 {ms:List Mod}{cs:List Cbl}{out:List Int}{n:Nat}(h:readyIdx ms cs out ms.length 0=n)(hn:n≠ms.length):n<ms.length:=by have:=zOq ms cs out ms.length 0;omega
theorem zCi1 {ms:List Mod}{cs:List Cbl}:∀(f:Nat) (out l:List Int),(∀i∈out,0≤i∧i<ms.length)→orderGo ms cs f out=some l→∀i∈l,0≤i∧i<ms.length
 | 0,out,l,ho,h=>by simp only[orderGo,yaC] at h;subst h;exact ho
 | f+1,out,l,ho,h=>by
  simp only[orderGo] at h;split at h
  ·cases h
  ·rename_i E;refine zCi1 f _ l (fun i hi=>?_) h;rcases List.mem_append.1 hi with hi|hi
   ·exact ho i hi
   ·simp at hi;subst hi;have:=zMc1 rfl E;omega
theorem zEs1 {ms:List Mod}{cs:List Cbl}:∀i∈ordL ms cs,0≤i∧i<ms.length:=by
 intro i hi;unfold ordL at hi
 cases h:orderF ms cs with
 | none=>rw[h] at hi;simp at hi
 | some l=>rw[h] at hi;exact zCi1 _ [] l (by simp) h i hi
theorem zOr {ms:List Mod}{cs:List Cbl}:∀(f:Nat) (out l:List Int),orderGo ms cs f out=some l→l.length=out.length+f
 | 0,out,l,h=>by simp only[orderGo,yaC] at h;subst h;rfl
 | f+1,out,l,h=>by
  simp only[orderGo] at h;split at h
  ·cases h
  ·have:=zOr f _ l h;simp at this;omega
theorem zBm2 (ms:List Mod)(cs:List Cbl):(ordL ms cs).length≤ms.length:=by
 unfold ordL
 cases h:orderF ms cs with
 | none=>simp
 | some l=>have:=zOr _ [] l h;simp at this ⊢;omega
theorem zRn (o:Or)(m:Mod)(z:Pt):(stepF o m z).1.kind=m.kind:=by
 unfold stepF
 repeat' split
 all_goals rfl
theorem zAl2 {o:Or}{m:Mod}{z:Pt}(h:OkS m):OkS (stepF o m z).1:=by
 obtain ⟨⟨h1,h2,h3⟩,h4,J⟩:=h;have F:=zRn o m z;refine⟨?_,fun E=>?_,fun E=>?_⟩
 ·unfold stepF
  repeat' split
  all_goals exact⟨by simp[h1],h2,h3⟩
 ·rw[F] at E;have:=h4 E;simp only[stepF,E,Int.reduceEq,yau,yav,yaD];have G:(0:Int)<m.store.length:=by omega
  exact⟨Int.emod_nonneg _ (by omega),Int.emod_lt_of_pos _ G⟩
 ·rw[F] at E;have:=J E;simp only[stepF,E,Int.reduceEq,yau,yav];split
  ·simp only[];omega
  ·simp only[];omega
noncomputable def zKx1:Ct:=fam true (fun x:Int×Pt=>([.c (.im (.int .i64 x.1)),.c (.im (.cpx .f32 x.2.1 x.2.2))],[])) (fun x=>.one {val:=.c (.im (.cpx .f32 x.2.1 x.2.2))})
theorem zRv (i:Int)(u v:Nat):zKx1.run [.c (.im (.int .i64 i)),.c (.im (.cpx .f32 u v))] []=some (.one {val:=.c (.im (.cpx .f32 u v))}):=zBd (by
 intro a b h
 simp only[Prod.mk.injEq,List.cons.injEq,D.c.injEq,C.im.injEq,I.cpx.injEq,I.int.injEq,true_and,and_true] at h
 (try simp only[yaE])
 (try simp only[zAs,zAx] at h)
 simp_all) (i,(u,v))
theorem zCr1:Law prog 228 zKx1:=by
 refine zAf zAd hmixA func228 rfl rfl (fun x=>⟨zAv rfl,by simp[f228],?_⟩);try simp -dsimp only[go_sem,f228]
noncomputable def zYt:Ct:=fam true (fun x:{l:List Pt//l.length≤sm}×Nat=>([.c (.im (.sl 1 (rowsZ x.1.1))),.c (.im (.int .i64 (x.2:Int)))],[])) (fun x=>.one {val:=.c (.im (.cpx .f32 (x.1.1.getD x.2 (0,0)).1 (x.1.1.getD x.2 (0,0)).2))})
theorem zQr1 {l:List Pt}(hl:l.length≤sm)(k:Nat):zYt.run [.c (.im (.sl 1 (rowsZ l))),.c (.im (.int .i64 (k:Int)))] []=some (.one {val:=.c (.im (.cpx .f32 (l.getD k (0,0)).1 (l.getD k (0,0)).2))}):=by
 refine zAc (ct:=zYt) rfl ?_ (⟨l,hl⟩,k);rintro ⟨⟨a,_⟩,b⟩ ⟨⟨F,_⟩,E⟩ h;simp only[Prod.mk.injEq,List.cons.injEq,D.c.injEq,C.im.injEq,I.sl.injEq,I.int.injEq,true_and,and_true,zAs] at h;obtain ⟨rfl,h⟩:=h;have:b=E:=by omega
 subst this;rfl
theorem zRs1:Law prog 227 zYt:=by
 refine zAf zAd hmixA func227 rfl rfl (fun ⟨⟨l,hl⟩,k⟩=>⟨zAv rfl,by simp[f227],?_⟩);by_cases F:k<l.length
 ·obtain ⟨p,U⟩:∃p,l[k]?=some p:=⟨_,List.getElem?_eq_getElem F⟩;have E:=zBz U;have J:((k:Int)<(l.length:Int))=True:=by simp;omega
  have V:0≤(k:Int):=by simp
  have G:l.getD k (0,0)=p:=by simp[List.getD,U]
  try simp -dsimp only[go_sem,f227,J,V,G,Int.toNat_natCast,E,zAb]
 ·have J:((k:Int)<(l.length:Int))=False:=by simp;omega
  have G:l.getD k (0,0)=(0,0):=by simp[List.getD,List.getElem?_eq_none (show l.length≤k by omega)]
  try simp -dsimp only[go_sem,f227,J,G,zAb]
theorem zNn {o:Or}{cs:List Cbl}{inn:Int}{z:Pt}{i:Int}{s:List Mod×List Pt}:(sweep1 o cs inn z i s).1.length=s.1.length∧(sweep1 o cs inn z i s).2.length=s.2.length:=by
 simp only[sweep1,yaD,true_and];split<;>simp
theorem zVh {o:Nat→Or}{cs:List Cbl}{inn:Int}{z:Pt}:∀(l:List Int) (j:Nat) (s:List Mod×List Pt),(sweep o cs inn z l j s).1.length=s.1.length∧(sweep o cs inn z l j s).2.length=s.2.length
 | [],_,_=>⟨rfl,rfl⟩
 | i::l,j,s=>by
  simp only[sweep];have h1:=zVh (o:=o) (cs:=cs) (inn:=inn) (z:=z) l (j+1) (sweep1 (o j) cs inn z i s);have h2:=zNn (o:=o j) (cs:=cs) (inn:=inn) (z:=z) (i:=i) (s:=s);exact⟨h1.1.trans h2.1,h1.2.trans h2.2⟩
theorem zDm1 {o:Nat→Or}{cs:List Cbl}{inn:Int}{z:Pt}:∀(l:List Int) (j:Nat) (s:List Mod×List Pt),(∀i∈l,0≤i∧i<s.1.length)→(∀m∈s.1,OkS m)→∀m∈(sweep o cs inn z l j s).1,OkS m
 | [],_,_,_,h=>h
 | i::l,j,s,hl,h=>by
  simp only[sweep];refine zDm1 l (j+1) _ (fun k F=>?_) (fun m E=>?_)
  ·rw[zNn.1];exact hl k (.tail _ F)
  ·simp only[sweep1] at E;obtain ⟨G,h1⟩:=hl i (.head _);have hi:i.toNat<s.1.length:=(by omega);rcases List.mem_or_eq_of_mem_set E with E|rfl
   ·exact h m E
   ·refine zAl2 (h _ ?_);rw[List.getD_eq_getElem?_getD,List.getElem?_eq_getElem hi];exact List.getElem_mem _
theorem zQl1 {o:Nat→Or}{cs:List Cbl}{inn:Int}{z:Pt}{L:List Int}{j:Nat}{s0:List Mod×List Pt}{i:Int}(h:L[j]?=some i)(q:Or):
 sweep (fun n=>if n=j then q else o n) cs inn z (L.take (j+1)) 0 s0=sweep1 q cs inn z i (sweep o cs inn z (L.take j) 0 s0):=by
 have E:j<L.length:=(List.getElem?_eq_some_iff.1 h).1;have hl:(L.take j).length=j:=by rw[List.length_take];omega
 rw[zCy h,zHr1,hl];simp only[Nat.zero_add,yav];rw[zVj (o':=o) (L.take j) 0 s0 (fun n _ h2=>by rw[hl] at h2;simp;omega)]
def outF (m:Mod):Pt:=if m.kind=4 then m.store.getD m.rat.toNat (0,0) else (0,0)
def outsK (ms:List Mod)(k:Nat):List Pt:=(ms.take k).map outF++List.replicate (ms.length-k) (0,0)
theorem zVd1 (ms:List Mod):outsK ms 0=List.replicate ms.length (0,0):=by simp[outsK]
theorem zHn2 (ms:List Mod):outsK ms ms.length=outs0 ms:=by simp[outsK,outs0,outF]
theorem zVc1 {ms:List Mod}{k:Nat}(h:k≤ms.length):(outsK ms k).length=ms.length:=by simp[outsK];omega
theorem zIz1 {ms:List Mod}{k:Nat}{m:Mod}(h:ms[k]?=some m):(outsK ms k).set k (outF m)=outsK ms (k+1):=by
 have E:k<ms.length:=(List.getElem?_eq_some_iff.1 h).1;have e:ms.length-k=(ms.length- (k+1))+1:=by omega
 have hl:((ms.take k).map outF).length=k:=by simp;omega
 rw[outsK,outsK,zCy h,e,List.replicate_succ,List.map_append,List.append_assoc];rw[List.set_append_right _ _ (by omega),hl,Nat.sub_self];rfl
theorem zOp1 {ms:List Mod}{k:Nat}(h:k<ms.length):(outsK ms k)[k]?=some (0,0):=by
 have e:ms.length-k=(ms.length- (k+1))+1:=by omega
 have hl:((ms.take k).map outF).length=k:=by simp;omega
 rw[outsK,e,List.replicate_succ,List.getElem?_append_right (by omega),hl,Nat.sub_self];rfl
theorem zBk2 {ms:List Mod}{k:Nat}{m:Mod}(h:ms[k]?=some m)(h4:¬m.kind=4):outsK ms (k+1)=outsK ms k:=by
 rw[←zIz1 h];have:outF m=(0,0):=by simp[outF,h4]
 rw[this];have E:k<ms.length:=(List.getElem?_eq_some_iff.1 h).1
 exact List.ext_getElem? (fun n=>by
  by_cases e:k=n
  ·subst e;rw[List.getElem?_set_self (by rw[zVc1 (by omega)];exact E),zOp1 E]
  ·rw[List.getElem?_set_ne e])
def inSumK (cs:List Cbl)(i inn:Int)(z:Pt)(outs:List Pt)(k:Nat):Pt:=((feedsF cs i).take k).foldl (fun s f=>addPt s (outs.getD f.toNat (0,0))) (if i=inn then addPt (0,0) z else (0,0))
theorem zDf2 {cs:List Cbl}{i inn:Int}{z:Pt}{outs:List Pt}{k:Nat}{f:Int}(h:(feedsF cs i)[k]?=some f):inSumK cs i inn z outs (k+1)=addPt (inSumK cs i inn z outs k) (outs.getD f.toNat (0,0)):=by
 simp only[inSumK];rw[zCy h,List.foldl_append];rfl
theorem zDg2 {cs:List Cbl}{i inn:Int}{z:Pt}{outs:List Pt}:inSumK cs i inn z outs (feedsF cs i).length=inSum cs i inn z outs:=by simp only[inSumK,List.take_length,inSum]
theorem zYc1 {cs:List Cbl}{i:Int}{n:Nat}(h:∀c∈cs,0≤c.1∧c.1<n):∀f∈feedsF cs i,0≤f∧f<n:=by
 intro f hf;simp only[feedsF,List.mem_map,List.mem_filter] at hf;obtain ⟨c,⟨hc,_⟩,rfl⟩:=hf;exact h c hc
theorem zCb2 {a b:Mod}(h:modT a=modT b):a=b:=zOw1 (by have:=congrArg (List.map B.t) h;simpa[modT,modB] using this)
theorem zJt2 {a b:List Mod}(h:tM a=tM b):a=b:=by
 induction a generalizing b with
 | nil=>cases b with
  | nil=>rfl
  | cons y b=>simp[tM] at h
 | cons x a ih=>cases b with
  | nil=>simp[tM] at h
  | cons y b=>
   simp only[tM,List.map_cons,List.cons.injEq] at h;rw[zCb2 h.1,ih h.2]
theorem zHb2 {ms:List Mod}{k:Nat}{m:Mod}(h:ms[k]?=some m):(tM ms)[k]?=some (modT m):=by simp[tM,h]
theorem zJs2 (ms:List Mod)(k:Nat)(m:Mod):(tM ms).set k (modT m)=tM (ms.set k m):=by simp[tM,List.map_set]
theorem zAq2 {α:Type}{l:List α}{k:Nat}{a:α}(h:l[k]?=some a):l.set k a=l:=by
 refine List.ext_getElem? (fun n=>?_);by_cases e:k=n
 ·subst e;rw[List.getElem?_set_self (List.getElem?_eq_some_iff.1 h).1,h]
 ·rw[List.getElem?_set_ne e]
theorem zBo1 (ex:List Nat)(H:Nat→Option Root)(ms:List Mod)(k:Nat):mapO (mapO (toI ex H (k+1))) (tM ms)=some (rowsM ms):=by
 induction ms with
 | nil=>rfl
 | cons m ms ih=>
  have e:tM (m::ms)=modT m::tM ms:=rfl;have E:rowsM (m::ms)=modI m::rowsM ms:=rfl;rw[e,E];simp only[mapO,ih];simp only[modT,modI,mapO,toI,zBj]
theorem zTm1 (ms:List Mod):(tM ms).take ms.length=tM ms:=by rw[List.take_of_length_le];simp[zFd]
structure ASt where
 ms:List Mod
 cs:List Cbl
 inn:Int
 z:Pt
 ml:ms.length≤16
 cl:cs.length≤sm
 ok:∀m∈ms,OkS m
 cr:∀c∈cs,0≤c.1∧c.1<ms.length
def hsS (ms:List Mod)(cs:List Cbl):List (List B):=[[.t (.own 11 (tM ms)),.t (.own 2 (tI (rowsC cs)))]]
def oRk (ms:List Mod)(cs:List Cbl)(inn:Int)(z:Pt):Outs:=.any (Nat→Or) (fun o=>{val:=.c (.view 0 1 0 ms.length),roots:=[.arr 1 (tI (rowsZ (stepRackF o cs inn z ms).2))],places:=hsS (stepRackF o cs inn z ms).1 cs})
noncomputable def zOy:Ct:=fam true (fun x:ASt=>([.c (.ptr 0 0 0 0),.c (.im (.int .i64 x.inn)),.c (.im (.cpx .f32 x.z.1 x.z.2)),.c (.fn (.func 228) [])],hsS x.ms x.cs)) (fun x=>oRk x.ms x.cs x.inn x.z)
theorem zIc1 {ms:List Mod}{cs:List Cbl}(h1:ms.length≤16)(h2:cs.length≤sm)(h3:∀m∈ms,OkS m)(h4:∀c∈cs,0≤c.1∧c.1<ms.length)(inn:Int)(u v:Nat):
 zOy.run [.c (.ptr 0 0 0 0),.c (.im (.int .i64 inn)),.c (.im (.cpx .f32 u v)),.c (.fn (.func 228) [])] (hsS ms cs)=some (oRk ms cs inn (u,v)):=by
 refine zAc (ct:=zOy) rfl ?_ ⟨ms,cs,inn,(u,v),h1,h2,h3,h4⟩;rintro ⟨ms,cs,i,z,_,_,_,_⟩ ⟨U,cs',i',J,_,_,_,_⟩ h;simp only[hsS,Prod.mk.injEq,List.cons.injEq,D.c.injEq,C.im.injEq,I.cpx.injEq,I.int.injEq,B.t.injEq,T.own.injEq,true_and,and_true] at h;obtain ⟨⟨rfl,F,E⟩,V,hc⟩:=h;have Z:=zJt2 V;have G:=zNz1 hc;simp only[zBh] at G;subst Z G;have:z=J:=Prod.ext F E;subst this;rfl
theorem zLg2:Nonempty (Nat→Or)=True:=by simp only[eq_iff_iff,iff_true];exact⟨fun _=>((0,0),(0,0))⟩
theorem zKm2 {sc:Bool}{n:Nat}{l:List Pt}{ms:List Mod}{cs:List Cbl}:OkR sc {val:=.c (.view 0 1 0 n),roots:=[.arr 1 (tI (rowsZ l))],places:=hsS ms cs}:=by
 refine⟨.c _ (.view _ _ _ _ (by simp)),fun r hr=>by simp at hr;subst hr;exact zDg (zCz _),fun c hc=>?_⟩;simp only[hsS,yac,yad,or_false] at hc;subst hc;intro x hx;simp only[yac,yad,or_false] at hx;rcases hx with rfl|rfl
 ·exact .t _ (.own _ _ (zOg (sz:=11) ms))
 ·exact .t _ (zQk (zIm _))
theorem zPk (ms:List Mod):MvR false (.arr 11 (tM ms))=True:=eq_true (zOg _)
theorem zKf (l:List Pt):MvB false (.t (.own 1 (tI (rowsZ l))))=True:=eq_true (.t _ (zQk (zCz _)))
theorem zKg (l:List Int):MvB false (.t (.own 1 (tI (rowsN l))))=True:=eq_true (.t _ (zQk (zEw _)))
theorem zMt2 (n:Nat):List.replicate n [T.im (.cpx .f32 0 0)]=tI (rowsZ (List.replicate n (0,0))):=by simp[tI,rowsZ]
theorem zJj1:Law prog 226 zOy:=by
 refine zPt1 (zAa zXt (zAa zIo2 (zAa zJt1 (zAa zCl2 (zAa zCr1 zAd))))) hmixA func226 rfl rfl (fun _=>[.unf 0 0 0,.unf 0 0 1]) (fun ⟨ms,cs,inn,⟨u,v⟩,h1,h2,h3,h4⟩=>⟨okA (fun o=>zKm2),by simp[f226],?_⟩);have j2:sm=16777216:=rfl;have i1:ms.length≤sm:=by omega
 simp only[oRk,hsS];have h6:0≤(ms.length:Int):=by omega
 have h5:(ms.length:Int)≤9223372036854775807:=by omega
 have g9:((8:Nat):Int)*(ms.length:Int)≤281474976710656:=by omega
 try simp -dsimp only[go_sem,f226,zFd,zAg,zAo,zMt2,h6,h5,g9,Int.toNat_natCast]
 refine zAp (ι:={k:Nat//k≤ms.length}) (fun k=>⟨[(0,some (.c (.ptr 0 0 0 0))),(1,some (.c (.im (.int .i64 inn)))),(2,some (.c (.im (.cpx .f32 u v)))),(3,some (.c (.fn (.func 228) []))),(9,some (.c (.view 3 1 0 ms.length))),(29,some (.c (.view 1 11 0 ms.length))),(30,some (.c (.im (.int .i64 (ms.length:Int))))),(31,some (.c (.im (.int .i64 (k.1:Int)))))],
  [(0,some (.box [.t (.lent 1 11 ms.length),.t (.lent 2 2 cs.length)])),(1,some (.arr 11 (tM ms))),(2,some (.arr 2 (tI (rowsC cs)))),(3,some (.arr 1 (tI (rowsZ (outsK ms k.1)))))],4⟩) (fun k=>ms.length-k.1) ⟨0,by simp⟩ ⟨[],[0,1,2,3],by ((simp only[go_sem,zVd1,MvRt,zPk])<;>(try (simp -dsimp only[go_sem,yaj,yai,zVd1,MvRt,zPk])))<;>simp[]⟩ (fun ⟨k,hk⟩=>?_)
 by_cases b4:k<ms.length
 ·obtain ⟨m,hp⟩:∃p,ms[k]?=some p:=⟨_,List.getElem?_eq_getElem b4⟩;obtain ⟨j4,d6,_⟩:=h3 m (List.mem_of_getElem? hp);have V:=zHb2 hp;have Z:∀X,((tM ms).set k X)[k]?=some X:=fun X=>List.getElem?_set_self (by rw[zFd];exact b4);have a6:=zAq2 V;have e9:MvR false (.arr 11 (tM ms))=True:=eq_true (zOg _);simp only[modT] at V a6;have hI:((k:Int)<(ms.length:Int))=True:=by simp;omega
  have h0:0≤(k:Int):=by simp
  have b1:=zDh i1 b4;by_cases F:m.kind=4
  ·obtain ⟨g5,j3⟩:=d6 F;obtain ⟨n,hn⟩:=Int.eq_ofNat_of_zero_le g5;have e8:n<m.store.length:=(by omega);obtain ⟨p,e7⟩:∃p,m.store[n]?=some p:=⟨_,List.getElem?_eq_getElem e8⟩;have b6:=zTk e7;have h9:((n:Int)<(m.store.length:Int))=True:=(by simp;omega);have i6:0≤(n:Int):=(by simp);have g8:outF m=(p.1,p.2):=(by simp[outF,F,hn,List.getD,e7]);have b5:=zIz1 hp;have U:=zTk (zOp1 b4);simp only at U;rw[g8] at b5;rw[F,hn] at V a6;(try simp -dsimp only[go_sem,zAg,zAb,zAe,hI,h0,h9,i6,V,Z,b6,U,zRv,zDk1,b5,b1,List.set_set,Int.toNat_natCast]);refine⟨⟨k+1,by omega⟩,by simp only[];omega,[.fold 1 k 4,.fold 1 k 7,.fold 1 k 8],[0,1,2,3],?_⟩
   (simp only[go_sem,yak,forall_eq_or_imp,forall_eq,zAg,zAb,zAe,Z,List.set_set,a6,MvRt,e9])
   all_goals simp[lk,zAn]
  ·have b5:=zBk2 hp F;have G:=eq_false F;clear F;(try simp -dsimp only[go_sem,zAg,zAb,zAe,hI,h0,V,Z,G,b1,List.set_set,Int.toNat_natCast]);refine⟨⟨k+1,by omega⟩,by simp only[];omega,[.fold 1 k 4,.fold 1 k 7,.fold 1 k 8],[0,1,2,3],?_⟩
   (simp only[go_sem,yak,forall_eq_or_imp,forall_eq,zAg,zAb,zAe,Z,List.set_set,a6,b5,MvRt,e9])
   all_goals simp[lk,zAn]
 have hI:¬((k:Int)<(ms.length:Int)):=by omega
 have a7:k=ms.length:=by omega
 subst a7;simp only[zHn2];have i8:=zTh1 ms;have j0:=zTi1 cs
 cases ho:orderF ms cs with
 | none=>
  have U:=zHr h1 h2 h4;rw[ho] at U;have hL:ordL ms cs=[]:=by simp[ordL,ho]
  have hS:∀o,stepRackF o cs inn (u,v) ms=(ms,outs0 ms):=fun o=>by simp only[stepRackF,hL,sweep]
  try simp -dsimp only[go_sem,hI,zUr,U,oOrder,zFd,zAg,zAo,zBj,zBo1,zTm1,zNx1]
  refine zAp (ι:=Unit) (fun _=>⟨[(0,some (.c (.ptr 0 0 0 0))),(1,some (.c (.im (.int .i64 inn)))),(2,some (.c (.im (.cpx .f32 u v)))),(3,some (.c (.fn (.func 228) []))),(9,some (.c (.view 3 1 0 ms.length))),(61,some (.c .nil)),(62,some (.c (.im (.int .i64 0)))),(63,some (.c (.im (.int .i64 0))))],
   [(0,some (.box [.t (.lent 1 11 ms.length),.t (.lent 2 2 cs.length)])),(1,some (.arr 11 (tM ms))),(2,some (.arr 2 (tI (rowsC cs)))),(3,some (.arr 1 (tI (rowsZ (outs0 ms)))))],4⟩) (fun _=>0) () ⟨[],[0,1,2,3],by (simp only[go_sem,MvRt,zPk])<;>simp[lk,zAn]⟩ (fun _=>?_)
  try simp -dsimp only[go_sem,f226,Int.lt_irrefl]
  refine zAh [.fold 0 0 0,.fold 0 0 1] ?_;simp -dsimp only[go_sem,zAg,zFd,zAo,hS];refine⟨[3],?_,?_,?_,rfl⟩<;>simp[rtOk]
 | some L=>
  have U:=zHr h1 h2 h4;rw[ho] at U;try simp -dsimp only[go_sem,hI,zUr,U,oOrder,zFd,zAg,zAo,zBj,zBo1,zTm1,zNx1]
  have hL:ordL ms cs=L:=by simp[ordL,ho]
  have f2:∀i∈L,0≤i∧i<ms.length:=fun i hi=>zEs1 i (by rw[hL];exact hi);have j8:L.length≤ms.length:=by rw[←hL];exact zBm2 ms cs
  refine zAp (ι:={x:Nat×(Nat→Or)//x.1≤L.length}) (fun x=>⟨[(0,some (.c (.ptr 0 0 0 0))),(1,some (.c (.im (.int .i64 inn)))),(2,some (.c (.im (.cpx .f32 u v)))),(3,some (.c (.fn (.func 228) []))),(9,some (.c (.view 3 1 0 ms.length))),(61,some (.c (.view 4 1 0 L.length))),(62,some (.c (.im (.int .i64 (L.length:Int))))),(63,some (.c (.im (.int .i64 (x.1.1:Int)))))],
   [(0,some (.box [.t (.lent 1 11 ms.length),.t (.lent 2 2 cs.length)])),(1,some (.arr 11 (tM (sweep x.1.2 cs inn (u,v) (L.take x.1.1) 0 (ms,outs0 ms)).1))),(2,some (.arr 2 (tI (rowsC cs)))),(3,some (.arr 1 (tI (rowsZ (sweep x.1.2 cs inn (u,v) (L.take x.1.1) 0 (ms,outs0 ms)).2)))),(4,some (.arr 1 (tI (rowsN L))))],5⟩) (fun x=>L.length-x.1.1) ⟨(0,fun _=>((0,0),(0,0))),by simp⟩ ⟨[],[0,1,2,3,4],by ((simp only[go_sem,MvRt,zPk,yan,sweep])<;>(try (simp -dsimp only[go_sem,yaj,yai,MvRt,zPk,yan,sweep])))<;>simp[]⟩ (fun ⟨⟨j,o⟩,hj⟩=>?_)
  have d9:=zVh (o:=o) (cs:=cs) (inn:=inn) (z:=(u,v)) (L.take j) 0 (ms,outs0 ms);have f1:=zDm1 (o:=o) (cs:=cs) (inn:=inn) (z:=(u,v)) (L.take j) 0 (ms,outs0 ms) (fun i hi=>f2 i (List.mem_of_mem_take hi)) h3;have d7:=fun (i:Int) (hi:L[j]?=some i)=>zQl1 (o:=o) (cs:=cs) (inn:=inn) (z:=(u,v)) (s0:=(ms,outs0 ms)) hi;have f0:j=L.length→stepRackF o cs inn (u,v) ms=sweep o cs inn (u,v) (L.take j) 0 (ms,outs0 ms):=fun e=>by subst e;simp only[stepRackF,hL,List.take_length]
  simp only;generalize hs:sweep o cs inn (u,v) (L.take j) 0 (ms,outs0 ms)=s at*;obtain ⟨a,b⟩:=s;simp only at d9 f1 d7 ⊢;have d2:a.length=ms.length:=d9.1;have j6:b.length=ms.length:=by rw[d9.2];simp[outs0]
  have e4:(tM a).take ms.length=tM a:=by rw[←d2];exact zTm1 a
  by_cases b4:j<L.length;rotate_left
  ·have hI:¬((j:Int)<(L.length:Int)):=(by omega);have hf:=f0 (by omega);(try simp -dsimp only[go_sem,f226,hI]);refine zAh [.fold 0 0 0,.fold 0 0 1] ?_;simp -dsimp only[go_sem,zAg,zFd,zAo,d2];refine⟨o,?_⟩;rw[hf];refine⟨rfl,[3],?_,?_,?_,rfl⟩<;>simp[rtOk]
  obtain ⟨i,hi⟩:∃i,L[j]?=some i:=⟨_,List.getElem?_eq_getElem b4⟩;obtain ⟨h7,j5⟩:=f2 i (List.mem_of_getElem? hi);obtain ⟨n,rfl⟩:=Int.eq_ofNat_of_zero_le h7;have e8:n<ms.length:=by omega
  obtain ⟨m,hm⟩:∃m,a[n]?=some m:=⟨_,List.getElem?_eq_getElem (by omega)⟩;obtain ⟨p0,g7⟩:∃p,b[n]?=some p:=⟨_,List.getElem?_eq_getElem (by omega)⟩;have b6:=zOb1 hi;have hI:((j:Int)<(L.length:Int))=True:=by simp;omega
  have h0:0≤(j:Int):=by simp
  have d3:((n:Int)<(ms.length:Int))=True:=by simp;omega
  have d4:0≤(n:Int):=by simp
  have b1:=zDh (by omega:L.length≤sm) b4;have e6:=zIm1 (ms:=a) h2 n;have f5:(feedsF cs n).length≤sm:=Nat.le_trans (zUy _ _) h2;have f4:=zYc1 (i:=(n:Int)) h4;have hsK:=fun (k:Nat) (f:Int) (hf:(feedsF cs n)[k]?=some f)=>zDf2 (cs:=cs) (i:=n) (inn:=inn) (z:=(u,v)) (outs:=b) hf;have e5:=zDg2 (cs:=cs) (i:=(n:Int)) (inn:=inn) (z:=(u,v)) (outs:=b);have V:=zHb2 hm;simp only[modT] at V;have Z:∀m':Mod,(tM (a.set n m'))[n]?=some (modT m'):=fun m'=>zHb2 (List.getElem?_set_self (by omega));have b9:∀m':Mod,(tM a).set n (modT m')=tM (a.set n m'):=fun m'=>zJs2 a n m';simp only[modT] at Z b9;have c1:∀w1 w2:Nat,zGn1.run [.c (.ptr 0 0 0 0),.c (.im (.cpx .f32 w1 w2))] [modB m]=some (oStep m (w1,w2)):=fun w1 w2=>zAu2 (f1 m (List.mem_of_getElem? hm)) w1 w2;simp only[modB] at c1;have U:=zTk g7;have d0:∀(J:Or) (w:Pt),(stepF J m w).1.kind=m.kind:=fun J w=>zRn J m w;by_cases d1:(n:Int)=inn
  ·have b0:=eq_true d1;have b7:inSumK cs n inn (u,v) b 0=addPt (0,0) (u,v):=(by simp only[inSumK,yan,List.foldl_nil,b0,yav]);clear d1;try simp -dsimp only[go_sem,hI,h0,b6,b0,e6,zLu1,zOf1,zBj,zBo1,e4,zNx1,zAe,zFd,zAg,zAo,d2,rNew,Int.toNat_natCast]
   refine zAp (ι:={k:Nat//k≤(feedsF cs n).length}) (fun k=>⟨[(0,some (.c (.ptr 0 0 0 0))),(1,some (.c (.im (.int .i64 inn)))),(2,some (.c (.im (.cpx .f32 u v)))),(3,some (.c (.fn (.func 228) []))),(9,some (.c (.view 3 1 0 ms.length))),(15,some (.c (.im (.int .i64 (n:Int))))),(16,some (.c (.im (.cpx .f32 (inSumK cs n inn (u,v) b k.1).1 (inSumK cs n inn (u,v) b k.1).2)))),(61,some (.c (.view 4 1 0 L.length))),(62,some (.c (.im (.int .i64 (L.length:Int))))),(63,some (.c (.im (.int .i64 (j:Int))))),(77,some (.c (.view 5 1 0 (feedsF cs n).length))),(78,some (.c (.im (.int .i64 ((feedsF cs n).length:Int))))),(79,some (.c (.im (.int .i64 (k.1:Int)))))],
    [(0,some (.box [.t (.lent 1 11 ms.length),.t (.lent 2 2 cs.length)])),(1,some (.arr 11 (tM a))),(2,some (.arr 2 (tI (rowsC cs)))),(3,some (.arr 1 (tI (rowsZ b)))),(4,some (.arr 1 (tI (rowsN L)))),(5,some (.arr 1 (tI (rowsN (feedsF cs n)))))],6⟩) (fun k=>(feedsF cs n).length-k.1) ⟨0,by simp⟩ ⟨[],[0,1,2,3,4,5],by ((simp only[go_sem,MvRt,zPk,b7])<;>(try (simp -dsimp only[go_sem,yaj,yai,MvRt,zPk,b7])))<;>simp[]⟩ (fun ⟨k,hk⟩=>?_)
   by_cases a7:k<(feedsF cs n).length
   ·obtain ⟨f,hf⟩:∃f,(feedsF cs n)[k]?=some f:=⟨_,List.getElem?_eq_getElem a7⟩;obtain ⟨d8,h8⟩:=f4 f (List.mem_of_getElem? hf);obtain ⟨q,rfl⟩:=Int.eq_ofNat_of_zero_le d8;have g6:q<ms.length:=(by omega);obtain ⟨p,hp⟩:∃p,b[q]?=some p:=⟨_,List.getElem?_eq_getElem (by omega)⟩;have b3:=zOb1 hf;have b2:=zTk hp;have a8:((k:Int)<((feedsF cs n).length:Int))=True:=(by simp;omega);have e2:0≤(k:Int):=(by simp);have e0:((q:Int)<(ms.length:Int))=True:=(by simp;omega);have e1:0≤(q:Int):=(by simp);have b8:=zDh f5 a7;have E:=hsK k q hf;rw[show b.getD (q:Int).toNat (0,0)=p by simp[List.getD,hp]] at E;(try simp -dsimp only[go_sem,a8,e2,e0,e1,b3,b2,b8,zLu1,Int.toNat_natCast]);exact⟨⟨k+1,by omega⟩,by simp only[];omega,[],[0,1,2,3,4,5],by (simp only[go_sem,MvRt,zPk,E])<;>simp[lk,zAn]⟩
   have a8:¬((k:Int)<((feedsF cs n).length:Int)):=(by omega);have c6:k=(feedsF cs n).length:=(by omega);clear a7;subst c6;rw[e5];have E:=d7 n hi;simp only[sweep1,Int.toNat_natCast,show a.getD n dMod=m by simp[List.getD,hm]] at E;generalize inSum cs n inn (u,v) b=zz at*;obtain ⟨z1,z2⟩:=zz;by_cases F:m.kind=4
   ·have G:∀J:Or,((stepF J m (z1,z2)).1.kind=4)=True:=fun J=>eq_true (by rw[d0];exact F);simp only[F,yav] at E;(try simp -dsimp only[go_sem,a8,d3,d4,V,c1,oStep,zBy2,modB,Z,b9,G,b1,zKf,zKg,Int.toNat_natCast]);intro J;refine⟨⟨(j+1,fun q=>if q=j then J else o q),by simp only[];omega⟩,by simp only[];omega,[],[0,1,2,3,4],?_⟩;simp only[E J]
    (simp only[go_sem,MvRt,zPk])
    all_goals simp[lk,zAn]
   ·have G:∀J:Or,((stepF J m (z1,z2)).1.kind=4)=False:=fun J=>eq_false (by rw[d0];exact F);simp only[F,yau] at E;(try simp -dsimp only[go_sem,a8,d3,d4,V,c1,oStep,zBy2,modB,Z,b9,G,U,b1,zKf,zKg,zRv,zDk1,Int.toNat_natCast]);intro J;refine⟨⟨(j+1,fun q=>if q=j then J else o q),by simp only[];omega⟩,by simp only[];omega,[],[0,1,2,3,4],?_⟩;simp only[E J]
    (simp only[go_sem,MvRt,zPk])
    all_goals simp[lk,zAn]
  ·have b0:=eq_false d1;have b7:inSumK cs n inn (u,v) b 0=(0,0):=(by simp only[inSumK,yan,List.foldl_nil,b0,yau]);clear d1;try simp -dsimp only[go_sem,hI,h0,b6,b0,e6,zOf1,zBj,zBo1,e4,zNx1,zAe,zFd,zAg,zAo,d2,rNew,Int.toNat_natCast]
   refine zAp (ι:={k:Nat//k≤(feedsF cs n).length}) (fun k=>⟨[(0,some (.c (.ptr 0 0 0 0))),(1,some (.c (.im (.int .i64 inn)))),(2,some (.c (.im (.cpx .f32 u v)))),(3,some (.c (.fn (.func 228) []))),(9,some (.c (.view 3 1 0 ms.length))),(15,some (.c (.im (.int .i64 (n:Int))))),(16,some (.c (.im (.cpx .f32 (inSumK cs n inn (u,v) b k.1).1 (inSumK cs n inn (u,v) b k.1).2)))),(61,some (.c (.view 4 1 0 L.length))),(62,some (.c (.im (.int .i64 (L.length:Int))))),(63,some (.c (.im (.int .i64 (j:Int))))),(77,some (.c (.view 5 1 0 (feedsF cs n).length))),(78,some (.c (.im (.int .i64 ((feedsF cs n).length:Int))))),(79,some (.c (.im (.int .i64 (k.1:Int)))))],
    [(0,some (.box [.t (.lent 1 11 ms.length),.t (.lent 2 2 cs.length)])),(1,some (.arr 11 (tM a))),(2,some (.arr 2 (tI (rowsC cs)))),(3,some (.arr 1 (tI (rowsZ b)))),(4,some (.arr 1 (tI (rowsN L)))),(5,some (.arr 1 (tI (rowsN (feedsF cs n)))))],6⟩) (fun k=>(feedsF cs n).length-k.1) ⟨0,by simp⟩ ⟨[],[0,1,2,3,4,5],by ((simp only[go_sem,MvRt,zPk,b7])<;>(try (simp -dsimp only[go_sem,yaj,yai,MvRt,zPk,b7])))<;>simp[]⟩ (fun ⟨k,hk⟩=>?_)
   by_cases a7:k<(feedsF cs n).length
   ·obtain ⟨f,hf⟩:∃f,(feedsF cs n)[k]?=some f:=⟨_,List.getElem?_eq_getElem a7⟩;obtain ⟨d8,h8⟩:=f4 f (List.mem_of_getElem? hf);obtain ⟨q,rfl⟩:=Int.eq_ofNat_of_zero_le d8;have g6:q<ms.length:=(by omega);obtain ⟨p,hp⟩:∃p,b[q]?=some p:=⟨_,List.getElem?_eq_getElem (by omega)⟩;have b3:=zOb1 hf;have b2:=zTk hp;have a8:((k:Int)<((feedsF cs n).length:Int))=True:=(by simp;omega);have e2:0≤(k:Int):=(by simp);have e0:((q:Int)<(ms.length:Int))=True:=(by simp;omega);have e1:0≤(q:Int):=(by simp);have b8:=zDh f5 a7;have E:=hsK k q hf;rw[show b.getD (q:Int).toNat (0,0)=p by simp[List.getD,hp]] at E;(try simp -dsimp only[go_sem,a8,e2,e0,e1,b3,b2,b8,zLu1,Int.toNat_natCast]);exact⟨⟨k+1,by omega⟩,by simp only[];omega,[],[0,1,2,3,4,5],by (simp only[go_sem,MvRt,zPk,E])<;>simp[lk,zAn]⟩
   have a8:¬((k:Int)<((feedsF cs n).length:Int)):=(by omega);have c6:k=(feedsF cs n).length:=(by omega);clear a7;subst c6;rw[e5];have E:=d7 n hi;simp only[sweep1,Int.toNat_natCast,show a.getD n dMod=m by simp[List.getD,hm]] at E;generalize inSum cs n inn (u,v) b=zz at*;obtain ⟨z1,z2⟩:=zz;by_cases F:m.kind=4
   ·have G:∀J:Or,((stepF J m (z1,z2)).1.kind=4)=True:=fun J=>eq_true (by rw[d0];exact F);simp only[F,yav] at E;(try simp -dsimp only[go_sem,a8,d3,d4,V,c1,oStep,zBy2,modB,Z,b9,G,b1,zKf,zKg,Int.toNat_natCast]);intro J;refine⟨⟨(j+1,fun q=>if q=j then J else o q),by simp only[];omega⟩,by simp only[];omega,[],[0,1,2,3,4],?_⟩;simp only[E J]
    (simp only[go_sem,MvRt,zPk])
    all_goals simp[lk,zAn]
   ·have G:∀J:Or,((stepF J m (z1,z2)).1.kind=4)=False:=fun J=>eq_false (by rw[d0];exact F);simp only[F,yau] at E;(try simp -dsimp only[go_sem,a8,d3,d4,V,c1,oStep,zBy2,modB,Z,b9,G,U,b1,zKf,zKg,zRv,zDk1,Int.toNat_natCast]);intro J;refine⟨⟨(j+1,fun q=>if q=j then J else o q),by simp only[];omega⟩,by simp only[];omega,[],[0,1,2,3,4],?_⟩;simp only[E J]
    (simp only[go_sem,MvRt,zPk])
    all_goals simp[lk,zAn]
end Go.SX
