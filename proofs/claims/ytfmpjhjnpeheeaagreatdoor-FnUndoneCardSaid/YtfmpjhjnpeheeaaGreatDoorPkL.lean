/-
  strings.TrimPrefix at one byte; slices.Index, Contains at strings; joined, orNone.
  Session.power, edit.
  Session.work.
  Session.ask.
  ExecuteLine.
  spec.MakeLine; laws.FnUndone: the walk.
  spec: l4Odd: a ring that need not be one.
  What the rows' lists give: the package variables of 'Laid' hold what they are to hold.
  A law over one []byte: what the frame asks, from the law's contract; the package variables that stand are given.
  FnUndone: the given statement's card: the law returns true at every input, which reads behind the call as it did. The frame: lines of the kit's printed shell for a law over a slice, and of the guide's page on a row that lists variables.
  No condition.
-/
import Derived.Test.YtfmpjhjnpeheeaaGreatDoorRows
import Derived.Test.YtfmpjhjnpeheeaaGreatDoorCards
import Derived.Test.YtfmpjhjnpeheeaaGreatDoorTie
import Derived.WalkKit
import Derived.ProofKit
import Derived.OpenShut
import Derived.Lay
import Derived.MakeChecks
import Derived.Deep.DeepHandedRow
import Derived.Lib.LaidTab
import Derived.Lib.LaidU8
import Derived.Stop.LaidErr
import Derived.SevenTiedAt
import Derived.Test.YtfmpjhjnpeheeaaGreatDoorPkK
set_option maxRecDepth 100000
set_option maxHeartbeats 16000000
set_option linter.unusedVariables false
set_option linter.unusedSimpArgs false
namespace Go.SX
open Go Go.Proofs Tryz Ieee
noncomputable def zJf:Ct:=fam true (fun x:SB=>([.c (.im (.str ⟨x.1.1.toArray⟩)),.c (.im (.str ⟨#[x.1.2]⟩))],[])) (fun x=>.one {val:=.c (.im (.str ⟨(cutP x.1.2 x.1.1).1.toArray⟩))})
theorem zVr {s:Txt}(h:s.length≤2097152)(c:UInt8):zJf.run [.c (.im (.str ⟨s.toArray⟩)),.c (.im (.str ⟨#[c]⟩))] []=some (.one {val:=.c (.im (.str ⟨(cutP c s).1.toArray⟩))}):=
 zAc (ct:=zJf) rfl zLi1 ⟨(s,c),h⟩
theorem zXr:Law prog 229 zJf:=by
 refine zAf (zAa zQt zAd) hmixA func229 rfl rfl (fun ⟨⟨s,c⟩,h⟩=>⟨zAv rfl,by simp[f229],?_⟩);simp only at h ⊢;have G:((1:Nat):Int)=1:=rfl;have F:=zQd h c
 cases s with
 | nil=>
  simp only[cutP] at F ⊢;try simp -dsimp only[go_sem,f229,F]
 | cons b t=>
  have h1:(1:Int)≤((t.length+1:Nat):Int):=by omega
  have hx:(⟨(b::t).toArray⟩:ByteArray).extract 1 (t.length+1)=⟨t.toArray⟩:=by rw[zNz];simp
  by_cases e:b=c
  ·have E:cutP c (b::t)=(t,true):=if_pos e;rw[E] at F;try simp -dsimp only[go_sem,f229,F,E,zGl,yab,G,h1,hx,Int.toNat_one,Int.toNat_natCast,Int.reduceLE]
  ·have E:cutP c (b::t)=(b::t,false):=if_neg e;rw[E] at F;try simp -dsimp only[go_sem,f229,F,E]
noncomputable def zLb:Ct:=fam true (fun x:SB=>([.c (.im (.str ⟨x.1.1.toArray⟩)),.c (.im (.str ⟨#[x.1.2]⟩))],[])) (fun x=>.one {val:=.c (.im (.str ⟨(cutP x.1.2 x.1.1).1.toArray⟩))})
theorem zAm1 {s:Txt}(h:s.length≤2097152)(c:UInt8):zLb.run [.c (.im (.str ⟨s.toArray⟩)),.c (.im (.str ⟨#[c]⟩))] []=some (.one {val:=.c (.im (.str ⟨(cutP c s).1.toArray⟩))}):=
 zAc (ct:=zLb) rfl zLi1 ⟨(s,c),h⟩
theorem zAz1:Law prog 169 zLb:=by
 refine zAf (zAa zXr zAd) hmixA func169 rfl rfl (fun ⟨⟨s,c⟩,h⟩=>⟨zAv rfl,by simp[f169],?_⟩);have rh:=zVr h c;simp only at rh ⊢;try simp -dsimp only[go_sem,f169,rh]
def idxT {α:Type}(f:α→Bool):List α→Nat→Int
 | [],_ => -1
 | x::l,k=>if f x=true then (k:Int) else idxT f l (k+1)
theorem zXs1 {α:Type}{f:α→Bool}{l:List α}{k:Nat}{p:α}(h:l[k]?=some p):idxT f (l.drop k) k=if f p=true then (k:Int) else idxT f (l.drop (k+1)) (k+1):=by
 obtain ⟨E,rfl⟩:=List.getElem?_eq_some_iff.1 h;rw[List.drop_eq_getElem_cons E];rfl
theorem zPl1 {α:Type}{f:α→Bool}:∀(l:List α) (k:Nat),decide (0≤idxT f l k)=l.any f
 | [],_=>rfl
 | x::l,k=>by
  have E:=zPl1 (f:=f) l (k+1)
  cases h:f x with
  | true=>
   have e:idxT f (x::l) k=(k:Int):=(by simp[idxT,h]);simp only[e,List.any_cons,h,Bool.true_or];exact decide_eq_true (by omega)
  | false=>
   have e:idxT f (x::l) k=idxT f l (k+1):=(by simp[idxT,h]);simp only[e,List.any_cons,h,yaT,E]
abbrev AIx:={l:List Txt//l.length≤sm}×Txt
theorem zZr1:∀a b:AIx,([D.c (.im (.sl 1 (rowsS a.1.1))),.c (.im (.str ⟨a.2.toArray⟩))],([]:List (List B)))=([D.c (.im (.sl 1 (rowsS b.1.1))),.c (.im (.str ⟨b.2.toArray⟩))],[])→a=b:=by
 rintro ⟨⟨a,_⟩,c⟩ ⟨⟨b,_⟩,d⟩ h;simp only[Prod.mk.injEq,List.cons.injEq,D.c.injEq,C.im.injEq,I.sl.injEq,I.str.injEq,zLn,zUu,true_and,and_true] at h;exact Prod.ext (Subtype.ext h.1) h.2
noncomputable def zIj:Ct:=fam true (fun x:AIx=>([.c (.im (.sl 1 (rowsS x.1.1))),.c (.im (.str ⟨x.2.toArray⟩))],[])) (fun x=>.one {val:=.c (.im (.int .i64 (idxT (fun y=>decide (x.2=y)) x.1.1 0)))})
theorem zUe {l:List Txt}(hl:l.length≤sm)(v:Txt):zIj.run [.c (.im (.sl 1 (rowsS l))),.c (.im (.str ⟨v.toArray⟩))] []=some (.one {val:=.c (.im (.int .i64 (idxT (fun y=>decide (v=y)) l 0)))}):=
 zAc (ct:=zIj) rfl zZr1 (⟨l,hl⟩,v)
theorem zUi:Law prog 158 zIj:=by
 refine zAf zAd hmixA func158 rfl rfl (fun ⟨⟨l,hl⟩,v⟩=>⟨zAv rfl,by simp[f158],?_⟩);simp only;try simp -dsimp only[go_sem,f158,zBe]
 refine zAp (ι:={k:Nat//k≤l.length∧idxT (fun y=>decide (v=y)) l 0=idxT (fun y=>decide (v=y)) (l.drop k) k}) (fun k=>⟨[(0,some (.c (.im (.sl 1 (rowsS l))))),(1,some (.c (.im (.str ⟨v.toArray⟩)))),(7,some (.c (.im (.int .i64 (l.length:Int))))),(8,some (.c (.im (.int .i64 (k.1:Int)))))],
  [],0⟩) (fun k=>l.length-k.1) ⟨0,by simp⟩ ⟨[],[],by ((simp only[go_sem,yai])<;>(try (simp -dsimp only[go_sem,yaj,yai])))<;>simp⟩ (fun ⟨k,hk,E⟩=>?_)
 simp only;by_cases U:k<l.length
 ·obtain ⟨p,hp⟩:∃p,l[k]?=some p:=⟨_,List.getElem?_eq_getElem U⟩;have J:=zOi1 hp;have Z:((k:Int)<(l.length:Int))=True:=by simp;omega
  have h0:0≤(k:Int):=by simp
  have F:=zXs1 (f:=(fun y=>decide (v=y))) hp;have a6:=zDh hl U;by_cases V:v=p
  ·have G:=eq_true V;simp only[G,yaM,yav] at F;rw[F] at E;clear F V;try simp -dsimp only[go_sem,f158,Z,h0,Int.toNat_natCast,J,zAr,G,E]
  ·have G:=eq_false V;simp only[G,yaL,yau,yat] at F;rw[F] at E;clear F V;(try simp -dsimp only[go_sem,Z,h0,Int.toNat_natCast,J,zAr,G,a6]);exact⟨⟨k+1,by omega,E⟩,by simp only[];omega,[],[],by (simp only[go_sem,yai])<;>simp⟩
 ·have Z:((k:Int)<(l.length:Int))=False:=by simp;omega
  have a7:k=l.length:=by omega
  subst a7;rw[List.drop_length] at E;try simp -dsimp only[go_sem,f158,Z,E,idxT]
noncomputable def zDe:Ct:=fam true (fun x:AIx=>([.c (.im (.sl 1 (rowsS x.1.1))),.c (.im (.str ⟨x.2.toArray⟩))],[])) (fun x=>.one {val:=.c (.im (.bool (x.1.1.any (fun y=>decide (x.2=y)))))})
theorem zHv {l:List Txt}(hl:l.length≤sm)(v:Txt):zDe.run [.c (.im (.sl 1 (rowsS l))),.c (.im (.str ⟨v.toArray⟩))] []=some (.one {val:=.c (.im (.bool (l.any (fun y=>decide (v=y)))))}):=
 zAc (ct:=zDe) rfl zZr1 (⟨l,hl⟩,v)
theorem zFm:(zDe.sc=true)=True:=by simp[zDe,fam]
theorem zOv:Law prog 90 zDe:=by
 refine zAf (zAa zUi zAd) hmixA func90 rfl rfl (fun ⟨⟨l,hl⟩,v⟩=>⟨zAv rfl,by simp[f90],?_⟩);have E:=zPl1 (f:=fun y=>decide (v=y)) l 0;simp only;try simp -dsimp only[go_sem,f90,zUe hl v,E]
def orN (s:Txt):Txt:=if s=[] then [110,111,110,101] else s
theorem zVg1 (s:Txt):orN s≠[]:=by
 unfold orN;split
 ·simp
 ·assumption
noncomputable def zYw:Ct:=fam true (fun s:Txt=>([.c (.im (.str ⟨s.toArray⟩))],[])) (fun s=>.one {val:=.c (.im (.str ⟨(orN s).toArray⟩))})
theorem zRr (s:Txt):zYw.run [.c (.im (.str ⟨s.toArray⟩))] []=some (.one {val:=.c (.im (.str ⟨(orN s).toArray⟩))}):=
 zAc (ct:=zYw) rfl (fun a b h=>by simp only[Prod.mk.injEq,List.cons.injEq,D.c.injEq,C.im.injEq,I.str.injEq,zLn,and_true] at h;exact h) s
theorem zRy1:Law prog 171 zYw:=by
 refine zAf zAd hmixA func171 rfl rfl (fun s=>⟨zAv rfl,by simp[f171],?_⟩);by_cases h:s=[]
 ·have h':=eq_true h;have ho:orN s=[110,111,110,101]:=by simp[orN,h]
  rw[ho];clear h;try simp -dsimp only[go_sem,f171,zAr,h']
 ·have h':=eq_false h;have ho:orN s=s:=by simp[orN,h]
  rw[ho];clear h;try simp -dsimp only[go_sem,f171,zAr,h']
structure AJd where
 l:List Int
 c:UInt8
 h:l.length≤sm
 b:∀x∈l,i64B x
noncomputable def zMz:Ct:=fam false (fun x:AJd=>([.c (.im (.sl 1 (rowsN x.l))),.c (.im (.str ⟨#[x.c]⟩))],[])) (fun x=>.one {val:=.c (.im (.str ⟨(jnT (x.l.map Lib.itoa) x.c).toArray⟩))})
theorem zRt {l:List Int}(c:UInt8)(h:l.length≤sm)(b:∀x∈l,i64B x):zMz.run [.c (.im (.sl 1 (rowsN l))),.c (.im (.str ⟨#[c]⟩))] []=some (.one {val:=.c (.im (.str ⟨(jnT (l.map Lib.itoa) c).toArray⟩))}):=by
 refine zAc (ct:=zMz) rfl ?_ ⟨l,c,h,b⟩;rintro ⟨a,b,_,_⟩ ⟨F,E,_,_⟩ h;simp only[Prod.mk.injEq,List.cons.injEq,D.c.injEq,C.im.injEq,I.sl.injEq,I.str.injEq,ByteArray.mk.injEq,zAx,true_and,and_true] at h;obtain ⟨rfl,h2⟩:=h;have:b=E:=by simpa using h2
 subst this;rfl
theorem zTu1:(zMz.sc=true)=False:=by simp[zMz,fam]
theorem zDg1 {sc:Bool}(l:List Txt):MvR sc (.arr 1 (tI (rowsS l)))=True:=eq_true (zDg (zHz1 _))
theorem zSf1:Law prog 172 zMz:=by
 refine zAf (zAa zUw (zAa zFk1 zAd)) hmixA func172 rfl rfl (fun ⟨l,c,hl,hb⟩=>⟨zAv rfl,by simp[f172],?_⟩);have b2:sm=16777216:=rfl;simp only;try simp -dsimp only[go_sem,f172,zAe]
 refine zAp (ι:={k:Nat//k≤l.length}) (fun k=>⟨[(1,some (.c (.im (.str ⟨#[c]⟩)))),(5,some (.c (.view 0 1 0 k.1))),(9,some (.c (.im (.sl 1 (rowsN l))))),(10,some (.c (.im (.int .i64 (l.length:Int))))),(11,some (.c (.im (.int .i64 (k.1:Int)))))],
  [(0,some (.arr 1 (tI (rowsS ((l.take k.1).map Lib.itoa)))))],1⟩) (fun k=>l.length-k.1) ⟨0,by simp⟩ ⟨[],[0],by ((simp only[go_sem,yai,zDg1])<;>(try (simp -dsimp only[go_sem,yaj,yai,zDg1])))<;>simp[tI,rowsS]⟩ (fun ⟨k,hk⟩=>?_)
 simp only at hk ⊢;have V:(tI (rowsS ((l.take k).map Lib.itoa))).length=k:=by simp[zAg,zBe];omega
 by_cases J:k<l.length
 ·obtain ⟨p,F⟩:∃p,l[k]?=some p:=⟨_,List.getElem?_eq_getElem J⟩;have G:=zEx F;have hI:(k:Int)<(l.length:Int):=by omega
  have h0:0≤(k:Int):=by omega
  have Z:=zDh hl J;have ri:=zNs (hb p (List.mem_of_getElem? F));have E:=zTo1 ((l.take k).map Lib.itoa) (Lib.itoa p);rw[show (l.take k).map Lib.itoa++[Lib.itoa p]=(l.take (k+1)).map Lib.itoa by rw[zCy F];simp] at E;have U:(tI (rowsS ((l.take (k+1)).map Lib.itoa))).length=k+1:=by simp[zAg,zBe];omega
  have a7:(k+1)*16≤140737488355328:=by omega
  try simp -dsimp only[go_sem,hI,h0,Z,G,ri,E,V,U,a7,appendH,srcRows,List.take_succ_cons,yan,yao,yap,okT,yaq,Int.toNat_natCast]
  exact⟨⟨k+1,by omega⟩,by simp only[];omega,[],[2],by (simp only[go_sem,yai,zDg1])<;>simp[lk,zAn]⟩
 ·have hI:¬((k:Int)<(l.length:Int)):=by omega
  obtain rfl:k=l.length:=by omega
  rw[List.take_length] at V ⊢
  have rj:=zEa1 (l:=l.map Lib.itoa) c (by simpa using hl) (fun p F=>by
   simp only[List.mem_map] at F
   obtain ⟨x,hx,rfl⟩:=F
   have:=zBm (hb x hx)
   omega)
  have a6:mapO (mapO imT) (tI (rowsS (l.map Lib.itoa)))=some (rowsS (l.map Lib.itoa)):=zCb _;try simp -dsimp only[go_sem,f172,hI,rj,zRp,a6,V]
structure QSe (R:Rk) (past:List Rk) where
 R':Rk
 past':List Rk
 out:Txt
 ok:Bool
 h:ok=true→past'=past++[R]∧VR R'∧out≠[]
def rSe {R:Rk}{past:List Rk}(q:QSe R past):Res:={val:=.tup [.agg [.im (.sl 11 (rowsM q.R'.1)),.im (.sl 2 (rowsC q.R'.2)),.im (.sl 2 (rowsR q.past'))],.c (.im (.str ⟨q.out.toArray⟩)),.c (.im (.bool q.ok))]}
def oSe (R:Rk)(past:List Rk):Outs:=.any (QSe R past) rSe
theorem zLc2 (R:Rk)(past:List Rk):Nonempty (QSe R past)=True:=by simp only[eq_iff_iff,iff_true];exact⟨⟨R,past,[],false,by simp⟩⟩
theorem zVn1 (R:Rk)(past:List Rk):∀res,(oSe R past).mem res→OkR false res:=okA (fun q=>zXa (zOm q.R' q.past') _ _)
theorem zRl1 {B:Bool}{r r2:Rk}(h:okRk B r=r2)(hv:B=true→VR r):B=true→VR r2:=fun hb=>by
 have:=hv hb;subst hb;rw[←h];exact this
structure APw where
 R:Rk
 past:List Rk
 i:Int
 m:Mod
 ok:Bool
 v:VR R
 len:past.length≤19
 om:OkM m
 wm:ok=true→Wd m
noncomputable def zRc:Ct:=fam false (fun x:APw=>([.agg (sesC x.R x.past),.c (.im (.int .i64 x.i)),.agg (modC x.m),.c (.im (.bool x.ok))],[])) (fun x=>oSe x.R x.past)
theorem zIf1 {R:Rk}{past:List Rk}{m:Mod}{ok:Bool}(v:VR R)(h:past.length≤19)(om:OkM m)(wm:ok=true→Wd m)(i:Int):zRc.run [.agg (sesC R past),.c (.im (.int .i64 i)),.agg (modC m),.c (.im (.bool ok))] []=some (oSe R past):=by
 refine zAc (ct:=zRc) rfl ?_ ⟨R,past,i,m,ok,v,h,om,wm⟩;rintro ⟨a,b,c,d,e,_,_,_,_⟩ ⟨J,G,F,d',E,_,_,_,_⟩ h;simp only[Prod.mk.injEq,List.cons.injEq,D.agg.injEq,D.c.injEq,C.im.injEq,I.int.injEq,I.bool.injEq,true_and,and_true] at h;obtain ⟨h1,rfl,h2,rfl⟩:=h;obtain ⟨rfl,rfl⟩:=zIl h1;obtain rfl:=zDj h2;rfl
theorem zOe1:(zRc.sc=true)=False:=by simp[zRc,fam]
theorem zWr1:Law prog 167 zRc:=by
 refine zAf (zAa zMl (zAa zOt zAd)) hmixA func167 rfl rfl (fun ⟨⟨ms,cs⟩,past,i,m,ok,v,hl,om,wm⟩=>⟨zVn1 _ _,by simp[f167,modC],?_⟩);have rs:=zMa v i om;have G:ok=true→swB (ms,cs) i m=true→VR (ms.set i.toNat m,cs):=fun h1 h2=>zJu2 v (wm h1) h2;simp only at rs;generalize swB (ms,cs) i m=B at rs G;obtain ⟨⟨E,F⟩,h2⟩:∃r,okRk B (ms.set i.toNat m,cs)=r:=⟨_,rfl⟩;simp only[rDk,h2] at rs;have rc:=zOo (R:=(ms,cs)) (r:=(E,F)) hl;simp only[sesC,rkC,modC,oSe] at rs rc ⊢
 cases ok with
 | false=>
  try simp -dsimp only[go_sem,f167,rSe,yaI]
  exact⟨⟨(ms,cs),past,[],false,by simp⟩,⟨rfl,rfl,rfl⟩,rfl,rfl⟩
 | true=>
  try simp -dsimp only[go_sem,f167,rs,rc,zGm,zFf,rSe,yaH]
  exact⟨⟨(E,F),past++[(ms,cs)],[111,107],B,fun hb=>⟨rfl,zRl1 h2 (G rfl) hb,by simp⟩⟩,⟨rfl,rfl,rfl⟩,rfl,rfl⟩
theorem zFf2 (c:UInt8):∀l:List Txt,jnT l c=joinT c l
 | []=>rfl
 | [p]=>by simp[jnT,Lib.join,joinT,List.intercalate]
 | p::q::r=>by
  have E:=zFf2 c (q::r);simp only[joinT,←E];simp[jnT,Lib.join,List.intercalate,List.intersperse]
theorem zSu1 (c:UInt8):∀l:List Txt,(joinT c l.tail).length≤(joinT c l).length
 | []=>Nat.le_refl _
 | [p]=>by simp[joinT]
 | p::q::r=>by simp[joinT];omega
theorem zLr2 {s:Txt}{bad:Bool}:(jnT (rdI (splT 32 s) bad).2.1 32).length≤s.length:=by
 rw[zFf2];have h:=zSu1 32 (splT 32 s);rw[zKa1] at h
 cases hs:splT 32 s with
 | nil=>simp[rdI,joinT]
 | cons p t=>rw[hs] at h;exact h
structure AEd where
 R:Rk
 past:List Rk
 w:Txt
 s:Txt
 v:VR R
 len:past.length≤19
 sl:s.length≤1048576
noncomputable def zZn:Ct:=fam false (fun x:AEd=>([.agg (sesC x.R x.past),.c (.im (.str ⟨x.w.toArray⟩)),.c (.im (.str ⟨x.s.toArray⟩))],[])) (fun x=>oSe x.R x.past)
theorem zBa2 {R:Rk}{past:List Rk}{s:Txt}(v:VR R)(h:past.length≤19)(sl:s.length≤1048576)(w:Txt):zZn.run [.agg (sesC R past),.c (.im (.str ⟨w.toArray⟩)),.c (.im (.str ⟨s.toArray⟩))] []=some (oSe R past):=by
 refine zAc (ct:=zZn) rfl ?_ ⟨R,past,w,s,v,h,sl⟩;rintro ⟨a,b,c,d,_,_,_⟩ ⟨G,F,E,d',_,_,_⟩ h;simp only[Prod.mk.injEq,List.cons.injEq,D.agg.injEq,D.c.injEq,C.im.injEq,I.str.injEq,zLn,and_true] at h;obtain ⟨h1,rfl,rfl⟩:=h;obtain ⟨rfl,rfl⟩:=zIl h1;rfl
theorem zHg2:(zZn.sc=true)=False:=by simp[zZn,fam]
theorem zCu2:Law prog 91 zZn:=by
 refine zAf (zAa zQq (zAa zUg (zAa zBi1 (zAa zUw (zAa zOs (zAa zFk1 (zAa zMl (zAa zYj (zAa zFt1 (zAa zBe1 (zAa zOt zAd))))))))))) hmixA func91 rfl rfl (fun ⟨⟨ms,cs⟩,past,w,s,v,hl,hs⟩=>⟨zVn1 _ _,by simp[f91],?_⟩);have d7:sm=16777216:=rfl;have E:=zQa (s:=s) (show s.length≤2097152 by omega) 32;have b4:=zPr 32 s;have d4:=zPs 32 s;have b5:(jnT (rdI (splT 32 s) false).2.1 32).length≤s.length:=zLr2;obtain ⟨ps,c7⟩:∃ps,splT 32 s=ps:=⟨_,rfl⟩;rw[c7] at E b4 d4 b5;have c6:ps.length≤sm:=by omega
 have b7:∀p∈ps,p.length≤2097152:=fun p hp=>Nat.le_trans (b4 p hp) (by omega);have ri:=zDp (bad:=false) c6 b7;have l1:=zGg ps false;have u1:=zKo (bad:=false) b7;have a7:=zDp (ps:=(rdI ps false).2.1) (bad:=(rdI ps false).2.2) (by omega) u1;have rj:=zEa1 (l:=(rdI ps false).2.1) 32 (by omega) u1;have l2:=zGg (rdI ps false).2.1 (rdI ps false).2.2;obtain ⟨⟨i2,d6,f2⟩,h2⟩:∃x,rdI (rdI ps false).2.1 (rdI ps false).2.2=x:=⟨_,rfl⟩;rw[h2] at a7 l2;obtain ⟨⟨V,Z,f1⟩,h1⟩:∃x,rdI ps false=x:=⟨_,rfl⟩;rw[h1] at ri a7 rj l1 u1 b5 l2;simp only[hsRd] at ri a7 rj l1 l2 b5;clear h1 h2 c7 b4;have F:(zEm.sc=true)=False:=by simp[zEm,fam]
 have rc:∀G J,zGj.run [.agg [.im (.sl 11 (rowsM ms)),.im (.sl 2 (rowsC cs)),.im (.sl 2 (rowsR past))],.agg [.im (.sl 11 (rowsM G)),.im (.sl 2 (rowsC J))]] []=_:=fun G J=>zOo (R:=(ms,cs)) (past:=past) (r:=(G,J)) hl;simp only[sesC] at rc ⊢;simp only[oSe];by_cases U:w=[97,100,100]
 ·have U:=eq_true U;have rp:=zLh hs;have b8:=zKj2 (s:=s);have b9:=zKi2 (s:=s);have ra:=zAu1 v b9;have hv:amF ms cs (pmM s)=true→(implM s).isSome=true→VR (ms++[pmM s],cs):=fun h1 h2=>zNi2 v (b8 h2).2 h1;simp only at ra;generalize (implM s).isSome=B0 at*;generalize amF ms cs (pmM s)=B at ra hv;obtain ⟨⟨G,J⟩,hr⟩:∃r,okRk B (ms++[pmM s],cs)=r:=⟨_,rfl⟩;simp only[rDa,hr,rkC,rMB,modC] at ra rp;generalize pmM s=M at*
  cases B0 with
  | false=>
   (try simp -dsimp only[go_sem,f91,E,zBb,zAr,U,rp,zCf,rSe,yaI]);exact⟨⟨(ms,cs),past,[],false,by simp⟩,⟨rfl,rfl,rfl⟩,rfl,rfl⟩
  | true=>
   cases B with
   | false=>
    have rt:=zNs (n:=0) ⟨by decide,by decide⟩;simp only[yat,yau] at ra;(try simp -dsimp only[go_sem,f91,E,zBb,zAr,U,rp,ra,rt,zCf,zKj,rSe,yaI,yaH]);exact⟨⟨(ms,cs),past,[],false,by simp⟩,⟨rfl,rfl,rfl⟩,rfl,rfl⟩
   | true=>
    have hn:=v.parts.1;have rt:=zNs (n:=(ms.length:Int)) ⟨by omega,by simp only at hn;omega⟩;simp only[yav] at ra;try simp -dsimp only[go_sem,f91,E,zBb,zAr,U,rp,ra,rt,zCf,zKj,yaH]
    repeat' ((first|(with_reducible refine gS_d ?_ ?_)|(with_reducible refine zQx ?_ ?_)|(with_reducible refine gS_i ?_ ?_))<;>intro hg<;>(try simp -dsimp (maxSteps:=1000000) only[go_sem,yaj,f91,E,zBb,zAr,U,rp,ra,rt,rc,zCf,zKj,zFf,rSe,yaI,yaH,Bool.or_self, *]))
    all_goals first|(exact⟨⟨(ms,cs),past,[],false,by simp⟩,⟨rfl,rfl,rfl⟩,rfl,rfl⟩)|(exact⟨⟨(G,J),past++[(ms,cs)],Lib.itoa (ms.length:Int),true,fun _=>⟨rfl,zRl1 hr (fun h=>hv h rfl) rfl,zXl1 _⟩⟩,⟨rfl,rfl,rfl⟩,rfl,rfl⟩)
 have U:=eq_false U;by_cases w2:w=[115,119,97,112]
 ·have w2:=eq_true w2;have d3:=Nat.le_trans b5 hs;have rp:=zLh d3;have b8:=zKj2 (s:=jnT Z 32);have b9:=zKi2 (s:=jnT Z 32);have ra:=zMa v V b9;have hv:swB (ms,cs) V (pmM (jnT Z 32))=true→(implM (jnT Z 32)).isSome=true→VR (ms.set V.toNat (pmM (jnT Z 32)),cs):=fun h1 h2=>zJu2 v (b8 h2).2 h1;simp only at ra;generalize (implM (jnT Z 32)).isSome=B0 at*;generalize swB (ms,cs) V (pmM (jnT Z 32))=B at ra hv;obtain ⟨⟨G,J⟩,hr⟩:∃r,okRk B (ms.set V.toNat (pmM (jnT Z 32)),cs)=r:=⟨_,rfl⟩;simp only[rDk,hr,rkC,rMB,modC] at ra rp;generalize pmM (jnT Z 32)=M at*
  cases B0 with
  | false=>
   (try simp -dsimp only[go_sem,f91,E,zBb,zAr,U,w2,ri,F,rj,zRp,rp,zCf,rSe,yaI]);exact⟨⟨(ms,cs),past,[],false,by simp⟩,⟨rfl,rfl,rfl⟩,rfl,rfl⟩
  | true=>
   cases B with
   | false=>
    (try simp -dsimp only[go_sem,f91,E,zBb,zAr,U,w2,ri,F,rj,zRp,rp,ra,zCf,zGm,rSe,yaI,yaH]);exact⟨⟨(ms,cs),past,[],false,by simp⟩,⟨rfl,rfl,rfl⟩,rfl,rfl⟩
   | true=>
    try simp -dsimp only[go_sem,f91,E,zBb,zAr,U,w2,ri,F,rj,zRp,rp,ra,zCf,zGm,yaH]
    repeat' ((first|(with_reducible refine gS_d ?_ ?_)|(with_reducible refine zQx ?_ ?_)|(with_reducible refine gS_i ?_ ?_))<;>intro hg<;>(try simp -dsimp (maxSteps:=1000000) only[go_sem,yaj,f91,E,zBb,zAr,U,w2,ri,F,rj,zRp,rp,ra,rc,zCf,zGm,zFf,rSe,yaI,yaH,yaT,Bool.or_self, *]))
    all_goals first|(exact⟨⟨(ms,cs),past,[],false,by simp⟩,⟨rfl,rfl,rfl⟩,rfl,rfl⟩)|(exact⟨⟨(G,J),past++[(ms,cs)],[111,107],true,fun _=>⟨rfl,zRl1 hr (fun h=>hv h rfl) rfl,by simp⟩⟩,⟨rfl,rfl,rfl⟩,rfl,rfl⟩)
 have w2:=eq_false w2;by_cases w3:w=[100,114,111,112]
 ·have w3:=eq_true w3;have ra:=zWl v V;have hv:dmB (ms,cs) V=true→VR (dropM ms V,cutM V cs):=zNe2 v;simp only at ra;generalize dmB (ms,cs) V=B at ra hv;obtain ⟨⟨G,J⟩,hr⟩:∃r,okRk B (dropM ms V,cutM V cs)=r:=⟨_,rfl⟩;simp only[rDk,hr,rkC] at ra
  cases B with
  | false=>
   try simp -dsimp only[go_sem,f91,E,zBb,zAr,U,w2,w3,ri,F,ra,zJc,rSe,yaI]
   with_reducible repeat' first|refine sl_i ?_|refine ro_i ?_
   exact⟨⟨(ms,cs),past,[],false,by simp⟩,⟨rfl,rfl,rfl⟩,rfl,rfl⟩
  | true=>
   try simp -dsimp only[go_sem,f91,E,zBb,zAr,U,w2,w3,ri,F,ra,zJc,yaH]
   repeat' (first
    | (with_reducible refine sl_i ?_)
    | (with_reducible refine ro_i ?_)
    | ((first|(with_reducible refine gS_d ?_ ?_)|(with_reducible refine zQx ?_ ?_)|(with_reducible refine gS_i ?_ ?_))<;>intro hg<;>(try simp -dsimp (maxSteps:=1000000) only[go_sem,yaj,f91,E,zBb,zAr,U,w2,w3,ri,a7,F,ra,rc,zJc,zFf,rSe,yaI,yaH,yaT,Bool.or_self, *])))
   all_goals first|(exact⟨⟨(ms,cs),past,[],false,by simp⟩,⟨rfl,rfl,rfl⟩,rfl,rfl⟩)|(exact⟨⟨(G,J),past++[(ms,cs)],[111,107],true,fun _=>⟨rfl,zRl1 hr hv rfl,by simp⟩⟩,⟨rfl,rfl,rfl⟩,rfl,rfl⟩)
 have w3:=eq_false w3;by_cases w4:w=[99,97,98,108,101]
 ·have w4:=eq_true w4;have ra:=zEj1 v V i2;have hv:addF ms cs V i2=true→VR (ms,cs++[(V,i2)]):=zNj2 v;simp only at ra;generalize addF ms cs V i2=B at ra hv;obtain ⟨⟨G,J⟩,hr⟩:∃r,okRk B (ms,cs++[(V,i2)])=r:=⟨_,rfl⟩;simp only[rDk,hr,rkC] at ra
  cases B with
  | false=>
   try simp -dsimp only[go_sem,f91,E,zBb,zAr,U,w2,w3,w4,ri,a7,F,ra,zLu,rSe,yaI]
   with_reducible repeat' first|refine sl_i ?_|refine ro_i ?_
   exact⟨⟨(ms,cs),past,[],false,by simp⟩,⟨rfl,rfl,rfl⟩,rfl,rfl⟩
  | true=>
   try simp -dsimp only[go_sem,f91,E,zBb,zAr,U,w2,w3,w4,ri,a7,F,ra,zLu,yaH]
   repeat' (first
    | (with_reducible refine sl_i ?_)
    | (with_reducible refine ro_i ?_)
    | ((first|(with_reducible refine gS_d ?_ ?_)|(with_reducible refine zQx ?_ ?_)|(with_reducible refine gS_i ?_ ?_))<;>intro hg<;>(try simp -dsimp (maxSteps:=1000000) only[go_sem,yaj,f91,E,zBb,zAr,U,w2,w3,w4,ri,a7,F,ra,rc,zLu,zFf,rSe,yaI,yaH,yaT,Bool.or_self, *])))
   all_goals first|(exact⟨⟨(ms,cs),past,[],false,by simp⟩,⟨rfl,rfl,rfl⟩,rfl,rfl⟩)|(exact⟨⟨(G,J),past++[(ms,cs)],[111,107],true,fun _=>⟨rfl,zRl1 hr hv rfl,by simp⟩⟩,⟨rfl,rfl,rfl⟩,rfl,rfl⟩)
 have w4:=eq_false w4;by_cases w5:w=[99,117,116]
 ·have w5:=eq_true w5;have ra:=zAr1 v V;have hv:dcB (ms,cs) V=true→VR (ms,cutC cs V):=zNf2 v;simp only at ra;generalize dcB (ms,cs) V=B at ra hv;obtain ⟨⟨G,J⟩,hr⟩:∃r,okRk B (ms,cutC cs V)=r:=⟨_,rfl⟩;simp only[rDk,hr,rkC] at ra
  cases B with
  | false=>
   try simp -dsimp only[go_sem,f91,E,zBb,zAr,U,w2,w3,w4,w5,ri,F,ra,zKi,rSe,yaI]
   with_reducible repeat' first|refine sl_i ?_|refine ro_i ?_
   exact⟨⟨(ms,cs),past,[],false,by simp⟩,⟨rfl,rfl,rfl⟩,rfl,rfl⟩
  | true=>
   try simp -dsimp only[go_sem,f91,E,zBb,zAr,U,w2,w3,w4,w5,ri,F,ra,zKi,yaH]
   repeat' (first
    | (with_reducible refine sl_i ?_)
    | (with_reducible refine ro_i ?_)
    | ((first|(with_reducible refine gS_d ?_ ?_)|(with_reducible refine zQx ?_ ?_)|(with_reducible refine gS_i ?_ ?_))<;>intro hg<;>(try simp -dsimp (maxSteps:=1000000) only[go_sem,yaj,f91,E,zBb,zAr,U,w2,w3,w4,w5,ri,a7,F,ra,rc,zKi,zFf,rSe,yaI,yaH,yaT,Bool.or_self, *])))
   all_goals first|(exact⟨⟨(ms,cs),past,[],false,by simp⟩,⟨rfl,rfl,rfl⟩,rfl,rfl⟩)|(exact⟨⟨(G,J),past++[(ms,cs)],[111,107],true,fun _=>⟨rfl,zRl1 hr hv rfl,by simp⟩⟩,⟨rfl,rfl,rfl⟩,rfl,rfl⟩)
 have w5:=eq_false w5;try simp -dsimp only[go_sem,f91,E,zBb,zAr,U,w2,w3,w4,w5,rSe,yaI]
 exact⟨⟨(ms,cs),past,[],false,by simp⟩,⟨rfl,rfl,rfl⟩,rfl,rfl⟩
noncomputable def zYr:Ct:=fam false (fun x:AEd=>([.agg (sesC x.R x.past),.c (.im (.str ⟨x.w.toArray⟩)),.c (.im (.str ⟨x.s.toArray⟩))],[])) (fun x=>oSe x.R x.past)
theorem zAt2 {R:Rk}{past:List Rk}{s:Txt}(v:VR R)(h:past.length≤19)(sl:s.length≤1048576)(w:Txt):zYr.run [.agg (sesC R past),.c (.im (.str ⟨w.toArray⟩)),.c (.im (.str ⟨s.toArray⟩))] []=some (oSe R past):=by
 refine zAc (ct:=zYr) rfl ?_ ⟨R,past,w,s,v,h,sl⟩;rintro ⟨a,b,c,d,_,_,_⟩ ⟨G,F,E,d',_,_,_⟩ h;simp only[Prod.mk.injEq,List.cons.injEq,D.agg.injEq,D.c.injEq,C.im.injEq,I.str.injEq,zLn,and_true] at h;obtain ⟨h1,rfl,rfl⟩:=h;obtain ⟨rfl,rfl⟩:=zIl h1;rfl
theorem zHf2:(zYr.sc=true)=False:=by simp[zYr,fam]
theorem zMs2 {m:Mod}(h:SM m):OkM (rsM m):=by
 by_cases hb:canR m=true
 ·exact zBk1 (zJz2 h hb).1
 ·unfold rsM;rw[if_neg hb];exact zMn2 (.inr rfl)
theorem zNh2 {m:Mod}{z:Pt}(h:SM m)(hz:W2 z):OkM (csM m z):=by
 by_cases hb:canC m=true
 ·exact zBk1 (zMi2 h hz hb).1
 ·unfold csM;rw[if_neg hb];exact zMn2 (.inr rfl)
theorem zQh1 (p:Pt)(l:List Pt):behind (ptsW (p::l))=32::(sglT p.1++32::(sglT p.2++behind (ptsW l))):=by simp[behind,ptsW,ptW]
theorem zZb1:∀l:List Pt,(∀p∈l,W2 p)→(behind (ptsW l)).length≤90*l.length
 | [],_=>by simp[behind,ptsW]
 | p::l,h=>by
  have h1:=zZb1 l (fun q E=>h q (by simp[E]));obtain ⟨a,b⟩:=h p (by simp);have:=zDi a;have:=zDi b;rw[zQh1];simp only[yab,yaw];omega
theorem zDy2 {l:List Pt}(h:l≠[]):(cutP 32 (behind (ptsW l))).1≠[]:=by
 cases l with
 | nil=>exact absurd rfl h
 | cons p l=>rw[zQh1];simp[cutP]
theorem zZi1 {sc:Bool}(l:List Pt):MvR sc (.arr 1 (tI (rowsZ l)))=True:=eq_true (zDg (zCz _))
theorem zKe2 (p:Pt):ptT p≠[]:=by simp[ptT]
theorem zCk2:Law prog 92 zYr:=by
 refine zAf (zAa zQq (zAa zOs (zAa zJm1 (zAa zCl1 (zAa zUf (zAa zQu (zAa zWr1 (zAa zCx2 (zAa zKq (zAa zOj (zAa zAz1 (zAa zOt zAd)))))))))))) hmixA func92 rfl rfl (fun ⟨⟨ms,cs⟩,past,w,s,v,hl,hs⟩=>⟨zVn1 _ _,by simp[f92],?_⟩);have j9:sm=16777216:=rfl;have E:=zQa (s:=s) (show s.length≤2097152 by omega) 32;have b8:=zPr 32 s;have h0:=zPs 32 s;obtain ⟨ps,e0⟩:∃ps,splT 32 s=ps:=⟨_,rfl⟩;rw[e0] at E b8 h0;have d9:ps.length≤sm:=by omega
 have c8:∀p∈ps,p.length≤2097152:=fun p hp=>Nat.le_trans (b8 p hp) (by omega);clear e0 b8;have ri:=zDp (bad:=false) d9 c8;have l1:=zGg ps false;have u1:=zKo (bad:=false) c8;obtain ⟨⟨i1,V,f1⟩,h1⟩:∃x,rdI ps false=x:=⟨_,rfl⟩;rw[h1] at ri l1 u1;simp only[hsRd] at ri l1 u1;have b0:=zDp (ps:=V) (bad:=f1) (by omega) u1;have b5:=zEq (ps:=V) (bad:=f1) (by omega) u1;have b9:=zMe V f1;have l2:=zGg V f1;have u2:=zKo (bad:=f1) u1;obtain ⟨⟨⟨zu,zv⟩,d3,fz⟩,hz⟩:∃x,rdP V f1=x:=⟨_,rfl⟩;rw[hz] at b5 b9;obtain ⟨⟨i2,b1,f2⟩,h2⟩:∃x,rdI V f1=x:=⟨_,rfl⟩;rw[h2] at b0 l2 u2;simp only[hsRd] at b0 b5 l2 u2 b9;clear h1 h2 hz;have F:(zEm.sc=true)=False:=by simp[zEm,fam]
 have b4:(zKy.sc=true)=False:=by simp[zKy,fam]
 have d6:=zLc2 (ms,cs) past;have rc:∀G J,zGj.run [.agg [.im (.sl 11 (rowsM ms)),.im (.sl 2 (rowsC cs)),.im (.sl 2 (rowsR past))],.agg [.im (.sl 11 (rowsM G)),.im (.sl 2 (rowsC J))]] []=_:=fun G J=>zOo (R:=(ms,cs)) (past:=past) (r:=(G,J)) hl;have rm:=fun i=>zBv1 (R:=(ms,cs)) (past:=past) v.sm1 i;have e2:=fun i=>zOx1 v i;simp only[sesC] at rc rm ⊢;simp only[oSe];by_cases w1:w=[114,101,115,101,116]
 ·have w1:=eq_true w1
  cases f1 with
  | true=>
   (try simp -dsimp only[go_sem,f92,E,zBb,zAr,w1,ri,F,rSe]);exact⟨⟨(ms,cs),past,[],false,by simp⟩,⟨rfl,rfl,rfl⟩,rfl,rfl⟩
  | false=>
   by_cases hz:V.length=0;rotate_left
   ·have Z:(0:Int)<(V.length:Int):=(by omega);clear hz;(try simp -dsimp only[go_sem,f92,E,zBb,zAr,w1,ri,F,Z,zBe,rSe]);exact⟨⟨(ms,cs),past,[],false,by simp⟩,⟨rfl,rfl,rfl⟩,rfl,rfl⟩
   ·have Z:¬((0:Int)<(V.length:Int)):=(by omega);clear hz;have a7:=rm i1;have hM:=e2 i1;generalize modAt ms i1=M at a7 hM;have rr:=zUd hM;have U:=zIf1 v hl (zMs2 hM) (fun hb=>(zJz2 hM hb).2) i1;generalize rsM M=M2 at rr U;generalize canR M=B at rr U;simp only[rM,rMB,modC,sesC,oSe] at a7 rr U;(try simp -dsimp only[go_sem,f92,E,zBb,zAr,w1,ri,F,Z,zBe,a7,rr,U,d6,zVo,zVp,zOe1]);intro q;(try simp -dsimp only[go_sem,f92,rSe]);exact⟨q,⟨rfl,rfl,rfl⟩,rfl,rfl⟩
 have w1:=eq_false w1;by_cases w2:w=[115,101,116]
 ·have w2:=eq_true w2
  cases fz with
  | true=>
   (try simp -dsimp only[go_sem,f92,E,zBb,zAr,w1,w2,ri,F,b5,b4,rSe]);exact⟨⟨(ms,cs),past,[],false,by simp⟩,⟨rfl,rfl,rfl⟩,rfl,rfl⟩
  | false=>
   by_cases hz:d3.length=0;rotate_left
   ·have Z:(0:Int)<(d3.length:Int):=(by omega);clear hz;(try simp -dsimp only[go_sem,f92,E,zBb,zAr,w1,w2,ri,F,b5,b4,Z,zBe,rSe]);exact⟨⟨(ms,cs),past,[],false,by simp⟩,⟨rfl,rfl,rfl⟩,rfl,rfl⟩
   ·have Z:¬((0:Int)<(d3.length:Int)):=(by omega);clear hz;have a7:=rm i1;have hM:=e2 i1;generalize modAt ms i1=M at a7 hM;have rr:=zQe hM zu zv;have U:=zIf1 v hl (zNh2 (z:=(zu,zv)) hM b9) (fun hb=>(zMi2 (z:=(zu,zv)) hM b9 hb).2) i1;generalize csM M (zu,zv)=M2 at rr U;generalize canC M=B at rr U;simp only[rM,rMB,modC,sesC,oSe] at a7 rr U;(try simp -dsimp only[go_sem,f92,E,zBb,zAr,w1,w2,ri,F,b5,b4,Z,zBe,a7,rr,U,d6,zVo,zRq,zOe1]);intro q;(try simp -dsimp only[go_sem,f92,rSe]);exact⟨q,⟨rfl,rfl,rfl⟩,rfl,rfl⟩
 have w2:=eq_false w2;have d8:=fun n=>zHz2 (ms,cs) n;by_cases w3:w=[114,117,110]
 ·have w3:=eq_true w3
  cases f2 with
  | true=>
   (try simp -dsimp only[go_sem,f92,E,zBb,zAr,w1,w2,w3,ri,F,b0,rSe]);exact⟨⟨(ms,cs),past,[],false,by simp⟩,⟨rfl,rfl,rfl⟩,rfl,rfl⟩
  | false=>
   by_cases hz:b1.length=0;rotate_left
   ·have Z:(0:Int)<(b1.length:Int):=(by omega);clear hz;(try simp -dsimp only[go_sem,f92,E,zBb,zAr,w1,w2,w3,ri,F,b0,Z,zBe,rSe]);exact⟨⟨(ms,cs),past,[],false,by simp⟩,⟨rfl,rfl,rfl⟩,rfl,rfl⟩
   ·have Z:¬((0:Int)<(b1.length:Int)):=(by omega);clear hz;have rr:=zUm1 v (-1) i1 i2;simp only[rkC,oRunD] at rr;(try simp -dsimp only[go_sem,f92,E,zBb,zAr,w1,w2,w3,ri,F,b0,Z,zBe,rr,d8,rRunD,rkC,zTv1]);intro q;obtain ⟨⟨G,J⟩,l,b,lw,ll,b6⟩:=q;have c1:=rc G J;by_cases h7:l.length=0
    ·have z2:¬((0:Int)<(l.length:Int)):=(by omega);(try simp -dsimp only[go_sem,f92,z2,zAb,c1,zFf,rSe]);exact⟨⟨(G,J),past++[(ms,cs)],[110,111,110,101],b,fun hb=>⟨rfl,(b6 hb).1,by simp⟩⟩,⟨rfl,rfl,rfl⟩,rfl,rfl⟩
    ·have z2:(0:Int)<(l.length:Int):=(by omega);obtain ⟨k,hk⟩:∃k,l.length=k+1:=⟨l.length-1,by omega⟩;obtain ⟨⟨pu,pv⟩,hp⟩:∃p,l[k]?=some p:=⟨_,List.getElem?_eq_getElem (by omega)⟩;have d7:=zBz hp;have kw:IntKind.i64.wrap ((l.length:Int)-1)=(k:Int):=(by rw[hk,zAi (by omega) (by omega)];omega);have k0:0≤(k:Int):=(by omega);have wp:=lw _ (List.mem_of_getElem? hp);have rt:=zBw wp.1 wp.2;clear hk h7;(try simp -dsimp only[go_sem,f92,z2,kw,k0,d7,rt,zAb,c1,zFf,Int.toNat_natCast,rSe]);exact⟨⟨(G,J),past++[(ms,cs)],ptT (pu,pv),b,fun hb=>⟨rfl,(b6 hb).1,zKe2 _⟩⟩,⟨rfl,rfl,rfl⟩,rfl,rfl⟩
 have w3:=eq_false w3;have d2:=zEq (ps:=b1) (bad:=f2) (by omega) u2;have l3:=zHb b1 f2;have u3:=zSa (bad:=f2) u2;obtain ⟨⟨⟨yu,yv⟩,g6,f3⟩,h3⟩:∃x,rdP b1 f2=x:=⟨_,rfl⟩;rw[h3] at d2 l3 u3;simp only[hsRd] at d2 l3 u3;clear h3;try simp -dsimp only[go_sem,f92,E,zBb,zAr,w1,w2,w3,ri,F,b0,d2,b4]
 refine zAp (ι:={x:List Pt×List Txt×Bool//x.1.length+x.2.1.length≤ps.length+1∧1≤x.1.length∧∀p∈x.2.1,p.length≤2097152}) (fun x=>⟨[(3,some (.c (.ptr 0 0 0 0))),(6,some (.c (.ptr 1 0 0 0))),(9,some (.c (.ptr 2 0 0 0))),(23,some (.c (.im (.int .i64 i1)))),(24,some (.c (.im (.int .i64 i2)))),(25,some (.c (.view 3 1 0 x.1.1.length)))],
  [(0,some (.box [.t (.im (.sl 11 (rowsM ms))),.t (.im (.sl 2 (rowsC cs))),.t (.im (.sl 2 (rowsR past)))])),(1,some (.box [.t .nil,.t .nil,.t .nil])),(2,some (.box [.t (.im (.sl 1 (rowsS x.1.2.1))),.t (.im (.bool x.1.2.2))])),(3,some (.arr 1 (tI (rowsZ x.1.1))))],4⟩) (fun x=>x.1.2.1.length) ⟨([(yu,yv)],g6,f3),by simp only[List.length_singleton];omega,by simp,u3⟩ ⟨[],[0,1,2,3],by ((simp only[go_sem,yai,zZi1])<;>(try (simp -dsimp only[go_sem,yaj,yai,zZi1])))<;>simp[tI,rowsZ]⟩ (fun ⟨⟨xs,qs,f⟩,hx,g8,hq⟩=>?_)
 simp only at hx g8 hq ⊢;have lx:(tI (rowsZ xs)).length=xs.length:=by rw[zAg,zAb]
 by_cases k1:qs.length=0;rotate_left
 ·have Z:(0:Int)<(qs.length:Int):=by omega
  cases f with
  | true=>
   (try simp -dsimp only[go_sem,f92,Z,zBe,rSe,yaH]);exact⟨⟨(ms,cs),past,[],false,by simp⟩,⟨rfl,rfl,rfl⟩,rfl,rfl⟩
  | false=>
   have d1:=zEq (ps:=qs) (bad:=false) (by omega) hq;have l4:=zHb qs false;have u4:=zSa (bad:=false) hq;obtain ⟨⟨⟨xu,xv⟩,g5,f4⟩,h4⟩:∃x,rdP qs false=x:=⟨_,rfl⟩;rw[h4] at d1 l4 u4;simp only[hsRd] at d1 l4 u4;clear h4;have e1:=zTn1 xs xu xv;have g7:(tI (rowsZ (xs++[(xu,xv)]))).length=xs.length+1:=(by simp[zAg,zAb]);have h8:(xs.length+1)*8≤140737488355328:=(by omega);(try simp -dsimp only[go_sem,Z,zBe,d1,b4,e1,lx,g7,h8,appendH,srcRows,List.take_succ_cons,yan,yao,yap,okT,yaq,yaI]);refine⟨⟨(xs++[(xu,xv)],g5,f4),by simp only[yaw,List.length_singleton];omega,by simp,u4⟩,by simp only[];omega,[],[0,1,2,5],?_⟩
   (simp only[go_sem,yai,zZi1,yaw,List.length_singleton])
   all_goals simp[lk,zAn,MvRt]
 have Z:¬((0:Int)<(qs.length:Int)):=by omega
 cases f with
 | true=>
  try simp -dsimp only[go_sem,f92,Z,zBe,rSe]
  exact⟨⟨(ms,cs),past,[],false,by simp⟩,⟨rfl,rfl,rfl⟩,rfl,rfl⟩
 | false=>
  have rr:=zBc2 (xs:=xs) v (by omega) i1 i2 (xs.length:Int);simp only[rkC,oRunD] at rr;have h6:mapO (mapO imT) (tI (rowsZ xs))=some (rowsZ xs):=zCb _;try simp -dsimp only[go_sem,Z,zBe,rr,d8,rRunD,rkC,h6,lx,zTv1]
  intro q;obtain ⟨⟨G,J⟩,l,b,lw,ll,b6⟩:=q;have c1:=rc G J;have rt:=zDt (l:=l) (by omega) lw;have k2:=zZb1 l lw;have f7:=zAm1 (s:=behind (ptsW l)) (by omega) 32;have h5:b=true→(cutP 32 (behind (ptsW l))).1≠[]:=fun hb=>zDy2 (fun h=>by have:=(b6 hb).2;subst h;simp only[List.length_nil] at this;omega);generalize (cutP 32 (behind (ptsW l))).1=Y at*;generalize behind (ptsW l)=X at*;try simp -dsimp only[go_sem,f92,rt,f7,c1,rSe]
  exact⟨⟨(G,J),past++[(ms,cs)],Y,b,fun hb=>⟨rfl,(b6 hb).1,h5 hb⟩⟩,⟨rfl,rfl,rfl⟩,rfl,rfl⟩
def undoT:Txt:=[117,110,100,111]
structure QAs where
 out:Txt
 ok:Bool
 h:ok=true→out≠[]
def rAs (R:Rk)(past:List Rk)(q:QAs):Res:={val:=.tup [.agg [.im (.sl 11 (rowsM R.1)),.im (.sl 2 (rowsC R.2)),.im (.sl 2 (rowsR past))],.c (.im (.str ⟨q.out.toArray⟩)),.c (.im (.bool q.ok))]}
theorem zLi2:Nonempty QAs=True:=by simp only[eq_iff_iff,iff_true];exact⟨⟨[],false,by simp⟩⟩
def popR (R:Rk)(past:List Rk):Rk:=past.getLast?.getD R
def oAs (R:Rk)(past:List Rk)(w:Txt):Outs:=if w=undoT then .one (rAs (popR R past) past.dropLast ⟨if past=[] then [] else [111,107],!(decide (past=[])),by cases past<;>simp⟩) else .any QAs (rAs R past)
theorem zLa2 (R:Rk)(past:List Rk)(w:Txt):∀res,(oAs R past w).mem res→OkR false res:=by
 unfold oAs;split
 ·exact okO (zXa (zOm (popR R past) past.dropLast) _ _)
 ·exact okA (fun q=>zXa (zOm R past) _ _)
structure AAs where
 R:Rk
 past:List Rk
 w:Txt
 v:VR R
 len:past.length≤19
 sl:w.length≤1048576
noncomputable def zKw1:Ct:=fam false (fun x:AAs=>([.agg (sesC x.R x.past),.c (.im (.str ⟨x.w.toArray⟩))],[])) (fun x=>oAs x.R x.past x.w)
theorem zHk2 {R:Rk}{past:List Rk}{w:Txt}(v:VR R)(h:past.length≤19)(sl:w.length≤1048576):zKw1.run [.agg (sesC R past),.c (.im (.str ⟨w.toArray⟩))] []=some (oAs R past w):=by
 refine zAc (ct:=zKw1) rfl ?_ ⟨R,past,w,v,h,sl⟩;rintro ⟨a,b,c,_,_,_⟩ ⟨G,F,E,_,_,_⟩ h;simp only[Prod.mk.injEq,List.cons.injEq,D.agg.injEq,D.c.injEq,C.im.injEq,I.str.injEq,zLn,and_true] at h;obtain ⟨h1,rfl⟩:=h;obtain ⟨rfl,rfl⟩:=zIl h1;rfl
theorem zOg1:(zKw1.sc=true)=False:=by simp[zKw1,fam]
theorem zHa2 (p:Pt):ptT p≠[]:=by simp[ptT]
theorem zIn2 (hsort:SortLaw prog 233):Law prog 93 zKw1:=by
 refine zAf (zAa zQq (zAa zSn1 (zAa zSf1 (zAa zRy1 (zAa zSo1 (zAa zFk1 (zAa zSj (zAa zCl1 (zAa zYa (zAa zKq (zAa (zSm1 hsort) zAd))))))))))) hmixA func93 rfl rfl (fun ⟨⟨ms,cs⟩,past,w,v,hl,hs⟩=>⟨zLa2 _ _ _,by simp[f93],?_⟩);have g5:sm=16777216:=rfl;have E:=zQa (s:=w) (show w.length≤2097152 by omega) 32;have a8:=zPr 32 w;have d4:=zPs 32 w;obtain ⟨ps,d3⟩:∃ps,splT 32 w=ps:=⟨_,rfl⟩;rw[d3] at E a8 d4;have d2:ps.length≤sm:=by omega
 have b6:∀p∈ps,p.length≤2097152:=fun p hp=>Nat.le_trans (a8 p hp) (by omega);clear d3 a8;have g6:=zLi2;simp only[sesC];by_cases F:w=[117,110,100,111]
 ·rcases List.eq_nil_or_concat past with rfl|⟨V,⟨J,U⟩,rfl⟩
  ·have ho:oAs (ms,cs) [] w=.one {val:=.tup [.agg [.im (.sl 11 (rowsM ms)),.im (.sl 2 (rowsC cs)),.im (.sl 2 [])],.c (.im (.str ⟨#[]⟩)),.c (.im (.bool false))]}:=by
    unfold oAs;rw[if_pos (show w=undoT from F)];rfl
   have F:=eq_true F;have z0:(((0:Nat):Int)=0)=True:=eq_true rfl;simp only[zFq];try simp -dsimp only[go_sem,f93,E,zBb,zAr,F,z0,List.length_nil,ho]
  ·have ho:oAs (ms,cs) (V.concat (J,U)) w=.one {val:=.tup [.agg [.im (.sl 11 (rowsM J)),.im (.sl 2 (rowsC U)),.im (.sl 2 (rowsR V))],.c (.im (.str ⟨#[111,107]⟩)),.c (.im (.bool true))]}:=by
    unfold oAs;rw[if_pos (show w=undoT from F)];simp[popR,rAs]
   have F:=eq_true F;have b7:(V.concat (J,U)).length=V.length+1:=(by simp);have d8:(V.concat (J,U))[V.length]?=some (J,U):=(by simp);have b0:=zQf d8;have e5:List.take V.length (rowsR (V.concat (J,U)))=rowsR V:=(by rw[zRg1];simp);generalize V.concat (J,U)=P at*;have z0:((P.length:Int)=0)=False:=eq_false (by omega);have kw:IntKind.i64.wrap ((P.length:Int)-1)=(V.length:Int):=(by rw[b7,zAi (by omega) (by omega)];omega);have k0:0≤(V.length:Int):=(by omega);have k2:(V.length:Int)≤(P.length:Int):=(by omega);clear b7 d8;try simp -dsimp only[go_sem,f93,E,zBb,zAr,F,z0,kw,k0,k2,b0,e5,zCc,Int.toNat_natCast,ho]
   with_reducible repeat' first|refine sl_i ?_|exact ro_e
 have ho:oAs (ms,cs) past w=.any QAs (rAs (ms,cs) past):=if_neg (show ¬w=undoT from F);have F:=eq_false F;by_cases w2:w=[111,114,100,101,114]
 ·have w2:=eq_true w2;have ro:=zRc1 v;simp only[rkC,oNb] at ro;have c8:=zFa2;try simp -dsimp only[go_sem,f93,E,zBb,zAr,F,w2,ro,c8,zTx1]
  rintro ⟨⟨l,hn⟩,b⟩;have rj:=zRt (l:=l) 32 (by have:=hn.1;omega) hn.i64;have rn:=zRr (jnT (l.map Lib.itoa) 32);have b2:=zVg1 (jnT (l.map Lib.itoa) 32);generalize orN (jnT (l.map Lib.itoa) 32)=Y at*;generalize jnT (l.map Lib.itoa) 32=X at*;try simp -dsimp only[go_sem,f93,rj,rn,ho,rAs]
  with_reducible repeat' first|refine sl_i ?_|refine ro_i ?_
  exact⟨⟨Y,b,fun _=>b2⟩,rfl,rfl⟩
 have w2:=eq_false w2;by_cases w3:w=[106,97,99,107,115]
 ·have w3:=eq_true w3;have ro:=zRd1 v;simp only[rkC,oJkD] at ro;have e8:=zLe2;try simp -dsimp only[go_sem,f93,E,zBb,zAr,F,w2,w3,ro,e8,zTy1]
  rintro ⟨gs,g7,d7⟩;try simp -dsimp only[go_sem,zWq]
  obtain ⟨G,hG⟩:∃G:Nat→List Txt,∀k,(gs.take k).map (fun g=>jnT (g.map Lib.itoa) 44)=G k:=⟨_,fun _=>rfl⟩;have d9:G 0=[]:=by rw[←hG];rfl
  have d0:∀k,k≤gs.length→(G k).length=k:=fun k hk=>by rw[←hG];simp;omega
  refine zAp (ι:={k:Nat//k≤gs.length}) (fun k=>⟨[(2,some (.c (.ptr 0 0 0 0))),(4,some (.c (.ptr 1 0 0 0))),(10,some (.c (.view 2 1 0 k.1))),(63,some (.c (.im (.sl 1 (rowsG gs))))),(64,some (.c (.im (.int .i64 (gs.length:Int))))),(65,some (.c (.im (.int .i64 (k.1:Int)))))],
   [(0,some (.box [.t (.im (.sl 11 (rowsM ms))),.t (.im (.sl 2 (rowsC cs))),.t (.im (.sl 2 (rowsR past)))])),(1,some (.box [.t .nil,.t .nil,.t .nil])),(2,some (.arr 1 (tI (rowsS (G k.1)))))],3⟩) (fun k=>gs.length-k.1) ⟨0,by omega⟩ ⟨[],[0,1,2],by ((simp only[go_sem,yai,zDg1,d9])<;>(try (simp -dsimp only[go_sem,yaj,yai,zDg1,d9])))<;>simp[tI,rowsS]⟩ (fun ⟨k,hk⟩=>?_)
  simp only at hk ⊢;have lx:(tI (rowsS (G k))).length=k:=by rw[zAg,zBe,d0 k hk]
  by_cases d6:k<gs.length
  ·obtain ⟨g,hp⟩:∃p,gs[k]?=some p:=⟨_,List.getElem?_eq_getElem d6⟩;have b0:=zOj1 hp;have hI:(k:Int)<(gs.length:Int):=(by omega);have h0:0≤(k:Int):=(by omega);have e4:=zDh (show gs.length≤sm by omega) d6;have b1:=d7 g (List.mem_of_getElem? hp);have rj:=zRt (l:=g) 44 (by have:=b1.1;omega) b1.i64;have b8:=zTo1 (G k) (jnT (g.map Lib.itoa) 44);rw[show G k++[jnT (g.map Lib.itoa) 44]=G (k+1) by rw[←hG,←hG,zCy hp];simp] at b8;have e3:(tI (rowsS (G (k+1)))).length=k+1:=(by rw[zAg,zBe,d0 _ (by omega)]);have e9:(k+1)*16≤140737488355328:=(by omega);(try simp -dsimp only[go_sem,hI,h0,e4,b0,rj,zTu1,b8,lx,e3,e9,appendH,srcRows,List.take_succ_cons,yan,yao,yap,okT,yaq,Int.toNat_natCast]);refine⟨⟨k+1,by omega⟩,by simp only[];omega,[],[0,1,4],?_⟩
   (simp only[go_sem,yai,zDg1])
   all_goals simp[lk,zAn,MvRt]
  ·have hI:¬((k:Int)<(gs.length:Int)):=(by omega);obtain rfl:k=gs.length:=by omega
   have rj:=zEa1 (l:=G gs.length) 32 (by rw[d0 _ hk];omega) (fun p hp=>by
    rw[←hG] at hp
    simp only[List.take_length,List.mem_map] at hp
    obtain ⟨g,hg,rfl⟩:=hp
    have b1:=d7 g hg
    have:=zXk1 44 (N:=21) (g.map Lib.itoa) (fun q hq=>by
     simp only[List.mem_map] at hq
     obtain ⟨x,hx,rfl⟩:=hq
     exact zBm (b1.i64 x hx))
    have g9:=b1.1
    simp only[List.length_map] at this
    omega)
   have rn:=zRr (jnT (G gs.length) 32);have b2:=zVg1 (jnT (G gs.length) 32);have e7:mapO (mapO imT) (tI (rowsS (G gs.length)))=some (rowsS (G gs.length)):=zCb _;generalize orN (jnT (G gs.length) 32)=Y at*;generalize jnT (G gs.length) 32=X at*;try simp -dsimp only[go_sem,f93,hI,rj,zRp,e7,lx,rn,rAs,ho]
   with_reducible repeat' first|refine sl_i ?_|refine ro_i ?_
   exact⟨⟨Y,true,fun _=>b2⟩,rfl,rfl⟩
 have w3:=eq_false w3;by_cases h2:ps.length=2;rotate_left
 ·have z2:((ps.length:Int)=2)=False:=eq_false (by omega);clear h2;try simp -dsimp only[go_sem,f93,E,zBb,zAr,F,w2,w3,z2,zBe,rAs,ho]
  exact⟨⟨[],false,by simp⟩,rfl,rfl⟩
 obtain ⟨a,b,rfl⟩:∃a b,ps=[a,b]:=by
  match ps,h2 with
  | [a,b],_=>exact⟨a,b,rfl⟩
 have Z:=zGd (b6 b (by simp));obtain ⟨⟨i,ok⟩,hi⟩:∃x,numF b=x:=⟨_,rfl⟩;rw[hi] at Z;simp only[zDu,zBa] at E Z;have c2:((2:Nat):Int)=2:=rfl;clear hi d2 b6 d4 h2;have b4:Int.toNat 1=1:=rfl;have b9:Int.toNat 0=0:=rfl
 cases ok with
 | false=>
  try simp -dsimp only[go_sem,f93,E,zBb,zAr,F,w2,w3,c2,Z,yab,List.length_nil,List.getElem?_cons_zero,List.getElem?_cons_succ,b4,Int.reduceLE,Nat.reduceAdd,rAs,ho]
  exact⟨⟨[],false,by simp⟩,rfl,rfl⟩
 | true=>
  by_cases w4:a=[116,101,108,108]
  ·have w4:=eq_true w4;have c6:=zBv1 (R:=(ms,cs)) (past:=past) v.sm1 i;have hM:=zOx1 v i;generalize modAt ms i=M at c6 hM;have rt:=zWd hM;generalize canT M=B at rt;have e6:=zLf2;simp only[sesC,rM,modC,oTlD] at c6 rt;(try simp -dsimp only[go_sem,f93,E,zBb,zAr,F,w2,w3,c2,Z,yab,List.length_nil,List.getElem?_cons_zero,List.getElem?_cons_succ,b9,b4,Int.reduceLE,Nat.reduceAdd,w4,c6,rt,e6,zVo,zAh1]);rintro ⟨⟨pu,pv⟩,hp⟩;have rq:=zBw hp.1 hp.2;try simp -dsimp only[go_sem,f93,yab,List.length_nil,List.getElem?_cons_zero,List.getElem?_cons_succ,Nat.reduceAdd,rq,rAs,ho]
   with_reducible repeat' first|refine sl_i ?_|refine ro_i ?_
   exact⟨⟨ptT (pu,pv),B,fun _=>zHa2 _⟩,rfl,rfl⟩
  have w4:=eq_false w4;by_cases w5:a=[114,101,97,99,104]
  ·have w5:=eq_true w5;have ro:=zRb1 v i;simp only[rkC,oNb] at ro;have c8:=zFa2;(try simp -dsimp only[go_sem,f93,E,zBb,zAr,F,w2,w3,c2,Z,yab,List.length_nil,List.getElem?_cons_zero,List.getElem?_cons_succ,b9,b4,Int.reduceLE,Nat.reduceAdd,w4,w5,ro,c8,zTw1]);rintro ⟨⟨l,hn⟩,b'⟩;have rj:=zRt (l:=l) 32 (by have:=hn.1;omega) hn.i64;have rn:=zRr (jnT (l.map Lib.itoa) 32);have b2:=zVg1 (jnT (l.map Lib.itoa) 32);generalize orN (jnT (l.map Lib.itoa) 32)=Y at*;generalize jnT (l.map Lib.itoa) 32=X at*;try simp -dsimp only[go_sem,f93,yab,List.length_nil,List.getElem?_cons_zero,List.getElem?_cons_succ,Nat.reduceAdd,rj,rn,ho,rAs]
   with_reducible repeat' first|refine sl_i ?_|refine ro_i ?_
   exact⟨⟨Y,b',fun _=>b2⟩,rfl,rfl⟩
  have w5:=eq_false w5;try simp -dsimp only[go_sem,f93,E,zBb,zAr,F,w2,w3,c2,Z,yab,List.length_nil,List.getElem?_cons_zero,List.getElem?_cons_succ,b9,b4,Int.reduceLE,Nat.reduceAdd,w4,w5,rAs,ho]
  exact⟨⟨[],false,by simp⟩,rfl,rfl⟩
structure QEx (R:Rk) (past:List Rk) where
 R':Rk
 past':List Rk
 out:Txt
 v:VS R' past'
 ne:out≠[]
 h:(R'=R∧past'=past)∨past'=past++[R]∨past=past'++[R']
def rEx {R:Rk}{past:List Rk}(q:QEx R past):Res:={val:=.tup [.agg [.im (.sl 11 (rowsM q.R'.1)),.im (.sl 2 (rowsC q.R'.2)),.im (.sl 2 (rowsR q.past'))],.c (.im (.str ⟨q.out.toArray⟩))]}
def rUn (R:Rk)(past:List Rk):Res:={val:=.tup [.agg [.im (.sl 11 (rowsM (popR R past).1)),.im (.sl 2 (rowsC (popR R past).2)),.im (.sl 2 (rowsR past.dropLast))],.c (.im (.str ⟨(if past=[] then [110,111] else [111,107]:Txt).toArray⟩))]}
def oEx (R:Rk)(past:List Rk)(w:Txt):Outs:=if w=undoT then .one (rUn R past) else .any (QEx R past) rEx
theorem zKz2 (R:Rk)(past:List Rk)(w:Txt):∀res,(oEx R past w).mem res→OkR false res:=by
 unfold oEx;split
 ·exact okO (zOq1 (zOm (popR R past) past.dropLast) _)
 ·exact okA (fun q=>zOq1 (zOm q.R' q.past') _)
structure AEx where
 R:Rk
 past:List Rk
 w:Txt
 v:VS R past
 len:past.length≤19
 sl:w.length≤1048576
noncomputable def zZx:Ct:=fam false (fun x:AEx=>([.agg (sesC x.R x.past),.c (.im (.str ⟨x.w.toArray⟩))],[])) (fun x=>oEx x.R x.past x.w)
theorem zEe1 {R:Rk}{past:List Rk}{w:Txt}(v:VS R past)(h:past.length≤19)(sl:w.length≤1048576):zZx.run [.agg (sesC R past),.c (.im (.str ⟨w.toArray⟩))] []=some (oEx R past w):=by
 refine zAc (ct:=zZx) rfl ?_ ⟨R,past,w,v,h,sl⟩;rintro ⟨a,b,c,_,_,_⟩ ⟨G,F,E,_,_,_⟩ h;simp only[Prod.mk.injEq,List.cons.injEq,D.agg.injEq,D.c.injEq,C.im.injEq,I.str.injEq,zLn,and_true] at h;obtain ⟨h1,rfl⟩:=h;obtain ⟨rfl,rfl⟩:=zIl h1;rfl
theorem zTz1:(zZx.sc=true)=False:=by simp[zZx,fam]
theorem VS.push {R R':Rk}{past:List Rk}(v:VS R past)(h:VR R'):VS R' (past++[R]):=⟨h,fun x hx=>by
 rcases List.mem_append.1 hx with hx|hx
 ·exact v.p x hx
 ·simp only[yaz] at hx
  subst hx
  exact v.r⟩
theorem zDt2:Lib.cut undoT [32]=(undoT,[],false):=zGm1 (by decide)
theorem zCy2 (hsort:SortLaw prog 233):Law prog 31 zZx:=by
 refine zAf (zAa zFl1 (zAa zXz (zAa zXh1 (zAa zOv (zAa zCu2 (zAa zCk2 (zAa (zIn2 hsort) zAd))))))) hmixA func31 rfl rfl (fun ⟨⟨ms,cs⟩,past,w,v,hl,hs⟩=>⟨zKz2 _ _ _,by simp[f31],?_⟩);have d7:sm=16777216:=rfl;have a6:=zQb v (by omega);have G:=zKk v (by omega);have E:=zLy1 (s:=w) (show w.length≤2097152 by omega) 32;have c1:=zYl1 w 32;have F:=zHk2 v.r hl hs;have d1:=zLc2 (ms,cs) past;have d2:=zLi2;simp only[sesC,oCut] at a6 G E F ⊢;by_cases w1:w=undoT
 ·have ho:oEx (ms,cs) past w=.one (rUn (ms,cs) past):=if_pos w1;have b0:oAs (ms,cs) past w=_:=if_pos w1;rw[b0] at F;clear b0;rw[w1,zDt2] at E;rw[w1] at F ho;clear c1 hs;subst w1;rcases List.eq_nil_or_concat past with rfl|⟨p0,⟨V,Z⟩,rfl⟩
  ·simp only[rAs,popR,List.getLast?_nil,Option.getD_none,List.dropLast_nil,zFq,yav,yaM,yaH] at F;have b9:rUn (ms,cs) []={val:=.tup [.agg [.im (.sl 11 (rowsM ms)),.im (.sl 2 (rowsC cs)),.im (.sl 2 [])],.c (.im (.str ⟨#[110,111]⟩))]}:=rfl;simp only[zFq] at*;generalize undoT=U at*;try simp -dsimp only[go_sem,f31,a6,G,E,zCi,yaH,yaI,F,zOg1,ho,b9]
  ·have d4:popR (ms,cs) (p0.concat (V,Z))=(V,Z):=(by simp[popR]);have d3:(p0.concat (V,Z)).dropLast=p0:=(by simp);have a7:(p0.concat (V,Z)=[])=False:=(by simp);have d5:p0.length≤20:=(by simp at hl;omega);have v0:VS (V,Z) p0:=⟨v.p _ (by simp),fun x hx=>v.p x (by simp[hx])⟩;have J:=zKk v0 d5;simp only[rAs,d4,d3,a7,yau,yaL,yaI] at F;have b9:rUn (ms,cs) (p0.concat (V,Z))={val:=.tup [.agg [.im (.sl 11 (rowsM V)),.im (.sl 2 (rowsC Z)),.im (.sl 2 (rowsR p0))],.c (.im (.str ⟨#[111,107]⟩))]}:=(by simp only[rUn,d4,d3,a7,yau]);simp only[sesC] at J;generalize undoT=U at*;generalize p0.concat (V,Z)=P at*;try simp -dsimp only[go_sem,f31,a6,G,E,zCi,yaH,F,J,zOg1,ho,b9]
 have ho:oEx (ms,cs) past w=.any (QEx (ms,cs) past) rEx:=if_neg w1;have b0:oAs (ms,cs) past w=.any QAs (rAs (ms,cs) past):=if_neg w1;rw[b0] at F;clear b0 w1;obtain ⟨⟨wd,tx,fd⟩,b6⟩:∃x,Lib.cut w [32]=x:=⟨_,rfl⟩;rw[b6] at E c1;simp only at E c1;clear b6;have c8:=zBa2 v.r hl (show tx.length≤1048576 by omega) wd;have c7:=zAt2 v.r hl (show tx.length≤1048576 by omega) wd;have a8:=zHv (l:=[[97,100,100],[115,119,97,112],[100,114,111,112],[99,97,98,108,101],[99,117,116]]) (by simp only[yab,List.length_nil];omega) wd;have b3:=zHv (l:=[[114,101,115,101,116],[115,101,116],[114,117,110],[112,108,97,121]]) (by simp only[yab,List.length_nil];omega) wd;generalize List.any [[97,100,100],[115,119,97,112],[100,114,111,112],[99,97,98,108,101],[99,117,116]] (fun y=>decide (wd=y))=b1 at a8;generalize List.any [[114,101,115,101,116],[115,101,116],[114,117,110],[112,108,97,121]] (fun y=>decide (wd=y))=b2 at b3;simp only[zDu,zBa] at a8 b3;simp only[sesC,oSe] at c8 c7
 cases fd with
 | false=>
  try simp -dsimp only[go_sem,f31,a6,G,E,zCi,yaH,F,d2,zOg1]
  rintro ⟨out,ok,h⟩
  cases ok with
  | false=>
   (try simp -dsimp only[go_sem,f31,G,zCi,yaI,rAs,ho,rEx]);exact⟨⟨(ms,cs),past,[110,111],v,by simp,.inl ⟨rfl,rfl⟩⟩,⟨rfl,rfl,rfl⟩,rfl⟩
  | true=>
   (try simp -dsimp only[go_sem,f31,G,zCi,yaH,rAs,ho,rEx]);exact⟨⟨(ms,cs),past,out,v,h rfl,.inl ⟨rfl,rfl⟩⟩,⟨rfl,rfl,rfl⟩,rfl⟩
 | true=>
  cases b1 with
  | true=>
   (try simp -dsimp only[go_sem,f31,a6,G,E,zCi,yaH,c8,d1,zHg2,a8,zFm,List.take_succ_cons,yan]);rintro ⟨⟨b8,c6⟩,b7,out,ok,h⟩
   cases ok with
   | false=>
    (try simp -dsimp only[go_sem,f31,G,zCi,yaI,rSe,ho,rEx]);exact⟨⟨(ms,cs),past,[110,111],v,by simp,.inl ⟨rfl,rfl⟩⟩,⟨rfl,rfl,rfl⟩,rfl⟩
   | true=>
    obtain ⟨rfl,hv,a7⟩:=h rfl;have J:=zKk (v.push hv) (show (past++[(ms,cs)]).length≤20 by simp;omega);simp only[sesC] at J;(try simp -dsimp only[go_sem,f31,zCi,yaH,J,rSe,ho,rEx]);exact⟨⟨(b8,c6),past++[(ms,cs)],out,v.push hv,a7,.inr (.inl rfl)⟩,⟨rfl,rfl,rfl⟩,rfl⟩
  | false=>
   cases b2 with
   | true=>
    (try simp -dsimp only[go_sem,f31,a6,G,E,zCi,yaH,c7,d1,zHf2,a8,b3,zFm,List.take_succ_cons,yan]);rintro ⟨⟨b8,c6⟩,b7,out,ok,h⟩
    cases ok with
    | false=>
     (try simp -dsimp only[go_sem,f31,G,zCi,yaI,rSe,ho,rEx]);exact⟨⟨(ms,cs),past,[110,111],v,by simp,.inl ⟨rfl,rfl⟩⟩,⟨rfl,rfl,rfl⟩,rfl⟩
    | true=>
     obtain ⟨rfl,hv,a7⟩:=h rfl;have J:=zKk (v.push hv) (show (past++[(ms,cs)]).length≤20 by simp;omega);simp only[sesC] at J;(try simp -dsimp only[go_sem,f31,zCi,yaH,J,rSe,ho,rEx]);exact⟨⟨(b8,c6),past++[(ms,cs)],out,v.push hv,a7,.inr (.inl rfl)⟩,⟨rfl,rfl,rfl⟩,rfl⟩
   | false=>
    (try simp -dsimp only[go_sem,f31,a6,G,E,zCi,yaH,F,d2,zOg1,a8,b3,zFm,List.take_succ_cons,yan]);rintro ⟨out,ok,h⟩
    cases ok with
    | false=>
     (try simp -dsimp only[go_sem,f31,G,zCi,yaI,rAs,ho,rEx]);exact⟨⟨(ms,cs),past,[110,111],v,by simp,.inl ⟨rfl,rfl⟩⟩,⟨rfl,rfl,rfl⟩,rfl⟩
    | true=>
     (try simp -dsimp only[go_sem,f31,G,zCi,yaH,rAs,ho,rEx]);exact⟨⟨(ms,cs),past,out,v,h rfl,.inl ⟨rfl,rfl⟩⟩,⟨rfl,rfl,rfl⟩,rfl⟩
noncomputable def zIh:Ct:=fam true (fun x:ABw×AVr=>([.c (.im (.sl 1 (rowsB x.1.l))),.agg (rkC x.2.1)],[])) (fun _=>.any QLn (fun q=>{val:=.c (.im (.str ⟨q.1.toArray⟩))}))
theorem zIn1 {l:List Int}(h1:l.length≤1048576)(h2:∀b∈l,0≤b∧b<256){R:Rk}(v:VR R):zIh.run [.c (.im (.sl 1 (rowsB l))),.agg (rkC R)] []=some (.any QLn (fun q=>{val:=.c (.im (.str ⟨q.1.toArray⟩))})):=
 zHd (ct:=zIh) rfl (fun _ _ _=>rfl) (⟨l,h1,h2⟩,⟨R,v⟩)
theorem zLo1:(zIh.sc=true)=True:=by simp[zIh,fam]
theorem zLd2:Nonempty QLn=True:=by simp only[eq_iff_iff,iff_true];exact⟨⟨[],by simp⟩⟩
theorem zJv1 (hO:Law prog 234 zKz):Law prog 32 zIh:=by
 refine zAf (zAa zCp1 (zAa (zRz1 hO) zAd)) hmixA func32 rfl rfl (fun ⟨⟨l,h1,h2⟩,⟨⟨ms,cs⟩,v⟩⟩=>⟨okA (fun q=>⟨.c _ (.im _ (.inr rfl)),by simp,by simp⟩),by simp[f32],?_⟩);simp only[rkC];try simp -dsimp only[go_sem,f32,zBz1 h1 h2,oKNew,zFb2]
 with_reducible repeat' refine sl_i ?_
 intro h;have E:=zQx1 (a:=0) (h:=h) h1 h2 (by omega) (by omega) v;simp only[rkC] at E;try simp -dsimp only[go_sem,f32,E,oLn,zMx2,hsK]
 rintro ⟨⟨x,hx⟩,⟨⟨a1,g1⟩,F⟩⟩;try simp -dsimp only[go_sem]
 with_reducible repeat' refine ro_i ?_
 exact⟨⟨x,hx⟩,rfl⟩
structure UndI (R0:Rk) where
 R:Rk
 past:List Rk
 i:Nat
 v:VS R past
 le:past.length≤i
 i12:i≤12
 hd:(past++[R]).head?=some R0
theorem zXv1 {l:List Rk}{a b:Rk}(h:l.head?=some a):(l++[b]).head?=some a:=by
 cases l with
 | nil=>simp at h
 | cons x l=>simpa using h
theorem zPm1 {l:List Rk}{a b c:Rk}(h:(l++[b]++[c]).head?=some a):(l++[b]).head?=some a:=by
 cases l with
 | nil=>simpa using h
 | cons x l=>simpa using h
theorem zDq2 {R:Rk}{past:List Rk}(v:VS R past)(w:Txt):(∃q:QEx R past,oEx R past w=.one (rEx q))∨oEx R past w=.any (QEx R past) rEx:=by
 by_cases E:w=undoT
 ·left;rcases List.eq_nil_or_concat past with rfl|⟨F,r0,rfl⟩
  ·refine⟨⟨R,[],[110,111],v,by simp,.inl ⟨rfl,rfl⟩⟩,?_⟩;unfold oEx;rw[if_pos E];rfl
  ·refine⟨⟨r0,F,[111,107],⟨v.p _ (by simp),fun x hx=>v.p x (by simp[hx])⟩,by simp,.inr (.inr (by simp))⟩,?_⟩;unfold oEx;rw[if_pos E];simp[rUn,popR,rEx]
 ·exact .inr (if_neg E)
theorem zZt1 {R:Rk}:oEx R [] undoT=.one {val:=.tup [.agg [.im (.sl 11 (rowsM R.1)),.im (.sl 2 (rowsC R.2)),.im (.sl 2 [])],.c (.im (.str ⟨#[110,111]⟩))]}:=by
 unfold oEx;rw[if_pos rfl];rfl
theorem zTk1 {R r0:Rk}{p0:List Rk}:oEx R (p0++[r0]) undoT=.one {val:=.tup [.agg [.im (.sl 11 (rowsM r0.1)),.im (.sl 2 (rowsC r0.2)),.im (.sl 2 (rowsR p0))],.c (.im (.str ⟨#[111,107]⟩))]}:=by
 unfold oEx;rw[if_pos rfl];simp[rUn,popR]
theorem zAf1 (l:List Rk):MvR false (.arr 2 (tI (rowsR l)))=True:=eq_true (zBv _ _)
theorem zJw1 (hsort:SortLaw prog 233)(hO:Law prog 234 zKz):Law prog 6 ctLaw:=by
 refine zAf (zAa zFj1 (zAa zWz1 (zAa (zJv1 hO) (zAa (zCy2 hsort) (zAa zFf1 (zAa zAv1 zAd)))))) hmixA func6 rfl rfl (fun ⟨l,hb⟩=>⟨zAv rfl,by simp[f6],?_⟩);simp only;by_cases b3:1048576<l.length
 · have hI:(1048576:Int)<(l.length:Int):=(by omega);clear b3;try simp -dsimp only[go_sem,f6,zCv,hI]
 have b2:l.length≤1048576:=by omega
 have hI:¬((1048576:Int)<(l.length:Int)):=by omega
 clear b3;have d5:zIz.run [.c (.im (.sl 1 (rowsB l))),.c (.im (.int .i64 4))] []=some (oMkU 4):=zDz1 b2 hb (n:=4) (by decide);try simp -dsimp only[go_sem,f6,zCv,hI,d5,oMkU,zId2]
 rintro ⟨⟨J,V⟩,hq⟩;have hV:=zMy2 (⟨(J,V),hq⟩:QRk1U 4);simp only at hV
 refine zAp (ι:=UndI (J,V)) (fun x=>⟨[(0,some (.c (.im (.sl 1 (rowsB l))))),(3,some (.c (.ptr 0 0 0 0))),(4,some (.c (.ptr 1 0 0 0))),(5,some (.c (.view 2 2 0 x.past.length))),(6,some (.c (.im (.int .i64 (x.i:Int)))))],
   [(0,some (.box [.t (.im (.sl 11 (rowsM x.R.1))),.t (.im (.sl 2 (rowsC x.R.2))),.t (.im (.sl 2 (rowsR x.past)))])),(1,some (.box [.t (.im (.sl 11 (rowsM J))),.t (.im (.sl 2 (rowsC V)))])),(2,some (.arr 2 (tI (rowsR x.past))))],3⟩) (fun x=>12-x.i) ⟨(J,V),[],0,⟨hV,by simp⟩,by simp,by simp,rfl⟩ ⟨[.nilI 2 [.b 0 0 2]],[0,1,2],by ((simp only[go_sem,yai,frzLs,frT,zFq])<;>(try (simp -dsimp only[go_sem,yaj,yai,frzLs,frT,zFq,zAf1])))<;>simp[tI]⟩ (fun ⟨⟨ms,cs⟩,past,i,v,le,i12,hd⟩=>?_)
 simp only at v le i12 hd ⊢;by_cases hi:i<12
 · have b7:(i:Int)<12:=(by omega);have e3:IntKind.i64.wrap (3+(i:Int))=3+(i:Int):=zAi (by omega) (by omega);have b6:IntKind.i64.wrap ((i:Int)+1)=((i+1:Nat):Int):=(by rw[zAi (by omega) (by omega)];omega);have rf:=zUk1 b2 hb (s:=3+(i:Int)) (by omega) (by omega);try simp -dsimp only[go_sem,b7,e3,rf,oFresh,zBz2,rNew]
   with_reducible repeat' refine sl_i ?_
   rintro ⟨bl,g8,e8⟩;have b9:=zIn1 (l:=bl) (by omega) e8 v.r;have d4:List.take bl.length (tI (rowsB bl))=tI (rowsB bl):=List.take_of_length_le (by rw[zAg,zCv];omega);simp only[rkC] at b9;(try simp -dsimp only[go_sem,b9,zLd2,zLo1,d4,zBj,zAg,zCv]);rintro ⟨w,hw⟩;have G:=zEe1 (w:=w) v (by omega) (by omega);simp only[sesC] at G;have nx:Nonempty (QEx (ms,cs) past)=True:=(by simp only[eq_iff_iff,iff_true];exact⟨⟨(ms,cs),past,[110,111],v,by simp,.inl ⟨rfl,rfl⟩⟩⟩);rcases zDq2 v w with ⟨q,ho⟩|ho
   case' inl=>
     rw[ho] at G;obtain ⟨⟨E,cs'⟩,past',out,F,d1,b1⟩:=q
   case' inr=>
     rw[ho] at G;(try simp -dsimp only[go_sem,G,nx]);rintro ⟨⟨E,cs'⟩,past',out,F,d1,b1⟩
   all_goals (
     have a6:=eq_false d1
     have a8:IntKind.i64.wrap ((past.length:Int)+1)=((past.length+1:Nat):Int):=by rw[zAi (by omega) (by omega)];omega
     rcases b1 with ⟨hr,rfl⟩|rfl|rfl
     · injection hr with e1 e2
       subst e1 e2
       have rS:=zQb v (show past'.length≤20 by omega)
       have c1:((past'.length:Int)=((past'.length+1:Nat):Int))=False:=eq_false (by omega)
       have c2:¬((past'.length:Int)<(past'.length:Int)):=by omega
       have Z:=zKl v.r.sm1 v.r.sm2 v.r.ok
       simp only[sesC] at rS Z
       try simp -dsimp only[go_sem,b6,a8,G,rEx,rS,a6,zAr,zCc,c1,c2,Z,yaL,yaH]
       with_reducible repeat' refine ro_i ?_
       exact⟨⟨(E,cs'),past',i+1,v,by omega,by omega,hd⟩,by simp only[];omega,[],[0,1,2],by (simp only[go_sem,yai,zAf1])<;>simp[lk,zAn]⟩
     · have U:(past++[(ms,cs)]).length=past.length+1:=by simp
       have rS:=zQb F (show (past++[(ms,cs)]).length≤20 by omega)
       have c1:(((past.length+1:Nat):Int)=((past.length+1:Nat):Int))=True:=eq_true rfl
       have b4:=zLl1 past (ms,cs)
       simp only at b4
       have lp:(tI (rowsR past)).length=past.length:=by rw[zAg,zCc]
       have d6:(tI (rowsR (past++[(ms,cs)]))).length=past.length+1:=by rw[zAg,zCc,U]
       have e4:(past.length+1)*48≤140737488355328:=by omega
       simp only[sesC] at rS
       try simp -dsimp only[go_sem,b6,a8,G,rEx,rS,a6,zAr,zCc,U,b4,lp,d6,e4,appendH,srcRows,List.take_succ_cons,yan,yao,yap,okT,yaq,yaH]
       with_reducible repeat' refine ro_i ?_
       exact⟨⟨(E,cs'),past++[(ms,cs)],i+1,F,by rw[U];omega,by omega,zXv1 hd⟩,by simp only[];omega,[],[0,1,124],by (simp only[go_sem,yai,zAf1,U])<;>simp[lk,zAn]⟩
     · have U:(past'++[(E,cs')]).length=past'.length+1:=by simp
       have rS:=zQb F (show past'.length≤20 by omega)
       have c1:((past'.length:Int)=((past'.length+1+1:Nat):Int))=False:=eq_false (by omega)
       have c2:(past'.length:Int)<((past'.length+1:Nat):Int):=by omega
       have d9:IntKind.i64.wrap (((past'.length+1:Nat):Int)-1)=(past'.length:Int):=by rw[zAi (by omega) (by omega)];omega
       have c3:0≤(past'.length:Int):=by omega
       have c4:(past'.length:Int)≤((past'.length+1:Nat):Int):=by omega
       have c7:List.take past'.length (tI (rowsR (past'++[(E,cs')])))=tI (rowsR past'):=by simp[tI,rowsR]
       rw[U] at a8 le
       simp only[sesC] at rS
       try simp -dsimp only[go_sem,b6,a8,G,rEx,rS,a6,zAr,zCc,U,c1,c2,c3,c4,d9,Int.toNat_natCast,yaH]
       with_reducible repeat' refine ro_i ?_
       exact⟨⟨(E,cs'),past',i+1,F,by omega,by omega,zPm1 hd⟩,by simp only[];omega,[.trn 2 past'.length],[0,1,2],by ((simp only[go_sem,yai,zAf1,c7])<;>(try (simp -dsimp only[go_sem,yaj,yai,zAf1,c7])))<;>simp[]⟩)
 have b7:¬((i:Int)<12):=by omega
 have d8:IntKind.i64.wrap ((past.length:Int)-1)=(past.length:Int)-1:=zAi (by omega) (by omega);clear hi;try simp -dsimp only[go_sem,b7,d8]
 have f4:(tI (rowsR past)).length=past.length:=by rw[zAg,zCc]
 refine zAp (ι:={x:Rk×Nat//x.2≤past.length∧VS x.1 (past.take x.2)∧(past.take x.2++[x.1]).head?=some (J,V)}) (fun x=>⟨[(3,some (.c (.ptr 0 0 0 0))),(4,some (.c (.ptr 1 0 0 0))),(5,some (.c (.view 2 2 0 past.length))),(9,some (.c (.im (.int .i64 ((x.1.2:Int)-1)))))],
   [(0,some (.box [.t (.im (.sl 11 (rowsM x.1.1.1))),.t (.im (.sl 2 (rowsC x.1.1.2))),.t (.im (.sl 2 (rowsR (past.take x.1.2))))])),(1,some (.box [.t (.im (.sl 11 (rowsM J))),.t (.im (.sl 2 (rowsC V)))])),(2,some (.arr 2 (tI (rowsR past))))],3⟩) (fun x=>x.1.2) ⟨((ms,cs),past.length),by simp,by rw[List.take_length];exact v,by rw[List.take_length];exact hd⟩ ⟨[],[0,1,2],by (simp only[go_sem,yai,zAf1,List.take_length])<;>simp[lk,zAn]⟩ (fun ⟨⟨⟨E,cs'⟩,m⟩,hm,F,a7⟩=>?_)
 simp only at hm F a7 ⊢
 match m with
 | 0=>
   have d0:¬(0≤((0:Nat):Int)-1):=(by omega);rw[List.take_zero] at F a7;have e0:(E,cs')=(J,V):=(by simpa using a7);injection e0 with e1 e2;subst e1 e2;have G:=zEe1 (w:=undoT) F (by simp) (by decide);rw[zZt1] at G;have Z:=zKl F.r.sm1 F.r.sm2 F.r.ok;simp only[sesC,zFq,undoT] at G;try simp -dsimp only[go_sem,f6,d0,yan,zFq,G,zTz1,Z,zAr]
 | m+1=>
   have d0:0≤((m+1:Nat):Int)-1:=(by omega);have dk:((m+1:Nat):Int)-1=(m:Int):=(by omega);obtain ⟨⟨b5,b8⟩,hp⟩:∃p,past[m]?=some p:=⟨_,List.getElem?_eq_getElem (by omega)⟩;have c6:=zCy hp;rw[c6] at F a7;have G:=zEe1 (w:=undoT) F (by simp;omega) (by decide);rw[zTk1] at G;have v2:VS (b5,b8) (past.take m):=⟨F.p _ (by simp),fun x hx=>F.p x (by simp[hx])⟩;have Z:=zKl v2.r.sm1 v2.r.sm2 v2.r.ok;have c8:(tI (rowsR past))[m]?=some [T.im (.sl 11 (rowsM b5)),T.im (.sl 2 (rowsC b8))]:=zPn (zQf hp);have k0:0≤(m:Int):=(by omega);have k1:(m:Int)<(past.length:Int):=(by omega);have d7:IntKind.i64.wrap ((m:Int)-1)=(m:Int)-1:=zAi (by omega) (by omega);simp only[sesC,undoT] at G;try simp -dsimp only[go_sem,dk,c6,G,zTz1,Z,zAr,c8,k0,k1,d7,Int.toNat_natCast,yaH]
   with_reducible repeat' first|refine sl_i ?_|refine ro_i ?_
   exact⟨⟨((b5,b8),m),by omega,v2,zPm1 a7⟩,by simp only[];omega,[],[0,1,2],by (simp only[go_sem,yai,zAf1])<;>simp[lk,zAn]⟩
theorem appZ24:AppZ prog 24 3:=zJj2 Tryz.underlying3
theorem zWx1:Law prog 234 zKz:=by
 refine zAw (zAa zSd1 (zAa zFc (zAa zBf (zAa zSl (zAa zHm zAd))))) hmixA func234 rfl rfl (fun ⟨l,h1,h2,a,h,h3,h4⟩=>⟨okA (fun q=>okK (n:=0) (.agg _ (fun x hx=>by
  simp only[yac,yad,or_false] at hx
  rcases hx with rfl|rfl|rfl<;>exact .im _ (.inl rfl)))),by simp[f234],?_⟩)
 have hz:=appZ24;simp only[oRo,hsK];have r6:∀(a h:Int),0≤a→a≤l.length→zMw.run [.c (.ptr 0 0 0 0),.c (.im (.int .i64 6))] [[.t (.im (.sl 1 (rowsB l))),.t (.im (.int .i64 a)),.t (.im (.int .i64 h))]]=some (oRgO l):=fun a h q1 q2=>zBy1 (a:=a) (h:=h) (n:=6) h1 h2 q1 q2 (by decide) (by decide);have d8:∀(a h:Int),0≤a→a≤l.length→zMw.run [.c (.ptr 0 0 0 0),.c (.im (.int .i64 16))] [[.t (.im (.sl 1 (rowsB l))),.t (.im (.int .i64 a)),.t (.im (.int .i64 h))]]=some (oRgO l):=fun a h q1 q2=>zBy1 (a:=a) (h:=h) (n:=16) h1 h2 q1 q2 (by decide) (by decide);try simp -dsimp only[go_sem,f234,r6 a h h3 h4,oRgO,zEz2,hsK]
 rintro ⟨⟨⟨st,A,C⟩,F⟩,⟨⟨a1,k1⟩,b1⟩⟩;simp only at F b1;try simp -dsimp only[go_sem,hsK,zCu h1 h2 b1.1 b1.2 (n:=30) (by decide) (by decide),oOnce,zHz]
 rintro ⟨c0,⟨⟨a2,k2⟩,b2⟩⟩
 cases c0
 case' true=>
  try simp -dsimp only[go_sem,hsK,d8 a2 k2 b2.1 b2.2,oRgO,zEz2]
  rintro ⟨⟨⟨st,A,C⟩,F⟩,⟨⟨a2,k2⟩,b2⟩⟩;simp only at F b2
 all_goals
  try simp -dsimp only[go_sem,hsK,zCu h1 h2 b2.1 b2.2 (n:=10) (by decide) (by decide),oOnce,zHz]
  rintro ⟨c1,⟨⟨a3,k3⟩,b3⟩⟩;have f1:=F.h2;have hA:i64B (A:Int):=⟨by omega,by have:=F.h3;omega⟩;have hC:i64B (C:Int):=⟨by omega,by have:=F.h4;omega⟩;have lz:(tI (rowsZ st)).length=st.length:=by rw[zAg,zAb]
  have hm:mapO (mapO imT) (tI (rowsZ st))=some (rowsZ st):=zCb _
  cases c1 with
  | false=>
   try simp -dsimp only[go_sem,f234]
   first
    | (refine zAh [.frz 2 [.b 1 0 0]] ?_;simp -dsimp only[go_sem,hm,lz];exact⟨(⟨(st,(A:Int),(C:Int)),by simp only[];omega,F.w,hA,hC⟩,⟨(a3,k3),b3⟩),by simp⟩)
    | (refine zAh [.frz 4 [.b 1 0 0]] ?_;simp -dsimp only[go_sem,hm,lz];exact⟨(⟨(st,(A:Int),(C:Int)),by simp only[];omega,F.w,hA,hC⟩,⟨(a3,k3),b3⟩),by simp⟩)
  | true=>
   (try simp -dsimp only[go_sem,hsK,zAl h1 h2 b3.1 b3.2 (n:=5) (by decide) (by decide),oBelow,zAy l (n:=5) (by decide)]);rintro ⟨⟨v,⟨⟨a4,k4⟩,b4⟩⟩,v1,v2⟩;simp only at v1 v2 b4;have hv:v=0∨v=1∨v=2∨v=3∨v=4:=(by omega);rcases hv with rfl|rfl|rfl|rfl|rfl
   ·skip
    obtain ⟨G,E⟩:∃G:List Int,[-1,(st.length:Int),9223372036854775807,-9223372036854775808]=G:=⟨_,rfl⟩;have c8:∀x∈G,i64B x:=(by subst E;intro x hx;simp at hx;rcases hx with rfl|rfl|rfl|rfl<;>exact⟨by omega,by omega⟩);have ri:=zHl (m:=G) (h:=k4) h1 h2 b4.1 b4.2 (by subst E;simp) (by subst E;simp);have ni:=zSe l (m:=G) (by subst E;simp);have V:rowsN G=[[.int .i64 (-1)],[.int .i64 (st.length:Int)],[.int .i64 9223372036854775807],[.int .i64 (-9223372036854775808)]]:=(by subst E;rfl);rw[V] at ri;clear E V;(try simp -dsimp only[go_sem,f234,hsK,ri,zJp,oInt,ni,yab,List.length_nil]);rintro ⟨⟨u,hu⟩,⟨⟨a5,k5⟩,b5⟩⟩;have a7:=c8 u hu;try simp -dsimp only[go_sem]
    first
     | (refine zAh [.frz 2 [.b 1 0 0]] ?_;simp -dsimp only[go_sem,hm,lz];exact⟨(⟨(st,u,(C:Int)),by simp only[];omega,F.w,a7,hC⟩,⟨(a5,k5),b5⟩),by simp⟩)
     | (refine zAh [.frz 4 [.b 1 0 0]] ?_;simp -dsimp only[go_sem,hm,lz];exact⟨(⟨(st,u,(C:Int)),by simp only[];omega,F.w,a7,hC⟩,⟨(a5,k5),b5⟩),by simp⟩)
   ·skip
    have e2:IntKind.i64.wrap ((st.length:Int)+1)=(st.length:Int)+1:=zAi (by omega) (by omega);obtain ⟨G,E⟩:∃G:List Int,[-1,(st.length:Int)+1,0]=G:=⟨_,rfl⟩;have c8:∀x∈G,i64B x:=(by subst E;intro x hx;simp at hx;rcases hx with rfl|rfl|rfl<;>exact⟨by omega,by omega⟩);have ri:=zHl (m:=G) (h:=k4) h1 h2 b4.1 b4.2 (by subst E;simp) (by subst E;simp);have ni:=zSe l (m:=G) (by subst E;simp);have V:rowsN G=[[.int .i64 (-1)],[.int .i64 ((st.length:Int)+1)],[.int .i64 0]]:=(by subst E;rfl);rw[V] at ri;clear E V;(try simp -dsimp only[go_sem,f234,hsK,Int.reduceEq,e2,ri,zJp,oInt,ni,yab,List.length_nil]);rintro ⟨⟨u,hu⟩,⟨⟨a5,k5⟩,b5⟩⟩;have a7:=c8 u hu;try simp -dsimp only[go_sem]
    first
     | (refine zAh [.frz 2 [.b 1 0 0]] ?_;simp -dsimp only[go_sem,hm,lz];exact⟨(⟨(st,(A:Int),u),by simp only[];omega,F.w,hA,a7⟩,⟨(a5,k5),b5⟩),by simp⟩)
     | (refine zAh [.frz 4 [.b 1 0 0]] ?_;simp -dsimp only[go_sem,hm,lz];exact⟨(⟨(st,(A:Int),u),by simp only[];omega,F.w,hA,a7⟩,⟨(a5,k5),b5⟩),by simp⟩)
   ·skip
    (try simp -dsimp only[go_sem,f234,Int.reduceEq]);refine zAh [.nilI 1 [.b 1 0 0]] ?_;simp -dsimp only[go_sem];exact⟨(⟨([],(A:Int),(C:Int)),by simp,by simp,hA,hC⟩,⟨(a4,k4),b4⟩),by simp[rowsZ]⟩
   ·skip
    obtain ⟨U,b0⟩:∃U,st++zrs 16=U:=⟨_,rfl⟩;have e4:tI (rowsZ st)++List.replicate (Int.toNat 16) [T.im (.cpx .f32 0 0)]=tI (rowsZ U):=(by rw[←b0];simp[tI,rowsZ]);have g6:U.length=st.length+16:=(by rw[←b0];simp)
    have d4:∀p∈U,W2 p:=by
     rw[←b0];intro p hp;rcases List.mem_append.1 hp with hp|hp
     ·exact F.w p hp
     ·rw[(List.mem_replicate.1 hp).2];exact⟨by decide,by decide⟩
    clear b0;have J:(tI (rowsZ U)).length=U.length:=(by rw[zAg,zAb]);have Z:mapO (mapO imT) (tI (rowsZ U))=some (rowsZ U):=zCb _;have e5:U.length*8≤140737488355328:=(by omega);try simp -dsimp only[go_sem,f234,Int.reduceEq,hz,appendZ,lz,J,e4,e5,yao,yap,okT,yaq,Int.reduceLT,Int.reduceLE,and_true]
    first
     | (refine zAh [.frz 4 [.b 1 0 0]] ?_;simp -dsimp only[go_sem,Z,J];exact⟨(⟨(U,(A:Int),(C:Int)),by simp only[];omega,d4,hA,hC⟩,⟨(a4,k4),b4⟩),by simp⟩)
     | (refine zAh [.frz 5 [.b 1 0 0]] ?_;simp -dsimp only[go_sem,Z,J];exact⟨(⟨(U,(A:Int),(C:Int)),by simp only[];omega,d4,hA,hC⟩,⟨(a4,k4),b4⟩),by simp⟩)
   ·skip
    have g8:=F.h1;have rb:=zAl (h:=k4) h1 h2 b4.1 b4.2 (n:=(st.length:Int)) (by omega) (by omega);have nb:=zAy l (n:=(st.length:Int)) (by omega);try simp -dsimp only[go_sem,hsK,Int.reduceEq,rb,oBelow,nb]
    with_reducible repeat' refine sl_i ?_
    rintro ⟨⟨w,⟨⟨a5,k5⟩,b5⟩⟩,w1,w2⟩;simp only at w1 w2 b5;obtain ⟨W,rfl⟩:=Int.eq_ofNat_of_zero_le w1;obtain ⟨⟨p0,p1⟩,hp⟩:∃p,st[W]?=some p:=⟨_,List.getElem?_eq_getElem (by omega)⟩;have d6:(tI (rowsZ st))[W]?=some [T.im (.cpx .f32 p0 p1)]:=zPn (zBz hp);have z0:0≤(W:Int):=(by omega);have z1:(W:Int)<(st.length:Int):=(by omega);(try simp -dsimp only[go_sem,hsK,zHk h1 h2 b5.1 b5.2,oPtU,zMg]);rintro ⟨⟨⟨x,y⟩,hx⟩,⟨⟨a6,k6⟩,b6⟩⟩;try simp -dsimp only[go_sem,f234,z0,z1,d6,setZ,Int.toNat_natCast]
    with_reducible repeat' refine ro_i ?_
    have J:(tI (rowsZ (st.set W (x,y)))).length=st.length:=(by simp[zAg,zAb]);have Z:mapO (mapO imT) (tI (rowsZ (st.set W (x,y))))=some (rowsZ (st.set W (x,y))):=zCb _
    first
     | (refine zAh [.frz 2 [.b 1 0 0]] ?_;simp -dsimp only[go_sem,Z,J];exact⟨(⟨(st.set W (x,y),(A:Int),(C:Int)),by simp;omega,zLh1 F.w W hx,hA,hC⟩,⟨(a6,k6),b6⟩),by simp⟩)
     | (refine zAh [.frz 4 [.b 1 0 0]] ?_;simp -dsimp only[go_sem,Z,J];exact⟨(⟨(st.set W (x,y),(A:Int),(C:Int)),by simp;omega,zLh1 F.w W hx,hA,hC⟩,⟨(a6,k6),b6⟩),by simp⟩)
end Go.SX
namespace Go.SX
open Go Go.Proofs Go.RowKit Go.ChangeShapes
def laidL : List (String × DataW Unit) := [("math/bits.deBruijn32tab", YtfmpjhjnpeheeaaGreatDoor.Rows.laid_math_bits_deBruijn32tab), ("math/bits.deBruijn64tab", YtfmpjhjnpeheeaaGreatDoor.Rows.laid_math_bits_deBruijn64tab), ("internal/strconv.uint64pow10", YtfmpjhjnpeheeaaGreatDoor.Rows.laid_internal_strconv_uint64pow10), ("unicode/utf8.acceptRanges", YtfmpjhjnpeheeaaGreatDoor.Rows.laid_unicode_utf8_acceptRanges), ("strconv.ErrRange", YtfmpjhjnpeheeaaGreatDoor.Rows.laid_strconv_ErrRange), ("strconv.ErrSyntax", YtfmpjhjnpeheeaaGreatDoor.Rows.laid_strconv_ErrSyntax), ("unicode/utf8.first", YtfmpjhjnpeheeaaGreatDoor.Rows.laid_unicode_utf8_first)]
theorem lx1 : Tryz.prog.globalNamed "math/bits.deBruijn32tab" = some 1 := by kernel_rfl
theorem lx1t:(Tryz.prog.globals[1]?).map (·.type)=some 256:=by kernel_rfl
theorem lx1u:Tryz.prog.underlying 256=some (.array 32 5):=by kernel_rfl
theorem lx1e:Tryz.prog.underlying 5=some (.int .u8):=by kernel_rfl
theorem lx1c:Tryz.prog.cellsOf 5=1:=by kernel_rfl
theorem lx1d:Tryz.prog.cellsOf 256=32:=by kernel_rfl
theorem lx7 : Tryz.prog.globalNamed "internal/strconv.uint64pow10" = some 7 := by kernel_rfl
theorem lx7t:(Tryz.prog.globals[7]?).map (·.type)=some 308:=by kernel_rfl
theorem lx7u:Tryz.prog.underlying 308=some (.array 20 247):=by kernel_rfl
theorem lx7e:Tryz.prog.underlying 247=some (.int .u64):=by kernel_rfl
theorem lx7c:Tryz.prog.cellsOf 247=1:=by kernel_rfl
theorem lx7d:Tryz.prog.cellsOf 308=20:=by kernel_rfl
theorem lx3 : Tryz.prog.globalNamed "strconv.ErrSyntax" = some 3 := by kernel_rfl
theorem lx3t:(Tryz.prog.globals[3]?).map (·.type)=some 169:=by kernel_rfl
theorem lx4 : Tryz.prog.globalNamed "strconv.ErrRange" = some 4 := by kernel_rfl
theorem lx4t:(Tryz.prog.globals[4]?).map (·.type)=some 169:=by kernel_rfl
theorem lxS : "*" ++ "errors.errorString" = "*errors.errorString" := by decide
theorem lxR (u : TypeId) (h : Tryz.prog.typeName? 3 u = some "*errors.errorString") : u = 311 :=
 typeName_ptr_named (nm := "errors.errorString") (by rw [lxS]; kernel_rfl) (by kernel_rfl) (by decide) u (by rw [lxS]; exact h)
theorem lxc313:Tryz.prog.cellsOf 313=1:=by kernel_rfl
theorem lxc9:Tryz.prog.cellsOf 9=1:=by kernel_rfl
theorem lxd1:YtfmpjhjnpeheeaaGreatDoor.Rows.laid_math_bits_deBruijn32tab=(Lib.tabData .u8 (Lib.deBruijn32tab.map fun (k:Nat)=>(k:Int)):DataW Unit):=by kernel_rfl
theorem lxd7:YtfmpjhjnpeheeaaGreatDoor.Rows.laid_internal_strconv_uint64pow10=(Lib.tabData .u64 Lib.pow10Tab:DataW Unit):=by kernel_rfl
theorem zFw1 {P:Program}{w:World}{n:String}{g:Nat}{cs:Array Value}(hg:P.globalNamed n=some g)(h:w.var? P n=some cs):∃e fr, w.heap[g]?=some (.cells cs e fr):=by
 unfold World.var? at h;rw[hg] at h;simp only[Option.bind_some] at h;split at h
 ·rename_i c e fr hh;injection h with h;subst h;exact⟨e, fr, hh⟩
 ·cases h
theorem zHo1 {P:Program} {W:World} {name:String} {k:IntKind} {zs:List Int} {l:List (String×DataW Unit)} {g:Nat} {t e:TypeId} {n:Nat}
 (hg:P.globalNamed name=some g) (hty:(P.globals[g]?).map (·.type)=some t) (ht:P.underlying t=some (.array n e)) (he:P.underlying e=some (.int k)) (hce:P.cellsOf e=1) (hct:P.cellsOf t=n)
 (h:laidMet P l W) (hm:(name, Lib.tabData k zs)∈l):∃e fr, W.heap[g]?=some (.cells (zs.map fun z=>Value.int k z).toArray e fr):=by
 obtain ⟨g', t', cs, fuel, p, hg', ht', hvar, hd⟩:=Lib.laidMet.reads h hm;obtain rfl:=Option.some.inj (hg.symm.trans hg');obtain rfl:=Option.some.inj (hty.symm.trans ht');have:=Lib.cells_of_tab ht he hce hct hd;rw[←this];exact zFw1 hg hvar
theorem lxM0:((begin Tryz.prog (fun _ _=>0) default).world.heap[2]?).bind Obj.row?=some (#[.int .i64 0], 3):=by kernel_rfl
theorem lxMs:2<Tryz.prog.globals.size:=of_decide_eq_true (by kernel_rfl)
theorem lxMb:Tryz.prog.buildable 3=true:=by kernel_rfl
theorem lxMt:Tryz.prog.cellTypes Tryz.prog.depth 3=some [3]:=by kernel_rfl
theorem lxMu:Tryz.prog.underlying 3=some (.int .i64):=by kernel_rfl
set_option maxRecDepth 100000 in
theorem zIq2 {W:World}(h:laidMetH Tryz.prog laidL W)(hs:W.ShapedOpen Tryz.prog):Laid (fun _=>none) W:=by
 rw[MakeChecks.laidMetH_plain _ _ _ (by kernel_rfl)] at h;refine⟨fun b cs hb=>⟨?_, rfl⟩, fun b hb=>⟨?_, rfl⟩, fun b hb=>⟨?_, rfl⟩⟩
 ·simp only[globV, List.mem_cons, List.not_mem_nil, or_false, Prod.mk.injEq] at hb;rcases hb with ⟨rfl, rfl⟩|⟨rfl, rfl⟩
  ·have:=zHo1 lx1 lx1t lx1u lx1e lx1c lx1d h (zs:=Lib.deBruijn32tab.map fun (k:Nat)=>(k:Int)) (by rw[←lxd1];simp[laidL]);simpa[List.map_map, Function.comp_def] using this
  ·exact zHo1 lx7 lx7t lx7u lx7e lx7c lx7d h (zs:=Lib.pow10Tab) (by rw[←lxd7];simp[laidL])
 ·simp only[globI, List.mem_cons, List.not_mem_nil, or_false] at hb;rcases hb with rfl|rfl
  ·obtain ⟨a0, s0, hv, _, _, _⟩:=laid_sentinel h.tail.tail.tail.tail.tail lx3 lx3t Tryz.underlying169 lxR Tryz.underlying311 Tryz.underlying313 rfl rfl Tryz.underlying9 lxc313 lxc9;obtain ⟨e, fr, hh⟩:=zFw1 lx3 hv;exact⟨_, _, e, fr, hh⟩
  ·obtain ⟨a0, s0, hv, _, _, _⟩:=laid_sentinel h.tail.tail.tail.tail lx4 lx4t Tryz.underlying169 lxR Tryz.underlying311 Tryz.underlying313 rfl rfl Tryz.underlying9 lxc313 lxc9;obtain ⟨e, fr, hh⟩:=zFw1 lx4 hv;exact⟨_, _, e, fr, hh⟩
 ·simp only[globN, List.mem_cons, List.not_mem_nil, or_false] at hb;subst hb;obtain ⟨cs, hh, hsz, hok⟩:=hs.1 2 _ _ lxMs lxM0;obtain ⟨ts, hts, _, hc⟩:=hok lxMb;rw[lxMt] at hts;injection hts with hts;subst hts;obtain ⟨l⟩:=cs;have hl:l.length=1:=by simpa using hsz
  match l, hl with
  | [v], _=>
   obtain ⟨u, hu, hv⟩:=hc 0 v (by simp);simp only[List.length_singleton, Nat.zero_mod, List.getElem?_cons_zero, Option.some.injEq] at hu;subst hu;unfold Cell.ok at hv;rw[lxMu] at hv
   cases v<;>simp at hv
   obtain ⟨rfl, _⟩:=hv;exact⟨_, _, _, hh⟩
set_option maxRecDepth 100000 in
theorem zSs1 (os:Os)(args:Array Value):laidMetH Tryz.prog laidL ((World.laidAll Tryz.prog os laidL).forCall (fun _ _=>0) ⟨#[], args, []⟩).memory:=by
 rw[MakeChecks.laidMetH_plain _ _ _ (by kernel_rfl)];exact laidMet_laidAll _ (by kernel_rfl) (by kernel_rfl)
end Go.SX
namespace Go.SX
open Go Go.Proofs Go.RowKit
theorem zHh2 {l:List Int}(h:∀b∈l, 0≤b∧b<256):ctLaw.run [.c (.im (.sl 1 (rowsB l)))] []=some (.one {val:=.c (.im (.bool true))}):=by
 refine zAc (ct:=ctLaw) rfl ?_ ⟨l, h⟩;rintro ⟨a, _⟩ ⟨b, _⟩ h;simp only[Prod.mk.injEq, List.cons.injEq, D.c.injEq, C.im.injEq, I.sl.injEq, true_and, and_true] at h;exact Subtype.ext (zMd h)
theorem zMr2 {n:Int}(h:(Lit.int .u8 n).wf=true):0≤n∧n<256:=by
 simp only[Lit.wf, Bool.and_eq_true, decide_eq_true_eq] at h;obtain ⟨h1, h2⟩:=h;have e1:IntKind.u8.min=0:=by decide
 have e2:IntKind.u8.max=255:=by decide
 omega
theorem zKa2 {w:World} {a:Option Addr} {len cap:Nat} {zs:List Int}
 (h:(a=none∧len=0∧cap=0∧zs=[])∨
  ∃x, a=some x∧len≤cap∧cap≤maxLen∧zs.length=cap∧(∀i, i<zs.length→w.cell? (x.add i)=some (.int .u8 (zs.getD i 0)))∧∀n∈zs, (Lit.int .u8 n).wf=true):
 ∃l:List Int, (∀b∈l, 0≤b∧b<256)∧IR (stayG w).fz (.sl 1 (rowsB l)) (.slice a len cap):=by
 rcases h with ⟨rfl, rfl, rfl, rfl⟩|⟨x, rfl, hl, hm, hz, hx, hw⟩
 ·exact⟨[], by simp, .sl0 _ _ _⟩
 ·by_cases h0:len=0
  ·subst h0;exact⟨[], by simp, .sl0 _ _ _⟩
  ·have hlen:(zs.take len).length=len:=(by rw[List.length_take];omega);refine⟨zs.take len, fun b hb=>zMr2 (hw b (List.mem_of_mem_take hb)), ?_⟩
   have hspot:x.spot=none:=by
    have:=hx 0 (by omega);simp only[Addr.add, if_true] at this;unfold World.cell? at this;split at this
    ·split at this
     ·cases this
     ·rename_i hs;simpa using hs
    ·cases this
   obtain ⟨b, o, s⟩:=x;simp only at hspot;subst hspot
   have key:∀(i:Nat) (r:List I) (j:Nat) (y:I), (rowsB (zs.take len))[i]?=some r→r[j]?=some y→∃v, (stayG w).fz b (o+i*1+j)=some v∧IR (stayG w).fz y v:=by
    intro i r j y hr hy;simp only[rowsB, List.getElem?_map, Option.map_eq_some_iff] at hr;obtain ⟨p, hp, rfl⟩:=hr;have hi:i<len:=(by have:=(List.getElem?_eq_some_iff.1 hp).1;omega);have h1:=hx i (by omega);rw[Go.SX.zCw] at h1;rw[List.getElem?_take_of_lt hi] at hp;have hg:zs.getD i 0=p:=(by rw[List.getD_eq_getElem?_getD, hp];rfl);rw[hg] at h1
    match j, hy with
    | 0, hy=>simp at hy;subst hy;exact⟨_, by rw[Nat.mul_one, Nat.add_zero];exact h1, .int _ _⟩
    | j+1, hy=>simp at hy
   obtain ⟨vs, hvs⟩:=zHx key
   have:=IR.sl (fz:=(stayG w).fz) 1 (rowsB (zs.take len)) b o cap vs (by rw[zCv, hlen];exact hl) (fun i r hr=>by
    simp only[rowsB, List.getElem?_map, Option.map_eq_some_iff] at hr
    obtain ⟨p, _, rfl⟩:=hr;rfl) (fun i r j y h1 h2=>(hvs i r j y h1 h2).1) (fun i r j y h1 h2=>(hvs i r j y h1 h2).2)
   rw[zCv, hlen] at this;exact this
theorem zWl1 {P:Program} {f:FuncId} (hL:Law P f ctLaw) {w:World} (hlaid:Laid (fun _=>none) w) {a:Option Addr} {len cap:Nat} {zs:List Int}
 (h:(a=none∧len=0∧cap=0∧zs=[])∨
  ∃x, a=some x∧len≤cap∧cap≤maxLen∧zs.length=cap∧(∀i, i<zs.length→w.cell? (x.add i)=some (.int .u8 (zs.getD i 0)))∧∀n∈zs, (Lit.int .u8 n).wf=true):
 Calls P f #[.slice a len cap] w fun e w'=>e=.returned (.bool true)∧Below w.heap.size w w':=by
 obtain ⟨l, hl, hir⟩:=zKa2 h;refine (zXc1 hL (ds:=[.c (.im (.sl 1 (rowsB l)))]) (args:=[.slice a len cap]) (i:=.bool true) rfl w hlaid (zHh2 hl) rfl (fun t d v hd hv=>?_)).mono fun e w' ⟨v, he, hv, hb⟩=>?_
 ·cases t with
  | zero=>simp at hd hv;subst hd;subst hv;exact .c _ _ (.im _ _ hir)
  | succ t=>simp at hd
 ·rw[hv.bool_inv] at he;exact⟨he, hb⟩
end Go.SX
namespace Go.Proofs.YtfmpjhjnpeheeaaGreatDoor.fnUndone
open Go.ChangeShapes Go.WideShapes Go.ChangeAt Go.RowKit
open Go.ChangeMaps (open_string shut_string)
theorem own:ownKnob Tryz.prog.godebug=none:=by kernel_rfl
theorem laidOut:laidOutB Tryz.prog=true:=by kernel_rfl
def IsRow (k:IntKind)(w:World)(a:Option Addr)(len cap:Nat)(zs:List Int):Prop:=
 (a=none∧len=0∧cap=0∧zs=[])∨
 ∃x, a=some x∧len≤cap∧cap≤maxLen∧zs.length=cap∧(∀i, i<zs.length→w.cell? (x.add i)=some (.int k (zs.getD i 0)))∧∀n∈zs, (Lit.int k n).wf=true
theorem walk (a0:Option Addr)(len0 cap0:Nat)(z0:List Int)(w:World)(w0:IsRow .u8 w a0 len0 cap0 z0)(hl:Go.SX.Laid (fun _=>none) w):
 Calls Tryz.prog 6 #[.slice a0 len0 cap0] w fun e w'=>e=.returned (.bool true)∧Below w.heap.size w w':=by
 exact Go.SX.zWl1 (Go.SX.zJw1 Go.SX.sortLaw Go.SX.zWx1) hl w0
theorem reads (os:Os){H:Type}(enc:TypeId×Value→H):∃places, DataW.whole enc Tryz.prog ((World.laidAll Tryz.prog os Go.SX.laidL).forCall (fun _ _=>0) ⟨#[], #[.slice none 0 0], []⟩).memory (Tryz.f6).params.toList Rows.fnUndoneSpec.vars false #[Value.slice none 0 0].toList 8=some ([.nil], [], places):=
 ⟨[], by kernel_rfl⟩
set_option maxRecDepth 100000 in
theorem lifted (os:Os)(started:os.Started)(H:Type)(enc:TypeId×Value→H)(F:Stop.Interp):
 ReturnsInHanded {} Tryz.checked os 6 .any ((OpenSpec.ofChange Rows.fnUndoneSpec).preRow enc Tryz.prog Tryz.f6 Rows.fnUndoneRow.domain false Rows.fnUndoneRow.laid) (((OpenSpec.ofChange Rows.fnUndoneSpec).at F).post enc Tryz.prog Tryz.f6 false true false false):=by
 obtain ⟨places, hx⟩:=reads os enc
 refine returnsInHanded_of_row (C:=Tryz.checked) (s:=OpenSpec.ofChange Rows.fnUndoneSpec) own started (by kernel_rfl) Tryz.func6
  ⟨World.laidAll Tryz.prog os Go.SX.laidL, fun _ _=>0, ⟨#[], #[.slice none 0 0], []⟩, World.laidAll_os _ _ _, World.shaped_of_ZipB (by kernel_rfl) (by kernel_rfl), rfl, (Input.okWide_of_okWideB (base:=(World.laidAll Tryz.prog os Go.SX.laidL).heap.size) (by kernel_rfl)).2,
   OpenSpec.preRow_of_cond 8 hx (by kernel_rfl) (fun k hk=>by cases hk) (by kernel_rfl) (Go.SX.zSs1 os _), by
    simp only[Assume.holds]
    exact⟨by simp, by simp, fun _=>Modest.zero, by simp, by simp⟩⟩ ?_
 intro W base args ds gs before hval0 hW _ _ _ hL hsh _;have hval:∀(j:Nat) t v, (Tryz.f6).params[j]?=some t→args[j]?=some v→Value.okWide Tryz.prog W .any base t v:=hval0;have hW':=hW;obtain ⟨p, q, hA0, hV, rfl, hfz, hnd⟩:=hW;have hA:DataW.TrodAll enc Tryz.prog W 0 (fun _=>true) true (Tryz.f6).params.toList args.toList ds p:=hA0;rw[Tryz.params6] at hA hval;obtain ⟨v0, vs0, d0, ds0, p0, q0, hargs, rfl, rfl, h0, r0⟩:=trodAll_cons hA;obtain ⟨rfl, rfl, rfl⟩:=trodAll_nil r0;obtain rfl:args=#[v0]:=by cases args;simp_all
 obtain ⟨rfl, rfl⟩:=trodVars_none hV;obtain ⟨a0, len0, cap0, rfl⟩:=okWide_slice Tryz.underlying37 (hval 0 37 v0 rfl rfl);have k0:=h0;have lt0:∀x∈p0, x.block<W.heap.size:=by obtain ⟨m, hm⟩:=k0;exact DataW.trod_lt m _ _ _ hm
 obtain ⟨z0, w0⟩:∃zs, IsRow .u8 W a0 len0 cap0 zs:=by
  obtain ⟨fuel, hf⟩:=h0;rcases open_ints Tryz.underlying37 Tryz.underlying5 (by kernel_rfl) hf with ⟨hcs, _⟩|⟨x, l, c, zs, hcs, _, hl, hm, hz, _, hcell, hwz⟩
  ·simp[Value.cells] at hcs;obtain ⟨rfl, rfl, rfl⟩:=hcs;exact⟨[], .inl ⟨rfl, rfl, rfl, rfl⟩⟩
  ·simp[Value.cells] at hcs;obtain ⟨rfl, rfl, rfl⟩:=hcs;exact⟨zs, .inr ⟨_, rfl, hl, hm, by simpa using hz, hcell, hwz⟩⟩
 clear hA0 hval0;refine (walk a0 len0 cap0 z0 W w0 (Go.SX.zIq2 hL hsh)).mono fun e W' ⟨he, bel⟩=>?_;subst he;exact⟨_, rfl, _, _, _, [], _, [], hW', trodAll_mk1 (shut_bool Tryz.underlying4 _), (trodAll_cons_mk (Below.trod laidOut (by kernel_rfl) (of_decide_eq_true (by kernel_rfl)) k0 bel lt0) trodAll_mk0), rfl, bel.frame _, fun h=>by cases h⟩
theorem a1:(Rows.fnUndoneRow.inPlace ==Tryz.pinned.checked.prog.inPlace 6)=true:=by kernel_rfl
theorem a2:(Rows.fnUndoneRow.unfollowed ==Tryz.pinned.checked.prog.unfollowed 6)=true:=by kernel_rfl
theorem a3:(Rows.fnUndoneRow.recurses ==Tryz.pinned.checked.prog.recurses 6)=true:=by kernel_rfl
theorem a4:(Rows.fnUndoneRow.named ==Tryz.pinned.checked.prog.varsNamed 6)=true:=by kernel_rfl
theorem and2 {a b:Bool}(h:a=true)(k:b=true):(a&&b)=true:=by rw[h, k];rfl
set_option maxHeartbeats 16000000 in
set_option maxRecDepth 100000 in
theorem closed:joinedFacts Tryz.pinned.checked.prog 6 Tryz.f6 (OpenSpec.ofChange Rows.fnUndoneSpec).bare Rows.fnUndoneRow=true:=by
 unfold joinedFacts
 repeat' with_reducible refine and2 ?_ ?_
 all_goals first|with_reducible exact a1|with_reducible exact a2|with_reducible exact a3|with_reducible exact a4|as_aux_lemma=>kernel_rfl
theorem said:Rows.FnUndoneSaid:=
 OpenClaim.holds_of_cond 6 Tryz.f6 rfl rfl rfl rfl rfl rfl rfl ⟨rfl, rfl, rfl, rfl, rfl⟩ rfl rfl rfl rfl rfl (by kernel_rfl) Tryz.func6 closed
  (of_decide_eq_true (by kernel_rfl)) (by unfold Func.isWrapper;first|(rw[if_pos (by decide +kernel)];kernel_rfl)|(rw[if_neg (by decide +kernel)];exact⟨rfl, rfl⟩))
  (fun os started H enc _ F=>by rw[OpenClaim.pre_eq_preRow];exact lifted os started H enc F)
theorem plain (f : FuncId) (fn : Func) (hf : Tryz.pinned.checked.prog.funcNamed "loop.example/g03223/laws.FnUndone" = some f) (hfn : Tryz.pinned.checked.prog.funcs[f]? = some fn) :
 true=Tryz.pinned.checked.prog.looks []∧∀(j:Nat) t, fn.params[j]?=some t→Tryz.pinned.checked.prog.wantsStandIn t=false:=by
 obtain rfl : f = 6 := Option.some.inj ((show Tryz.prog.funcNamed "loop.example/g03223/laws.FnUndone" = some 6 by kernel_rfl).symm.trans hf) |>.symm
 obtain rfl:fn=Tryz.f6:=(Option.some.inj ((Tryz.func6).symm.trans hfn)).symm
 refine⟨by kernel_rfl, fun j t ht=>?_⟩
 rw[Tryz.params6] at ht
 obtain rfl:t=37:=by simpa using Array.mem_of_getElem? ht
 exact (show Tryz.prog.wantsStandIn 37=false by kernel_rfl)
theorem proved:Rows.FnUndoneCardSaid:=
 Claim7.holds_tied_plain_at .later [] _ _ _ _ said (fun _ h=>by cases h) (by kernel_rfl) (fun _ h=>by cases h) fnUndone_row_tie rfl ⟨rfl, rfl⟩ (by kernel_rfl) rfl plain (by kernel_rfl)
#print axioms proved
end Go.Proofs.YtfmpjhjnpeheeaaGreatDoor.fnUndone
