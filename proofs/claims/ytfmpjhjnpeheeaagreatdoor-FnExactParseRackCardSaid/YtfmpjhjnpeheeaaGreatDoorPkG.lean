/-
  The order of a rack, its end.
  IsRack.
  feeds, copyRack.
  copyRack.
  A step of a module.
  stepRack.
  laws: eqCable, eqCableS, eqModuleS, eqRack at one value twice; heldCableS, heldModuleS, heldRack at what was marked.
  laws: markCableS, markModuleS, markRack, as parts of their callers.
  laws: heldRack at what was marked; markModuleS, markRack as parts of their callers.
  The text of a module, and how it is read: plain words.
  stepRack: the walk.
  isPlug, canRun.
  RunRack.
  NewRing, checked, NewDelay, NewHold.
  laws.at, laws.equal.
  TraceRack: the walk.
  Plain words: a line of delay, and what FnDelayed asks of the rack's rows.
  laws.FnDelayed: the walk.
  Draws: l01New, l01Byte, l01Below, l2Small, MakeWhole. Of what is drawn only its range is told.
  MakeWhole, laws.fresh.
  l1In, FromSteps, l1Any, l2Any, l4Samples, MakeSamples.
  spec: small functions of numbers and points; constructors of modules without slices.
  spec: plain words of what is drawn: finite numbers, levels, modules, what a step makes of them.
  Reading a module's text gives the module again.
  spec: tables.
  spec: PutPoint, GridTable, l2Table.
  spec: l2Nearest, NewSlicer, NewRing, NewDelay, NewHold, l4Copy, l4Take, l4Push, l5Slice, l5Copy.
  spec: l5Step, l5Module.
  spec: l1Number (whole numbers), FormatSingle (at the levels that are drawn), l4Zero, l5Uses, l5Unused, IsRing, IsModule.
  Sums and products of whole numbers; the order of a rack whose cables lead onwards.
  No condition.
-/
import Derived.Laws.Strings
import Derived.Test.YtfmpjhjnpeheeaaGreatDoorPkF
set_option maxRecDepth 100000
set_option maxHeartbeats 16000000
set_option linter.unusedVariables false
set_option linter.unusedSimpArgs false
namespace Go.SX
open Go Go.Proofs
def anyF (ms : List Mod) (out : List Int) (i : Int) (cs : List Cbl) : Bool := decide (0 ≤ idxF (blocks ms out i) cs 0)
noncomputable def zEj : Ct := fam false (fun x : AI => ([.c (.im (.sl 2 (rowsC x.1.2))),.c (.fn (.func 214) [.ptr 0 0 0 0,.ptr 1 0 0 0,.ptr 2 0 0 0])],hsO x.1.1.i x.1.1.ms x.1.1.cs x.1.1.out))
 (fun x => .one { val := .c (.im (.bool (anyF x.1.1.ms x.1.1.out x.1.1.i x.1.2))),places := hsO x.1.1.i x.1.1.ms x.1.1.cs x.1.1.out })
theorem zGs {i : Int} {ms : List Mod} {cs ds : List Cbl} {out : List Int} (h1 : ms.length ≤ sm) (h2 : cs.length ≤ sm) (h3 : out.length ≤ sm) (h4 : ds.length ≤ sm) (h5 : ∀ c ∈ ds,0 ≤ c.1 ∧ c.1 < ms.length) :
   zEj.run [.c (.im (.sl 2 (rowsC ds))),.c (.fn (.func 214) [.ptr 0 0 0 0,.ptr 1 0 0 0,.ptr 2 0 0 0])] [[.t (.im (.int .i64 i))],[.t (.im (.sl 11 (rowsM ms))),.t (.im (.sl 2 (rowsC cs)))],[.t (.own 1 (tI (rowsN out)))]] =
     some (.one { val := .c (.im (.bool (anyF ms out i ds))),places := hsO i ms cs out }) :=
 zAd zMp1 ⟨(⟨i,ms,cs,out,h1,h2,h3⟩,ds),h4,h5⟩
theorem zGt : Law Tryz.prog 213 zEj := by
 refine zAi (zAc zIu zAf) hmixA Tryz.func213 rfl rfl (fun ⟨⟨⟨i,ms,cs,out,h1,h2,h3⟩,l⟩,hl,h5⟩ => ⟨okO zFc1,by simp [Tryz.f213],?_⟩)
 simp only at hl h5
 simp only [hsO,anyF]
 have hm2 : MvB false (.t (.own 1 (tI (rowsN out)))) = True := eq_true (.t _ (.own _ _ (zCn _ 1)))
 try simp -dsimp (maxSteps := 1000000) only [go_sem,↓reduceIte,yab,Tryz.f213,zIo h1 h2 h3 hl h5,hm2,hsO]
def hsR (ms : List Mod) (cs : List Cbl) (out : List Int) : List (List B) := [[.t (.own 1 (tI (rowsN out)))],[.t (.im (.sl 11 (rowsM ms))),.t (.im (.sl 2 (rowsC cs)))]]
def readyF (ms : List Mod) (cs : List Cbl) (out : List Int) (i : Int) : Bool := !(hasF out i) && !(anyF ms out i cs)
abbrev AR := { x : AO // ∀ c ∈ x.cs,0 ≤ c.1 ∧ c.1 < x.ms.length }
noncomputable def zQw : Ct := fam false (fun x : AR => ([.c (.im (.int .i64 x.1.i)),.c (.ptr 0 0 0 0),.c (.ptr 1 0 0 0)],hsR x.1.ms x.1.cs x.1.out))
 (fun x => .one { val := .c (.im (.bool (readyF x.1.ms x.1.cs x.1.out x.1.i))),places := hsR x.1.ms x.1.cs x.1.out })
theorem zNr {i : Int} {ms : List Mod} {cs : List Cbl} {out : List Int} (h1 : ms.length ≤ sm) (h2 : cs.length ≤ sm) (h3 : out.length ≤ sm) (h5 : ∀ c ∈ cs,0 ≤ c.1 ∧ c.1 < ms.length) :
   zQw.run [.c (.im (.int .i64 i)),.c (.ptr 0 0 0 0),.c (.ptr 1 0 0 0)] [[.t (.own 1 (tI (rowsN out)))],[.t (.im (.sl 11 (rowsM ms))),.t (.im (.sl 2 (rowsC cs)))]] =
     some (.one { val := .c (.im (.bool (readyF ms cs out i))),places := hsR ms cs out }) := by
 refine zAd (args := fun x : AR => ([D.c (.im (.int .i64 x.1.i)),.c (.ptr 0 0 0 0),.c (.ptr 1 0 0 0)],hsR x.1.ms x.1.cs x.1.out)) ?_ ⟨⟨i,ms,cs,out,h1,h2,h3⟩,h5⟩
 rintro ⟨a,c⟩ ⟨a',c'⟩ h
 simp only [Prod.mk.injEq,List.cons.injEq,D.c.injEq,C.im.injEq,I.int.injEq,true_and,and_true] at h
 have : a = a' := zZc (by have h2 := h.2; simp only [hsR,List.cons.injEq,and_true] at h2; simp only [hsO]; rw [h.1,h2.1,h2.2.1,h2.2.2])
 exact Subtype.ext this
theorem zOs1 {ms : List Mod} {cs : List Cbl} {out : List Int} {b : Bool} : OkR false { val := .c (.im (.bool b)),places := hsR ms cs out } := by
 refine ⟨zQl rfl,by simp,fun c hc x hx => ?_⟩
 simp only [hsR,yae,yaf,or_false] at hc
 rcases hc with rfl | rfl
 · simp at hx; subst hx; exact .t _ (.own _ _ (zCn _ 1))
 · simp at hx; rcases hx with rfl | rfl <;> exact .t _ (.im _ (.inl rfl))
theorem zYo : Law Tryz.prog 212 zQw := by
 refine zCo (zAc zGt (zAc zGp zAf)) hmixA Tryz.func212 rfl rfl (fun ⟨⟨i,ms,cs,out,h1,h2,h3⟩,h5⟩ => ⟨okO zOs1,by simp [Tryz.f212],?_⟩)
 simp only at h5
 simp only [hsR]
 have hm2 : MvB false (.t (.own 1 (tI (rowsN out)))) = True := eq_true (.t _ (.own _ _ (zCn _ 1)))
 cases hq : hasF out i with
 | true =>
   try simp -dsimp (maxSteps := 1000000) only [go_sem,↓reduceIte,yab,Tryz.f212,zAt,zAb,zDs1,zCj,zEs,zEl h3,hq,readyF,yag]
   refine zAm [.fold 0 0 0] ?_
   simp -dsimp (maxSteps := 1000000) only [go_sem,↓reduceIte,yab,readyF,hq,yag,zAt,zAb]
 | false =>
   try simp -dsimp (maxSteps := 1000000) only [go_sem,↓reduceIte,yab,Tryz.f212,zAt,zAb,zDs1,zCj,zEs,zEl h3,hq,zGs h1 h2 h3 h2 h5,hm2,hsO,readyF,yah]
   refine zAm [] ?_
   simp -dsimp (maxSteps := 1000000) only [go_sem,↓reduceIte,yab,readyF,hq,yah,zAt,zAb]
def readyIdx (ms : List Mod) (cs : List Cbl) (out : List Int) : Nat → Nat → Nat
 | 0,i => i
 | f + 1,i => if readyF ms cs out i = true then i else readyIdx ms cs out f (i + 1)
def orderGo (ms : List Mod) (cs : List Cbl) : Nat → List Int → Option (List Int)
 | 0,out => some out
 | f + 1,out => if readyIdx ms cs out ms.length 0 = ms.length then none else orderGo ms cs f (out ++ [(readyIdx ms cs out ms.length 0 : Int)])
def orderF (ms : List Mod) (cs : List Cbl) : Option (List Int) := orderGo ms cs ms.length []
theorem zOc (ms : List Mod) (cs : List Cbl) (out : List Int) : ∀ f i,readyIdx ms cs out f i ≤ i + f
 | 0,i => Nat.le_refl _
 | f + 1,i => by
   simp only [readyIdx]
   split
   · omega
   · have := zOc ms cs out f (i + 1); omega
def oOrder : Option (List Int) → Outs
 | some l => .one { val := .tup [.c (.view 0 1 0 l.length),.c (.im (.bool true))],roots := [.arr 1 (tI (rowsN l))] }
 | none => .one { val := .tup [.c .nil,.c (.im (.bool false))] }
theorem zVl {sc : Bool} (o : Option (List Int)) : ∀ res,(oOrder o).mem res → OkR sc res := by
 cases o with
 | none => exact okO ⟨.tup _ (by intro d hd; simp at hd; rcases hd with rfl | rfl; exact .inl ⟨_,rfl,.nil⟩; exact .inl ⟨_,rfl,zFn rfl⟩),by simp,by simp⟩
 | some l => exact okO ⟨.tup _ (by intro d hd; simp at hd; rcases hd with rfl | rfl; exact .inl ⟨_,rfl,.view _ _ _ _ (by simp)⟩; exact .inl ⟨_,rfl,zFn rfl⟩),by intro r hr; simp at hr; subst hr; exact zLl (zMn _),by simp⟩
structure ARk where
 ms : List Mod
 cs : List Cbl
 ml : ms.length ≤ 16
 cl : cs.length ≤ sm
 ok : ∀ c ∈ cs,0 ≤ c.1 ∧ c.1 < ms.length
noncomputable def zKe : Ct := fam true (fun x : ARk => ([.agg [.im (.sl 11 (rowsM x.ms)),.im (.sl 2 (rowsC x.cs))]],[])) (fun x => oOrder (orderF x.ms x.cs))
theorem zJj {ms : List Mod} {cs : List Cbl} (h1 : ms.length ≤ 16) (h2 : cs.length ≤ sm) (h5 : ∀ c ∈ cs,0 ≤ c.1 ∧ c.1 < ms.length) : zKe.run [.agg [.im (.sl 11 (rowsM ms)),.im (.sl 2 (rowsC cs))]] [] = some (oOrder (orderF ms cs)) := by
 refine zAd (args := fun x : ARk => ([D.agg [.im (.sl 11 (rowsM x.ms)),.im (.sl 2 (rowsC x.cs))]],[])) ?_ ⟨ms,cs,h1,h2,h5⟩
 rintro ⟨a,b,_,_,_⟩ ⟨a',b',_,_,_⟩ h
 simp [zDo,zEd] at h ⊢
 exact h
theorem zZt : (zKe.sc = true) = True := by simp [zKe,fam]
theorem zDw1 (l : List Int) (i : Int) : tI (rowsN l) ++ [[T.im (.int .i64 i)]] = tI (rowsN (l ++ [i])) := by simp [tI,rowsN]
theorem zGh1 : Law Tryz.prog 152 zKe := by
 refine zCo (zAc zYo zAf) hmixA Tryz.func152 rfl rfl (fun ⟨ms,cs,h1,h2,h5⟩ => ⟨zVl _,by simp [Tryz.f152],?_⟩)
 have hsm : sm = 16777216 := rfl
 have h1' : ms.length ≤ sm := by omega
 simp only [orderF]
 try simp -dsimp (maxSteps := 1000000) only [go_sem,↓reduceIte,yab,Tryz.f152,zAr,zAu]
 refine zBa (ι := { x : List Int // x.length ≤ ms.length ∧ orderGo ms cs ms.length [] = orderGo ms cs (ms.length - x.length) x }) (fun x => ⟨[(1,some (.c (.ptr 0 0 0 0))),(4,some (.c (.ptr 2 0 0 0))),(5,some (.c (.fn (.func 212) [.ptr 2 0 0 0,.ptr 0 0 0 0])))],
   [(0,some (.box [.t (.im (.sl 11 (rowsM ms))),.t (.im (.sl 2 (rowsC cs)))])),(2,some (.box [.t (.own 1 (tI (rowsN x.1)))]))],3⟩) (fun x => ms.length - x.1.length) ⟨[],by simp⟩ ⟨[.fold 2 0 0],[],by (simp only [go_sem,↓reduceIte,yab,yai,tI,rowsN]) <;> simp [lk,zAy]⟩ (fun ⟨out,hk,hinv⟩ => ?_)
 have hm2 : MvB false (.t (.own 1 (tI (rowsN out)))) = True := eq_true (.t _ (.own _ _ (zCn _ 1)))
 have h3 : out.length ≤ sm := by omega
 by_cases hlt : out.length < ms.length
 rotate_left
 · have hI : ((out.length : Int) < (ms.length : Int)) = False := by simp; omega
   rw [show ms.length - out.length = 0 by omega] at hinv
   simp only [orderGo] at hinv
   try simp -dsimp (maxSteps := 1000000) only [go_sem,↓reduceIte,yab,Tryz.f152,hI,zAt,zAb,zAr,hinv,oOrder]
   refine zAm [] ?_
   simp -dsimp (maxSteps := 1000000) only [go_sem,↓reduceIte,yab,hinv,oOrder,zAt,zAb]
   refine ⟨[_],?_,?_,?_,rfl⟩ <;> simp [rtOk]
 have hI : ((out.length : Int) < (ms.length : Int)) = True := by simp; omega
 try simp -dsimp (maxSteps := 1000000) only [go_sem,↓reduceIte,yab,Tryz.f152,hI,zAt,zAb,zAr]
 refine zBa (ι := { i : Nat // i ≤ ms.length ∧ readyIdx ms cs out ms.length 0 = readyIdx ms cs out (ms.length - i) i }) (fun i => ⟨[(1,some (.c (.ptr 0 0 0 0))),(4,some (.c (.ptr 2 0 0 0))),(5,some (.c (.fn (.func 212) [.ptr 2 0 0 0,.ptr 0 0 0 0]))),(6,some (.c (.im (.int .i64 (i.1 : Int)))))],
   [(0,some (.box [.t (.im (.sl 11 (rowsM ms))),.t (.im (.sl 2 (rowsC cs)))])),(2,some (.box [.t (.own 1 (tI (rowsN out)))]))],3⟩) (fun i => ms.length - i.1) ⟨0,by simp⟩ ⟨[.fold 2 0 0],[],by ((simp only [go_sem,↓reduceIte,yab,yai,zAt,zAb,hm2]) <;> (try (simp -dsimp only [go_sem,↓reduceIte,yab,yai,zAt,zAb,hm2]))) <;> simp [lk,zAy,hm2]⟩ (fun ⟨i,hi,hri⟩ => ?_)
 rw [show ms.length - out.length = (ms.length - (out.length + 1)) + 1 by omega] at hinv
 simp only [orderGo] at hinv
 by_cases hil : i < ms.length
 · have hI2 : ((i : Int) < (ms.length : Int)) = True := by simp; omega
   have hI3 : ((i : Int) = (ms.length : Int)) = False := eq_false (by omega)
   have hwr := zEn h1' hil
   rw [show ms.length - i = (ms.length - (i + 1)) + 1 by omega] at hri
   simp only [readyIdx] at hri
   cases hr : readyF ms cs out (i : Int) with
   | false =>
     simp only [hr,yaj,yak] at hri
     clear hinv
     try simp -dsimp (maxSteps := 1000000) only [go_sem,↓reduceIte,yab,Tryz.f152,hI2,hwr,zNr h1' h2 h3 h5,hr,hsR,hm2,zAr]
     exact ⟨⟨i + 1,by omega,hri⟩,by simp only []; omega,[],[],by (simp only [go_sem,↓reduceIte,yab,yai,hm2]) <;> simp [lk,zAy,hm2]⟩
   | true =>
     simp only [hr,yal] at hri
     rw [hri,if_neg (by omega)] at hinv
     have hb : ((out ++ [(i : Int)]).length * 8 ≤ 140737488355328) = True := zLk1 (by simp; omega) (by decide)
     have hm3 : MvB false (.t (.own 1 (tI (rowsN (out ++ [(i : Int)]))))) = True := eq_true (.t _ (.own _ _ (zCn _ 1)))
     try simp -dsimp (maxSteps := 1000000) only [go_sem,↓reduceIte,yab,Tryz.f152,hI2,hI3,zNr h1' h2 h3 h5,hr,hsR,hm2,hb,zAr,zAt,zAb,appendH,srcRows,List.take_succ_cons,yan,yao,yap,okT,yaq,zDw1]
     exact ⟨⟨out ++ [(i : Int)],by simp; omega,by rw [List.length_append]; exact hinv⟩,by simp only [yar,yas,List.length_nil]; omega,[.fold 2 0 0],[],by (simp only [go_sem,↓reduceIte,yab,yai,hm3,zAt,zAb]) <;> simp [lk,zAy,hm3]⟩
 · have hI2 : ((i : Int) < (ms.length : Int)) = False := by simp; omega
   have hie : i = ms.length := by omega
   subst hie
   rw [Nat.sub_self] at hri
   simp only [readyIdx] at hri
   rw [if_pos hri] at hinv
   try simp -dsimp (maxSteps := 1000000) only [go_sem,↓reduceIte,yab,Tryz.f152,hI2,zAr,hinv,oOrder]
   refine zAm [] ?_
   simp -dsimp (maxSteps := 1000000) only [go_sem,↓reduceIte,yab,hinv,oOrder]
end Go.SX
namespace Go.SX
open Go Go.Proofs
def cabF (n : Nat) (c : Cbl) : Bool := decide (0 ≤ c.1) && (decide (c.1 < n) && (decide (0 ≤ c.2) && decide (c.2 < n)))
def isRackF (ms : List Mod) (cs : List Cbl) : Bool := decide (ms.length ≤ 16) && (decide (cs.length ≤ 40) && (ms.all isModuleF && (cs.all (cabF ms.length) && (orderF ms cs).isSome)))
theorem zNa {α : Type} {f : α → Bool} {l : List α} {k : Nat} {p : α} (h : l[k]? = some p) : (l.drop k).all f = (f p && (l.drop (k + 1)).all f) := by
 have hlt : k < l.length := (List.getElem?_eq_some_iff.1 h).1
 have hp : l[k] = p := by rw [List.getElem?_eq_getElem hlt] at h; injection h
 rw [List.drop_eq_getElem_cons hlt,hp,List.all_cons]
structure ARo where
 ms : List Mod
 cs : List Cbl
 ml : ms.length ≤ sm
 cl : cs.length ≤ sm
 ok : ∀ m ∈ ms,OkM m
noncomputable def zKh : Ct := fam true (fun x : ARo => ([.agg [.im (.sl 11 (rowsM x.ms)),.im (.sl 2 (rowsC x.cs))]],[])) (fun x => .one { val := .c (.im (.bool (isRackF x.ms x.cs))) })
theorem zCd1 {ms : List Mod} {cs : List Cbl} (h1 : ms.length ≤ sm) (h2 : cs.length ≤ sm) (h5 : ∀ m ∈ ms,OkM m) : zKh.run [.agg [.im (.sl 11 (rowsM ms)),.im (.sl 2 (rowsC cs))]] [] = some (.one { val := .c (.im (.bool (isRackF ms cs))) }) := by
 refine zAd (args := fun x : ARo => ([D.agg [.im (.sl 11 (rowsM x.ms)),.im (.sl 2 (rowsC x.cs))]],[])) ?_ ⟨ms,cs,h1,h2,h5⟩
 rintro ⟨a,b,_,_,_⟩ ⟨a',b',_,_,_⟩ h
 simp [zDo,zEd] at h ⊢
 exact h
theorem zUp : (zKh.sc = true) = True := by simp [zKh,fam]
theorem zIh1 (m : Mod) : (⟨m.kind,(m.turn.1,m.turn.2),(m.state.1,m.state.2),m.level,m.store,m.rat,m.rcnt,m.pts,m.lab,m.count,m.left⟩ : Mod) = m := rfl
theorem zCw1 : Law Tryz.prog 79 zKh := by
 refine zAi (zAc zHi (zAc zGh1 zAf)) hmixA Tryz.func79 rfl rfl (fun ⟨ms,cs,h1,h2,h5⟩ => ⟨zAv rfl,by simp [Tryz.f79],?_⟩)
 by_cases hm : ms.length ≤ 16
 rotate_left
 · have e1 : ((16 : Int) < (ms.length : Int)) = True := by simp; omega
   have hF : isRackF ms cs = false := by simp only [isRackF,decide_eq_false hm,yag]
   clear hm
   try simp -dsimp (maxSteps := 1000000) only [go_sem,↓reduceIte,yab,Tryz.f79,zAr,zAu,e1,hF]
 have e1 : ((16 : Int) < (ms.length : Int)) = False := by simp; omega
 by_cases hc : cs.length ≤ 40
 rotate_left
 · have e2 : ((40 : Int) < (cs.length : Int)) = True := by simp; omega
   have hF : isRackF ms cs = false := by simp only [isRackF,decide_eq_false hc,yag,yaT]
   clear hc
   try simp -dsimp (maxSteps := 1000000) only [go_sem,↓reduceIte,yab,Tryz.f79,zAr,zAu,e1,e2,hF]
 have e2 : ((40 : Int) < (cs.length : Int)) = False := by simp; omega
 have hF : isRackF ms cs = (ms.all isModuleF && (cs.all (cabF ms.length) && (orderF ms cs).isSome)) := by simp only [isRackF,decide_eq_true hm,decide_eq_true hc,yah]
 rw [hF]
 clear hF
 try simp -dsimp (maxSteps := 1000000) only [go_sem,↓reduceIte,yab,Tryz.f79,zAr,zAu,e1,e2]
 refine zBa (ι := { k : Nat // k ≤ ms.length ∧ ms.all isModuleF = (ms.drop k).all isModuleF }) (fun k => ⟨[(1,some (.c (.ptr 0 0 0 0))),(20,some (.c (.im (.sl 11 (rowsM ms))))),(21,some (.c (.im (.int .i64 (ms.length : Int))))),(22,some (.c (.im (.int .i64 (k.1 : Int)))))],
   [(0,some (.box [.t (.im (.sl 11 (rowsM ms))),.t (.im (.sl 2 (rowsC cs)))]))],1⟩) (fun k => ms.length - k.1) ⟨0,by simp⟩ ⟨[],[],by ((simp only [go_sem,↓reduceIte,yab,yai]) <;> (try (simp -dsimp only [go_sem,↓reduceIte,yab,yai]))) <;> simp [lk,zAy]⟩ (fun ⟨k,hk,hinv⟩ => ?_)
 by_cases hlt : k < ms.length
 · obtain ⟨m,hp⟩ : ∃ p,ms[k]? = some p := ⟨_,List.getElem?_eq_getElem hlt⟩
   have hrow := zFw hp
   have hI : ((k : Int) < (ms.length : Int)) = True := by simp; omega
   have h0 : (0 ≤ (k : Int)) = True := by simp
   have hidx := zNa (f := isModuleF) hp
   have hwr := zEn h1 hlt
   obtain ⟨q1,q2,q3⟩ := h5 m (List.mem_of_getElem? hp)
   rw [hidx] at hinv
   clear hidx
   cases hq : isModuleF m with
   | false =>
     simp only [hq,yag] at hinv
     try simp -dsimp (maxSteps := 1000000) only [go_sem,↓reduceIte,yab,Tryz.f79,hI,h0,Int.toNat_natCast,hrow,zBh q1 q2 q3,zIh1,hq,hinv,yag]
   | true =>
     simp only [hq,yah] at hinv
     try simp -dsimp (maxSteps := 1000000) only [go_sem,↓reduceIte,yab,Tryz.f79,hI,h0,Int.toNat_natCast,hrow,zBh q1 q2 q3,zIh1,hq,hwr]
     exact ⟨⟨k + 1,by omega,hinv⟩,by simp only []; omega,[],[],by (simp only [go_sem,↓reduceIte,yab,yai]) <;> simp [lk,zAy]⟩
 have hI : ((k : Int) < (ms.length : Int)) = False := by simp; omega
 have hkl : k = ms.length := by omega
 subst hkl
 rw [List.drop_length,List.all_nil] at hinv
 clear hlt
 try simp -dsimp (maxSteps := 1000000) only [go_sem,↓reduceIte,yab,Tryz.f79,hI,zAr,zAu]
 refine zBa (ι := { k : Nat // k ≤ cs.length ∧ cs.all (cabF ms.length) = (cs.drop k).all (cabF ms.length) }) (fun k => ⟨[(1,some (.c (.ptr 0 0 0 0))),(31,some (.c (.im (.sl 2 (rowsC cs))))),(32,some (.c (.im (.int .i64 (cs.length : Int))))),(33,some (.c (.im (.int .i64 (k.1 : Int)))))],
   [(0,some (.box [.t (.im (.sl 11 (rowsM ms))),.t (.im (.sl 2 (rowsC cs)))]))],1⟩) (fun k => cs.length - k.1) ⟨0,by simp⟩ ⟨[],[],by ((simp only [go_sem,↓reduceIte,yab,yai]) <;> (try (simp -dsimp only [go_sem,↓reduceIte,yab,yai]))) <;> simp [lk,zAy]⟩ (fun ⟨k,hk,hinv2⟩ => ?_)
 by_cases hlt : k < cs.length
 · obtain ⟨⟨a,b⟩,hp⟩ : ∃ p,cs[k]? = some p := ⟨_,List.getElem?_eq_getElem hlt⟩
   have hrow := zFd hp
   have hI : ((k : Int) < (cs.length : Int)) = True := by simp; omega
   have h0 : (0 ≤ (k : Int)) = True := by simp
   have hidx := zNa (f := cabF ms.length) hp
   have hwr := zEn h2 hlt
   rw [hidx] at hinv2
   clear hidx
   by_cases hq : 0 ≤ a ∧ a < ms.length ∧ 0 ≤ b ∧ b < ms.length
   · obtain ⟨k1,k2,k3,k4⟩ := hq
     have g1 : (a < 0) = False := eq_false (by omega)
     have g2 : ((ms.length : Int) ≤ a) = False := eq_false (by omega)
     have g3 : (b < 0) = False := eq_false (by omega)
     have g4 : ((ms.length : Int) ≤ b) = False := eq_false (by omega)
     have hcab : cabF ms.length (a,b) = true := by simp [cabF,k1,k2,k3,k4]
     rw [hcab,Bool.true_and] at hinv2
     clear k1 k2 k3 k4 hcab
     try simp -dsimp (maxSteps := 1000000) only [go_sem,↓reduceIte,yab,Tryz.f79,hI,h0,Int.toNat_natCast,hrow,zAr,g1,g2,g3,g4,hwr]
     exact ⟨⟨k + 1,by omega,hinv2⟩,by simp only []; omega,[],[],by (simp only [go_sem,↓reduceIte,yab,yai]) <;> simp [lk,zAy]⟩
   · have hcab : cabF ms.length (a,b) = false := by
       cases hcb : cabF ms.length (a,b) with
       | false => rfl
       | true => simp [cabF] at hcb; exact absurd hcb hq
     rw [hcab,Bool.false_and] at hinv2
     clear hcab
     by_cases p1 : a < 0
     · have e1 := eq_true p1
       clear p1
       try simp -dsimp (maxSteps := 1000000) only [go_sem,↓reduceIte,yab,Tryz.f79,hI,h0,Int.toNat_natCast,hrow,zAr,hinv,hinv2,yah,yag,e1]
     have e1 := eq_false p1
     by_cases p2 : (ms.length : Int) ≤ a
     · have e2 := eq_true p2
       clear p2
       try simp -dsimp (maxSteps := 1000000) only [go_sem,↓reduceIte,yab,Tryz.f79,hI,h0,Int.toNat_natCast,hrow,zAr,hinv,hinv2,yah,yag,e1,e2]
     have e2 := eq_false p2
     by_cases p3 : b < 0
     · have e3 := eq_true p3
       clear p3
       try simp -dsimp (maxSteps := 1000000) only [go_sem,↓reduceIte,yab,Tryz.f79,hI,h0,Int.toNat_natCast,hrow,zAr,hinv,hinv2,yah,yag,e1,e2,e3]
     have e3 := eq_false p3
     by_cases p4 : (ms.length : Int) ≤ b
     · have e4 := eq_true p4
       clear p4
       try simp -dsimp (maxSteps := 1000000) only [go_sem,↓reduceIte,yab,Tryz.f79,hI,h0,Int.toNat_natCast,hrow,zAr,hinv,hinv2,yah,yag,e1,e2,e3,e4]
     have e4 := eq_false p4
     exfalso; apply hq; omega
 have hI2 : ((k : Int) < (cs.length : Int)) = False := by simp; omega
 have hkl : k = cs.length := by omega
 subst hkl
 rw [List.drop_length,List.all_nil] at hinv2
 have h6 : ∀ c ∈ cs,0 ≤ c.1 ∧ c.1 < ms.length := by
   intro c hc2
   have := List.all_eq_true.1 hinv2 c hc2
   simp [cabF] at this
   exact ⟨this.1,this.2.1⟩
 cases ho : orderF ms cs with
 | none =>
   try simp -dsimp (maxSteps := 1000000) only [go_sem,↓reduceIte,yab,Tryz.f79,hI2,zZt,zJj hm h2 h6,ho,oOrder,hinv,hinv2,yah,Option.isSome_none]
 | some l =>
   try simp -dsimp (maxSteps := 1000000) only [go_sem,↓reduceIte,yab,Tryz.f79,hI2,zZt,zJj hm h2 h6,ho,oOrder,hinv,hinv2,yah]
end Go.SX
namespace Go.SX
open Go Go.Proofs
theorem zUf {α : Type} {l : List α} {k : Nat} {p : α} (h : l[k]? = some p) : l.take (k + 1) = l.take k ++ [p] := by
 have hlt : k < l.length := (List.getElem?_eq_some_iff.1 h).1
 have hp : l[k] = p := by rw [List.getElem?_eq_getElem hlt] at h; injection h
 rw [List.take_succ_eq_append_getElem hlt,hp]
end Go.SX
namespace Go.SX
open Go Go.Proofs
def tM (ms : List Mod) : List (List T) := ms.map modT
theorem zQb (ms : List Mod) : (tM ms).length = ms.length := by simp [tM]
theorem zKj1 (ms : List Mod) {sz : Nat} : lentR (.arr sz (tM ms)) = [] := by
 simp only [lentR,tM,List.flatMap_eq_nil_iff,List.mem_map]
 rintro r ⟨m,_,rfl⟩ t ht
 simp only [modT,yae,yaf,or_false] at ht
 rcases ht with rfl | rfl | rfl | rfl | rfl | rfl | rfl | rfl | rfl | rfl | rfl <;> rfl
attribute [go_sem] zKj1
theorem zFn1 {sc : Bool} {sz : Nat} {rows : List (List I)} (h : ∀ r ∈ rows,∀ i ∈ r,scI i = true) : Mv sc (.own sz (tI rows)) := .own _ _ (zLl (sz := sz) h)
theorem zOw1 {sc : Bool} (m : Mod) : ∀ t ∈ modT m,Mv sc t := by
 intro t ht
 simp only [modT,yae,yaf,or_false] at ht
 rcases ht with rfl | rfl | rfl | rfl | rfl | rfl | rfl | rfl | rfl | rfl | rfl <;> first | exact .im _ (.inr rfl) | exact zFn1 (zRm _) | exact zFn1 (zMn _)
theorem zFo1 {sc : Bool} {sz : Nat} (ms : List Mod) : MvR sc (.arr sz (tM ms)) := by
 intro r hr t ht
 simp only [tM,List.mem_map] at hr
 obtain ⟨m,_,rfl⟩ := hr
 exact zOw1 m t ht
theorem zSj1 {α : Type} {l : List α} {k : Nat} (h : l.length = k) (a : α) : (l ++ [a])[k]? = some a := by subst h; simp
theorem zQg1 {α : Type} {l : List α} {k : Nat} (h : l.length = k) (a b : α) : (l ++ [a]).set k b = l ++ [b] := by subst h; simp
theorem zQh1 {α : Type} {l : List α} {k : Nat} (h : l.length = k) (a : α) : (l ++ [a]).length = k + 1 := by subst h; simp
end Go.SX
namespace Go.SX
open Go Go.Proofs
abbrev Or := (Nat × Nat) × (Nat × Nat)
structure OkS (m : Mod) : Prop where
 ok : OkM m
 ring : m.kind = 4 → 0 ≤ m.rat ∧ m.rat < m.store.length
 hold : m.kind = 8 → 1 ≤ m.count ∧ m.count ≤ 100 ∧ 0 ≤ m.left ∧ m.left < m.count
end Go.SX
namespace Go.SX
open Go Go.Proofs
theorem zSk1 {ms : List Mod} {k : Nat} {m : Mod} (h : ms[k]? = some m) : (tM ms)[k]? = some (modT m) := by simp [tM,h]
theorem zQp1 (ms : List Mod) (k : Nat) (m : Mod) : (tM ms).set k (modT m) = tM (ms.set k m) := by simp [tM,List.map_set]
theorem zZp (ex : List Nat) (H : Nat → Option Root) (ms : List Mod) (k : Nat) : mapO (mapO (toI ex H (k + 1))) (tM ms) = some (rowsM ms) := by
 induction ms with
 | nil => rfl
 | cons m ms ih =>
   have e : tM (m :: ms) = modT m :: tM ms := rfl
   have e2 : rowsM (m :: ms) = modI m :: rowsM ms := rfl
   rw [e,e2]
   simp only [mapO,ih]
   simp only [modT,modI,mapO,toI,zCj]
structure ASt where
 ms : List Mod
 cs : List Cbl
 inn : Int
 z : Pt
 ml : ms.length ≤ 16
 cl : cs.length ≤ sm
 ok : ∀ m ∈ ms,OkS m
 cr : ∀ c ∈ cs,0 ≤ c.1 ∧ c.1 < ms.length
end Go.SX
namespace Go.SX
open Go Go.Proofs Ieee
noncomputable def zRc : Ct := fam true (fun c : Int × Int => ([.agg [.im (.int .i64 c.1),.im (.int .i64 c.2)],.agg [.im (.int .i64 c.1),.im (.int .i64 c.2)]],[])) (fun _ => .one { val := .c (.im (.bool true)) })
theorem zYa (a b : Int) : zRc.run [.agg [.im (.int .i64 a),.im (.int .i64 b)],.agg [.im (.int .i64 a),.im (.int .i64 b)]] [] = some (.one { val := .c (.im (.bool true)) }) := by
 refine zAd (args := fun c : Int × Int => ([D.agg [.im (.int .i64 c.1),.im (.int .i64 c.2)],.agg [.im (.int .i64 c.1),.im (.int .i64 c.2)]],[])) ?_ (a,b)
 rintro ⟨a,b⟩ ⟨c,d⟩ h
 simp only [Prod.mk.injEq,List.cons.injEq,D.agg.injEq,C.im.injEq,I.int.injEq,true_and,and_true,and_self] at h
 exact Prod.ext h.1 h.2
theorem zYw : Law Tryz.prog 153 zRc := by
 refine zAi zAf hmixA Tryz.func153 rfl rfl (fun ⟨a,b⟩ => ⟨zAv rfl,by simp [Tryz.f153],?_⟩)
 try simp -dsimp (maxSteps := 1000000) only [go_sem,↓reduceIte,yab,Tryz.f153,ne_eq,eq_self,ybc,yaU]
abbrev CsA := { l : List Cbl // l.length ≤ sm }
noncomputable def zPi : Ct := fam true (fun l : CsA => ([.c (.im (.sl 2 (rowsC l.1))),.c (.im (.sl 2 (rowsC l.1)))],[])) (fun _ => .one { val := .c (.im (.bool true)) })
theorem zUz {l : List Cbl} (h : l.length ≤ sm) : zPi.run [.c (.im (.sl 2 (rowsC l))),.c (.im (.sl 2 (rowsC l)))] [] = some (.one { val := .c (.im (.bool true)) }) := by
 refine zAd (args := fun l : CsA => ([D.c (.im (.sl 2 (rowsC l.1))),.c (.im (.sl 2 (rowsC l.1)))],[])) ?_ ⟨l,h⟩
 rintro ⟨a,_⟩ ⟨b,_⟩ h
 simp [zEd] at h ⊢
 exact h
theorem zWe : Law Tryz.prog 81 zPi := by
 refine zAi (zAc zYw zAf) hmixA Tryz.func81 rfl rfl (fun ⟨a,ha⟩ => ⟨zAv rfl,by simp [Tryz.f81],?_⟩)
 simp only at ha ⊢
 try simp -dsimp (maxSteps := 1000000) only [go_sem,↓reduceIte,yab,Tryz.f81,zAu,yaS,eq_self,ne_eq,ybc,yaU]
 refine zBa (ι := { k : Nat // k ≤ a.length }) (fun k => ⟨[(0,some (.c (.im (.sl 2 (rowsC a))))),(1,some (.c (.im (.sl 2 (rowsC a))))),(5,some (.c (.im (.int .i64 (k.1 : Int)))))],
   [],0⟩) (fun k => a.length - k.1) ⟨0,by simp⟩ ⟨[],[],by ((simp only [go_sem,↓reduceIte,yab,yai]) <;> (try (simp -dsimp only [go_sem,↓reduceIte,yab,yai]))) <;> simp⟩ (fun ⟨k,hk⟩ => ?_)
 simp only
 by_cases hlt : k < a.length
 · obtain ⟨⟨x,y⟩,hp⟩ : ∃ p,a[k]? = some p := ⟨_,List.getElem?_eq_getElem hlt⟩
   have hrow := zFd hp
   have hI : ((k : Int) < (a.length : Int)) = True := eq_true (by omega)
   have h0 : (0 ≤ (k : Int)) = True := eq_true (by omega)
   have hwr := zEn ha hlt
   try simp -dsimp (maxSteps := 1000000) only [go_sem,↓reduceIte,yab,Tryz.f81,hI,h0,Int.toNat_natCast,hrow,zYa,hwr,zAu]
   repeat' (first
     | ((with_reducible refine sl_i ?_ ?_); focus kernel_rfl)
     | ((with_reducible refine ro_i ?_ ?_); focus kernel_rfl))
   exact ⟨⟨k + 1,by omega⟩,by simp only []; omega,[],[],by (simp only [go_sem,↓reduceIte,yab,yai]) <;> simp⟩
 · have hI : ((k : Int) < (a.length : Int)) = False := eq_false (by omega)
   try simp -dsimp (maxSteps := 1000000) only [go_sem,↓reduceIte,yab,Tryz.f81,hI,zAu]
abbrev MsA := { l : List Mod // l.length ≤ sm ∧ ∀ m ∈ l,OkM m }
noncomputable def zMa : Ct := fam true (fun l : MsA => ([.c (.im (.sl 11 (rowsM l.1))),.c (.im (.sl 11 (rowsM l.1)))],[])) (fun _ => .one { val := .c (.im (.bool true)) })
theorem zRq {l : List Mod} (h : l.length ≤ sm) (h2 : ∀ m ∈ l,OkM m) : zMa.run [.c (.im (.sl 11 (rowsM l))),.c (.im (.sl 11 (rowsM l)))] [] = some (.one { val := .c (.im (.bool true)) }) := by
 refine zAd (args := fun l : MsA => ([D.c (.im (.sl 11 (rowsM l.1))),.c (.im (.sl 11 (rowsM l.1)))],[])) ?_ ⟨l,h,h2⟩
 rintro ⟨a,_⟩ ⟨b,_⟩ h
 simp [zDo] at h ⊢
 exact h
theorem zSo : Law Tryz.prog 80 zMa := by
 refine zAi (zAc zWd zAf) hmixA Tryz.func80 rfl rfl (fun ⟨a,ha,hok⟩ => ⟨zAv rfl,by simp [Tryz.f80],?_⟩)
 simp only at ha ⊢
 try simp -dsimp (maxSteps := 1000000) only [go_sem,↓reduceIte,yab,Tryz.f80,zAr,yaS,eq_self,ne_eq,ybc,yaU]
 refine zBa (ι := { k : Nat // k ≤ a.length }) (fun k => ⟨[(0,some (.c (.im (.sl 11 (rowsM a))))),(1,some (.c (.im (.sl 11 (rowsM a))))),(5,some (.c (.im (.int .i64 (k.1 : Int)))))],
   [],0⟩) (fun k => a.length - k.1) ⟨0,by simp⟩ ⟨[],[],by ((simp only [go_sem,↓reduceIte,yab,yai]) <;> (try (simp -dsimp only [go_sem,↓reduceIte,yab,yai]))) <;> simp⟩ (fun ⟨k,hk⟩ => ?_)
 simp only
 by_cases hlt : k < a.length
 · obtain ⟨m,hp⟩ : ∃ p,a[k]? = some p := ⟨_,List.getElem?_eq_getElem hlt⟩
   have hrow := zFw hp
   obtain ⟨q1,q2,q3⟩ := hok m (List.mem_of_getElem? hp)
   have req := zUy (k := m.kind) (t1 := m.turn.1) (t2 := m.turn.2) (s1 := m.state.1) (s2 := m.state.2) (lv := m.level) (ra := m.rat) (rc := m.rcnt) (c := m.count) (l := m.left) q1 q2 q3
   have hI : ((k : Int) < (a.length : Int)) = True := eq_true (by omega)
   have h0 : (0 ≤ (k : Int)) = True := eq_true (by omega)
   have hwr := zEn ha hlt
   try simp -dsimp (maxSteps := 1000000) only [go_sem,↓reduceIte,yab,Tryz.f80,hI,h0,Int.toNat_natCast,hrow,req,hwr,zAr]
   repeat' (first
     | ((with_reducible refine sl_i ?_ ?_); focus kernel_rfl)
     | ((with_reducible refine ro_i ?_ ?_); focus kernel_rfl))
   exact ⟨⟨k + 1,by omega⟩,by simp only []; omega,[],[],by (simp only [go_sem,↓reduceIte,yab,yai]) <;> simp⟩
 · have hI : ((k : Int) < (a.length : Int)) = False := eq_false (by omega)
   try simp -dsimp (maxSteps := 1000000) only [go_sem,↓reduceIte,yab,Tryz.f80,hI,zAr]
noncomputable def zKg : Ct := fam true (fun x : ARo => ([.agg [.im (.sl 11 (rowsM x.ms)),.im (.sl 2 (rowsC x.cs))],.agg [.im (.sl 11 (rowsM x.ms)),.im (.sl 2 (rowsC x.cs))]],[])) (fun x => .one { val := .c (.im (.bool true)) })
theorem zCb1 {ms : List Mod} {cs : List Cbl} (h1 : ms.length ≤ sm) (h2 : cs.length ≤ sm) (h5 : ∀ m ∈ ms,OkM m) : zKg.run [.agg [.im (.sl 11 (rowsM ms)),.im (.sl 2 (rowsC cs))],.agg [.im (.sl 11 (rowsM ms)),.im (.sl 2 (rowsC cs))]] [] = some (.one { val := .c (.im (.bool true)) }) := by
 refine zAd (args := fun x : ARo => ([D.agg [.im (.sl 11 (rowsM x.ms)),.im (.sl 2 (rowsC x.cs))],.agg [.im (.sl 11 (rowsM x.ms)),.im (.sl 2 (rowsC x.cs))]],[])) ?_ ⟨ms,cs,h1,h2,h5⟩
 rintro ⟨a,b,_,_,_⟩ ⟨a',b',_,_,_⟩ h
 simp [zDo,zEd] at h ⊢
 exact h
theorem zUo : (zKg.sc = true) = True := by simp [zKg,fam]
theorem zCt1 : Law Tryz.prog 27 zKg := by
 refine zAi (zAc zSo (zAc zWe zAf)) hmixA Tryz.func27 rfl rfl (fun ⟨ms,cs,h1,h2,h5⟩ => ⟨zAv rfl,by simp [Tryz.f27],?_⟩)
 try simp -dsimp (maxSteps := 1000000) only [go_sem,↓reduceIte,yab,Tryz.f27,zRq h1 h5,zUz h2]
def szM (m : Mod) : Nat := 8 + m.store.length + m.pts.length + m.lab.length
def mkMod (k : Nat) (m : Mod) : Mod :=
 ⟨(k : Int),(wI ((k + 1 : Nat) : Int),1065353216),(wI ((k + 2 : Nat) : Int),1065353216),wI ((k + 3 : Nat) : Int),mkZ (k + 4) m.store.length,((k + 4 + m.store.length : Nat) : Int),((k + 5 + m.store.length : Nat) : Int),
   mkZ (k + 6 + m.store.length) m.pts.length,mkN (k + 6 + m.store.length + m.pts.length) m.lab.length,((k + 6 + m.store.length + m.pts.length + m.lab.length : Nat) : Int),((k + 7 + m.store.length + m.pts.length + m.lab.length : Nat) : Int)⟩
def mkT (k : Nat) : List Mod → Nat
 | [] => k
 | m :: ms => mkT (k + szM m) ms
def mkMs (k : Nat) : List Mod → List Mod
 | [] => []
 | m :: ms => mkMod k m :: mkMs (k + szM m) ms
theorem zGc : ∀ (ms : List Mod) (k : Nat),(mkMs k ms).length = ms.length
 | [],k => rfl
 | m :: ms,k => by simp [mkMs,zGc ms]
theorem zMe1 : ∀ (ms : List Mod) (k : Nat),k ≤ mkT k ms
 | [],k => Nat.le_refl _
 | m :: ms,k => by have := zMe1 ms (k + szM m); simp only [mkT]; omega
theorem zYm : ∀ (ms : List Mod) (k j : Nat) (m : Mod),ms[j]? = some m → (mkMs k ms)[j]? = some (mkMod (mkT k (ms.take j)) m) ∧ mkT k (ms.take (j + 1)) = mkT k (ms.take j) + szM m ∧ mkT k (ms.take (j + 1)) ≤ mkT k ms
 | [],k,j,m,h => by simp at h
 | x :: ms,k,0,m,h => by
   simp only [List.getElem?_cons_zero,yay] at h
   subst h
   refine ⟨rfl,rfl,?_⟩
   simp only [List.take_succ_cons,yan,mkT]
   exact zMe1 ms _
 | x :: ms,k,j + 1,m,h => by
   simp only [List.getElem?_cons_succ] at h
   obtain ⟨h1,h2,h3⟩ := zYm ms (k + szM x) j m h
   refine ⟨?_,?_,?_⟩
   · simpa [mkMs,mkT] using h1
   · simpa [mkT] using h2
   · simpa [mkT] using h3
def mkCs (k : Nat) (n : Nat) : List Cbl := (List.range n).map fun i => (((k + 2 * i : Nat) : Int),((k + 2 * i + 1 : Nat) : Int))
theorem zEm (k n : Nat) : (mkCs k n).length = n := by simp [mkCs]
theorem zOy1 {k n i : Nat} (h : i < n) : (mkCs k n)[i]? = some (((k + 2 * i : Nat) : Int),((k + 2 * i + 1 : Nat) : Int)) := by simp [mkCs,h]
theorem zFr1 (k n : Nat) : mkCs k (n + 1) = mkCs k n ++ [(((k + 2 * n : Nat) : Int),((k + 2 * n + 1 : Nat) : Int))] := by simp [mkCs,List.range_succ]
abbrev KC := { p : Nat × Nat // p.1 + 2 * p.2 ≤ 4096 }
noncomputable def zXe : Ct := fam true (fun p : KC => ([.c (.im (.sl 2 (rowsC (mkCs p.1.1 p.1.2)))),.c (.im (.int .i64 (p.1.1 : Int)))],[])) (fun p => .one { val := .c (.im (.int .i64 ((p.1.1 + 2 * p.1.2 : Nat) : Int))) })
theorem zBz1 {k n : Nat} (h : k + 2 * n ≤ 4096) : zXe.run [.c (.im (.sl 2 (rowsC (mkCs k n)))),.c (.im (.int .i64 (k : Int)))] [] = some (.one { val := .c (.im (.int .i64 ((k + 2 * n : Nat) : Int))) }) := by
 refine zAd (args := fun p : KC => ([D.c (.im (.sl 2 (rowsC (mkCs p.1.1 p.1.2)))),.c (.im (.int .i64 (p.1.1 : Int)))],[])) ?_ ⟨(k,n),h⟩
 rintro ⟨⟨a,b⟩,_⟩ ⟨⟨a',b'⟩,_⟩ h
 simp only [Prod.mk.injEq,List.cons.injEq,D.c.injEq,C.im.injEq,I.sl.injEq,I.int.injEq,true_and,and_true,Int.natCast_inj] at h
 obtain ⟨h1,rfl⟩ := h
 have := congrArg List.length h1
 simp only [zAu,zEm] at this
 subst this; rfl
theorem zCr1 : Law Tryz.prog 85 zXe := by
 refine zAi zAf hmixA Tryz.func85 rfl rfl (fun ⟨⟨k0,n⟩,hk⟩ => ⟨zAv rfl,by simp [Tryz.f85],?_⟩)
 simp only at hk ⊢
 have hl : (mkCs k0 n).length = n := zEm _ _
 have hat : ∀ i,i < n → (mkCs k0 n)[i]? = some (((k0 + 2 * i : Nat) : Int),((k0 + 2 * i + 1 : Nat) : Int)) := fun i hi => zOy1 hi
 generalize mkCs k0 n = L at *
 try simp -dsimp (maxSteps := 1000000) only [go_sem,↓reduceIte,yab,Tryz.f85,zAu,hl]
 refine zBa (ι := { k : Nat // k ≤ n }) (fun k => ⟨[(0,some (.c (.im (.sl 2 (rowsC L))))),(1,some (.c (.im (.int .i64 ((k0 + 2 * k.1 : Nat) : Int))))),(5,some (.c (.im (.int .i64 (k.1 : Int)))))],
   [],0⟩) (fun k => n - k.1) ⟨0,by simp⟩ ⟨[],[],by ((simp only [go_sem,↓reduceIte,yab,yai]) <;> (try (simp -dsimp only [go_sem,↓reduceIte,yab,yai]))) <;> simp⟩ (fun ⟨k,hkn⟩ => ?_)
 simp only
 by_cases hlt : k < n
 · have hrow := zFd (hat k hlt)
   simp only at hrow
   have hI : ((k : Int) < (n : Int)) = True := eq_true (by omega)
   have h0 : (0 ≤ (k : Int)) = True := eq_true (by omega)
   have hwr : IntKind.i64.wrap ((k : Int) + 1) = ((k + 1 : Nat) : Int) := by rw [zAg] <;> omega
   have hwk : IntKind.i64.wrap (((k0 + 2 * k : Nat) : Int) + 1) = ((k0 + 2 * k + 1 : Nat) : Int) := by rw [zAg] <;> omega
   have hwk2 : IntKind.i64.wrap (((k0 + 2 * k + 1 : Nat) : Int) + 1) = ((k0 + 2 * (k + 1) : Nat) : Int) := by rw [zAg] <;> omega
   try simp -dsimp (maxSteps := 1000000) only [go_sem,↓reduceIte,yab,Tryz.f85,hI,h0,Int.toNat_natCast,hrow,hwr,hwk,hwk2,zAu,hl,ne_eq,eq_self,ybc,yaU]
   exact ⟨⟨k + 1,by omega⟩,by simp only []; omega,[],[],by (simp only [go_sem,↓reduceIte,yab,yai]) <;> simp⟩
 · have hI : ((k : Int) < (n : Int)) = False := eq_false (by omega)
   have hkn' : k = n := by omega
   subst hkn'
   try simp -dsimp (maxSteps := 1000000) only [go_sem,↓reduceIte,yab,Tryz.f85,hI,zAu,hl]
theorem zEa {j : Nat} (h : j < 4096) : IntKind.i64.wrap ((j : Int) + 1) = ((j + 1 : Nat) : Int) := by rw [zAg] <;> omega
theorem chain (K : Nat) (m : Mod) (h : K + szM m ≤ 4096) : ∃ A1 A2 A3 A4 A5 A6 A7 A8 A9 A10 W1 W2 W3 : Nat,
   mkMod K m = ⟨(K : Int),(W1,1065353216),(W2,1065353216),W3,mkZ A4 m.store.length,(A5 : Int),(A6 : Int),mkZ A7 m.pts.length,mkN A8 m.lab.length,(A9 : Int),(A10 : Int)⟩ ∧
   A4 + m.store.length = A5 ∧ A7 + m.pts.length = A8 ∧ A8 + m.lab.length = A9 ∧ A9 < 4096 ∧ A8 < 4096 ∧ A5 < 4096 ∧
   IntKind.i64.wrap ((K : Int) + 1) = (A1 : Int) ∧ IntKind.i64.wrap ((A1 : Int) + 1) = (A2 : Int) ∧ IntKind.i64.wrap ((A2 : Int) + 1) = (A3 : Int) ∧ IntKind.i64.wrap ((A3 : Int) + 1) = (A4 : Int) ∧
   IntKind.i64.wrap ((A5 : Int) + 1) = (A6 : Int) ∧ IntKind.i64.wrap ((A6 : Int) + 1) = (A7 : Int) ∧ IntKind.i64.wrap ((A9 : Int) + 1) = (A10 : Int) ∧ IntKind.i64.wrap ((A10 : Int) + 1) = ((K + szM m : Nat) : Int) ∧
   fconv .f64 (FloatKind.f64.nearest (A1 : Int)) .f32 = some W1 ∧ fconv .f64 (FloatKind.f64.nearest (A2 : Int)) .f32 = some W2 ∧ FloatKind.f32.nearest (A3 : Int) = W3 ∧
   fcmp .eql .f32 W1 W1 = true ∧ fcmp .eql .f32 W2 W2 = true ∧ fcmp .neq .f32 W3 W3 = false := by
 have hs := h
 simp only [szM] at hs
 refine ⟨K + 1,K + 2,K + 3,K + 4,K + 4 + m.store.length,K + 5 + m.store.length,K + 6 + m.store.length,K + 6 + m.store.length + m.pts.length,K + 6 + m.store.length + m.pts.length + m.lab.length,K + 7 + m.store.length + m.pts.length + m.lab.length,
   wI ((K + 1 : Nat) : Int),wI ((K + 2 : Nat) : Int),wI ((K + 3 : Nat) : Int),rfl,rfl,rfl,rfl,by omega,by omega,by omega,zEa (by omega),zEa (by omega),zEa (by omega),zEa (by omega),?_,?_,?_,?_,zBa1 (by omega),zBa1 (by omega),rfl,zTg (by omega),zTg (by omega),?_⟩
 · rw [zEa (by omega)]; congr 1; omega
 · rw [zEa (by omega)]; congr 1; omega
 · rw [zEa (by omega)]; congr 1; omega
 · rw [zEa (by omega)]; congr 1; simp only [szM]; omega
 · have e : fcmp .neq .f32 (wI ((K + 3 : Nat) : Int)) (wI ((K + 3 : Nat) : Int)) = !(fcmp .eql .f32 (wI ((K + 3 : Nat) : Int)) (wI ((K + 3 : Nat) : Int))) := rfl
   rw [e,zTg (by omega)]; rfl
abbrev KMs := { p : Nat × List Mod // p.2.length ≤ 16 ∧ mkT p.1 p.2 ≤ 4096 }
noncomputable def zXd : Ct := fam true (fun p : KMs => ([.c (.im (.sl 11 (rowsM (mkMs p.1.1 p.1.2)))),.c (.im (.int .i64 (p.1.1 : Int)))],[])) (fun p => .one { val := .c (.im (.int .i64 ((mkT p.1.1 p.1.2 : Nat) : Int))) })
theorem zFq1 : ∀ (a b : List Mod) (k : Nat),mkMs k a = mkMs k b → mkT k a = mkT k b
 | [],[],k,h => rfl
 | [],_ :: _,k,h => by simp [mkMs] at h
 | _ :: _,[],k,h => by simp [mkMs] at h
 | x :: a,y :: b,k,h => by
   simp only [mkMs,List.cons.injEq] at h
   obtain ⟨h1,h2⟩ := h
   have e1 := congrArg (fun m => m.store.length) h1
   have e2 := congrArg (fun m => m.pts.length) h1
   have e3 := congrArg (fun m => m.lab.length) h1
   simp only [mkMod,zFh,zFi] at e1 e2 e3
   have e : szM x = szM y := by simp only [szM,e1,e2,e3]
   rw [e] at h2
   simp only [mkT,e]
   exact zFq1 a b _ h2
theorem zBy1 {k : Nat} {ms : List Mod} (h1 : ms.length ≤ 16) (h : mkT k ms ≤ 4096) : zXd.run [.c (.im (.sl 11 (rowsM (mkMs k ms)))),.c (.im (.int .i64 (k : Int)))] [] = some (.one { val := .c (.im (.int .i64 ((mkT k ms : Nat) : Int))) }) := by
 refine zFj (args := fun p : KMs => ([D.c (.im (.sl 11 (rowsM (mkMs p.1.1 p.1.2)))),.c (.im (.int .i64 (p.1.1 : Int)))],[])) (out := fun p : KMs => .one { val := .c (.im (.int .i64 ((mkT p.1.1 p.1.2 : Nat) : Int))) }) ?_ ⟨(k,ms),h1,h⟩
 rintro ⟨⟨a,b⟩,_⟩ ⟨⟨a',b'⟩,_⟩ h
 simp only [Prod.mk.injEq,List.cons.injEq,D.c.injEq,C.im.injEq,I.sl.injEq,I.int.injEq,true_and,and_true,Int.natCast_inj,zDo] at h
 obtain ⟨h1,rfl⟩ := h
 simp only [zFq1 _ _ _ h1]
theorem zCq1 : Law Tryz.prog 84 zXd := by
 refine zAi (zAc zGm1 (zAc zGl1 zAf)) hmixA Tryz.func84 rfl rfl (fun ⟨⟨k0,ms⟩,hms,hk⟩ => ⟨zAv rfl,by simp [Tryz.f84],?_⟩)
 simp only at hk hms ⊢
 have hl : (mkMs k0 ms).length = ms.length := zGc _ _
 have hat := zYm ms k0
 generalize mkMs k0 ms = L at *
 try simp -dsimp (maxSteps := 1000000) only [go_sem,↓reduceIte,yab,Tryz.f84,zAr,hl]
 refine zBa (ι := { k : Nat // k ≤ ms.length }) (fun k => ⟨[(0,some (.c (.im (.sl 11 (rowsM L))))),(1,some (.c (.im (.int .i64 ((mkT k0 (ms.take k.1) : Nat) : Int))))),(5,some (.c (.im (.int .i64 (k.1 : Int)))))],
   [],0⟩) (fun k => ms.length - k.1) ⟨0,by simp⟩ ⟨[],[],by ((simp only [go_sem,↓reduceIte,yab,yai]) <;> (try (simp -dsimp only [go_sem,↓reduceIte,yab,yai]))) <;> simp [mkT]⟩ (fun ⟨k,hkn⟩ => ?_)
 simp only
 by_cases hlt : k < ms.length
 · obtain ⟨m,hp⟩ : ∃ p,ms[k]? = some p := ⟨_,List.getElem?_eq_getElem hlt⟩
   obtain ⟨h1,h2,h3⟩ := hat k m hp
   have hT : mkT k0 (ms.take (k + 1)) ≤ 4096 := Nat.le_trans h3 hk
   have hn := h2
   rw [h2] at hT
   obtain ⟨K,hK⟩ : ∃ K,mkT k0 (ms.take k) = K := ⟨_,rfl⟩
   rw [hK] at h1 hT hn
   simp only [hK]
   obtain ⟨A1,A2,A3,A4,A5,A6,A7,A8,A9,A10,W1,W2,W3,em,b5,b8,b9,l9,l8,l5,x1,x2,x3,x4,x5,x6,x7,x8,y1,y2,v3,z1,z2,z3⟩ := chain K m hT
   rw [em] at h1
   have hrow := zFw h1
   simp only at hrow
   have r1 := zUw (k := A4) (n := m.store.length) (by omega)
   have r2 := zUw (k := A7) (n := m.pts.length) (by omega)
   have r3 := zEd1 (k := A8) (n := m.lab.length) (by omega)
   rw [b5] at r1
   rw [b8] at r2
   rw [b9] at r3
   have g1 : ((A5 : Int) < 0) = False := eq_false (by omega)
   have g2 : ((A8 : Int) < 0) = False := eq_false (by omega)
   have g3 : ((A9 : Int) < 0) = False := eq_false (by omega)
   generalize rowsZ (mkZ A4 m.store.length) = R1 at *
   generalize rowsZ (mkZ A7 m.pts.length) = R2 at *
   generalize rowsN (mkN A8 m.lab.length) = R3 at *
   obtain ⟨K9,hK9⟩ : ∃ K9,mkT k0 (ms.take (k + 1)) = K9 := ⟨_,rfl⟩
   rw [← hn,hK9] at x8
   clear h2 h3 hn h1 hT hat em b5 b8 b9 l9 l8 l5
   have hI : ((k : Int) < (ms.length : Int)) = True := eq_true (by omega)
   have h0 : (0 ≤ (k : Int)) = True := eq_true (by omega)
   have hwr : IntKind.i64.wrap ((k : Int) + 1) = ((k + 1 : Nat) : Int) := zEa (by omega)
   try simp -dsimp (maxSteps := 1000000) only [go_sem,↓reduceIte,yab,Tryz.f84,hI,h0,Int.toNat_natCast,hrow,hwr,x1,x2,x3,x4,x5,x6,x7,x8,y1,y2,z1,z2,v3,z3,zAz1,zHk1,r1,r2,r3,g1,g2,g3,zAr,hl,ne_eq,eq_self,ybc,yaU,yaD,yaH]
   exact ⟨⟨k + 1,by omega⟩,by simp only []; omega,[],[],by ((simp only [go_sem,↓reduceIte,yab,yai]) <;> (try (simp -dsimp only [go_sem,↓reduceIte,yab,yai]))) <;> simp [hK9]⟩
 · have hI : ((k : Int) < (ms.length : Int)) = False := eq_false (by omega)
   have hkn' : k = ms.length := by omega
   subst hkn'
   try simp -dsimp (maxSteps := 1000000) only [go_sem,↓reduceIte,yab,Tryz.f84,hI,zAr,hl,List.take_length]
end Go.SX
namespace Go.SX
open Go Go.Proofs Ieee
theorem zSn1 (l : List Cbl) (k : Nat) (a b : Int) : (tI (rowsC l)).set k [T.im (.int .i64 a),T.im (.int .i64 b)] = tI (rowsC (l.set k (a,b))) := by simp [tI,rowsC,List.map_set]
theorem zDb1 {h : List (Nat × Option Root)} {nm n k0 : Nat} {zs : List Cbl} (hH : lk h n = some (.arr 2 (tI (rowsC zs)))) (hk : k0 + 2 * zs.length ≤ 4096) :
   InlAt Tryz.prog 83 [.c (.view n 2 0 zs.length),.c (.im (.int .i64 (k0 : Int)))] h nm (.c (.im (.int .i64 ((k0 + 2 * zs.length : Nat) : Int)))) ((n,some (.arr 2 (tI (rowsC (mkCs k0 zs.length))))) :: h) nm := by
 refine InlAt.conv (h1 := (n,some (.arr 2 (tI (rowsC zs)))) :: h) ?_ (zSg hH)
 clear hH
 refine zWi (Φ := phi []) zAf hmixA Tryz.func83 rfl rfl [] (by simp [Tryz.f83]) ?_
 obtain ⟨n0,hn0⟩ : ∃ m,zs.length = m := ⟨_,rfl⟩
 rw [hn0] at hk ⊢
 have hL0 : ∀ i,i < n0 → (mkCs k0 i ++ zs.drop i)[i]? = some (zs.getD i (0,0)) := fun i hi => by
   rw [List.getElem?_append_right (by simp [zEm])]
   simp only [zEm,Nat.sub_self,List.getElem?_drop,yaP,List.getD_eq_getElem?_getD]
   rw [List.getElem?_eq_getElem (by omega)]; rfl
 have hLs : ∀ i,i < n0 → (mkCs k0 i ++ zs.drop i).set i (((k0 + 2 * i : Nat) : Int),((k0 + 2 * i + 1 : Nat) : Int)) = mkCs k0 (i + 1) ++ zs.drop (i + 1) := fun i hi => by
   have hd := List.drop_eq_getElem_cons (l := zs) (i := i) (by omega)
   rw [List.set_append_right _ _ (by simp [zEm]),zFr1,hd,zEm,Nat.sub_self,List.set_cons_zero,List.append_assoc]
   rfl
 have hLl : ∀ i,i ≤ n0 → (mkCs k0 i ++ zs.drop i).length = n0 := fun i hi => by simp [zEm]; omega
 have hLe : mkCs k0 n0 ++ zs.drop n0 = mkCs k0 n0 := by rw [← hn0]; simp
 have hLb : zs = mkCs k0 0 ++ zs.drop 0 := by simp [mkCs]
 obtain ⟨L,hL⟩ : ∃ L : Nat → List Cbl,∀ i,mkCs k0 i ++ zs.drop i = L i := ⟨_,fun _ => rfl⟩
 simp only [hL] at hL0 hLs hLl hLe hLb
 rw [hLb,← hLe]
 clear hLb hLe hL hn0
 try simp -dsimp (maxSteps := 1000000) only [go_sem,↓reduceIte,yab,Tryz.f83,zAu,zAt]
 refine zSe (ι := { k : Nat // k ≤ n0 }) (fun k => ⟨[(0,some (.c (.view n 2 0 n0))),(1,some (.c (.im (.int .i64 ((k0 + 2 * k.1 : Nat) : Int))))),(5,some (.c (.im (.int .i64 (k.1 : Int)))))],
   (n,some (.arr 2 (tI (rowsC (L k.1))))) :: h,nm⟩) (fun k => n0 - k.1) ⟨0,by simp⟩ (zNf (Nat.le_refl _) (by simp [lk]) rfl) (fun ⟨k,hkn⟩ => ?_)
 simp only
 by_cases hlt : k < n0
 · obtain ⟨A,hA⟩ : ∃ A,k0 + 2 * k + 1 = A := ⟨_,rfl⟩
   have hset := hLs k hlt
   rw [hA] at hset
   have hrow := zIu1 (zFd (hL0 k hlt))
   simp only [List.map_cons,yaE] at hrow
   have hrow2 : ∀ r,((tI (rowsC (L k))).set k r)[k]? = some r := fun r => by
     rw [List.getElem?_set_self (by rw [zAt,zAu,hLl k hkn]; exact hlt)]
   have hI : ((k : Int) < (n0 : Int)) = True := eq_true (by omega)
   have h0 : (0 ≤ (k : Int)) = True := eq_true (by omega)
   have hwr : IntKind.i64.wrap ((k : Int) + 1) = ((k + 1 : Nat) : Int) := by rw [zAg] <;> omega
   have hwk : IntKind.i64.wrap (((k0 + 2 * k : Nat) : Int) + 1) = (A : Int) := by rw [zAg] <;> omega
   have hwk2 : IntKind.i64.wrap ((A : Int) + 1) = ((k0 + 2 * (k + 1) : Nat) : Int) := by rw [zAg] <;> omega
   have hset2 := zSn1 (L k) k ((k0 + 2 * k : Nat) : Int) (A : Int)
   rw [hset] at hset2
   clear hA
   try simp -dsimp (maxSteps := 1000000) only [go_sem,↓reduceIte,yab,Tryz.f83,hI,h0,Int.toNat_natCast,hrow,hrow2,hwr,hwk,hwk2,hset2,List.set_set,zAt,zAu]
   exact ⟨⟨k + 1,by omega⟩,by simp only []; omega,zNf (Nat.le_refl _) (by simp [lk]) rfl⟩
 · have hI : ((k : Int) < (n0 : Int)) = False := eq_false (by omega)
   have hkn' : k = n0 := by omega
   subst hkn'
   try simp -dsimp (maxSteps := 1000000) only [go_sem,↓reduceIte,yab,Tryz.f83,hI,zAu]
   exact fun _ _ h => h
end Go.SX
namespace Go.SX
open Go Go.Proofs Ieee
abbrev KRk := { p : Nat × List Mod × Nat // p.2.1.length ≤ 16 ∧ mkT p.1 p.2.1 + 2 * p.2.2 ≤ 4096 }
noncomputable def zGi : Ct := fam true (fun p : KRk => ([.agg [.im (.sl 11 (rowsM (mkMs p.1.1 p.1.2.1))),.im (.sl 2 (rowsC (mkCs (mkT p.1.1 p.1.2.1) p.1.2.2)))],.c (.im (.int .i64 (p.1.1 : Int)))],[])) (fun p => .one { val := .c (.im (.int .i64 ((mkT p.1.1 p.1.2.1 + 2 * p.1.2.2 : Nat) : Int))) })
theorem zUv {k : Nat} {ms : List Mod} {n : Nat} (h1 : ms.length ≤ 16) (h : mkT k ms + 2 * n ≤ 4096) : zGi.run [.agg [.im (.sl 11 (rowsM (mkMs k ms))),.im (.sl 2 (rowsC (mkCs (mkT k ms) n)))],.c (.im (.int .i64 (k : Int)))] [] = some (.one { val := .c (.im (.int .i64 ((mkT k ms + 2 * n : Nat) : Int))) }) := by
 refine zFj (args := fun p : KRk => ([D.agg [.im (.sl 11 (rowsM (mkMs p.1.1 p.1.2.1))),.im (.sl 2 (rowsC (mkCs (mkT p.1.1 p.1.2.1) p.1.2.2)))],.c (.im (.int .i64 (p.1.1 : Int)))],[])) (out := fun p : KRk => .one { val := .c (.im (.int .i64 ((mkT p.1.1 p.1.2.1 + 2 * p.1.2.2 : Nat) : Int))) }) ?_ ⟨(k,ms,n),h1,h⟩
 rintro ⟨⟨a,b,c⟩,_⟩ ⟨⟨a',b',c'⟩,_⟩ h
 simp only [Prod.mk.injEq,List.cons.injEq,D.c.injEq,D.agg.injEq,C.im.injEq,I.sl.injEq,I.int.injEq,true_and,and_true,Int.natCast_inj,zDo] at h
 obtain ⟨⟨h1,h2⟩,rfl⟩ := h
 have e := congrArg List.length h2
 simp only [zAu,zEm] at e
 simp only [zFq1 _ _ _ h1,e]
theorem zXw : (zGi.sc = true) = True := by simp [zGi,fam]
theorem zWb : Law Tryz.prog 29 zGi := by
 refine zAi (zAc zCq1 (zAc zCr1 zAf)) hmixA Tryz.func29 rfl rfl (fun ⟨⟨k,ms,n⟩,h1,h2⟩ => ⟨zAv rfl,by simp [Tryz.f29],?_⟩)
 simp only at h1 h2 ⊢
 have r1 := zBy1 (k := k) h1 (by omega)
 have r2 := zBz1 h2
 have g1 : (((mkT k ms : Nat) : Int) < 0) = False := eq_false (by omega)
 have g2 : (((mkT k ms + 2 * n : Nat) : Int) < 0) = False := eq_false (by omega)
 try simp -dsimp (maxSteps := 1000000) only [go_sem,↓reduceIte,yab,Tryz.f29,r1,r2,g1,g2]
theorem zVo : ∀ (ms : List Mod) (k : Nat) (m : Mod),mkMs k (ms ++ [m]) = mkMs k ms ++ [mkMod (mkT k ms) m]
 | [],k,m => rfl
 | x :: ms,k,m => by simp only [yaB,mkMs,mkT,zVo ms]
theorem zSq1 {st st' : St} (h1 : st.n ≤ st'.n) (h2 : ∀ p ∈ st'.s,∀ d,p.2 = some d → lk st.s p.1 = some d) (h3 : ∀ m r,lk st'.h m = some r → lk st.h m = some r) : Les st st' := ⟨h1,fun t d ht => h2 _ (zJr ht) d rfl,h3⟩
theorem zDa1 {h : List (Nat × Option Root)} {nm n k0 : Nat} {ms : List Mod} (hH : lk h n = some (.arr 11 (tM ms))) (hfr : ∀ m,nm ≤ m → lk h m = none) (hms : ms.length ≤ 16) (hk : mkT k0 ms ≤ 4096) :
   InlAt Tryz.prog 82 [.c (.view n 11 0 ms.length),.c (.im (.int .i64 (k0 : Int)))] h nm (.c (.im (.int .i64 ((mkT k0 ms : Nat) : Int)))) ((n,some (.arr 11 (tM (mkMs k0 ms)))) :: h) (nm + 3 * ms.length) := by
 have hnn := zKh1 hfr hH
 refine InlAt.conv (h1 := (n,some (.arr 11 (tM ms))) :: h) ?_ (zSg hH)
 clear hH
 refine zWi (Φ := phi []) zAf hmixA Tryz.func82 rfl rfl [12,17,18] (by simp [Tryz.f82]) ?_
 obtain ⟨n0,hn0⟩ : ∃ m,ms.length = m := ⟨_,rfl⟩
 rw [hn0] at hms ⊢
 have hat := zYm ms k0
 have hL0 : ∀ i m,ms[i]? = some m → (mkMs k0 (ms.take i) ++ ms.drop i)[i]? = some m := fun i m hi => by
   have hlt : i < ms.length := (List.getElem?_eq_some_iff.1 hi).1
   rw [List.getElem?_append_right (by rw [zGc,List.length_take]; omega)]
   simp only [zGc,List.length_take,List.getElem?_drop]
   rw [show i + (i - min i ms.length) = i by omega]; exact hi
 have hLs : ∀ i m,ms[i]? = some m → (mkMs k0 (ms.take i) ++ ms.drop i).set i (mkMod (mkT k0 (ms.take i)) m) = mkMs k0 (ms.take (i + 1)) ++ ms.drop (i + 1) := fun i m hi => by
   have hlt : i < ms.length := (List.getElem?_eq_some_iff.1 hi).1
   have hd := List.drop_eq_getElem_cons hlt
   have ll : (mkMs k0 (ms.take i)).length = i := by rw [zGc,List.length_take]; omega
   rw [List.set_append_right _ _ (by omega),zUf hi,zVo,hd,ll,Nat.sub_self,List.set_cons_zero,List.append_assoc]
   rfl
 have hLl : ∀ i,i ≤ n0 → (mkMs k0 (ms.take i) ++ ms.drop i).length = n0 := fun i hi => by simp [zGc]; omega
 have hLe : mkMs k0 (ms.take n0) ++ ms.drop n0 = mkMs k0 ms := by rw [← hn0,List.take_length,List.drop_length,List.append_nil]
 have hLb : ms = mkMs k0 (ms.take 0) ++ ms.drop 0 := by simp [mkMs]
 obtain ⟨L,hL⟩ : ∃ L : Nat → List Mod,∀ i,mkMs k0 (ms.take i) ++ ms.drop i = L i := ⟨_,fun _ => rfl⟩
 simp only [hL] at hL0 hLs hLl hLe hLb
 have hT0 : mkT k0 (ms.take 0) = k0 := rfl
 have hTn : mkT k0 (ms.take n0) = mkT k0 ms := by rw [← hn0,List.take_length]
 rw [show (some (Root.arr 11 (tM ms))) = some (Root.arr 11 (tM (L 0))) by rw [← hLb],← hLe]
 try simp -dsimp (maxSteps := 1000000) only [go_sem,↓reduceIte,yab,Tryz.f82,zQb]
 refine zSe (ι := { k : Nat // k ≤ n0 }) (fun k => ⟨[(0,some (.c (.view n 11 0 n0))),(1,some (.c (.im (.int .i64 ((mkT k0 (ms.take k.1) : Nat) : Int))))),(5,some (.c (.im (.int .i64 (k.1 : Int)))))],
   (n,some (.arr 11 (tM (L k.1)))) :: h,nm + 3 * k.1⟩) (fun k => n0 - k.1) ⟨0,by simp⟩ (zNf (Nat.le_refl _) (by simp [lk,mkT]) rfl) (fun ⟨k,hkn⟩ => ?_)
 simp only
 by_cases hlt : k < n0
 · obtain ⟨m,hp⟩ : ∃ p,ms[k]? = some p := ⟨_,List.getElem?_eq_getElem (by omega)⟩
   obtain ⟨h1,h2,h3⟩ := hat k m hp
   have hrow := zSk1 (hL0 k m hp)
   have hset := hLs k m hp
   have hT : mkT k0 (ms.take (k + 1)) ≤ 4096 := Nat.le_trans h3 hk
   have hn := h2
   rw [h2] at hT
   obtain ⟨K,hK⟩ : ∃ K,mkT k0 (ms.take k) = K := ⟨_,rfl⟩
   rw [hK] at h1 hT hn hset
   simp only [hK]
   obtain ⟨A1,A2,A3,A4,A5,A6,A7,A8,A9,A10,W1,W2,W3,em,b5,b8,b9,l9,l8,l5,x1,x2,x3,x4,x5,x6,x7,x8,y1,y2,v3,z1,z2,z3⟩ := chain K m hT
   rw [em] at hset
   have hset2 := zQp1 (L k) k ⟨(K : Int),(W1,1065353216),(W2,1065353216),W3,mkZ A4 m.store.length,(A5 : Int),(A6 : Int),mkZ A7 m.pts.length,mkN A8 m.lab.length,(A9 : Int),(A10 : Int)⟩
   rw [hset] at hset2
   simp only [modT] at hrow hset2
   have hrow2 : ∀ r,((tM (L k)).set k r)[k]? = some r := fun r => by
     rw [List.getElem?_set_self (by rw [zQb,hLl k hkn]; exact hlt)]
   have hI : ((k : Int) < (n0 : Int)) = True := eq_true (by omega)
   have h0 : (0 ≤ (k : Int)) = True := eq_true (by omega)
   have hwr : IntKind.i64.wrap ((k : Int) + 1) = ((k + 1 : Nat) : Int) := zEa (by omega)
   obtain ⟨N,hN⟩ : ∃ N,nm + 3 * k = N := ⟨_,rfl⟩
   have hfrN : ∀ m,N ≤ m → lk h m = none := fun m hm => hfr m (by omega)
   have hnN : n < N := by omega
   have hN2 : nm + 3 * (k + 1) = N + 1 + 1 + 1 := by omega
   simp only [hN]
   have e1 : (n = N) = False := eq_false (by omega)
   have e2 : (n = N + 1) = False := eq_false (by omega)
   have e3 : (n = N + 1 + 1) = False := eq_false (by omega)
   have e4 : (N = n) = False := eq_false (by omega)
   have e5 : (N + 1 = n) = False := eq_false (by omega)
   have e6 : (N + 1 + 1 = n) = False := eq_false (by omega)
   have e7 : (N = N + 1) = False := eq_false (by omega)
   have e8 : (N = N + 1 + 1) = False := eq_false (by omega)
   have e9 : (N + 1 = N + 1 + 1) = False := eq_false (by omega)
   have e10 : (N + 1 = N) = False := eq_false (by omega)
   have e11 : (N + 1 + 1 = N) = False := eq_false (by omega)
   have e12 : (N + 1 + 1 = N + 1) = False := eq_false (by omega)
   try simp -dsimp (maxSteps := 1000000) only [go_sem,↓reduceIte,yab,Tryz.f82,hI,h0,Int.toNat_natCast,hrow,hrow2,hwr,x1,x2,x3,x4,y1,y2,v3,zAz1,List.set_set,zCg,e1,e2,e3,e4,e5,e6,e7,e8,e9,e10,e11,e12,zAt,zAa,zAb]
   refine zQp (zWk (by simp [lk,zCg,upd,e1,e2,e3,e4,e5,e6,e7,e8,e9,e10,e11,e12]) (by omega)) ?_
   rw [b5]
   try simp -dsimp (maxSteps := 1000000) only [go_sem,↓reduceIte,yab,Tryz.f82,hI,h0,Int.toNat_natCast,hrow,hrow2,hwr,x5,x6,List.set_set,zCg,e1,e2,e3,e4,e5,e6,e7,e8,e9,e10,e11,e12,zAt,zAa,zAb]
   refine zQp (zWk (by simp [lk,zCg,upd,e1,e2,e3,e4,e5,e6,e7,e8,e9,e10,e11,e12]) (by omega)) ?_
   rw [b8]
   try simp -dsimp (maxSteps := 1000000) only [go_sem,↓reduceIte,yab,Tryz.f82,hI,h0,Int.toNat_natCast,hrow,hrow2,hwr,List.set_set,zCg,e1,e2,e3,e4,e5,e6,e7,e8,e9,e10,e11,e12,zAt,zAa,zAb]
   refine zQp (zGy1 (by simp [lk,zCg,upd,e1,e2,e3,e4,e5,e6,e7,e8,e9,e10,e11,e12]) (by omega)) ?_
   rw [b9]
   try simp -dsimp (maxSteps := 1000000) only [go_sem,↓reduceIte,yab,Tryz.f82,hI,h0,Int.toNat_natCast,hrow,hrow2,hwr,x7,x8,List.set_set,zCg,e1,e2,e3,e4,e5,e6,e7,e8,e9,e10,e11,e12,zAt,zAa,zAb]
   have hpn : (nm ≤ N) = True := eq_true (by omega)
   have hpn1 : (nm ≤ N + 1) = True := eq_true (by omega)
   have hpn2 : (nm ≤ N + 1 + 1) = True := eq_true (by omega)
   refine ⟨⟨k + 1,by omega⟩,by simp only []; omega,.inl ⟨[.fold n k 4,.fold n k 7,.fold n k 8],?_⟩⟩
   ((simp only [go_sem,↓reduceIte,yab,yai,hrow2,hset2,hpn,hpn1,hpn2,List.set_set,zCg,upd,e1,e2,e3,e4,e5,e6,e7,e8,e9,e10,e11,e12,zAt,zAa,zAb,zFh,zFi,yaK,yal,yak]) <;> (try (simp -dsimp only [go_sem,↓reduceIte,yab,yai,hrow2,hset2,hpn,hpn1,hpn2,List.set_set,zCg,upd,e1,e2,e3,e4,e5,e6,e7,e8,e9,e10,e11,e12,zAt,zAa,zAb,zFh,zFi,yaK,yal,yak])))
   refine zSq1 (by simp only []; omega) (by simp [lk,hn]) (fun m r hm => ?_)
   simp only at hm ⊢
   by_cases em' : m = n
   · subst em'
     simp only [lk,yal] at hm
     simp only [lk,e1,e2,e3,yak,yal]
     exact hm
   · simp only [lk,em',yak] at hm
     have hl := zKh1 hfrN hm
     have g1 : (m = N) = False := eq_false (by omega)
     have g2 : (m = N + 1) = False := eq_false (by omega)
     have g3 : (m = N + 2) = False := eq_false (by omega)
     simp only [lk,zCg,upd,em',g1,g2,g3,yak]
     exact hm
 · have hI : ((k : Int) < (n0 : Int)) = False := eq_false (by omega)
   have hkn' : k = n0 := by omega
   subst hkn'
   try simp -dsimp (maxSteps := 1000000) only [go_sem,↓reduceIte,yab,Tryz.f82,hI,zQb,hTn]
   exact fun _ _ h => h
theorem zWj {h : List (Nat × Option Root)} {nm n1 n2 k0 : Nat} {ms : List Mod} {cs : List Cbl} (h1 : lk h n1 = some (.arr 11 (tM ms))) (h2 : lk h n2 = some (.arr 2 (tI (rowsC cs)))) (hne : n2 ≠ n1) (hfr : ∀ m,nm ≤ m → lk h m = none) (hms : ms.length ≤ 16) (hk : mkT k0 ms + 2 * cs.length ≤ 4096) :
   InlAt Tryz.prog 28 [.agg [.view n1 11 0 ms.length,.view n2 2 0 cs.length],.c (.im (.int .i64 (k0 : Int)))] h nm (.c (.im (.int .i64 ((mkT k0 ms + 2 * cs.length : Nat) : Int))))
     ((n2,some (.arr 2 (tI (rowsC (mkCs (mkT k0 ms) cs.length))))) :: (n1,some (.arr 11 (tM (mkMs k0 ms)))) :: h) (nm + 1 + 3 * ms.length) := by
 refine zWi (Φ := phi []) zAf hmixA Tryz.func28 rfl rfl [1,2] (by simp [Tryz.f28]) ?_
 have l1 := zKh1 hfr h1
 have l2 := zKh1 hfr h2
 have e1 : (nm = n1) = False := eq_false (by omega)
 have e2 : (nm = n2) = False := eq_false (by omega)
 try simp -dsimp (maxSteps := 1000000) only [go_sem,↓reduceIte,yab,Tryz.f28,zCg]
 refine zQp (zDa1 (zMj1 hfr h1) (zRp1 hfr) hms (by omega)) ?_
 try simp -dsimp (maxSteps := 1000000) only [go_sem,↓reduceIte,yab,Tryz.f28,zCg,e1,e2]
 refine zQp (zDb1 (by simp only [lk]; rw [if_neg hne]; exact zMj1 hfr h2) (by omega)) ?_
 try simp -dsimp (maxSteps := 1000000) only [go_sem,↓reduceIte,yab,Tryz.f28,zCg,e1,e2]
 intro m r hm
 by_cases e : m = nm
 · have h0 := hfr nm (Nat.le_refl _)
   subst e
   simp only [e1,e2,yak,h0] at hm
   exact absurd hm (by simp)
 · simp only [if_neg e]
   exact hm
end Go.SX
namespace Go.SX
open Go Ieee
def nanT : Txt := [110,97,110]
def infT : Txt := [105,110,102]
def ninfT : Txt := [45,105,110,102]
def sglT (w : Nat) : Txt := if 2139095040 < w % 2147483648 then nanT else if w % 2147483648 = 2139095040 then (if 2147483648 ≤ w then ninfT else infT) else fmtT w
def cW (w : Nat) : Nat := if 2139095040 < w % 2147483648 then qn .f32 else w
noncomputable def sglP (s : Txt) : Nat × Bool := if s = nanT then (qn .f32,true) else if s = infT then (2139095040,true) else if s = ninfT then (4286578688,true) else match prsT s with
 | some w => (w,true)
 | none => (0,false)
theorem zDe1 {w : Nat} (h : Fin32 w) : ∃ c t,fmtT w = c :: t ∧ (isDig c ∨ (c = 45 ∧ ∃ d t',t = d :: t' ∧ isDig d)) := by
 unfold fmtT
 obtain ⟨c,t,e,hd⟩ := zJq h.fin
 rw [e]
 unfold sgnT
 split
 · exact ⟨45,c :: t,rfl,.inr ⟨rfl,c,t,rfl,hd⟩⟩
 · exact ⟨c,t,rfl,.inl hd⟩
theorem zWr {w : Nat} (h : Fin32 w) : fmtT w ≠ nanT ∧ fmtT w ≠ infT ∧ fmtT w ≠ ninfT := by
 obtain ⟨c,t,e,hd⟩ := zDe1 h
 rw [e]
 refine ⟨fun h => ?_,fun h => ?_,fun h => ?_⟩
 · unfold nanT at h; injection h with h1 h2; subst h1
   rcases hd with hd | ⟨hd,_⟩
   · unfold isDig at hd; revert hd; decide
   · revert hd; decide
 · unfold infT at h; injection h with h1 h2; subst h1
   rcases hd with hd | ⟨hd,_⟩
   · unfold isDig at hd; revert hd; decide
   · revert hd; decide
 · unfold ninfT at h; injection h with h1 h2; subst h1 h2
   rcases hd with hd | ⟨_,d,t',h3,hd⟩
   · unfold isDig at hd; revert hd; decide
   · injection h3 with h3 _; subst h3; unfold isDig at hd; revert hd; decide
theorem zNm {w : Nat} (h : w < 4294967296) : sglP (sglT w) = (cW w,true) := by
 unfold sglT cW
 by_cases h1 : 2139095040 < w % 2147483648
 · rw [if_pos h1,if_pos h1]; simp [sglP]
 · rw [if_neg h1,if_neg h1]
   by_cases h2 : w % 2147483648 = 2139095040
   · rw [if_pos h2]
     by_cases h3 : 2147483648 ≤ w
     · rw [if_pos h3]
       have : w = 4286578688 := by omega
       subst this
       simp [sglP,ninfT,nanT,infT]
     · rw [if_neg h3]
       have : w = 2139095040 := by omega
       subst this
       simp [sglP,nanT,infT]
   · rw [if_neg h2]
     have hf : Fin32 w := ⟨h,by omega⟩
     obtain ⟨a,b,c⟩ := zWr hf
     simp only [sglP,if_neg a,if_neg b,if_neg c,zMs hf]
theorem zOe1 {w : Nat} {c : UInt8} (h1 : c ≠ 45) (h2 : ¬ isDig c) (h3 : c ≠ 112) (h4 : c ∉ nanT) (h5 : c ∉ infT) : c ∉ sglT w := by
 unfold sglT
 split
 · exact h4
 · split
   · split
     · intro h
       simp only [ninfT,yae] at h
       rcases h with h | h
       · exact h1 h
       · exact h5 (by simpa [infT] using h)
     · exact h5
   · exact zPv1 h1 h2 h3
theorem zJd1 (w : Nat) : (32 : UInt8) ∉ sglT w := zOe1 (by decide) (by unfold isDig; decide) (by decide) (by decide) (by decide)
def sourceT : Txt := [115,111,117,114,99,101]
def mixerT : Txt := [109,105,120,101,114]
def gainT : Txt := [103,97,105,110]
def delayT : Txt := [100,101,108,97,121]
def sumT : Txt := [115,117,109]
def slicerT : Txt := [115,108,105,99,101,114]
def meterT : Txt := [109,101,116,101,114]
def holdT : Txt := [104,111,108,100]
def ptW (p : Pt) : List Txt := [sglT p.1,sglT p.2]
def ptsW (l : List Pt) : List Txt := l.flatMap ptW
def tabW : List Pt → List Int → List Txt
 | p :: ps,n :: ns => sglT p.1 :: sglT p.2 :: Lib.itoa n :: tabW ps ns
 | _,_ => []
def nameT (k : Int) : Txt := if k = 1 then sourceT else if k = 2 then mixerT else if k = 3 then gainT else if k = 4 then delayT else if k = 5 then sumT else if k = 6 then slicerT else if k = 7 then meterT else holdT
def restW (m : Mod) : List Txt :=
 if m.kind = 1 then ptW m.turn ++ ptW m.state
 else if m.kind = 2 then ptW m.turn ++ ptW m.state
 else if m.kind = 3 then [sglT m.level]
 else if m.kind = 4 then Lib.itoa m.rat :: ptsW m.store
 else if m.kind = 5 then []
 else if m.kind = 6 then Lib.itoa m.count :: tabW m.pts m.lab
 else if m.kind = 7 then [sglT m.level]
 else Lib.itoa m.count :: Lib.itoa m.left :: ptW m.state
def behind (ws : List Txt) : Txt := ws.flatMap fun p => 32 :: p
def fmtM (m : Mod) : Txt := if isModuleF m then nameT m.kind ++ behind (restW m) else []
theorem zHv (c : UInt8) : ∀ (p : Txt) (q : List Txt),joinT c (p :: q) = p ++ q.flatMap (fun x => c :: x)
 | p,[] => by simp [joinT]
 | p,q :: r => by
   simp only [joinT,zHv c q r,List.flatMap_cons,yaB]
theorem zHg1 {m : Mod} (h : isModuleF m = true) : fmtM m = joinT 32 (nameT m.kind :: restW m) := by
 rw [zHv,fmtM,if_pos h]; rfl
theorem zFm1 (k : Int) : (32 : UInt8) ∉ nameT k := by
 unfold nameT
 repeat' split
 all_goals decide
theorem zDt1 {c : UInt8} (h1 : ∀ w,c ∉ sglT w) (h2 : ∀ n,c ∉ Lib.itoa n) : ∀ (ps : List Pt) (ns : List Int),∀ p ∈ tabW ps ns,c ∉ p
 | [],_,p,h => by simp [tabW] at h
 | _ :: _,[],p,h => by simp [tabW] at h
 | x :: ps,n :: ns,p,h => by
   simp only [tabW,yae] at h
   rcases h with rfl | rfl | rfl | h
   · exact h1 _
   · exact h1 _
   · exact h2 _
   · exact zDt1 h1 h2 ps ns p h
theorem zOm1 {c : UInt8} (h1 : ∀ w,c ∉ sglT w) (l : List Pt) : ∀ p ∈ ptsW l,c ∉ p := fun p h => by
 simp only [ptsW,ptW,List.mem_flatMap,yae,yaf,or_false] at h
 obtain ⟨x,_,rfl | rfl⟩ := h <;> exact h1 _
theorem zJn1 {c : UInt8} (h1 : ∀ w,c ∉ sglT w) (h2 : ∀ n,c ∉ Lib.itoa n) (m : Mod) : ∀ p ∈ restW m,c ∉ p := fun p h => by
 have hp : ∀ q,p ∈ ptW q → c ∉ p := fun q h => by
   simp only [ptW,yae,yaf,or_false] at h
   rcases h with rfl | rfl <;> exact h1 _
 unfold restW at h
 split at h
 · rcases List.mem_append.1 h with h | h <;> exact hp _ h
 split at h
 · rcases List.mem_append.1 h with h | h <;> exact hp _ h
 split at h
 · simp only [yaG] at h; subst h; exact h1 _
 split at h
 · rcases List.mem_cons.1 h with rfl | h
   · exact h2 _
   · exact zOm1 h1 _ p h
 split at h
 · cases h
 split at h
 · rcases List.mem_cons.1 h with rfl | h
   · exact h2 _
   · exact zDt1 h1 h2 _ _ p h
 split at h
 · simp only [yaG] at h; subst h; exact h1 _
 · rcases List.mem_cons.1 h with rfl | h
   · exact h2 _
   rcases List.mem_cons.1 h with rfl | h
   · exact h2 _
   · exact hp _ h
theorem zUk {m : Mod} (h : isModuleF m = true) : splT 32 (fmtM m) = nameT m.kind :: restW m := by
 rw [zHg1 h]
 refine zNg (by simp) fun p hp => ?_
 rcases List.mem_cons.1 hp with rfl | hp
 · exact zFm1 _
 · exact zJn1 zJd1 zSu m p hp
noncomputable def rdS (ps : List Txt) (bad : Bool) : Nat × List Txt × Bool := match ps with
 | [] => (0,[],true)
 | p :: t => ((sglP p).1,t,bad || !(sglP p).2)
def rdI (ps : List Txt) (bad : Bool) : Int × List Txt × Bool := match ps with
 | [] => (0,[],true)
 | p :: t => ((numF p).1,t,bad || !(numF p).2)
noncomputable def rdP (ps : List Txt) (bad : Bool) : Pt × List Txt × Bool :=
 (((rdS ps bad).1,(rdS (rdS ps bad).2.1 (rdS ps bad).2.2).1),(rdS (rdS ps bad).2.1 (rdS ps bad).2.2).2)
theorem zEo1 (ps : List Txt) (bad : Bool) : (rdS ps bad).2.1.length = ps.length - 1 := by cases ps <;> simp [rdS]
theorem zFz (ps : List Txt) (bad : Bool) : (rdI ps bad).2.1.length = ps.length - 1 := by cases ps <;> simp [rdI]
theorem zFg (ps : List Txt) (bad : Bool) : (rdP ps bad).2.1.length = ps.length - 2 := by simp only [rdP,zEo1]; omega
noncomputable def dlyP (ps : List Txt) (bad : Bool) : List Pt × List Txt × Bool :=
 if h : ps ≠ [] ∧ bad = false then ((rdP ps bad).1 :: (dlyP (rdP ps bad).2.1 (rdP ps bad).2.2).1,(dlyP (rdP ps bad).2.1 (rdP ps bad).2.2).2) else ([],ps,bad)
termination_by ps.length
decreasing_by all_goals (rw [zFg]; have : 0 < ps.length := List.length_pos_iff.2 h.1; omega)
noncomputable def slcP (ps : List Txt) (bad : Bool) : List Pt × List Int × List Txt × Bool :=
 if h : ps ≠ [] ∧ bad = false then
   ((rdP ps bad).1 :: (slcP (rdI (rdP ps bad).2.1 (rdP ps bad).2.2).2.1 (rdI (rdP ps bad).2.1 (rdP ps bad).2.2).2.2).1,
    (rdI (rdP ps bad).2.1 (rdP ps bad).2.2).1 :: (slcP (rdI (rdP ps bad).2.1 (rdP ps bad).2.2).2.1 (rdI (rdP ps bad).2.1 (rdP ps bad).2.2).2.2).2.1,
    (slcP (rdI (rdP ps bad).2.1 (rdP ps bad).2.2).2.1 (rdI (rdP ps bad).2.1 (rdP ps bad).2.2).2.2).2.2)
 else ([],[],ps,bad)
termination_by ps.length
decreasing_by all_goals (rw [zFz,zFg]; have : 0 < ps.length := List.length_pos_iff.2 h.1; omega)
def kindT (w : Txt) : Int := if w = sourceT then 1 else if w = mixerT then 2 else if w = gainT then 3 else if w = delayT then 4 else if w = sumT then 5 else if w = slicerT then 6 else if w = meterT then 7 else if w = holdT then 8 else 0
def mod0 (k : Int) : Mod := ⟨k,(0,0),(0,0),0,[],0,0,[],[],0,0⟩
noncomputable def readM (k : Int) (ps : List Txt) : Mod × List Txt × Bool :=
 if k = 1 ∨ k = 2 then ({ mod0 k with turn := (rdP ps false).1,state := (rdP (rdP ps false).2.1 (rdP ps false).2.2).1 },(rdP (rdP ps false).2.1 (rdP ps false).2.2).2)
 else if k = 3 ∨ k = 7 then ({ mod0 k with level := (rdS ps false).1 },(rdS ps false).2)
 else if k = 4 then ({ mod0 k with rat := (rdI ps false).1,store := (dlyP (rdI ps false).2.1 (rdI ps false).2.2).1,rcnt := ((dlyP (rdI ps false).2.1 (rdI ps false).2.2).1.length : Int) },(dlyP (rdI ps false).2.1 (rdI ps false).2.2).2)
 else if k = 6 then ({ mod0 k with count := (rdI ps false).1,pts := (slcP (rdI ps false).2.1 (rdI ps false).2.2).1,lab := (slcP (rdI ps false).2.1 (rdI ps false).2.2).2.1 },(slcP (rdI ps false).2.1 (rdI ps false).2.2).2.2)
 else if k = 8 then ({ mod0 k with count := (rdI ps false).1,left := (rdI (rdI ps false).2.1 (rdI ps false).2.2).1,state := (rdP (rdI (rdI ps false).2.1 (rdI ps false).2.2).2.1 (rdI (rdI ps false).2.1 (rdI ps false).2.2).2.2).1 },
   (rdP (rdI (rdI ps false).2.1 (rdI ps false).2.2).2.1 (rdI (rdI ps false).2.1 (rdI ps false).2.2).2.2).2)
 else (mod0 k,ps,false)
noncomputable def implM (s : Txt) : Option Mod := match splT 32 s with
 | [] => none
 | w :: ps => if (readM (kindT w) ps).2.2 = false ∧ (readM (kindT w) ps).2.1 = [] ∧ isModuleF (readM (kindT w) ps).1 = true ∧ fmtM (readM (kindT w) ps).1 = s then some (readM (kindT w) ps).1 else none
theorem zHw {s : Txt} {m : Mod} (h : implM s = some m) : isModuleF m = true ∧ fmtM m = s := by
 unfold implM at h
 split at h
 · cases h
 · split at h
   · rename_i hc
     injection h with h
     subst h
     exact ⟨hc.2.2.1,hc.2.2.2⟩
   · cases h
def cP (p : Pt) : Pt := (cW p.1,cW p.2)
def cM (m : Mod) : Mod := { m with turn := cP m.turn,state := cP m.state,level := cW m.level,store := m.store.map cP,pts := m.pts.map cP }
structure W32 (m : Mod) : Prop where
 turn : m.turn.1 < 4294967296 ∧ m.turn.2 < 4294967296
 state : m.state.1 < 4294967296 ∧ m.state.2 < 4294967296
 level : m.level < 4294967296
 store : ∀ p ∈ m.store,p.1 < 4294967296 ∧ p.2 < 4294967296
 pts : ∀ p ∈ m.pts,p.1 < 4294967296 ∧ p.2 < 4294967296
theorem zJq1 {w : Nat} (h : w < 4294967296) (t : List Txt) : rdS (sglT w :: t) false = (cW w,t,false) := by simp [rdS,zNm h]
theorem zEp1 {n : Int} (h : i64B n) (t : List Txt) : rdI (Lib.itoa n :: t) false = (n,t,false) := by simp [rdI,zHc h.1 h.2]
theorem zYg {p : Pt} (h : p.1 < 4294967296 ∧ p.2 < 4294967296) (t : List Txt) : rdP (ptW p ++ t) false = (cP p,t,false) := by
 simp [rdP,ptW,zJq1 h.1,zJq1 h.2,cP]
theorem zMk1 : ∀ (l : List Pt),(∀ p ∈ l,p.1 < 4294967296 ∧ p.2 < 4294967296) → dlyP (ptsW l) false = (l.map cP,[],false)
 | [],_ => by unfold dlyP; simp [ptsW]
 | p :: l,h => by
   have ih := zMk1 l (fun q hq => h q (List.mem_cons_of_mem _ hq))
   have e : ptsW (p :: l) = ptW p ++ ptsW l := by simp [ptsW]
   unfold dlyP
   rw [dif_pos ⟨by rw [e]; simp [ptW],rfl⟩,e,zYg (h p (by simp)),ih]
   simp
theorem zLu1 : ∀ (l : List Pt) (n : List Int),l.length = n.length → (∀ p ∈ l,p.1 < 4294967296 ∧ p.2 < 4294967296) → (∀ x ∈ n,i64B x) → slcP (tabW l n) false = (l.map cP,n,[],false)
 | [],[],_,_,_ => by unfold slcP; simp [tabW]
 | [],_ :: _,h,_,_ => by simp at h
 | _ :: _,[],h,_,_ => by simp at h
 | p :: l,x :: n,h,h1,h2 => by
   have ih := zLu1 l n (by simpa using h) (fun q hq => h1 q (List.mem_cons_of_mem _ hq)) (fun q hq => h2 q (List.mem_cons_of_mem _ hq))
   have e : tabW (p :: l) (x :: n) = ptW p ++ Lib.itoa x :: tabW l n := by simp [tabW,ptW]
   unfold slcP
   rw [dif_pos ⟨by rw [e]; simp [ptW],rfl⟩,e,zYg (h1 p (by simp))]
   simp only [zEp1 (h2 x (by simp)),ih]
   simp
end Go.SX
namespace Go.SX
open Go Go.Proofs
theorem zUa (l : List Int) : MvB false (.t (.own 1 (tI (rowsN l)))) = True := eq_true (.t _ (zFn1 (zMn _)))
end Go.SX
namespace Go.SX
open Go Go.Proofs
structure RackOk (ms : List Mod) (cs : List Cbl) : Prop where
 ml : ms.length ≤ 16
 cl : cs.length ≤ 40
 ok : ∀ m ∈ ms,OkS m
 cr : ∀ c ∈ cs,0 ≤ c.1 ∧ c.1 < ms.length ∧ 0 ≤ c.2 ∧ c.2 < ms.length
structure APl where
 ms : List Mod
 cs : List Cbl
 a : Int
 b : Int
structure ACr where
 ms : List Mod
 cs : List Cbl
 a : Int
 b : Int
 n : Int
 ml : ms.length ≤ sm
 cl : cs.length ≤ sm
 ok : ∀ m ∈ ms,OkM m
end Go.SX
namespace Go.SX
open Go Go.Proofs
structure ARun where
 ms : List Mod
 cs : List Cbl
 a : Int
 b : Int
 xs : List Pt
 n : Int
 ml : ms.length ≤ sm
 cl : cs.length ≤ sm
 xl : xs.length ≤ sm
 ok : ∀ m ∈ ms,OkM m
theorem zZq : tI (rowsZ []) = [] := rfl
end Go.SX
namespace Go.SX
open Go Go.Proofs
structure ACk where
 m : Mod
 b : Bool
 ok : OkM m
 p : m.pts = []
 l : m.lab = []
 s : b = false → m.store = []
 v : isModuleF m = true
def zs (n : Nat) : List Pt := List.replicate n (0,0)
end Go.SX
namespace Go.SX
open Go Go.Proofs
structure ABy where
 l : List Int
 len : l.length ≤ 1048576
 by_ : ∀ b ∈ l,0 ≤ b ∧ b < 256
structure AEq where
 l : List Pt
 m : List Pt
 ll : l.length ≤ sm
 ml : m.length ≤ sm
end Go.SX
namespace Go.SX
open Go Go.Proofs
structure ATr where
 ms : List Mod
 cs : List Cbl
 n : Int
 ml : ms.length ≤ sm
 cl : cs.length ≤ sm
 ok : ∀ m ∈ ms,OkM m
end Go.SX
namespace Go.SX
open Go Go.Proofs
def dst (n : Nat) (x : Nat → Pt) : Nat → List Pt
 | 0 => List.replicate n (0,0)
 | k + 1 => (dst n x k).set (k % n) (x k)
def g2 (d : Pt) : Pt := scaleF (addPt (0,0) d) 1073741824
def g3 (d : Pt) : Pt := scaleF (addPt (0,0) (g2 d)) 1056964608
end Go.SX
namespace Go.SX
open Go Go.Proofs
theorem zAj : rowsZ [] = [] := rfl
theorem zAl : rowsN [] = [] := rfl
end Go.SX
namespace Go.SX
open Go Go.Proofs
structure AKn where
 l : List Int
 len : l.length ≤ 1048576
 by_ : ∀ b ∈ l,0 ≤ b ∧ b < 256
 a : Int
 h : Int
 a0 : 0 ≤ a
 a1 : a ≤ l.length
structure ABw where
 l : List Int
 len : l.length ≤ 1048576
 by_ : ∀ b ∈ l,0 ≤ b ∧ b < 256
end Go.SX
namespace Go.SX
open Go Go.Proofs
theorem zPz (l : List Pt) : MvR false (.arr 1 (tI (rowsZ l))) = True := eq_true (zCn _ _)
end Go.SX
namespace Go.SX
open Go Go.Proofs
noncomputable def zHt1 : Ct := fam true (fun x : Int × Int × Int => ([.c (.im (.int .i64 x.1)),.c (.im (.int .i64 x.2.1)),.c (.im (.int .i64 x.2.2))],[])) (fun x => .one { val := .c (.im (.bool (decide (x.2.1 ≤ x.1) && decide (x.1 ≤ x.2.2)))) })
theorem zBk (k a b : Int) : zHt1.run [.c (.im (.int .i64 k)),.c (.im (.int .i64 a)),.c (.im (.int .i64 b))] [] = some (.one { val := .c (.im (.bool (decide (a ≤ k) && decide (k ≤ b)))) }) := zAd (args := fun x : Int × Int × Int => ([D.c (.im (.int .i64 x.1)),.c (.im (.int .i64 x.2.1)),.c (.im (.int .i64 x.2.2))],[])) (by
   intro a b h
   simp only [Prod.mk.injEq,List.cons.injEq,D.c.injEq,D.agg.injEq,C.im.injEq,I.cpx.injEq,I.flt.injEq,I.int.injEq,I.sl.injEq,I.bool.injEq,I.str.injEq,Int.natCast_inj,true_and,and_true] at h
   (try simp only [Prod.ext_iff,Subtype.ext_iff])
   (try simp only [zBm,zBs] at h)
   simp_all) (k,a,b)
theorem zSm : Law Tryz.prog 59 zHt1 := by
 refine zAi zAf hmixA Tryz.func59 rfl rfl (fun ⟨k,a,b⟩ => ⟨zAv rfl,by simp [Tryz.f59],?_⟩)
 simp only
 by_cases h1 : a ≤ k
 · have h1' := eq_true h1
   by_cases h2 : k ≤ b
   · have h2' := eq_true h2
     clear h1 h2
     try simp -dsimp (maxSteps := 1000000) only [go_sem,↓reduceIte,yab,Tryz.f59,h1',h2',yaq]
   · have h2' := eq_false h2
     clear h1 h2
     try simp -dsimp (maxSteps := 1000000) only [go_sem,↓reduceIte,yab,Tryz.f59,h1',h2',yaT]
 · have h1' := eq_false h1
   clear h1
   try simp -dsimp (maxSteps := 1000000) only [go_sem,↓reduceIte,yab,Tryz.f59,h1',yag]
end Go.SX
namespace Go.SX
open Go Go.Proofs
def finS (x : Nat) : Bool := fcmp .eql .f32 (fop .sub .f32 x x) 0
noncomputable def zPe : Ct := fam true (fun x : Nat => ([.c (.im (.flt .f32 x))],[])) (fun x => .one { val := .c (.im (.bool (finS x))) })
theorem zBv (x : Nat) : zPe.run [.c (.im (.flt .f32 x))] [] = some (.one { val := .c (.im (.bool (finS x))) }) := zAd (by
   intro a b h
   simp only [Prod.mk.injEq,List.cons.injEq,D.c.injEq,D.agg.injEq,C.im.injEq,I.cpx.injEq,I.flt.injEq,I.int.injEq,I.sl.injEq,I.bool.injEq,I.str.injEq,Int.natCast_inj,true_and,and_true] at h
   (try simp only [Prod.ext_iff,Subtype.ext_iff])
   (try simp only [zBm,zBs] at h)
   simp_all) x
theorem zHg : Law Tryz.prog 131 zPe := by
 refine zAi zAf hmixA Tryz.func131 rfl rfl (fun x => ⟨zAv rfl,by simp [Tryz.f131],?_⟩)
 simp only [finS]
 try simp -dsimp (maxSteps := 1000000) only [go_sem,↓reduceIte,yab,Tryz.f131]
noncomputable def zPb : Ct := fam true (fun x : Pt => ([.c (.im (.cpx .f32 x.1 x.2))],[])) (fun x => .one { val := .c (.im (.bool (finS x.1 && finS x.2))) })
theorem zLh (x y : Nat) : zPb.run [.c (.im (.cpx .f32 x y))] [] = some (.one { val := .c (.im (.bool (finS x && finS y))) }) := zAd (by
   intro a b h
   simp only [Prod.mk.injEq,List.cons.injEq,D.c.injEq,D.agg.injEq,C.im.injEq,I.cpx.injEq,I.flt.injEq,I.int.injEq,I.sl.injEq,I.bool.injEq,I.str.injEq,Int.natCast_inj,true_and,and_true] at h
   (try simp only [Prod.ext_iff,Subtype.ext_iff])
   (try simp only [zBm,zBs] at h)
   simp_all) (x,y)
theorem zVy : Law Tryz.prog 130 zPb := by
 refine zAi (zAc zHg zAf) hmixA Tryz.func130 rfl rfl (fun x => ⟨zAv rfl,by simp [Tryz.f130],?_⟩)
 try simp -dsimp (maxSteps := 1000000) only [go_sem,↓reduceIte,yab,Tryz.f130,zBv]
 repeat' ((first | (with_reducible refine gS_d ?_ ?_) | (with_reducible refine zLa1 ?_ ?_) | (with_reducible refine gS_i ?_ ?_)) <;> intro hg <;> (try simp -dsimp (maxSteps := 1000000) only [go_sem,↓reduceIte,yab,Tryz.f130,zBv, *]))
 all_goals simp_all
def absS (x : Nat) : Nat := if fcmp .lss .f32 x 0 = true then Op.negFloat .f32 x else if fcmp .eql .f32 x 0 = true then 0 else x
noncomputable def zBj1 : Ct := fam true (fun x : Nat => ([.c (.im (.flt .f32 x))],[])) (fun x => .one { val := .c (.im (.flt .f32 (absS x))) })
theorem zUu (x : Nat) : zBj1.run [.c (.im (.flt .f32 x))] [] = some (.one { val := .c (.im (.flt .f32 (absS x))) }) := zAd (by
   intro a b h
   simp only [Prod.mk.injEq,List.cons.injEq,D.c.injEq,D.agg.injEq,C.im.injEq,I.cpx.injEq,I.flt.injEq,I.int.injEq,I.sl.injEq,I.bool.injEq,I.str.injEq,Int.natCast_inj,true_and,and_true] at h
   (try simp only [Prod.ext_iff,Subtype.ext_iff])
   (try simp only [zBm,zBs] at h)
   simp_all) x
theorem zGk1 : Law Tryz.prog 132 zBj1 := by
 refine zAi zAf hmixA Tryz.func132 rfl rfl (fun x => ⟨zAv rfl,by simp [Tryz.f132],?_⟩)
 simp only [absS]
 cases h : fcmp .lss .f32 x 0 with
 | true =>
   try simp -dsimp (maxSteps := 1000000) only [go_sem,↓reduceIte,yab,Tryz.f132,h]
 | false =>
   cases h2 : fcmp .eql .f32 x 0 with
   | true =>
     try simp -dsimp (maxSteps := 1000000) only [go_sem,↓reduceIte,yab,Tryz.f132,h,h2]
   | false =>
     try simp -dsimp (maxSteps := 1000000) only [go_sem,↓reduceIte,yab,Tryz.f132,h,h2]
def rM (m : Mod) : Res := { val := .agg (modC m) }
theorem zSp1 {m : Mod} : OkR false (rM m) := by
 refine ⟨.agg _ (fun x hx => ?_),by simp [rM],by simp [rM]⟩
 simp only [modC,yae,yaf,or_false] at hx
 rcases hx with rfl | rfl | rfl | rfl | rfl | rfl | rfl | rfl | rfl | rfl | rfl <;> exact .im _ (.inl rfl)
def mSum' : Mod := ⟨5,(0,0),(0,0),0,[],0,0,[],[],0,0⟩
noncomputable def zHr1 : Ct := fam false (fun _ : Unit => ([],[])) (fun _ => .one (rM mSum'))
theorem zJh1 : zHr1.run [] [] = some (.one (rM mSum')) := zAd (args := fun _ : Unit => ([],[])) (fun _ _ _ => rfl) ()
theorem zKl1 : Law Tryz.prog 35 zHr1 := by
 refine zCo zAf hmixA Tryz.func35 rfl rfl (fun _ => ⟨okO zSp1,by simp [Tryz.f35],?_⟩)
 simp only [mSum',rM,modC,zAj,zAl]
 try simp -dsimp (maxSteps := 1000000) only [go_sem,↓reduceIte,yab,Tryz.f35]
 refine zAm [.nilI 1 [.b 0 0 4,.b 0 0 7,.b 0 0 8]] ?_
 simp -dsimp (maxSteps := 1000000) only [go_sem,↓reduceIte,yab]
end Go.SX
namespace Go.SX
open Go Ieee Go.Proofs
theorem zBx1 (s : Bool) (m k : Nat) : signed s m k + signed (!s) m k = 0 := by cases s <;> simp [signed] <;> omega
theorem zTb (x : Nat) : finS x = isFin x := by
 have e1 : single.binade = 8388608 := by decide
 have e2 : single.infRung = 2139095040 := by decide
 have e5 : single.signWeight = 2147483648 := by decide
 have hsub : fop .sub .f32 x x = ((((single.read x).sum (single.read x).opposite).map single.write)).getD (qn .f32) := rfl
 unfold finS isFin
 rw [hsub]
 have hq : fcmp .eql .f32 (qn .f32) 0 = false := by decide
 cases hr : single.read x with
 | nan s t =>
   have hn : isNaNb .f32 x = true := by show (single.read x).isNaN = true; rw [hr]; rfl
   have := zSb hn
   have h2 : decide (x % 2147483648 ≤ 2139095039) = false := by simp; omega
   rw [h2]
   simpa [Datum.sum] using hq
 | infinity s =>
   have hx : x % 2147483648 = 2139095040 := by
     unfold Format.read at hr
     simp only [e1,e2,e5] at hr
     split at hr
     · cases hr
     · split at hr
       · cases hr
       · split at hr
         · assumption
         · cases hr
   have h2 : decide (x % 2147483648 ≤ 2139095039) = false := by simp; omega
   rw [h2]
   have h3 : (Datum.infinity s).sum (Datum.infinity s).opposite = none := by cases s <;> rfl
   rw [h3]
   simpa using hq
 | number s m e =>
   have hx : x % 2147483648 < 2139095040 := by
     unfold Format.read at hr
     simp only [e1,e2,e5] at hr
     split at hr
     · omega
     · split at hr
       · assumption
       · split at hr <;> cases hr
   have h2 : decide (x % 2147483648 ≤ 2139095039) = true := by simp; omega
   rw [h2]
   have h3 : (Datum.number s m e).sum (Datum.number s m e).opposite = some (.number false 0 e) := by
     simp only [Datum.opposite,Datum.sum,Int.min_self,zBx1,yal]
     cases s <;> rfl
   rw [h3]
   have h4 : single.write (.number false 0 e) = 0 := rfl
   simp only [yaK,yaF,h4]
   decide
def lvlB (x : Nat) : Bool := x == 0 || (x == 1065353216 || (x == 1073741824 || x == 1077936128))
structure Drawn (m : Mod) : Prop where
 ok : OkM m
 mod : isModuleF m = true
 lvl : m.kind = 7 → lvlB m.level = true
theorem Drawn.kind {m : Mod} (h : Drawn m) : m.kind = 1 ∨ m.kind = 2 ∨ m.kind = 3 ∨ m.kind = 4 ∨ m.kind = 5 ∨ m.kind = 6 ∨ m.kind = 7 ∨ m.kind = 8 := by
 have := h.mod
 unfold isModuleF at this
 by_cases h1 : m.kind = 1
 · simp [h1]
 by_cases h2 : m.kind = 2
 · simp [h2]
 by_cases h3 : m.kind = 3
 · simp [h3]
 by_cases h4 : m.kind = 4
 · simp [h4]
 by_cases h5 : m.kind = 5
 · simp [h5]
 by_cases h6 : m.kind = 6
 · simp [h6]
 by_cases h7 : m.kind = 7
 · simp [h7]
 by_cases h8 : m.kind = 8
 · simp [h8]
 simp [h1,h2,h3,h4,h5,h6,h7,h8] at this
theorem zBq (m : Mod) : bareF m = true ↔ (m.turn = (0,0) ∧ m.state = (0,0) ∧ m.level = 0 ∧ m.store = [] ∧ m.rat = 0 ∧ m.rcnt = 0 ∧ m.pts = [] ∧ m.lab = [] ∧ m.count = 0 ∧ m.left = 0) := by
 obtain ⟨k,⟨t1,t2⟩,⟨s1,s2⟩,lv,st,ra,rc,pts,lab,c,l⟩ := m
 simp only [bareF,nzP,nz,yaw,yax,Prod.mk.injEq,Int.natCast_eq_zero,List.length_eq_zero_iff,and_assoc]
theorem zHl1 : Drawn mSum' := ⟨⟨by simp [mSum',sm],by simp [mSum',sm],by simp [mSum',sm]⟩,by decide,by decide⟩
theorem zGu {pts : List Pt} {lab : List Int} (h : isTableF pts lab = true) : pts.length = lab.length ∧ pts.length ≤ 64 := by
 simp only [isTableF,yaw,yax] at h; exact ⟨h.1,h.2.1⟩
end Go.SX
namespace Go.SX
open Go Ieee
theorem zQw1 : 2139095040 < qn .f32 % 2147483648 := by decide
theorem zXv (w : Nat) : sglT (cW w) = sglT w := by
 unfold cW
 split
 · rename_i h
   unfold sglT
   rw [if_pos zQw1,if_pos h]
 · rfl
theorem zLz1 (p : Pt) : ptW (cP p) = ptW p := by simp [ptW,cP,zXv]
theorem zOn1 (l : List Pt) : ptsW (l.map cP) = ptsW l := by
 simp only [ptsW,List.flatMap_map]
 congr 1; funext p; exact zLz1 p
theorem zDu1 : ∀ (l : List Pt) (n : List Int),tabW (l.map cP) n = tabW l n
 | [],_ => rfl
 | _ :: _,[] => rfl
 | p :: l,x :: n => by simp [tabW,zDu1 l n,cP,zXv]
theorem zJo1 (m : Mod) : restW (cM m) = restW m := by
 have e : (cM m).kind = m.kind := rfl
 simp only [restW,e]
 simp only [cM,zLz1,zOn1,zDu1,zXv]
theorem zMo1 {w : Nat} (h : isFin w = true) : cW w = w := by
 simp only [isFin,yax] at h
 unfold cW
 rw [if_neg (by omega)]
theorem zDr1 : ∀ (pts l : List Pt) (k : Nat),tblGo pts l k = true → ∀ p ∈ l,isFin p.1 = true ∧ isFin p.2 = true
 | _,[],_,_,p,h => by cases h
 | pts,q :: l,k,ht,p,h => by
   simp only [tblGo,yaw] at ht
   rcases List.mem_cons.1 h with rfl | h
   · exact ht.1
   · exact zDr1 pts l (k + 1) ht.2.2 p h
theorem zRj1 {l : List Pt} (h : ∀ p ∈ l,isFin p.1 = true ∧ isFin p.2 = true) : l.map cP = l := by
 conv => rhs; rw [← List.map_id l]
 refine List.map_congr_left fun p hp => ?_
 obtain ⟨h1,h2⟩ := h p hp
 simp [cP,zMo1 h1,zMo1 h2]
theorem zEl1 {w : Nat} (h : 2139095040 < w % 2147483648) : ∃ s t,single.read w = .nan s t := by
 unfold Format.read
 simp only [show single.signWeight = 2147483648 from by decide,show single.binade = 8388608 from by decide,show single.infRung = 2139095040 from by decide]
 rw [if_neg (by omega),if_neg (by omega),if_neg (by omega)]
 exact ⟨_,_,rfl⟩
theorem zFs1 {w : Nat} (h : (nz w || fcmp .gtr .f32 w 0) = true) : cW w = w := by
 unfold cW
 split
 · rename_i hn
   exfalso
   obtain ⟨s,t,hr⟩ := zEl1 hn
   have h1 : fcmp .gtr .f32 w 0 = false := by
     show (single.order w 0 == some .gt) = false
     unfold Format.order
     rw [hr]; rfl
   rw [h1,Bool.or_false] at h
   simp only [nz,yax] at h
   have : w = 0 := by omega
   subst this
   simp at hn
 · rfl
theorem zCf {m : Mod} (h : isModuleF m = true) : (∃ t s,m = ⟨1,t,s,0,[],0,0,[],[],0,0⟩) ∨ (∃ t s,m = ⟨2,t,s,0,[],0,0,[],[],0,0⟩) ∨ (∃ l,m = ⟨3,(0,0),(0,0),l,[],0,0,[],[],0,0⟩) ∨
   (∃ st a,m = ⟨4,(0,0),(0,0),0,st,a,(st.length : Int),[],[],0,0⟩ ∧ isRingF st a (st.length : Int) = true) ∨ m = ⟨5,(0,0),(0,0),0,[],0,0,[],[],0,0⟩ ∨
   (∃ pts lab c,m = ⟨6,(0,0),(0,0),0,[],0,0,pts,lab,c,0⟩ ∧ isTableF pts lab = true) ∨ (∃ l,m = ⟨7,(0,0),(0,0),l,[],0,0,[],[],0,0⟩ ∧ (nz l || fcmp .gtr .f32 l 0) = true) ∨
   (∃ s c l,m = ⟨8,(0,0),s,0,[],0,0,[],[],c,l⟩ ∧ 1 ≤ c ∧ c ≤ 100 ∧ 0 ≤ l ∧ l < c) := by
 obtain ⟨k,t,s,lv,st,ra,rc,pts,lab,c,l⟩ := m
 unfold isModuleF at h
 simp only at h
 split at h
 · rename_i hk
   simp only [zBq] at h
   obtain ⟨-,-,rfl,rfl,rfl,rfl,rfl,rfl,rfl,rfl⟩ := h
   exact .inl ⟨t,s,by simp [hk]⟩
 split at h
 · rename_i hk
   simp only [zBq] at h
   obtain ⟨-,-,rfl,rfl,rfl,rfl,rfl,rfl,rfl,rfl⟩ := h
   exact .inr (.inl ⟨t,s,by simp [hk]⟩)
 split at h
 · rename_i hk
   simp only [zBq] at h
   obtain ⟨rfl,rfl,-,rfl,rfl,rfl,rfl,rfl,rfl,rfl⟩ := h
   exact .inr (.inr (.inl ⟨lv,by simp [hk]⟩))
 split at h
 · rename_i hk
   simp only [yaw,yax,zBq] at h
   obtain ⟨⟨h1,rfl⟩,rfl,rfl,rfl,-,-,-,rfl,rfl,rfl,rfl⟩ := h
   exact .inr (.inr (.inr (.inl ⟨st,ra,by simp [hk],h1⟩)))
 split at h
 · rename_i hk
   simp only [zBq] at h
   obtain ⟨rfl,rfl,rfl,rfl,rfl,rfl,rfl,rfl,rfl,rfl⟩ := h
   exact .inr (.inr (.inr (.inr (.inl (by simp [hk])))))
 split at h
 · rename_i hk
   simp only [yaw,zBq] at h
   obtain ⟨h1,rfl,rfl,rfl,rfl,rfl,rfl,-,-,-,rfl⟩ := h
   exact .inr (.inr (.inr (.inr (.inr (.inl ⟨pts,lab,c,by simp [hk],h1⟩)))))
 split at h
 · rename_i hk
   rw [Bool.and_eq_true,zBq] at h
   obtain ⟨h1,rfl,rfl,-,rfl,rfl,rfl,rfl,rfl,rfl,rfl⟩ := h
   exact .inr (.inr (.inr (.inr (.inr (.inr (.inl ⟨lv,by simp [hk],h1⟩))))))
 split at h
 · rename_i hk
   simp only [yaw,yax,zBq] at h
   obtain ⟨⟨h1,h2,h3,h4⟩,rfl,-,rfl,rfl,rfl,rfl,rfl,rfl,-,-⟩ := h
   exact .inr (.inr (.inr (.inr (.inr (.inr (.inr ⟨s,c,l,by simp [hk],h1,h2,h3,h4⟩))))))
 · cases h
structure I64 (m : Mod) : Prop where
 count : i64B m.count
 lab : ∀ x ∈ m.lab,i64B x
theorem zZn {m : Mod} (h : isModuleF m = true) : isModuleF (cM m) = true := by
 have c0 : cP (0,0) = (0,0) := by decide
 have w0 : cW 0 = 0 := by decide
 rcases zCf h with ⟨t,s,rfl⟩ | ⟨t,s,rfl⟩ | ⟨l,rfl⟩ | ⟨st,a,rfl,hr⟩ | rfl | ⟨pts,lab,c,rfl,ht⟩ | ⟨l,rfl,hl⟩ | ⟨s,c,l,rfl,h1,h2,h3,h4⟩
 · simp [cM,isModuleF,zBq,c0,w0]
 · simp [cM,isModuleF,zBq,c0,w0]
 · simp [cM,isModuleF,zBq,c0,w0]
 · have : isRingF (st.map cP) a (st.length : Int) = true := by
     simp only [isRingF,yaw,yax,ringC] at hr ⊢
     refine ⟨by simpa using hr.1,?_⟩
     simp [ringGo]
   simp [cM,isModuleF,zBq,c0,w0,this]
 · simp [cM,isModuleF,zBq,c0,w0]
 · have : pts.map cP = pts := by
     simp only [isTableF,yaw] at ht
     exact zRj1 (zDr1 pts pts 0 ht.2.2)
   simp [cM,isModuleF,zBq,c0,w0,this,ht]
 · have := zFs1 hl
   simp only [cM,this,isModuleF,hl,c0,yaE,Int.reduceEq,yak,yal,yah]
   simp [zBq]
 · simp [cM,isModuleF,zBq,c0,w0,h1,h2,h3,h4]
theorem zPx1 {m : Mod} (h : isModuleF m = true) : fmtM (cM m) = fmtM m := by
 unfold fmtM
 rw [if_pos h,if_pos (zZn h),zJo1]; rfl
theorem zEm1 {m : Mod} (h : isModuleF m = true) (hw : W32 m) (hi : I64 m) : readM (kindT (nameT m.kind)) (restW m) = (cM m,[],false) := by
 have c0 : cP (0,0) = (0,0) := by decide
 have w0 : cW 0 = 0 := by decide
 rcases zCf h with ⟨t,s,rfl⟩ | ⟨t,s,rfl⟩ | ⟨l,rfl⟩ | ⟨st,a,rfl,hr⟩ | rfl | ⟨pts,lab,c,rfl,ht⟩ | ⟨l,rfl,hl⟩ | ⟨s,c,l,rfl,h1,h2,h3,h4⟩
 · have e := zYg hw.turn (ptW s)
   have e2 := zYg hw.state []
   rw [List.append_nil] at e2
   have k : kindT (nameT 1) = 1 := by decide
   simp only [k,readM,restW,if_pos,true_or,e,e2,cM,mod0,w0,yaE]
 · have e := zYg hw.turn (ptW s)
   have e2 := zYg hw.state []
   rw [List.append_nil] at e2
   have k : kindT (nameT 2) = 2 := by decide
   simp only [k,readM,restW,Int.reduceEq,yak,if_pos,or_true,e,e2,cM,mod0,w0,yaE]
 · have e := zJq1 hw.level []
   have k : kindT (nameT 3) = 3 := by decide
   simp only [k,readM,restW,Int.reduceEq,or_self,true_or,yak,yal,e,cM,mod0,c0,yaE]
 · simp only [isRingF,yaw] at hr
   have hr1 : ringC st a (st.length : Int) := of_decide_eq_true hr.1
   unfold ringC at hr1
   obtain ⟨g1,g2,g3,g4,_⟩ := hr1
   have e := zEp1 (n := a) ⟨by omega,by omega⟩ (ptsW st)
   have e2 := zMk1 st hw.store
   have k : kindT (nameT 4) = 4 := by decide
   simp only [k,readM,restW,Int.reduceEq,or_self,yak,yal,e,e2,cM,mod0,c0,w0,yaE,List.length_map]
 · have k : kindT (nameT 5) = 5 := by decide
   simp only [k,readM,restW,Int.reduceEq,or_self,yak,yal,cM,mod0,c0,w0,yaE]
 · simp only [isTableF,yaw,yax] at ht
   have e := zEp1 (n := c) hi.count (tabW pts lab)
   have e2 := zLu1 pts lab ht.1 hw.pts hi.lab
   have k : kindT (nameT 6) = 6 := by decide
   simp only [k,readM,restW,Int.reduceEq,or_self,yak,yal,e,e2,cM,mod0,c0,w0,yaE]
 · have e := zJq1 hw.level []
   have k : kindT (nameT 7) = 7 := by decide
   simp only [k,readM,restW,Int.reduceEq,or_true,or_self,yak,yal,e,cM,mod0,c0,yaE]
 · have e := zEp1 (n := c) ⟨by omega,by omega⟩ (Lib.itoa l :: ptW s)
   have e1 := zEp1 (n := l) ⟨by omega,by omega⟩ (ptW s)
   have e2 := zYg hw.state []
   rw [List.append_nil] at e2
   have k : kindT (nameT 8) = 8 := by decide
   simp only [k,readM,restW,Int.reduceEq,or_self,yak,yal,e,e1,e2,cM,mod0,c0,w0,yaE]
theorem zOt {m : Mod} (h : isModuleF m = true) (hw : W32 m) (hi : I64 m) : implM (fmtM m) = some (cM m) := by
 unfold implM
 rw [zUk h]
 simp only [zEm1 h hw hi,zZn h,zPx1 h,and_self,yal]
end Go.SX
namespace Go.SX
open Go Go.Proofs
theorem zVu : Law Tryz.prog 62 zKz := by
 refine zAi (zAc zVy zAf) hmixA Tryz.func62 rfl rfl (fun ⟨⟨pts,lab⟩,h1,h2⟩ => ⟨zAv rfl,by simp [Tryz.f62],?_⟩)
 simp only [] at h1 h2
 by_cases hlen : pts.length = lab.length
 rotate_left
 · have e1 : ((pts.length : Int) = (lab.length : Int)) = False := by simp; omega
   have hF : isTableF pts lab = false := by simp [isTableF,hlen]
   clear hlen
   try simp -dsimp (maxSteps := 1000000) only [go_sem,↓reduceIte,yab,Tryz.f62,zAa,zAb,e1,hF]
 have e1 : ((pts.length : Int) = (lab.length : Int)) = True := by simp; omega
 by_cases h64 : pts.length ≤ 64
 rotate_left
 · have e2 : ((64 : Int) < (pts.length : Int)) = True := by simp; omega
   have hF : isTableF pts lab = false := by simp [isTableF,h64]
   clear hlen h64
   try simp -dsimp (maxSteps := 1000000) only [go_sem,↓reduceIte,yab,Tryz.f62,zAa,zAb,e1,e2,hF]
 have e2 : ((64 : Int) < (pts.length : Int)) = False := by simp; omega
 have hF : isTableF pts lab = tblGo pts pts 0 := by unfold isTableF; rw [decide_eq_true hlen,decide_eq_true h64]; simp
 rw [hF]
 clear hlen h64 hF
 try simp -dsimp (maxSteps := 1000000) only [go_sem,↓reduceIte,yab,Tryz.f62,zAa,zAb,e1,e2]
 refine zBa (ι := { k : Nat // k ≤ pts.length ∧ tblGo pts pts 0 = tblGo pts (pts.drop k) k }) (fun k => ⟨[(1,some (.c (.ptr 0 0 0 0))),(20,some (.c (.im (.sl 1 (rowsZ pts))))),(21,some (.c (.im (.int .i64 (pts.length : Int))))),(22,some (.c (.im (.int .i64 (k.1 : Int)))))],
   [(0,some (.box [.t (.im (.sl 1 (rowsZ pts))),.t (.im (.sl 1 (rowsN lab)))]))],1⟩) (fun k => pts.length - k.1) ⟨0,by simp⟩ ⟨[],[],by ((simp only [go_sem,↓reduceIte,yab,yai]) <;> (try (simp -dsimp only [go_sem,↓reduceIte,yab,yai]))) <;> simp⟩ (fun ⟨k,hk,hinv⟩ => ?_)
 by_cases hlt : k < pts.length
 rotate_left
 · have hI : ((k : Int) < (pts.length : Int)) = False := by simp; omega
   have hkl : k = pts.length := by omega
   subst hkl
   rw [List.drop_length] at hinv
   try simp -dsimp (maxSteps := 1000000) only [go_sem,↓reduceIte,yab,Tryz.f62,hI,hinv,tblGo,zAa]
 obtain ⟨p,hp⟩ : ∃ p,pts[k]? = some p := ⟨_,List.getElem?_eq_getElem hlt⟩
 have hrow := zCt hp
 have hI : ((k : Int) < (pts.length : Int)) = True := by simp; omega
 have h0 : (0 ≤ (k : Int)) = True := by simp
 have hidx := zQa hp
 have hwr := zEn h1 hlt
 obtain ⟨a,b⟩ := p
 cases hf : (isFin a && isFin b) with
 | false =>
   simp only [hf,yag] at hidx
   rw [hidx] at hinv
   clear hidx
   try simp -dsimp (maxSteps := 1000000) only [go_sem,↓reduceIte,yab,Tryz.f62,hI,h0,Int.toNat_natCast,hrow,zLh,zTb,hf,hinv,zAa]
 | true =>
   simp only [hf,yah] at hidx
   try simp -dsimp (maxSteps := 1000000) only [go_sem,↓reduceIte,yab,Tryz.f62,hI,h0,Int.toNat_natCast,hrow,zLh,zTb,hf,zAa]
   refine zBa (ι := { j : Nat // j ≤ k ∧ idxF (eqPt · (a,b)) (pts.take k) 0 = idxF (eqPt · (a,b)) ((pts.take k).drop j) j }) (fun j => ⟨[(1,some (.c (.ptr 0 0 0 0))),(3,some (.c (.im (.int .i64 (k : Int))))),(4,some (.c (.im (.cpx .f32 a b)))),(5,some (.c (.im (.int .i64 (j.1 : Int))))),(20,some (.c (.im (.sl 1 (rowsZ pts))))),(21,some (.c (.im (.int .i64 (pts.length : Int))))),(22,some (.c (.im (.int .i64 (k : Int)))))],
     [(0,some (.box [.t (.im (.sl 1 (rowsZ pts))),.t (.im (.sl 1 (rowsN lab)))]))],1⟩) (fun j => k - j.1) ⟨0,by simp⟩ ⟨[],[],by ((simp only [go_sem,↓reduceIte,yab,yai]) <;> (try (simp -dsimp only [go_sem,↓reduceIte,yab,yai]))) <;> simp⟩ (fun ⟨j,hj,hjinv⟩ => ?_)
   by_cases hjk : j < k
   rotate_left
   · have hJ : ((j : Int) < (k : Int)) = False := by simp; omega
     have hjk' : j = k := by omega
     subst hjk'
     rw [show List.drop j (List.take j pts) = [] from List.drop_of_length_le (by rw [List.length_take]; omega)] at hjinv
     have hneg : idxF (eqPt · (a,b)) (pts.take j) 0 < 0 := by rw [hjinv]; simp [idxF]
     simp only [hneg,yaS,yah] at hidx
     rw [hidx] at hinv
     clear hidx
     try simp -dsimp (maxSteps := 1000000) only [go_sem,↓reduceIte,yab,Tryz.f62,hJ,hwr]
     exact ⟨⟨j + 1,by omega,hinv⟩,by simp only []; omega,[],[],by (simp only [go_sem,↓reduceIte,yab,yai]) <;> simp⟩
   obtain ⟨⟨c,d⟩,hq⟩ : ∃ q,pts[j]? = some q := ⟨_,List.getElem?_eq_getElem (by omega)⟩
   have hrowj := zCt hq
   have hJ : ((j : Int) < (k : Int)) = True := by simp; omega
   have hJp : ((j : Int) < (pts.length : Int)) = True := by simp; omega
   have hj0 : (0 ≤ (j : Int)) = True := by simp
   have hwj : IntKind.i64.wrap ((j : Int) + 1) = ((j + 1 : Nat) : Int) := zEn (n := pts.length) h1 (by omega)
   have hjdx := zJx (f := (eqPt · (a,b))) (l := pts.take k) (k := j) (p := (c,d)) (by rw [List.getElem?_take_of_lt hjk]; exact hq)
   have hq0 : (fcmp .eql .f32 c a && fcmp .eql .f32 d b) = eqPt (c,d) (a,b) := rfl
   cases he : eqPt (c,d) (a,b) with
   | true =>
     simp only [he,yal] at hjdx
     rw [hjdx] at hjinv
     have hneg : ¬ idxF (eqPt · (a,b)) (pts.take k) 0 < 0 := by rw [hjinv]; omega
     simp only [hneg,yaU,yag] at hidx
     rw [hidx] at hinv
     clear hidx hjdx hjinv
     try simp -dsimp (maxSteps := 1000000) only [go_sem,↓reduceIte,yab,Tryz.f62,hJ,hJp,hj0,hrowj,hq0,he,hinv,zAa,Int.toNat_natCast]
   | false =>
     simp only [he,yak,yaj] at hjdx
     rw [hjdx] at hjinv
     clear hjdx
     try simp -dsimp (maxSteps := 1000000) only [go_sem,↓reduceIte,yab,Tryz.f62,hJ,hJp,hj0,hrowj,hq0,he,hwj,zAa,Int.toNat_natCast]
     exact ⟨⟨j + 1,by omega,hjinv⟩,by simp only []; omega,[],[],by (simp only [go_sem,↓reduceIte,yab,yai]) <;> simp⟩
end Go.SX
namespace Go.SX
open Go Go.Proofs
theorem zVp (r : List I) : mapO imT (r.map T.im) = some r := by
 induction r with
 | nil => rfl
 | cons x r ih => simp only [List.map_cons,mapO,imT,ih]
theorem zQc (rows : List (List I)) : mapO (mapO imT) (tI rows) = some rows := by
 induction rows with
 | nil => rfl
 | cons x r ih =>
   have h : tI (x :: r) = x.map T.im :: tI r := rfl
   simp only [h,mapO,zVp,ih]
end Go.SX
namespace Go.SX
open Go Go.Proofs
def rMB (m : Mod) (b : Bool) : Res := { val := .tup [.agg (modC m),.c (.im (.bool b))] }
theorem zFe1 {m : Mod} {b : Bool} : OkR false (rMB m b) := by
 refine ⟨.tup _ (fun d hd => ?_),by simp [rMB],by simp [rMB]⟩
 simp only [yae,yaf,or_false] at hd
 rcases hd with rfl | rfl
 · refine .inr ⟨_,rfl,fun x hx => ?_⟩
   simp only [modC,yae,yaf,or_false] at hx
   rcases hx with rfl | rfl | rfl | rfl | rfl | rfl | rfl | rfl | rfl | rfl | rfl <;> exact .im _ (.inl rfl)
 · exact .inl ⟨_,rfl,.im _ (.inl rfl)⟩
structure ARg where
 st : List Pt
 a : Nat
 h1 : 1 ≤ st.length
 h2 : st.length ≤ 16
 h3 : a < st.length
structure ASl where
 pts : List Pt
 lab : List Int
 c : Int
 z : Pt
 t : isTableF pts lab = true
end Go.SX
namespace Go.SX
open Go Go.Proofs
structure AStp where
 m : Mod
 z : Pt
 d : Drawn m
 s1 : lvlB (absS z.1) = true
 s2 : lvlB (absS z.2) = true
def mz11 : List B := [.t (.im (.int .i64 0)),.t (.im (.cpx .f32 0 0)),.t (.im (.cpx .f32 0 0)),.t (.im (.flt .f32 0)),.t .nil,.t (.im (.int .i64 0)),.t (.im (.int .i64 0)),.t .nil,.t .nil,.t (.im (.int .i64 0)),.t (.im (.int .i64 0))]
end Go.SX
namespace Go.SX
open Go Go.Proofs
def strL (l : List UInt8) : ByteArray := ⟨l.toArray⟩
theorem zZs (a b : List UInt8) : strL a ++ strL b = strL (a ++ b) := by
 apply ByteArray.ext
 simp [strL]
theorem zJc (l : List UInt8) : (strL l).size = l.length := by simp [strL,ByteArray.size]
theorem zPk (ns : List Int) : bytesS ns = strL (ns.map fun n => UInt8.ofNat n.toNat) := by
 have key : ∀ (ns : List Int) (r : ByteArray),ns.foldl (fun r n => r.push (UInt8.ofNat n.toNat)) r = r ++ strL (ns.map fun n => UInt8.ofNat n.toNat) := by
   intro ns
   induction ns with
   | nil => intro r; simp [strL]; apply ByteArray.ext; simp
   | cons n ns ih =>
     intro r
     simp only [List.foldl_cons,ih,List.map_cons]
     apply ByteArray.ext
     simp [strL]
 have h := key ns ByteArray.empty
 have e : ByteArray.empty ++ strL (ns.map fun n => UInt8.ofNat n.toNat) = strL (ns.map fun n => UInt8.ofNat n.toNat) := by apply ByteArray.ext; simp [strL]
 unfold bytesS
 rw [h,e]
def dig (d : Nat) : UInt8 := UInt8.ofNat (48 + d)
def digF : Nat → Nat → List UInt8
 | 0,_ => []
 | f + 1,n => if n < 10 then [dig n] else digF f (n / 10) ++ [dig (n % 10)]
theorem zWx : ∀ (f g n : Nat),n < 10 ^ f → n < 10 ^ g → 0 < f → 0 < g → digF f n = digF g n
 | 0,_,_,_,_,h,_ => by omega
 | _,0,_,_,_,_,h => by omega
 | f + 1,g + 1,n,h1,h2,_,_ => by
   simp only [digF]
   split
   · rfl
   · rename_i hn
     rw [Nat.pow_succ] at h1 h2
     have a1 : n / 10 < 10 ^ f := Nat.div_lt_of_lt_mul (by omega)
     have a2 : n / 10 < 10 ^ g := Nat.div_lt_of_lt_mul (by omega)
     have b1 : 0 < f := by
       rcases Nat.eq_zero_or_pos f with rfl | h
       · simp at a1; omega
       · exact h
     have b2 : 0 < g := by
       rcases Nat.eq_zero_or_pos g with rfl | h
       · simp at a2; omega
       · exact h
     rw [zWx f g (n / 10) a1 a2 b1 b2]
def digs (n : Nat) : List UInt8 := digF 20 n
theorem zDi1 {n : Nat} (h : n < 10) : digs n = [dig n] := by simp [digs,digF,h]
theorem zHo1 {n : Nat} (h : 10 ≤ n) (h2 : n < 10 ^ 19) : digs n = digs (n / 10) ++ [dig (n % 10)] := by
 have : ¬ n < 10 := by omega
 have e : digs n = digF 19 (n / 10) ++ [dig (n % 10)] := by
   unfold digs
   rw [show (20 : Nat) = 19 + 1 from rfl]
   simp only [digF,this,yak]
 rw [e,digs,zWx 19 20 (n / 10) (by omega) (by omega) (by omega) (by omega)]
theorem zMw : ∀ (f n : Nat),(digF f n).length ≤ f
 | 0,n => by simp [digF]
 | f + 1,n => by
   simp only [digF]
   split
   · simp
   · have := zMw f (n / 10); simp; omega
def digR (k : Nat) (cur : List UInt8) : List UInt8 := if k = 0 then cur else digs k ++ cur
theorem zJz {k : Nat} (h : 0 < k) (h2 : k < 10 ^ 19) (cur : List UInt8) : digR k cur = digR (k / 10) (dig (k % 10) :: cur) := by
 unfold digR
 rw [if_neg (by omega)]
 by_cases h10 : k < 10
 · rw [if_pos (by omega),zDi1 h10,Nat.mod_eq_of_lt h10]; rfl
 · rw [if_neg (by omega),zHo1 (by omega) h2,List.append_assoc]; rfl
abbrev NNum := { n : Nat // n < 9223372036854775808 }
noncomputable def zPd : Ct := fam true (fun x : NNum => ([.c (.im (.int .i64 (x.1 : Int)))],[])) (fun x => .one { val := .c (.im (.str (strL (digs x.1)))) })
theorem zUt {n : Nat} (h : n < 9223372036854775808) : zPd.run [.c (.im (.int .i64 (n : Int)))] [] = some (.one { val := .c (.im (.str (strL (digs n)))) }) := zAd (args := fun x : NNum => ([D.c (.im (.int .i64 (x.1 : Int)))],[])) (by
   intro a b h
   simp only [Prod.mk.injEq,List.cons.injEq,D.c.injEq,D.agg.injEq,C.im.injEq,I.cpx.injEq,I.flt.injEq,I.int.injEq,I.sl.injEq,I.bool.injEq,I.str.injEq,Int.natCast_inj,true_and,and_true] at h
   (try simp only [Prod.ext_iff,Subtype.ext_iff])
   (try simp only [zBm,zBs] at h)
   simp_all) (⟨n,h⟩ : NNum)
theorem zVz : Law Tryz.prog 133 zPd := by
 refine zAi zAf hmixA Tryz.func133 rfl rfl (fun ⟨n,hn⟩ => ⟨zAv rfl,by simp [Tryz.f133],?_⟩)
 simp only
 have hneg : ((n : Int) < 0) = False := eq_false (by omega)
 have h10 : ((10 : Int) = 0) = False := by simp
 have hm : ∀ k : Nat,(k : Int).tmod 10 = ((k % 10 : Nat) : Int) := fun k => by rw [Int.tmod_eq_emod_of_nonneg (by omega)]; omega
 have hd : ∀ k : Nat,k < 9223372036854775808 → IntKind.i64.wrap ((k : Int).tdiv 10) = ((k / 10 : Nat) : Int) := fun k hk => by
   rw [Int.tdiv_eq_ediv_of_nonneg (by omega),zAg (by omega) (by omega)]; omega
 have hw : ∀ k : Nat,IntKind.i64.wrap (48 + ((k % 10 : Nat) : Int)) = ((48 + k % 10 : Nat) : Int) := fun k => by rw [zAg (by omega) (by omega)]; omega
 have hw8 : ∀ k : Nat,IntKind.u8.wrap ((48 + k % 10 : Nat) : Int) = ((48 + k % 10 : Nat) : Int) := fun k => by
   show (((48 + k % 10 : Nat) : Int) % 256) = _
   omega
 have hbs : ∀ k : Nat,bytesS [((48 + k % 10 : Nat) : Int)] = strL [dig (k % 10)] := fun k => by rw [zPk]; rfl
 try simp -dsimp (maxSteps := 1000000) only [go_sem,↓reduceIte,yab,Tryz.f133,hneg,h10,hm,hd n hn,hw,hw8,hbs]
 refine zBa (ι := { x : Nat × List UInt8 // x.1 < 9223372036854775808 ∧ digR x.1 x.2 = digs n }) (fun x => ⟨[(0,some (.c (.im (.int .i64 (x.1.1 : Int))))),(3,some (.c (.im (.str (strL x.1.2)))))],[],0⟩) (fun x => x.1.1)
   ⟨(n / 10,[dig (n % 10)]),by omega,by
     by_cases h0 : n = 0
     · subst h0; rfl
     · rw [← zJz (by omega) (by omega) []]; simp [digR,h0]⟩ ⟨[],[],by (simp only [go_sem,↓reduceIte,yab,yai]) <;> simp⟩ (fun ⟨⟨k,cur⟩,hk,hinv⟩ => ?_)
 simp only at hk hinv ⊢
 by_cases h0 : k = 0
 · subst h0
   have hI : ((0 : Int) < ((0 : Nat) : Int)) = False := by simp
   simp only [digR,yal] at hinv
   try simp -dsimp (maxSteps := 1000000) only [go_sem,↓reduceIte,yab,Tryz.f133,hI,hinv]
 · have hI : ((0 : Int) < (k : Int)) = True := eq_true (by omega)
   have hlen : cur.length ≤ 20 := by
     have := congrArg List.length hinv
     have h20 := zMw 20 n
     simp only [digR,h0,yak,yar] at this
     unfold digs at this
     omega
   have hsz : ((strL [dig (k % 10)]).size + (strL cur).size ≤ 4611686018427387904) = True := eq_true (by rw [zJc,zJc]; simp; omega)
   rw [zJz (by omega) (by omega)] at hinv
   try simp -dsimp (maxSteps := 1000000) only [go_sem,↓reduceIte,yab,Tryz.f133,hI,h10,hm,hd k hk,hw,hw8,hbs,hsz,zZs]
   exact ⟨⟨(k / 10,dig (k % 10) :: cur),by omega,hinv⟩,by simp only []; omega,[],[],by (simp only [go_sem,↓reduceIte,yab,yai]) <;> simp⟩
structure Lvl (x Y : Nat) (M : Nat) : Prop where
 fin : finS x = true
 e0 : fcmp .eql .f32 x 0 = false
 l0 : fcmp .lss .f32 x 0 = false
 y : w64 (absS x) = Y
 g : fcmp .geq .f64 Y 4715268809856909312 = false
 nn : isNaNb .f64 Y = false
 i : (FloatKind.f64.decode Y).toInt .zero = some (M : Int)
 b : fcmp .neq .f64 Y (FloatKind.f64.nearest (M : Int)) = false
 m : 1 ≤ M ∧ M ≤ 3
def usesF (k : Int) : List (List I) :=
 if k = 1 ∨ k = 2 then [[.bool true],[.bool true],[.bool false],[.bool false],[.bool false],[.bool false],[.bool false]]
 else if k = 3 ∨ k = 7 then [[.bool false],[.bool false],[.bool true],[.bool false],[.bool false],[.bool false],[.bool false]]
 else if k = 4 then [[.bool false],[.bool false],[.bool false],[.bool true],[.bool false],[.bool false],[.bool false]]
 else if k = 6 then [[.bool false],[.bool false],[.bool false],[.bool false],[.bool true],[.bool true],[.bool false]]
 else if k = 8 then [[.bool false],[.bool true],[.bool false],[.bool false],[.bool false],[.bool true],[.bool true]]
 else [[.bool false],[.bool false],[.bool false],[.bool false],[.bool false],[.bool false],[.bool false]]
abbrev NKnd := { k : Int // k = 1 ∨ k = 2 ∨ k = 3 ∨ k = 4 ∨ k = 5 ∨ k = 6 ∨ k = 7 ∨ k = 8 }
noncomputable def zXc : Ct := fam false (fun x : NKnd => ([.c (.im (.int .i64 x.1))],[])) (fun x => .one { val := .c (.im (.sl 1 (usesF x.1))) })
theorem zDf {k : Int} (h : k = 1 ∨ k = 2 ∨ k = 3 ∨ k = 4 ∨ k = 5 ∨ k = 6 ∨ k = 7 ∨ k = 8) : zXc.run [.c (.im (.int .i64 k))] [] = some (.one { val := .c (.im (.sl 1 (usesF k))) }) := zAd (args := fun x : NKnd => ([D.c (.im (.int .i64 x.1))],[])) (by
   intro a b h
   simp only [Prod.mk.injEq,List.cons.injEq,D.c.injEq,D.agg.injEq,C.im.injEq,I.cpx.injEq,I.flt.injEq,I.int.injEq,I.sl.injEq,I.bool.injEq,I.str.injEq,Int.natCast_inj,true_and,and_true] at h
   (try simp only [Prod.ext_iff,Subtype.ext_iff])
   (try simp only [zBm,zBs] at h)
   simp_all) (⟨k,h⟩ : NKnd)
theorem zDg : Law Tryz.prog 128 zXc := by
 refine zCo zAf hmixA Tryz.func128 rfl rfl (fun ⟨k,hk⟩ => ⟨okO ⟨.c _ (.im _ (.inl rfl)),by simp,by simp⟩,by simp [Tryz.f128],?_⟩)
 simp only at hk ⊢
 have h17 : (((1 : Nat) : Int) * 7 ≤ 281474976710656) = True := by decide
 rcases hk with rfl | rfl | rfl | rfl | rfl | rfl | rfl | rfl
 all_goals (
   try simp -dsimp (maxSteps := 1000000) only [go_sem,↓reduceIte,yab,Tryz.f128,h17,Int.reduceEq,Int.reduceLE,Int.reduceMul,Int.reduceToNat,Int.reduceLT]
   refine zAm [.frz 0 [.s 2]] ?_
   simp -dsimp (maxSteps := 1000000) only [go_sem,↓reduceIte,yab,usesF,Int.reduceEq])
end Go.SX
namespace Go.SX
open Go Ieee
theorem two_pow_pos (k : Nat) : (0 : Int) < 2 ^ k := by
 have := Nat.two_pow_pos k
 exact_mod_cast this
theorem zZb {α : Type} {f : α → Bool} : ∀ (l : List α) (k : Nat),(0 ≤ idxF f l k) ↔ ∃ x ∈ l,f x = true
 | [],k => by simp [idxF]
 | x :: l,k => by
   simp only [idxF]
   split
   · rename_i h; simp [h]
   · rename_i h; rw [zZb l (k + 1)]; simp [h]
theorem zSx {l : List Int} {v : Int} : hasF l v = true ↔ v ∈ l := by
 simp only [hasF,yax,zZb]
 constructor
 · rintro ⟨x,hx,rfl⟩; exact hx
 · intro h; exact ⟨v,h,rfl⟩
end Go.SX
