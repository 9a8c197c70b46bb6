/-
  place, IsTable.
  place, IsTable, NearestPoint.
  slices.Clone, copyTable, copyRing.
  copyRing, IsRing, isBare, IsModule, copyModule.
  isBare.
  IsModule, copyModule.
  SX, part AB: a call that is walked as a part of its caller: it may write into arrays of the caller's that it was handed. Plain definitions and theorems over any program.
  laws: sameFloat, sameComplex, eqComplex64S, eqIntS, eqRing, eqTable, eqModule at one value twice.
  laws: heldComplex64S, heldIntS, heldRing, heldTable, heldModule at what was marked.
  laws: markComplex64S, markIntS, markRing, markTable, markModule, as parts of their callers: what they leave in the arrays.
  slices.Contains, slices.ContainsFunc, the order of a rack.
  The order of a rack.
  No condition.
-/
import Derived.Test.YtfmpjhjnpeheeaaGreatDoorPkE
set_option maxRecDepth 100000
set_option maxHeartbeats 16000000
set_option linter.unusedVariables false
set_option linter.unusedSimpArgs false
namespace Go.SX
open Go Go.Proofs
def idxF {α : Type} (f : α → Bool) : List α → Nat → Int
 | [],_ => -1
 | x :: l,k => if f x = true then (k : Int) else idxF f l (k + 1)
theorem zJx {α : Type} {f : α → Bool} {l : List α} {k : Nat} {p : α} (h : l[k]? = some p) : idxF f (l.drop k) k = if f p = true then (k : Int) else idxF f (l.drop (k + 1)) (k + 1) := by
 have hlt : k < l.length := (List.getElem?_eq_some_iff.1 h).1
 have hp : l[k] = p := by rw [List.getElem?_eq_getElem hlt] at h; injection h
 rw [List.drop_eq_getElem_cons hlt,hp]; rfl
def sm : Nat := 16777216
theorem zEn {k n : Nat} (h : n ≤ sm) (hk : k < n) : IntKind.i64.wrap ((k : Int) + 1) = ((k + 1 : Nat) : Int) := by
 have : sm = 16777216 := rfl
 rw [zAg] <;> omega
noncomputable def zQv : Ct := fam true (fun x : Pt × Pt => ([.c (.im (.cpx .f32 x.1.1 x.1.2)),.c (.ptr 0 0 0 0)],[[.t (.im (.cpx .f32 x.2.1 x.2.2))]])) (fun x => .one { val := .c (.im (.bool (eqPt x.1 x.2))),places := [[.t (.im (.cpx .f32 x.2.1 x.2.2))]] })
theorem zNq (x y u v : Nat) : zQv.run [.c (.im (.cpx .f32 x y)),.c (.ptr 0 0 0 0)] [[.t (.im (.cpx .f32 u v))]] = some (.one { val := .c (.im (.bool (eqPt (x,y) (u,v)))),places := [[.t (.im (.cpx .f32 u v))]] }) := by
 refine zAd (args := fun x : Pt × Pt => ([D.c (.im (.cpx .f32 x.1.1 x.1.2)),.c (.ptr 0 0 0 0)],[[B.t (.im (.cpx .f32 x.2.1 x.2.2))]])) ?_ ((x,y),(u,v))
 rintro ⟨⟨a,b⟩,⟨c,d⟩⟩ ⟨⟨a',b'⟩,⟨c',d'⟩⟩ h
 simp at h ⊢
 simp [h]
theorem zYn : Law Tryz.prog 245 zQv := by
 refine zAi (zAc zOp zAf) hmixA Tryz.func245 rfl rfl (fun x => ⟨okO ⟨zQl rfl,by simp,by intro c hc x hx; simp at hc; subst hc; simp at hx; subst hx; exact .t _ (.im _ (.inr rfl))⟩,by simp [Tryz.f245],?_⟩)
 try simp -dsimp (maxSteps := 1000000) only [go_sem,↓reduceIte,yab,Tryz.f245,zNz]
noncomputable def zDu : Ct := fam true (fun x : { l : List Pt // l.length ≤ sm } × Pt => ([.c (.im (.sl 1 (rowsZ x.1.1))),.c (.fn (.func 245) [.ptr 0 0 0 0])],[[.t (.im (.cpx .f32 x.2.1 x.2.2))]]))
 (fun x => .one { val := .c (.im (.int .i64 (idxF (eqPt · x.2) x.1.1 0))),places := [[.t (.im (.cpx .f32 x.2.1 x.2.2))]] })
theorem zFu {l : List Pt} (hl : l.length ≤ sm) (u v : Nat) : zDu.run [.c (.im (.sl 1 (rowsZ l))),.c (.fn (.func 245) [.ptr 0 0 0 0])] [[.t (.im (.cpx .f32 u v))]] =
   some (.one { val := .c (.im (.int .i64 (idxF (eqPt · (u,v)) l 0))),places := [[.t (.im (.cpx .f32 u v))]] }) := by
 refine zAd (args := fun x : { l : List Pt // l.length ≤ sm } × Pt => ([D.c (.im (.sl 1 (rowsZ x.1.1))),.c (.fn (.func 245) [.ptr 0 0 0 0])],[[B.t (.im (.cpx .f32 x.2.1 x.2.2))]])) ?_ (⟨l,hl⟩,(u,v))
 rintro ⟨⟨a,b⟩,⟨c,d⟩⟩ ⟨⟨a',b'⟩,⟨c',d'⟩⟩ h
 simp [zBm] at h ⊢
 simp [h]
theorem zGf : Law Tryz.prog 244 zDu := by
 refine zAi (zAc zYn zAf) hmixA Tryz.func244 rfl rfl (fun ⟨⟨l,hl⟩,⟨u,v⟩⟩ => ⟨okO ⟨zQl rfl,by simp,by intro c hc x hx; simp at hc; subst hc; simp at hx; subst hx; exact .t _ (.im _ (.inr rfl))⟩,by simp [Tryz.f244],?_⟩)
 try simp -dsimp (maxSteps := 1000000) only [go_sem,↓reduceIte,yab,Tryz.f244,zAa]
 refine zBa (ι := { k : Nat // k ≤ l.length ∧ idxF (eqPt · (u,v)) l 0 = idxF (eqPt · (u,v)) (l.drop k) k }) (fun k => ⟨[(0,some (.c (.im (.sl 1 (rowsZ l))))),(1,some (.c (.fn (.func 245) [.ptr 0 0 0 0]))),(7,some (.c (.im (.int .i64 (l.length : Int))))),(8,some (.c (.im (.int .i64 (k.1 : Int)))))],
   [(0,some (.box [.t (.im (.cpx .f32 u v))]))],1⟩) (fun k => l.length - k.1) ⟨0,by simp⟩ ⟨[],[],by ((simp only [go_sem,↓reduceIte,yab,yai]) <;> (try (simp -dsimp only [go_sem,↓reduceIte,yab,yai]))) <;> simp⟩ (fun ⟨k,hk,hinv⟩ => ?_)
 by_cases hlt : k < l.length
 · obtain ⟨p,hp⟩ : ∃ p,l[k]? = some p := ⟨_,List.getElem?_eq_getElem hlt⟩
   have hrow := zCt hp
   have hI : ((k : Int) < (l.length : Int)) = True := by simp; omega
   have h0 : (0 ≤ (k : Int)) = True := by simp
   have hidx := zJx (f := (eqPt · (u,v))) hp
   have hwr := zEn hl hlt
   obtain ⟨a,b⟩ := p
   cases hq : eqPt (a,b) (u,v) with
   | true =>
     simp only [hq,yal] at hidx
     rw [hidx] at hinv
     clear hidx
     try simp -dsimp (maxSteps := 1000000) only [go_sem,↓reduceIte,yab,Tryz.f244,hI,h0,Int.toNat_natCast,hrow,zNq,hq,hinv,zAa]
   | false =>
     simp only [hq,yak,yaj] at hidx
     rw [hidx] at hinv
     clear hidx
     try simp -dsimp (maxSteps := 1000000) only [go_sem,↓reduceIte,yab,Tryz.f244,hI,h0,Int.toNat_natCast,hrow,zNq,hq,hwr,zAa]
     exact ⟨⟨k + 1,by omega,hinv⟩,by simp only []; omega,[],[],by (simp only [go_sem,↓reduceIte,yab,yai]) <;> simp⟩
 · have hI : ((k : Int) < (l.length : Int)) = False := by simp; omega
   have hkl : k = l.length := by omega
   subst hkl
   rw [List.drop_length] at hinv
   try simp -dsimp (maxSteps := 1000000) only [go_sem,↓reduceIte,yab,Tryz.f244,hI,hinv,idxF,zAa]
end Go.SX
namespace Go.SX
open Go Go.Proofs
theorem zQh (l : List Pt) (k : Nat) : (rowsZ l).take k = rowsZ (l.take k) := by simp [rowsZ,List.map_take]
noncomputable def zBf1 : Ct := fam true (fun x : { l : List Pt // l.length ≤ sm } × Pt => ([.c (.im (.sl 1 (rowsZ x.1.1))),.c (.im (.cpx .f32 x.2.1 x.2.2))],[])) (fun x => .one { val := .c (.im (.int .i64 (idxF (eqPt · x.2) x.1.1 0))) })
theorem zUr {l : List Pt} (hl : l.length ≤ sm) (u v : Nat) : zBf1.run [.c (.im (.sl 1 (rowsZ l))),.c (.im (.cpx .f32 u v))] [] = some (.one { val := .c (.im (.int .i64 (idxF (eqPt · (u,v)) l 0))) }) := by
 refine zAd (args := fun x : { l : List Pt // l.length ≤ sm } × Pt => ([D.c (.im (.sl 1 (rowsZ x.1.1))),.c (.im (.cpx .f32 x.2.1 x.2.2))],[])) ?_ (⟨l,hl⟩,(u,v))
 rintro ⟨⟨a,b⟩,⟨c,d⟩⟩ ⟨⟨a',b'⟩,⟨c',d'⟩⟩ h
 simp [zBm] at h ⊢
 simp [h]
theorem zGg1 : Law Tryz.prog 188 zBf1 := by
 refine zAi (zAc zGf zAf) hmixA Tryz.func188 rfl rfl (fun ⟨⟨l,hl⟩,⟨u,v⟩⟩ => ⟨zAv rfl,by simp [Tryz.f188],?_⟩)
 try simp -dsimp (maxSteps := 1000000) only [go_sem,↓reduceIte,yab,Tryz.f188,zFu hl]
def tblGo (pts : List Pt) : List Pt → Nat → Bool
 | [],_ => true
 | p :: l,k => (isFin p.1 && isFin p.2) && (decide (idxF (eqPt · p) (pts.take k) 0 < 0) && tblGo pts l (k + 1))
def isTableF (pts : List Pt) (lab : List Int) : Bool := decide (pts.length = lab.length) && (decide (pts.length ≤ 64) && tblGo pts pts 0)
theorem zQa {pts : List Pt} {k : Nat} {p : Pt} (h : pts[k]? = some p) : tblGo pts (pts.drop k) k = ((isFin p.1 && isFin p.2) && (decide (idxF (eqPt · p) (pts.take k) 0 < 0) && tblGo pts (pts.drop (k + 1)) (k + 1))) := by
 have hlt : k < pts.length := (List.getElem?_eq_some_iff.1 h).1
 have hp : pts[k] = p := by rw [List.getElem?_eq_getElem hlt] at h; injection h
 rw [List.drop_eq_getElem_cons hlt,hp]; rfl
abbrev Tb := { t : List Pt × List Int // t.1.length ≤ sm ∧ t.2.length ≤ sm }
noncomputable def zKz : Ct := fam true (fun x : Tb => ([.agg [.im (.sl 1 (rowsZ x.1.1)),.im (.sl 1 (rowsN x.1.2))]],[])) (fun x => .one { val := .c (.im (.bool (isTableF x.1.1 x.1.2))) })
theorem zIn {pts : List Pt} {lab : List Int} (h1 : pts.length ≤ sm) (h2 : lab.length ≤ sm) : zKz.run [.agg [.im (.sl 1 (rowsZ pts)),.im (.sl 1 (rowsN lab))]] [] = some (.one { val := .c (.im (.bool (isTableF pts lab))) }) := by
 refine zAd (args := fun x : Tb => ([D.agg [.im (.sl 1 (rowsZ x.1.1)),.im (.sl 1 (rowsN x.1.2))]],[])) ?_ ⟨(pts,lab),h1,h2⟩
 rintro ⟨⟨a,b⟩,_⟩ ⟨⟨a',b'⟩,_⟩ h
 simp [zBm,zBs] at h ⊢
 simp [h]
theorem zYx : Law Tryz.prog 105 zKz := by
 refine zAi (zAc zKv (zAc zGg1 zAf)) hmixA Tryz.func105 rfl rfl (fun ⟨⟨pts,lab⟩,h1,h2⟩ => ⟨zAv rfl,by simp [Tryz.f105],?_⟩)
 simp only [] at h1 h2
 by_cases hlen : pts.length = lab.length
 rotate_left
 · have e1 : ((pts.length : Int) = (lab.length : Int)) = False := by simp; omega
   have hF : isTableF pts lab = false := by simp [isTableF,hlen]
   clear hlen
   try simp -dsimp (maxSteps := 1000000) only [go_sem,↓reduceIte,yab,Tryz.f105,zAa,zAb,e1,hF]
 have e1 : ((pts.length : Int) = (lab.length : Int)) = True := by simp; omega
 by_cases h64 : pts.length ≤ 64
 rotate_left
 · have e2 : ((64 : Int) < (pts.length : Int)) = True := by simp; omega
   have hF : isTableF pts lab = false := by simp [isTableF,h64]
   clear hlen h64
   try simp -dsimp (maxSteps := 1000000) only [go_sem,↓reduceIte,yab,Tryz.f105,zAa,zAb,e1,e2,hF]
 have e2 : ((64 : Int) < (pts.length : Int)) = False := by simp; omega
 have hF : isTableF pts lab = tblGo pts pts 0 := by unfold isTableF; rw [decide_eq_true hlen,decide_eq_true h64]; simp
 rw [hF]
 clear hlen h64 hF
 try simp -dsimp (maxSteps := 1000000) only [go_sem,↓reduceIte,yab,Tryz.f105,zAa,zAb,e1,e2]
 refine zBa (ι := { k : Nat // k ≤ pts.length ∧ tblGo pts pts 0 = tblGo pts (pts.drop k) k }) (fun k => ⟨[(1,some (.c (.ptr 0 0 0 0))),(19,some (.c (.im (.sl 1 (rowsZ pts))))),(20,some (.c (.im (.int .i64 (pts.length : Int))))),(21,some (.c (.im (.int .i64 (k.1 : Int)))))],
   [(0,some (.box [.t (.im (.sl 1 (rowsZ pts))),.t (.im (.sl 1 (rowsN lab)))]))],1⟩) (fun k => pts.length - k.1) ⟨0,by simp⟩ ⟨[],[],by ((simp only [go_sem,↓reduceIte,yab,yai]) <;> (try (simp -dsimp only [go_sem,↓reduceIte,yab,yai]))) <;> simp⟩ (fun ⟨k,hk,hinv⟩ => ?_)
 by_cases hlt : k < pts.length
 · obtain ⟨p,hp⟩ : ∃ p,pts[k]? = some p := ⟨_,List.getElem?_eq_getElem hlt⟩
   have hrow := zCt hp
   have hI : ((k : Int) < (pts.length : Int)) = True := by simp; omega
   have h0 : (0 ≤ (k : Int)) = True := by simp
   have hle : ((k : Int) ≤ (pts.length : Int)) = True := by simp; omega
   have hidx := zQa hp
   have hwr := zEn h1 hlt
   have htk : (pts.take k).length ≤ sm := by rw [List.length_take]; omega
   obtain ⟨a,b⟩ := p
   cases hf : (isFin a && isFin b) with
   | false =>
     simp only [hf,yag] at hidx
     rw [hidx] at hinv
     clear hidx
     try simp -dsimp (maxSteps := 1000000) only [go_sem,↓reduceIte,yab,Tryz.f105,hI,h0,Int.toNat_natCast,hrow,zDw,hf,hinv,zAa]
   | true =>
     by_cases hq : idxF (eqPt · (a,b)) (pts.take k) 0 < 0
     · have hq' : ((0 : Int) ≤ idxF (eqPt · (a,b)) (pts.take k) 0) = False := by simp; omega
       simp only [hf,hq,yaS,yah] at hidx
       rw [hidx] at hinv
       clear hidx hq
       try simp -dsimp (maxSteps := 1000000) only [go_sem,↓reduceIte,yab,Tryz.f105,hI,h0,hle,Int.toNat_natCast,hrow,zDw,hf,zQh,zUr htk,hq',hwr,zAa]
       exact ⟨⟨k + 1,by omega,hinv⟩,by simp only []; omega,[],[],by (simp only [go_sem,↓reduceIte,yab,yai]) <;> simp⟩
     · have hq' : ((0 : Int) ≤ idxF (eqPt · (a,b)) (pts.take k) 0) = True := by simp; omega
       simp only [hf,hq,yaU,yah,yag] at hidx
       rw [hidx] at hinv
       clear hidx hq
       try simp -dsimp (maxSteps := 1000000) only [go_sem,↓reduceIte,yab,Tryz.f105,hI,h0,hle,Int.toNat_natCast,hrow,zDw,hf,zQh,zUr htk,hq',hinv,zAa]
 · have hI : ((k : Int) < (pts.length : Int)) = False := by simp; omega
   have hkl : k = pts.length := by omega
   subst hkl
   rw [List.drop_length] at hinv
   try simp -dsimp (maxSteps := 1000000) only [go_sem,↓reduceIte,yab,Tryz.f105,hI,hinv,tblGo,zAa]
end Go.SX
namespace Go.SX
open Go Go.Proofs
theorem zLl {sc : Bool} {sz : Nat} {rows : List (List I)} (h : ∀ r ∈ rows,∀ i ∈ r,scI i = true) : MvR sc (.arr sz (tI rows)) := by
 intro r hr t ht
 simp only [tI,List.mem_map] at hr
 obtain ⟨r0,hr0,rfl⟩ := hr
 simp only [List.mem_map] at ht
 obtain ⟨i,hi,rfl⟩ := ht
 exact .im _ (.inr (h r0 hr0 i hi))
theorem zRm (l : List Pt) : ∀ r ∈ rowsZ l,∀ i ∈ r,scI i = true := by
 intro r hr i hi
 simp only [rowsZ,List.mem_map] at hr
 obtain ⟨p,_,rfl⟩ := hr
 simp at hi; subst hi; rfl
theorem zMn (l : List Int) : ∀ r ∈ rowsN l,∀ i ∈ r,scI i = true := by
 intro r hr i hi
 simp only [rowsN,List.mem_map] at hr
 obtain ⟨p,_,rfl⟩ := hr
 simp at hi; subst hi; rfl
theorem zLk1 {n k : Nat} (h : n ≤ sm) (hk : k ≤ 128) : (n * k ≤ 140737488355328) = True := by
 have : sm = 16777216 := rfl
 simp only [eq_iff_iff,iff_true]
 calc n * k ≤ 16777216 * 128 := Nat.mul_le_mul (by omega) hk
   _ ≤ _ := by decide
abbrev Cbl := Int × Int
def rowsC (l : List Cbl) : List (List I) := l.map fun c => [.int .i64 c.1,.int .i64 c.2]
theorem zAu (l : List Cbl) : (rowsC l).length = l.length := by simp [rowsC]
theorem zFd {l : List Cbl} {k : Nat} {p : Cbl} (h : l[k]? = some p) : (rowsC l)[k]? = some [.int .i64 p.1,.int .i64 p.2] := by simp [rowsC,h]
theorem zEh1 {l m : List Cbl} (h : rowsC l = rowsC m) : l = m := by
 induction l generalizing m with
 | nil => cases m with | nil => rfl | cons => simp [rowsC] at h
 | cons p l ih =>
   cases m with
   | nil => simp [rowsC] at h
   | cons q m =>
     simp only [rowsC,List.map_cons,List.cons.injEq,I.int.injEq,true_and,and_true] at h
     rw [ih h.2,show p = q from Prod.ext h.1.1 h.1.2]
theorem zEd {l m : List Cbl} : (rowsC l = rowsC m) = (l = m) := propext ⟨zEh1,fun h => by rw [h]⟩
theorem zJg1 (l : List Cbl) : ∀ r ∈ rowsC l,∀ i ∈ r,scI i = true := by
 intro r hr i hi
 simp only [rowsC,List.mem_map] at hr
 obtain ⟨p,_,rfl⟩ := hr
 simp at hi; rcases hi with rfl | rfl <;> rfl
end Go.SX
namespace Go.SX
open Go Go.Proofs
structure Mod where
 kind : Int
 turn : Pt
 state : Pt
 level : Nat
 store : List Pt
 rat : Int
 rcnt : Int
 pts : List Pt
 lab : List Int
 count : Int
 left : Int
def modI (m : Mod) : List I := [.int .i64 m.kind,.cpx .f32 m.turn.1 m.turn.2,.cpx .f32 m.state.1 m.state.2,.flt .f32 m.level,.sl 1 (rowsZ m.store),.int .i64 m.rat,.int .i64 m.rcnt,.sl 1 (rowsZ m.pts),.sl 1 (rowsN m.lab),.int .i64 m.count,.int .i64 m.left]
def modC (m : Mod) : List C := [.im (.int .i64 m.kind),.im (.cpx .f32 m.turn.1 m.turn.2),.im (.cpx .f32 m.state.1 m.state.2),.im (.flt .f32 m.level),.im (.sl 1 (rowsZ m.store)),.im (.int .i64 m.rat),.im (.int .i64 m.rcnt),.im (.sl 1 (rowsZ m.pts)),.im (.sl 1 (rowsN m.lab)),.im (.int .i64 m.count),.im (.int .i64 m.left)]
theorem zHu {a b : Mod} (h : modC a = modC b) : a = b := by
 obtain ⟨k,⟨t1,t2⟩,⟨s1,s2⟩,l,st,r1,r2,p,la,c,le⟩ := a
 obtain ⟨k',⟨t1',t2'⟩,⟨s1',s2'⟩,l',st',r1',r2',p',la',c',le'⟩ := b
 simp [modC,zBm,zBs] at h
 simp [h]
structure OkM (m : Mod) : Prop where
 store : m.store.length ≤ sm
 pts : m.pts.length ≤ sm
 lab : m.lab.length ≤ sm
def ringGo (st : List Pt) (a : Nat) : Nat → Nat → Bool
 | 0,_ => true
 | f + 1,i => nzP (st.getD ((a + i) % st.length) (0,0)) && ringGo st a f (i + 1)
def ringC (st : List Pt) (a c : Int) : Prop := 1 ≤ st.length ∧ st.length ≤ 16 ∧ 0 ≤ a ∧ a < st.length ∧ 0 ≤ c ∧ c ≤ st.length
instance (st : List Pt) (a c : Int) : Decidable (ringC st a c) := by unfold ringC; infer_instance
def isRingF (st : List Pt) (a c : Int) : Bool := decide (ringC st a c) && ringGo st a.toNat (st.length - c.toNat) c.toNat
noncomputable def zXi : Ct := fam true (fun x : { l : List Pt // l.length ≤ sm } × Int × Int => ([.agg [.im (.sl 1 (rowsZ x.1.1)),.im (.int .i64 x.2.1),.im (.int .i64 x.2.2)]],[]))
 (fun x => .one { val := .c (.im (.bool (isRingF x.1.1 x.2.1 x.2.2))) })
theorem zKl {l : List Pt} (hl : l.length ≤ sm) (a c : Int) : zXi.run [.agg [.im (.sl 1 (rowsZ l)),.im (.int .i64 a),.im (.int .i64 c)]] [] = some (.one { val := .c (.im (.bool (isRingF l a c))) }) := by
 refine zAd (args := fun x : { l : List Pt // l.length ≤ sm } × Int × Int => ([D.agg [.im (.sl 1 (rowsZ x.1.1)),.im (.int .i64 x.2.1),.im (.int .i64 x.2.2)]],[])) ?_ (⟨l,hl⟩,a,c)
 rintro ⟨⟨a,b⟩,c⟩ ⟨⟨a',b'⟩,c'⟩ h
 simp [zBm] at h ⊢
 simp [h,Prod.ext_iff]
theorem zCv1 : Law Tryz.prog 104 zXi := by
 refine zAi (zAc zJv zAf) hmixA Tryz.func104 rfl rfl (fun ⟨⟨l,hl⟩,a,c⟩ => ⟨zAv rfl,by simp [Tryz.f104],?_⟩)
 by_cases hC : ringC l a c
 rotate_left
 · have hF : isRingF l a c = false := by simp [isRingF,hC]
   by_cases p1 : (l.length : Int) < 1
   · have e1 := eq_true p1
     clear p1
     try simp -dsimp (maxSteps := 1000000) only [go_sem,↓reduceIte,yab,Tryz.f104,zAa,hF,e1]
   have e1 := eq_false p1
   by_cases p2 : (16 : Int) < (l.length : Int)
   · have e2 := eq_true p2
     clear p2
     try simp -dsimp (maxSteps := 1000000) only [go_sem,↓reduceIte,yab,Tryz.f104,zAa,hF,e1,e2]
   have e2 := eq_false p2
   by_cases p3 : a < 0
   · have e3 := eq_true p3
     clear p3
     try simp -dsimp (maxSteps := 1000000) only [go_sem,↓reduceIte,yab,Tryz.f104,zAa,hF,e1,e2,e3]
   have e3 := eq_false p3
   by_cases p4 : (l.length : Int) ≤ a
   · have e4 := eq_true p4
     clear p4
     try simp -dsimp (maxSteps := 1000000) only [go_sem,↓reduceIte,yab,Tryz.f104,zAa,hF,e1,e2,e3,e4]
   have e4 := eq_false p4
   by_cases p5 : c < 0
   · have e5 := eq_true p5
     clear p5
     try simp -dsimp (maxSteps := 1000000) only [go_sem,↓reduceIte,yab,Tryz.f104,zAa,hF,e1,e2,e3,e4,e5]
   have e5 := eq_false p5
   by_cases p6 : (l.length : Int) < c
   · have e6 := eq_true p6
     clear p6
     try simp -dsimp (maxSteps := 1000000) only [go_sem,↓reduceIte,yab,Tryz.f104,zAa,hF,e1,e2,e3,e4,e5,e6]
   have e6 := eq_false p6
   exfalso; apply hC; unfold ringC; omega
 obtain ⟨c1,c2,c3,c4,c5,c6⟩ := hC
 have hF : isRingF l a c = ringGo l a.toNat (l.length - c.toNat) c.toNat := by
   have : ringC l a c := ⟨c1,c2,c3,c4,c5,c6⟩
   simp [isRingF,this]
 have q1 : ((l.length : Int) < 1) = False := by simp; omega
 have q2 : ((16 : Int) < (l.length : Int)) = False := by simp; omega
 have q3 : (a < 0) = False := by simp; omega
 have q4 : ((l.length : Int) ≤ a) = False := by simp; omega
 have q5 : (c < 0) = False := by simp; omega
 have q6 : ((l.length : Int) < c) = False := by simp; omega
 obtain ⟨an,rfl⟩ : ∃ n : Nat,a = n := ⟨a.toNat,by omega⟩
 obtain ⟨cn,rfl⟩ : ∃ n : Nat,c = n := ⟨c.toNat,by omega⟩
 rw [hF]
 simp only [Int.toNat_natCast] at *
 clear hF c3 c5
 try simp -dsimp (maxSteps := 1000000) only [go_sem,↓reduceIte,yab,Tryz.f104,zAa,q1,q2,q3,q4,q5,q6]
 clear q1 q2 q3 q4 q5 q6
 refine zBa (ι := { k : Nat // k ≤ l.length ∧ ringGo l an (l.length - cn) cn = ringGo l an (l.length - k) k }) (fun k => ⟨[(1,some (.c (.ptr 0 0 0 0))),(3,some (.c (.im (.int .i64 (l.length : Int))))),(4,some (.c (.im (.int .i64 (k.1 : Int)))))],
   [(0,some (.box [.t (.im (.sl 1 (rowsZ l))),.t (.im (.int .i64 (an : Int))),.t (.im (.int .i64 (cn : Int)))]))],1⟩) (fun k => l.length - k.1) ⟨cn,by omega,rfl⟩ ⟨[],[],by (simp only [go_sem,↓reduceIte,yab,yai]) <;> simp⟩ (fun ⟨k,hk,hinv⟩ => ?_)
 by_cases hlt : k < l.length
 · have hlt2 : (an + k) % l.length < l.length := Nat.mod_lt _ (by omega)
   obtain ⟨p,hp⟩ : ∃ p,l[(an + k) % l.length]? = some p := ⟨_,List.getElem?_eq_getElem hlt2⟩
   have hrow := zCt hp
   have hI : ((k : Int) < (l.length : Int)) = True := by simp; omega
   have hw : IntKind.i64.wrap ((an : Int) + (k : Int)) = ((an + k : Nat) : Int) := by rw [zAg] <;> omega
   have hm : (((an + k : Nat) : Int)).tmod (l.length : Int) = (((an + k) % l.length : Nat) : Int) := by rw [Int.tmod_eq_emod_of_nonneg (Int.natCast_nonneg _)]; exact (Int.natCast_emod _ _).symm
   have h00 : ((l.length : Int) = 0) = False := eq_false (by omega)
   have h01 : (0 ≤ (((an + k) % l.length : Nat) : Int)) = True := eq_true (Int.natCast_nonneg _)
   have hwr := zEn hl hlt
   have hidx : ringGo l an (l.length - k) k = (nzP p && ringGo l an (l.length - (k + 1)) (k + 1)) := by
     rw [show l.length - k = (l.length - (k + 1)) + 1 by omega]
     simp [ringGo,hp]
   obtain ⟨x,y⟩ := p
   rw [hidx] at hinv
   cases hq : nzP (x,y) with
   | false =>
     rw [hq,Bool.false_and] at hinv
     clear hidx
     try simp -dsimp (maxSteps := 1000000) only [go_sem,↓reduceIte,yab,Tryz.f104,hI,hw,hm,h00,h01,Int.toNat_natCast,hrow,zAk,hq,hinv,zAa]
     repeat' (first
       | ((with_reducible refine sl_i ?_ ?_); focus kernel_rfl)
       | ((with_reducible refine ro_e ?_); kernel_rfl))
   | true =>
     rw [hq,Bool.true_and] at hinv
     clear hidx
     try simp -dsimp (maxSteps := 1000000) only [go_sem,↓reduceIte,yab,Tryz.f104,hI,hw,hm,h00,h01,Int.toNat_natCast,hrow,zAk,hq,hwr,zAa]
     repeat' (first
       | ((with_reducible refine sl_i ?_ ?_); focus kernel_rfl)
       | ((with_reducible refine ro_i ?_ ?_); focus kernel_rfl))
     exact ⟨⟨k + 1,by omega,hinv⟩,by simp only []; omega,[],[],by (simp only [go_sem,↓reduceIte,yab,yai]) <;> simp⟩
 · have hI : ((k : Int) < (l.length : Int)) = False := by simp; omega
   have hkl : k = l.length := by omega
   subst hkl
   rw [Nat.sub_self] at hinv
   try simp -dsimp (maxSteps := 1000000) only [go_sem,↓reduceIte,yab,Tryz.f104,hI,hinv,ringGo,zAa]
end Go.SX
namespace Go.SX
open Go Go.Proofs
def bareF (m : Mod) : Bool := nzP m.turn && (nzP m.state && (nz m.level && (decide ((m.store.length : Int) = 0) && (decide (m.rat = 0) && (decide (m.rcnt = 0) && (decide ((m.pts.length : Int) = 0) && (decide ((m.lab.length : Int) = 0) && (decide (m.count = 0) && decide (m.left = 0)))))))))
def modV (v : Nat) (m : Mod) : List C := [.im (.int .i64 m.kind),.im (.cpx .f32 m.turn.1 m.turn.2),.im (.cpx .f32 m.state.1 m.state.2),.im (.flt .f32 m.level),(if v = 1 then .nil else .im (.sl 1 (rowsZ m.store))),.im (.int .i64 m.rat),.im (.int .i64 m.rcnt),
 (if v = 2 then .nil else .im (.sl 1 (rowsZ m.pts))),(if v = 2 then .nil else .im (.sl 1 (rowsN m.lab))),.im (.int .i64 m.count),.im (.int .i64 m.left)]
abbrev MdV := { x : Mod × Nat // OkM x.1 ∧ (x.2 = 0 ∨ (x.2 = 1 ∧ x.1.store = []) ∨ (x.2 = 2 ∧ x.1.pts = [] ∧ x.1.lab = [])) }
noncomputable def zKf : Ct := fam true (fun x : MdV => ([.agg (modV x.1.2 x.1.1)],[])) (fun x => .one { val := .c (.im (.bool (bareF x.1.1))) })
theorem zKw : ∀ a b : MdV,([D.agg (modV a.1.2 a.1.1)],([] : List (List B))) = ([D.agg (modV b.1.2 b.1.1)],[]) → Outs.one { val := .c (.im (.bool (bareF a.1.1))) } = Outs.one { val := .c (.im (.bool (bareF b.1.1))) } := by
 rintro ⟨⟨⟨k,⟨t1,t2⟩,⟨s1,s2⟩,l,st,r1,r2,p,la,c,le⟩,v⟩,_,hv⟩ ⟨⟨⟨k',⟨t1',t2'⟩,⟨s1',s2'⟩,l',st',r1',r2',p',la',c',le'⟩,v'⟩,_,hv'⟩ h
 simp only [Prod.mk.injEq,List.cons.injEq,D.agg.injEq,modV,C.im.injEq,I.cpx.injEq,I.flt.injEq,I.int.injEq,true_and,and_true] at h
 obtain ⟨rfl,⟨rfl,rfl⟩,⟨rfl,rfl⟩,rfl,h1,rfl,rfl,h2,h3,rfl,rfl⟩ := h
 have e1 : st = st' ∧ p = p' ∧ la = la' := by
   simp only at hv hv'
   rcases hv with rfl | ⟨rfl,rfl⟩ | ⟨rfl,rfl,rfl⟩ <;> rcases hv' with rfl | ⟨rfl,rfl⟩ | ⟨rfl,rfl,rfl⟩ <;> simp_all [zBm,zBs]
 obtain ⟨rfl,rfl,rfl⟩ := e1
 rfl
theorem zBz {k : Int} {t1 t2 s1 s2 lv : Nat} {ra rc c l : Int} {st : List Pt} {pts : List Pt} {lab : List Int} (hst : st.length ≤ sm) (hp : pts.length ≤ sm) (hl : lab.length ≤ sm) :
   zKf.run [.agg [.im (.int .i64 k),.im (.cpx .f32 t1 t2),.im (.cpx .f32 s1 s2),.im (.flt .f32 lv),.im (.sl 1 (rowsZ st)),.im (.int .i64 ra),.im (.int .i64 rc),.im (.sl 1 (rowsZ pts)),.im (.sl 1 (rowsN lab)),.im (.int .i64 c),.im (.int .i64 l)]] [] =
     some (.one { val := .c (.im (.bool (bareF ⟨k,(t1,t2),(s1,s2),lv,st,ra,rc,pts,lab,c,l⟩))) }) :=
 zFj (args := fun x : MdV => ([D.agg (modV x.1.2 x.1.1)],[])) zKw ⟨(⟨k,(t1,t2),(s1,s2),lv,st,ra,rc,pts,lab,c,l⟩,0),⟨hst,hp,hl⟩,.inl rfl⟩
theorem zIm {k : Int} {t1 t2 s1 s2 lv : Nat} {ra rc c l : Int} {pts : List Pt} {lab : List Int} (hp : pts.length ≤ sm) (hl : lab.length ≤ sm) :
   zKf.run [.agg [.im (.int .i64 k),.im (.cpx .f32 t1 t2),.im (.cpx .f32 s1 s2),.im (.flt .f32 lv),.nil,.im (.int .i64 ra),.im (.int .i64 rc),.im (.sl 1 (rowsZ pts)),.im (.sl 1 (rowsN lab)),.im (.int .i64 c),.im (.int .i64 l)]] [] =
     some (.one { val := .c (.im (.bool (bareF ⟨k,(t1,t2),(s1,s2),lv,[],ra,rc,pts,lab,c,l⟩))) }) :=
 zFj (args := fun x : MdV => ([D.agg (modV x.1.2 x.1.1)],[])) zKw ⟨(⟨k,(t1,t2),(s1,s2),lv,[],ra,rc,pts,lab,c,l⟩,1),⟨(by simp [sm]),hp,hl⟩,.inr (.inl ⟨rfl,rfl⟩)⟩
theorem zNw {k : Int} {t1 t2 s1 s2 lv : Nat} {ra rc c l : Int} {st : List Pt} (hst : st.length ≤ sm) :
   zKf.run [.agg [.im (.int .i64 k),.im (.cpx .f32 t1 t2),.im (.cpx .f32 s1 s2),.im (.flt .f32 lv),.im (.sl 1 (rowsZ st)),.im (.int .i64 ra),.im (.int .i64 rc),.nil,.nil,.im (.int .i64 c),.im (.int .i64 l)]] [] =
     some (.one { val := .c (.im (.bool (bareF ⟨k,(t1,t2),(s1,s2),lv,st,ra,rc,[],[],c,l⟩))) }) :=
 zFj (args := fun x : MdV => ([D.agg (modV x.1.2 x.1.1)],[])) zKw ⟨(⟨k,(t1,t2),(s1,s2),lv,st,ra,rc,[],[],c,l⟩,2),⟨hst,(by simp [sm]),(by simp [sm])⟩,.inr (.inr ⟨rfl,rfl,rfl⟩)⟩
theorem zCp1 : Law Tryz.prog 107 zKf := by
 refine zAi (zAc zJv (zAc zHh zAf)) hmixA Tryz.func107 rfl rfl (fun ⟨⟨⟨k,⟨t1,t2⟩,⟨s1,s2⟩,lv,st,ra,rc,pts,lab,c,l⟩,v⟩,hm,hv⟩ => ⟨zAv rfl,by simp [Tryz.f107],?_⟩)
 simp only at hv
 rcases hv with rfl | ⟨rfl,rfl⟩ | ⟨rfl,rfl,rfl⟩
 · simp only [modV,Nat.reduceEqDiff,yal,yak,↓reduceIte,(eq_false (by decide) : ((0 : Nat) = 1) = False),(eq_false (by decide) : ((0 : Nat) = 2) = False),(eq_false (by decide) : ((1 : Nat) = 2) = False),(eq_false (by decide) : ((2 : Nat) = 1) = False)]
   cases h1 : nzP (t1,t2) with
   | false =>
     try simp -dsimp (maxSteps := 1000000) only [go_sem,↓reduceIte,yab,Tryz.f107,zAk,h1,zAa,zAb]
     simp [bareF,h1]
   | true =>
     cases h2 : nzP (s1,s2) with
     | false =>
       try simp -dsimp (maxSteps := 1000000) only [go_sem,↓reduceIte,yab,Tryz.f107,zAk,h1,h2,zAa,zAb]
       simp [bareF,h1,h2]
     | true =>
       by_cases p1 : (lv : Int) = 0
       rotate_left
       · have e1 := eq_false p1
         clear p1
         try simp -dsimp (maxSteps := 1000000) only [go_sem,↓reduceIte,yab,Tryz.f107,zAk,zAo,h1,h2,zAa,zAb,e1]
         all_goals (simp only [bareF,nz,h1,h2, *,yaU,yaS,yag,yah,yaT,List.length_nil,Int.ofNat_zero,Int.natCast_zero])
       have e1 := eq_true p1
       by_cases p2 : (st.length : Int) = 0
       rotate_left
       · have e2 := eq_false p2
         clear p2
         try simp -dsimp (maxSteps := 1000000) only [go_sem,↓reduceIte,yab,Tryz.f107,zAk,zAo,h1,h2,zAa,zAb,e1,e2]
         all_goals (simp only [bareF,nz,h1,h2, *,yaU,yaS,yag,yah,yaT,List.length_nil,Int.ofNat_zero,Int.natCast_zero])
       have e2 := eq_true p2
       by_cases p3 : ra = 0
       rotate_left
       · have e3 := eq_false p3
         clear p3
         try simp -dsimp (maxSteps := 1000000) only [go_sem,↓reduceIte,yab,Tryz.f107,zAk,zAo,h1,h2,zAa,zAb,e1,e2,e3]
         all_goals (simp only [bareF,nz,h1,h2, *,yaU,yaS,yag,yah,yaT,List.length_nil,Int.ofNat_zero,Int.natCast_zero])
       have e3 := eq_true p3
       by_cases p4 : rc = 0
       rotate_left
       · have e4 := eq_false p4
         clear p4
         try simp -dsimp (maxSteps := 1000000) only [go_sem,↓reduceIte,yab,Tryz.f107,zAk,zAo,h1,h2,zAa,zAb,e1,e2,e3,e4]
         all_goals (simp only [bareF,nz,h1,h2, *,yaU,yaS,yag,yah,yaT,List.length_nil,Int.ofNat_zero,Int.natCast_zero])
       have e4 := eq_true p4
       by_cases p5 : (pts.length : Int) = 0
       rotate_left
       · have e5 := eq_false p5
         clear p5
         try simp -dsimp (maxSteps := 1000000) only [go_sem,↓reduceIte,yab,Tryz.f107,zAk,zAo,h1,h2,zAa,zAb,e1,e2,e3,e4,e5]
         all_goals (simp only [bareF,nz,h1,h2, *,yaU,yaS,yag,yah,yaT,List.length_nil,Int.ofNat_zero,Int.natCast_zero])
       have e5 := eq_true p5
       by_cases p6 : (lab.length : Int) = 0
       rotate_left
       · have e6 := eq_false p6
         clear p6
         try simp -dsimp (maxSteps := 1000000) only [go_sem,↓reduceIte,yab,Tryz.f107,zAk,zAo,h1,h2,zAa,zAb,e1,e2,e3,e4,e5,e6]
         all_goals (simp only [bareF,nz,h1,h2, *,yaU,yaS,yag,yah,yaT,List.length_nil,Int.ofNat_zero,Int.natCast_zero])
       have e6 := eq_true p6
       by_cases p7 : c = 0
       rotate_left
       · have e7 := eq_false p7
         clear p7
         try simp -dsimp (maxSteps := 1000000) only [go_sem,↓reduceIte,yab,Tryz.f107,zAk,zAo,h1,h2,zAa,zAb,e1,e2,e3,e4,e5,e6,e7]
         all_goals (simp only [bareF,nz,h1,h2, *,yaU,yaS,yag,yah,yaT,List.length_nil,Int.ofNat_zero,Int.natCast_zero])
       have e7 := eq_true p7
       by_cases p8 : l = 0
       rotate_left
       · have e8 := eq_false p8
         clear p8
         try simp -dsimp (maxSteps := 1000000) only [go_sem,↓reduceIte,yab,Tryz.f107,zAk,zAo,h1,h2,zAa,zAb,e1,e2,e3,e4,e5,e6,e7,e8]
         all_goals (simp only [bareF,nz,h1,h2, *,yaU,yaS,yag,yah,yaT,List.length_nil,Int.ofNat_zero,Int.natCast_zero])
       have e8 := eq_true p8
       clear p1 p2 p3 p4 p5 p6 p7 p8
       try simp -dsimp (maxSteps := 1000000) only [go_sem,↓reduceIte,yab,Tryz.f107,zAk,zAo,h1,h2,zAa,zAb,e1,e2,e3,e4,e5,e6,e7,e8]
       simp only [bareF,nz,h1,h2, *,yaU,yaS,yag,yah,yaT,List.length_nil,Int.ofNat_zero,Int.natCast_zero]
 · simp only [modV,Nat.reduceEqDiff,yal,yak,↓reduceIte,(eq_false (by decide) : ((0 : Nat) = 1) = False),(eq_false (by decide) : ((0 : Nat) = 2) = False),(eq_false (by decide) : ((1 : Nat) = 2) = False),(eq_false (by decide) : ((2 : Nat) = 1) = False)]
   cases h1 : nzP (t1,t2) with
   | false =>
     try simp -dsimp (maxSteps := 1000000) only [go_sem,↓reduceIte,yab,Tryz.f107,zAk,h1,zAa,zAb]
     simp [bareF,h1]
   | true =>
     cases h2 : nzP (s1,s2) with
     | false =>
       try simp -dsimp (maxSteps := 1000000) only [go_sem,↓reduceIte,yab,Tryz.f107,zAk,h1,h2,zAa,zAb]
       simp [bareF,h1,h2]
     | true =>
       by_cases p1 : (lv : Int) = 0
       rotate_left
       · have e1 := eq_false p1
         clear p1
         try simp -dsimp (maxSteps := 1000000) only [go_sem,↓reduceIte,yab,Tryz.f107,zAk,zAo,h1,h2,zAa,zAb,e1]
         all_goals (simp only [bareF,nz,h1,h2, *,yaU,yaS,yag,yah,yaT,List.length_nil,Int.ofNat_zero,Int.natCast_zero])
       have e1 := eq_true p1
       by_cases p2 : ra = 0
       rotate_left
       · have e2 := eq_false p2
         clear p2
         try simp -dsimp (maxSteps := 1000000) only [go_sem,↓reduceIte,yab,Tryz.f107,zAk,zAo,h1,h2,zAa,zAb,e1,e2]
         all_goals (simp only [bareF,nz,h1,h2, *,yaU,yaS,yag,yah,yaT,List.length_nil,Int.ofNat_zero,Int.natCast_zero])
       have e2 := eq_true p2
       by_cases p3 : rc = 0
       rotate_left
       · have e3 := eq_false p3
         clear p3
         try simp -dsimp (maxSteps := 1000000) only [go_sem,↓reduceIte,yab,Tryz.f107,zAk,zAo,h1,h2,zAa,zAb,e1,e2,e3]
         all_goals (simp only [bareF,nz,h1,h2, *,yaU,yaS,yag,yah,yaT,List.length_nil,Int.ofNat_zero,Int.natCast_zero])
       have e3 := eq_true p3
       by_cases p4 : (pts.length : Int) = 0
       rotate_left
       · have e4 := eq_false p4
         clear p4
         try simp -dsimp (maxSteps := 1000000) only [go_sem,↓reduceIte,yab,Tryz.f107,zAk,zAo,h1,h2,zAa,zAb,e1,e2,e3,e4]
         all_goals (simp only [bareF,nz,h1,h2, *,yaU,yaS,yag,yah,yaT,List.length_nil,Int.ofNat_zero,Int.natCast_zero])
       have e4 := eq_true p4
       by_cases p5 : (lab.length : Int) = 0
       rotate_left
       · have e5 := eq_false p5
         clear p5
         try simp -dsimp (maxSteps := 1000000) only [go_sem,↓reduceIte,yab,Tryz.f107,zAk,zAo,h1,h2,zAa,zAb,e1,e2,e3,e4,e5]
         all_goals (simp only [bareF,nz,h1,h2, *,yaU,yaS,yag,yah,yaT,List.length_nil,Int.ofNat_zero,Int.natCast_zero])
       have e5 := eq_true p5
       by_cases p6 : c = 0
       rotate_left
       · have e6 := eq_false p6
         clear p6
         try simp -dsimp (maxSteps := 1000000) only [go_sem,↓reduceIte,yab,Tryz.f107,zAk,zAo,h1,h2,zAa,zAb,e1,e2,e3,e4,e5,e6]
         all_goals (simp only [bareF,nz,h1,h2, *,yaU,yaS,yag,yah,yaT,List.length_nil,Int.ofNat_zero,Int.natCast_zero])
       have e6 := eq_true p6
       by_cases p7 : l = 0
       rotate_left
       · have e7 := eq_false p7
         clear p7
         try simp -dsimp (maxSteps := 1000000) only [go_sem,↓reduceIte,yab,Tryz.f107,zAk,zAo,h1,h2,zAa,zAb,e1,e2,e3,e4,e5,e6,e7]
         all_goals (simp only [bareF,nz,h1,h2, *,yaU,yaS,yag,yah,yaT,List.length_nil,Int.ofNat_zero,Int.natCast_zero])
       have e7 := eq_true p7
       clear p1 p2 p3 p4 p5 p6 p7
       try simp -dsimp (maxSteps := 1000000) only [go_sem,↓reduceIte,yab,Tryz.f107,zAk,zAo,h1,h2,zAa,zAb,e1,e2,e3,e4,e5,e6,e7]
       simp only [bareF,nz,h1,h2, *,yaU,yaS,yag,yah,yaT,List.length_nil,Int.ofNat_zero,Int.natCast_zero]
 · simp only [modV,Nat.reduceEqDiff,yal,yak,↓reduceIte,(eq_false (by decide) : ((0 : Nat) = 1) = False),(eq_false (by decide) : ((0 : Nat) = 2) = False),(eq_false (by decide) : ((1 : Nat) = 2) = False),(eq_false (by decide) : ((2 : Nat) = 1) = False)]
   cases h1 : nzP (t1,t2) with
   | false =>
     try simp -dsimp (maxSteps := 1000000) only [go_sem,↓reduceIte,yab,Tryz.f107,zAk,h1,zAa,zAb]
     simp [bareF,h1]
   | true =>
     cases h2 : nzP (s1,s2) with
     | false =>
       try simp -dsimp (maxSteps := 1000000) only [go_sem,↓reduceIte,yab,Tryz.f107,zAk,h1,h2,zAa,zAb]
       simp [bareF,h1,h2]
     | true =>
       by_cases p1 : (lv : Int) = 0
       rotate_left
       · have e1 := eq_false p1
         clear p1
         try simp -dsimp (maxSteps := 1000000) only [go_sem,↓reduceIte,yab,Tryz.f107,zAk,zAo,h1,h2,zAa,zAb,e1]
         all_goals (simp only [bareF,nz,h1,h2, *,yaU,yaS,yag,yah,yaT,List.length_nil,Int.ofNat_zero,Int.natCast_zero])
       have e1 := eq_true p1
       by_cases p2 : (st.length : Int) = 0
       rotate_left
       · have e2 := eq_false p2
         clear p2
         try simp -dsimp (maxSteps := 1000000) only [go_sem,↓reduceIte,yab,Tryz.f107,zAk,zAo,h1,h2,zAa,zAb,e1,e2]
         all_goals (simp only [bareF,nz,h1,h2, *,yaU,yaS,yag,yah,yaT,List.length_nil,Int.ofNat_zero,Int.natCast_zero])
       have e2 := eq_true p2
       by_cases p3 : ra = 0
       rotate_left
       · have e3 := eq_false p3
         clear p3
         try simp -dsimp (maxSteps := 1000000) only [go_sem,↓reduceIte,yab,Tryz.f107,zAk,zAo,h1,h2,zAa,zAb,e1,e2,e3]
         all_goals (simp only [bareF,nz,h1,h2, *,yaU,yaS,yag,yah,yaT,List.length_nil,Int.ofNat_zero,Int.natCast_zero])
       have e3 := eq_true p3
       by_cases p4 : rc = 0
       rotate_left
       · have e4 := eq_false p4
         clear p4
         try simp -dsimp (maxSteps := 1000000) only [go_sem,↓reduceIte,yab,Tryz.f107,zAk,zAo,h1,h2,zAa,zAb,e1,e2,e3,e4]
         all_goals (simp only [bareF,nz,h1,h2, *,yaU,yaS,yag,yah,yaT,List.length_nil,Int.ofNat_zero,Int.natCast_zero])
       have e4 := eq_true p4
       by_cases p5 : c = 0
       rotate_left
       · have e5 := eq_false p5
         clear p5
         try simp -dsimp (maxSteps := 1000000) only [go_sem,↓reduceIte,yab,Tryz.f107,zAk,zAo,h1,h2,zAa,zAb,e1,e2,e3,e4,e5]
         all_goals (simp only [bareF,nz,h1,h2, *,yaU,yaS,yag,yah,yaT,List.length_nil,Int.ofNat_zero,Int.natCast_zero])
       have e5 := eq_true p5
       by_cases p6 : l = 0
       rotate_left
       · have e6 := eq_false p6
         clear p6
         try simp -dsimp (maxSteps := 1000000) only [go_sem,↓reduceIte,yab,Tryz.f107,zAk,zAo,h1,h2,zAa,zAb,e1,e2,e3,e4,e5,e6]
         all_goals (simp only [bareF,nz,h1,h2, *,yaU,yaS,yag,yah,yaT,List.length_nil,Int.ofNat_zero,Int.natCast_zero])
       have e6 := eq_true p6
       clear p1 p2 p3 p4 p5 p6
       try simp -dsimp (maxSteps := 1000000) only [go_sem,↓reduceIte,yab,Tryz.f107,zAk,zAo,h1,h2,zAa,zAb,e1,e2,e3,e4,e5,e6]
       simp only [bareF,nz,h1,h2, *,yaU,yaS,yag,yah,yaT,List.length_nil,Int.ofNat_zero,Int.natCast_zero]
end Go.SX
namespace Go.SX
open Go Go.Proofs
def isModuleF (m : Mod) : Bool :=
 if m.kind = 1 then bareF { m with turn := (0,0),state := (0,0) }
 else if m.kind = 2 then bareF { m with turn := (0,0),state := (0,0) }
 else if m.kind = 3 then bareF { m with level := 0 }
 else if m.kind = 4 then (isRingF m.store m.rat m.rcnt && decide (m.rcnt = (m.store.length : Int))) && bareF { m with store := [],rat := 0,rcnt := 0 }
 else if m.kind = 5 then bareF m
 else if m.kind = 6 then isTableF m.pts m.lab && bareF { m with pts := [],lab := [],count := 0 }
 else if m.kind = 7 then (nz m.level || fcmp .gtr .f32 m.level 0) && bareF { m with level := 0 }
 else if m.kind = 8 then (decide (1 ≤ m.count) && (decide (m.count ≤ 100) && (decide (0 ≤ m.left) && decide (m.left < m.count)))) && bareF { m with state := (0,0),count := 0,left := 0 }
 else false
abbrev MdA := { m : Mod // OkM m }
noncomputable def zGj : Ct := fam true (fun x : MdA => ([.agg (modC x.1)],[])) (fun x => .one { val := .c (.im (.bool (isModuleF x.1))) })
theorem zBh {k : Int} {t1 t2 s1 s2 lv : Nat} {st : List Pt} {ra rc : Int} {pts : List Pt} {lab : List Int} {c l : Int} (hst : st.length ≤ sm) (hp : pts.length ≤ sm) (hl : lab.length ≤ sm) :
   zGj.run [.agg [.im (.int .i64 k),.im (.cpx .f32 t1 t2),.im (.cpx .f32 s1 s2),.im (.flt .f32 lv),.im (.sl 1 (rowsZ st)),.im (.int .i64 ra),.im (.int .i64 rc),.im (.sl 1 (rowsZ pts)),.im (.sl 1 (rowsN lab)),.im (.int .i64 c),.im (.int .i64 l)]] [] =
     some (.one { val := .c (.im (.bool (isModuleF ⟨k,(t1,t2),(s1,s2),lv,st,ra,rc,pts,lab,c,l⟩))) }) := by
 refine zAd (args := fun x : MdA => ([D.agg (modC x.1)],[])) ?_ ⟨⟨k,(t1,t2),(s1,s2),lv,st,ra,rc,pts,lab,c,l⟩,⟨hst,hp,hl⟩⟩
 rintro ⟨a,_⟩ ⟨b,_⟩ h
 simp at h ⊢
 exact zHu h
theorem zHi : Law Tryz.prog 45 zGj := by
 refine zAi (zAc zCp1 (zAc zCv1 (zAc zYx (zAc zHh zAf)))) hmixA Tryz.func45 rfl rfl (fun ⟨⟨k,⟨t1,t2⟩,⟨s1,s2⟩,lv,st,ra,rc,pts,lab,c,l⟩,⟨q1,q2,q3⟩⟩ => ⟨zAv rfl,by simp [Tryz.f45],?_⟩)
 simp only at q1 q2 q3
 simp only [modC]
 by_cases k1 : k = 1
 · subst k1
   try simp -dsimp (maxSteps := 1000000) only [go_sem,↓reduceIte,yab,Tryz.f45,zBz q1 q2 q3,isModuleF]
 by_cases k2 : k = 2
 · subst k2
   try simp -dsimp (maxSteps := 1000000) only [go_sem,↓reduceIte,yab,Tryz.f45,zBz q1 q2 q3,isModuleF,Int.reduceEq]
 by_cases k3 : k = 3
 · subst k3
   try simp -dsimp (maxSteps := 1000000) only [go_sem,↓reduceIte,yab,Tryz.f45,zBz q1 q2 q3,isModuleF,Int.reduceEq]
 by_cases k4 : k = 4
 · subst k4
   cases h1 : isRingF st ra rc with
   | false =>
     try simp -dsimp (maxSteps := 1000000) only [go_sem,↓reduceIte,yab,Tryz.f45,zIm q2 q3,zKl q1,h1,isModuleF,Int.reduceEq,yag]
     repeat' (first
       | ((with_reducible refine sl_i ?_ ?_); focus kernel_rfl)
       | ((with_reducible refine ro_e ?_); kernel_rfl))
   | true =>
     by_cases h2 : rc = (st.length : Int)
     · have h2' := eq_true h2
       clear h2
       try simp -dsimp (maxSteps := 1000000) only [go_sem,↓reduceIte,yab,Tryz.f45,zIm q2 q3,zKl q1,h1,h2',zAa,isModuleF,Int.reduceEq,yah]
       repeat' (first
         | ((with_reducible refine sl_i ?_ ?_); focus kernel_rfl)
         | ((with_reducible refine ro_e ?_); kernel_rfl))
     · have h2' := eq_false h2
       clear h2
       try simp -dsimp (maxSteps := 1000000) only [go_sem,↓reduceIte,yab,Tryz.f45,zIm q2 q3,zKl q1,h1,h2',zAa,isModuleF,Int.reduceEq,yah,yag]
       repeat' (first
         | ((with_reducible refine sl_i ?_ ?_); focus kernel_rfl)
         | ((with_reducible refine ro_e ?_); kernel_rfl))
 by_cases k5 : k = 5
 · subst k5
   try simp -dsimp (maxSteps := 1000000) only [go_sem,↓reduceIte,yab,Tryz.f45,zBz q1 q2 q3,isModuleF,Int.reduceEq]
 by_cases k6 : k = 6
 · subst k6
   cases h1 : isTableF pts lab with
   | false =>
     try simp -dsimp (maxSteps := 1000000) only [go_sem,↓reduceIte,yab,Tryz.f45,zNw q1,zIn q2 q3,h1,isModuleF,Int.reduceEq,yag]
   | true =>
     try simp -dsimp (maxSteps := 1000000) only [go_sem,↓reduceIte,yab,Tryz.f45,zNw q1,zIn q2 q3,h1,isModuleF,Int.reduceEq,yah]
 by_cases k7 : k = 7
 · subst k7
   by_cases h1 : (lv : Int) = 0
   · have h1' := eq_true h1
     clear h1
     try simp -dsimp (maxSteps := 1000000) only [go_sem,↓reduceIte,yab,Tryz.f45,zBz q1 q2 q3,zAo,h1',nz,isModuleF,Int.reduceEq,yaM,yah]
     repeat' (first
       | ((with_reducible refine sl_i ?_ ?_); focus kernel_rfl)
       | ((with_reducible refine ro_e ?_); kernel_rfl))
   · have h1' := eq_false h1
     clear h1
     cases h2 : fcmp .gtr .f32 lv 0 with
     | false =>
       try simp -dsimp (maxSteps := 1000000) only [go_sem,↓reduceIte,yab,Tryz.f45,zBz q1 q2 q3,zAo,h1',h2,nz,isModuleF,Int.reduceEq,yaN,yag]
       repeat' (first
         | ((with_reducible refine sl_i ?_ ?_); focus kernel_rfl)
         | ((with_reducible refine ro_e ?_); kernel_rfl))
     | true =>
       try simp -dsimp (maxSteps := 1000000) only [go_sem,↓reduceIte,yab,Tryz.f45,zBz q1 q2 q3,zAo,h1',h2,nz,isModuleF,Int.reduceEq,yaN,yah]
       repeat' (first
         | ((with_reducible refine sl_i ?_ ?_); focus kernel_rfl)
         | ((with_reducible refine ro_e ?_); kernel_rfl))
 by_cases k8 : k = 8
 · subst k8
   by_cases p1 : (1 : Int) ≤ c
   rotate_left
   · have e1 := eq_false p1
     clear p1
     try simp -dsimp (maxSteps := 1000000) only [go_sem,↓reduceIte,yab,Tryz.f45,zBz q1 q2 q3,isModuleF,Int.reduceEq,yag,yah,yaT,e1]
   have e1 := eq_true p1
   by_cases p2 : c ≤ 100
   rotate_left
   · have e2 := eq_false p2
     clear p2
     try simp -dsimp (maxSteps := 1000000) only [go_sem,↓reduceIte,yab,Tryz.f45,zBz q1 q2 q3,isModuleF,Int.reduceEq,yag,yah,yaT,e1,e2]
   have e2 := eq_true p2
   by_cases p3 : (0 : Int) ≤ l
   rotate_left
   · have e3 := eq_false p3
     clear p3
     try simp -dsimp (maxSteps := 1000000) only [go_sem,↓reduceIte,yab,Tryz.f45,zBz q1 q2 q3,isModuleF,Int.reduceEq,yag,yah,yaT,e1,e2,e3]
   have e3 := eq_true p3
   by_cases p4 : l < c
   rotate_left
   · have e4 := eq_false p4
     clear p4
     try simp -dsimp (maxSteps := 1000000) only [go_sem,↓reduceIte,yab,Tryz.f45,zBz q1 q2 q3,isModuleF,Int.reduceEq,yag,yah,yaT,e1,e2,e3,e4]
   have e4 := eq_true p4
   clear p1 p2 p3 p4
   try simp -dsimp (maxSteps := 1000000) only [go_sem,↓reduceIte,yab,Tryz.f45,zBz q1 q2 q3,e1,e2,e3,e4,isModuleF,Int.reduceEq,yah]
 have k1' := eq_false k1
 have k2' := eq_false k2
 have k3' := eq_false k3
 have k4' := eq_false k4
 have k5' := eq_false k5
 have k6' := eq_false k6
 have k7' := eq_false k7
 have k8' := eq_false k8
 clear k1 k2 k3 k4 k5 k6 k7 k8
 try simp -dsimp (maxSteps := 1000000) only [go_sem,↓reduceIte,yab,Tryz.f45,k1',k2',k3',k4',k5',k6',k7',k8',isModuleF]
def modT (m : Mod) : List T := [.im (.int .i64 m.kind),.im (.cpx .f32 m.turn.1 m.turn.2),.im (.cpx .f32 m.state.1 m.state.2),.im (.flt .f32 m.level),.own 1 (tI (rowsZ m.store)),.im (.int .i64 m.rat),.im (.int .i64 m.rcnt),.own 1 (tI (rowsZ m.pts)),.own 1 (tI (rowsN m.lab)),.im (.int .i64 m.count),.im (.int .i64 m.left)]
end Go.SX
namespace Go.SX
open Go Go.RowKit
variable {P : Program} {en : En} {g : Gh} {S : Nat → Option D} {H : Nat → Option Root} {a : Act} {w : World}
def NoPl (en : En) : Prop := ∀ b n,en.g0.own b ≠ some (n,[])
def enI (g : Gh) (w : World) : En := ⟨{ g with own := fun b => (g.own b).map fun x => (x.1,(0,0) :: x.2) },w,fun _ => 0⟩
theorem zTy : NoPl (enI g w) := fun b n h => by
 simp only [enI] at h
 cases g.own b with
 | none => simp at h
 | some x => simp at h
theorem Rel.enter (h : Rel en g S H a w) {S' : Nat → Option D} {ts : Array Value} (hs : ∀ t d,S' t = some d → ∃ v,ts[t]? = some v ∧ DV g d v) : Rel (enI g w) g S' H ⟨ts,[]⟩ w := by
 refine ⟨⟨h.fr.laid.move (fun b hb ho => ?_),rfl,rfl,rfl,Nat.le_refl _,⟨fun _ h => h,fun _ _ => rfl,fun _ _ => rfl,fun _ _ => rfl,fun _ _ _ h => h⟩,fun b _ ho => ⟨?_,rfl⟩,fun b n ho => (zTy b n ho).elim,fun b o v _ h => .inl h⟩,rfl,h.lt,h.fz,hs,h.roots,fun n r b _ ho => (zTy b n ho).elim⟩
 · obtain ⟨k1,k2⟩ := h.fr.old b hb ho
   exact ⟨by simp [enI,k1],k2⟩
 · simpa [enI] using ho
theorem zSa1 {g' : Gh} (h : (enI g w).g0.le g') : g.le g' := ⟨h.used,h.rb,h.base,h.rc,h.fz⟩
theorem Rel.leave (h : Rel en g S H a w) (hp : NoPl en) {g' : Gh} {S' : Nat → Option D} {H' : Nat → Option Root} {a' : Act} {w' : World} (h' : Rel (enI g w) g' S' H' a' w') : Rel en g' S H' a w' := by
 have hle := zSa1 h'.fr.gle
 have hsz : en.w0.heap.size ≤ w.heap.size := h.fr.size
 refine ⟨⟨h.fr.laid,h'.fr.os.trans h.fr.os,h'.fr.tape.trans h.fr.tape,h'.fr.output.trans h.fr.output,Nat.le_trans hsz h'.fr.size,h.fr.gle.trans hle,fun b hb ho => ?_,fun b n ho => (hp b n ho).elim,fun b o v hb hv => ?_⟩,h.df,h'.lt,h'.fz,fun t d ht => ?_,h'.roots,fun n r b _ ho => (hp b n ho).elim⟩
 · obtain ⟨k1,k2⟩ := h.fr.old b hb ho
   obtain ⟨k3,k4⟩ := h'.fr.old b (Nat.lt_of_lt_of_le hb hsz) (by simp [enI,k1])
   exact ⟨k3,k4.trans k2⟩
 · rcases h'.fr.fzn b o v (Nat.lt_of_lt_of_le hb hsz) hv with h1 | h1
   · exact h.fr.fzn b o v hb h1
   · right
     intro h2
     obtain ⟨k1,_⟩ := h.fr.old b hb h2
     exact h1 (by simp [enI,k1])
 · obtain ⟨v,hv,hd⟩ := h.slots t d ht
   exact ⟨v,hv,hd.mono hle⟩
def InlAt (P : Program) (k : FuncId) (ds : List D) (h : List (Nat × Option Root)) (n : Nat) (d : D) (h' : List (Nat × Option Root)) (n' : Nat) : Prop :=
 (∃ fn : Func, P.funcs[k]? = some fn ∧ (fn.name == "runtime.NumGoroutine") = false ∧ fn.body.isNone = false) ∧
 ∀ (en : En) (g : Gh) (S : Nat → Option D) (a : Act) (w : World) (args : List Value),NoPl en → (∀ m,g.used m → m < n) → Rel en g S (lk h) a w → args.length = ds.length →
   (∀ (j : Nat) (d : D) (v : Value),ds[j]? = some d → args[j]? = some v → DV g d v) →
   Calls P k args.toArray w (fun e w' => ∃ v g',e = .returned v ∧ (∀ m,g'.used m → m < n') ∧ Rel en g' S (lk h') a w' ∧ DV g' d v)
def inlK (P : Program) (k : FuncId) (ds : List D) (h : List (Nat × Option Root)) (n : Nat) (K : D → List (Nat × Option Root) → Nat → Prop) (_ : Tag K) : Prop :=
 ∃ d h' n',InlAt P k ds h n d h' n' ∧ K d h' n'
theorem zQp {k : FuncId} {ds : List D} {h : List (Nat × Option Root)} {n : Nat} {K : D → List (Nat × Option Root) → Nat → Prop} {t : Tag K} {d : D} {h' : List (Nat × Option Root)} {n' : Nat} (hI : InlAt P k ds h n d h' n') (hK : K d h' n') : inlK P k ds h n K t := ⟨d,h',n',hI,hK⟩
def callI (Φ : FuncId → Option Ct) (S : Nat → Option D) : Op → Option (FuncId × List Operand)
 | .call { callee := .value f,args := args,argTypes := _ } => match evC S f with
   | some (.fn (.func k) []) => match Φ k with
     | none => some (k,args.toList)
     | some _ => none
   | _ => none
 | _ => none
def regI (P : Program) (Φ : FuncId → Option Ct) (N : Nat) (ops : List Oper) : List Oper → St → (K : St → Prop) → Tag K → Prop
 | [],st,K,_ => K st
 | o :: r,st,K,t0 => dOk N o.dst ∧ o.guard = none ∧ match callI Φ (lk st.s) o.op with
   | some (k,args) => mK (evDs (lk st.s) args) (fun ds => inlK P k ds st.h st.n (fun d h n => regI P Φ N ops r ⟨putS o.dst (some d) st.s,h,n⟩ K t0) .mk) .mk
   | none => opR P Φ st.n (lk st.s) (lk st.h) o.op (fun val wr cnt => regI P Φ N ops r (st.eff o.dst val wr cnt) K t0) .mk
theorem zRq1 {N : Nat} {Q : Exit → Act → World → Prop} {o : Oper} {f : Operand} {args : Array Operand} {ts : Array TypeId} {k : FuncId} {S : Nat → Option D} {h0 : List (Nat × Option Root)} (hp : NoPl en) {n : Nat} (hu : ∀ m,g.used m → m < n) (h : Rel en g S (lk h0) a w) (hN : a.tmps.size = N) (hop : o.op = .call { callee := .value f,args := args,argTypes := ts }) (hf : evC S f = some (.fn (.func k) []))
   {ds : List D} (hd : evDs S args.toList = some ds) {d : D} {h' : List (Nat × Option Root)} {n' : Nat} (hI : InlAt P k ds h0 n d h' n') (hdst : ∀ t,o.dst = some t → t < N) :
   o.wp P a w (fun a' w' => ∃ g',(∀ m,g'.used m → m < n') ∧ Rel en g' (apS o.dst (some d) S) (lk h') a' w' ∧ a'.tmps.size = N) Q := by
 subst hN
 have hfv := zBn h hf
 generalize hfe : a.eval f = u at hfv
 have hds := zKy h hd
 cases hfv with
 | fn _ _ vs hvs hvr =>
   have hv0 : vs = #[] := Array.eq_empty_of_size_eq_zero hvs
   subst hv0
   have h1' : (execOp a.eval o).run P w = .ok (.enter k (args.map a.eval)) w := by
     simp [execOp,hop,resolve,hfe,Deferred.ofValue,invoke,zLc hI.1]
   have hargs : (args.toList.map a.eval).toArray = args.map a.eval := by
     rw [← Array.toList_inj]; simp
   have hcall := hI.2 en g S a w (args.toList.map a.eval) hp hu h (by simp [← hds.1]) hds.2
   rw [hargs] at hcall
   simp only [Oper.wp,h1',Oper.upon]
   refine hcall.mono fun e w' ⟨v,g',he,k1,k2,k3⟩ => ?_
   subst he
   exact ⟨g',k1,k2.putD hdst k3,zCd _ _ _⟩
theorem zKn {Φ : FuncId → Option Ct} (hΦ : Env P Φ) (hp : NoPl en) {N : Nat} {ops : List Oper} {Q : Exit → Act → World → Prop} {K : St → Prop} (hK : ∀ st a w,RelS en N st a w → K st → Q .normal a w) :
   ∀ (l : List Oper) (st : St) (tg : Tag K) (a : Act) (w : World),RelS en N st a w → regI P Φ N ops l st K tg → wpList P ops.toArray Q l a w
 | [],st,_,a,w,h,hx => hK st a w h hx
 | o :: r,st,tg,a,w,⟨g,hu,h,hN⟩,hx => by
   obtain ⟨hd,hg,hx⟩ := hx
   have hdst : ∀ t,o.dst = some t → t < N := fun t ht => by rw [ht] at hd; exact hd
   unfold wpList
   rw [if_pos (by simp [Region.wanted,hg])]
   refine .inl ?_
   split at hx
   · rename_i k args hc
     obtain ⟨ds,h1,d,h',n',hI,hk⟩ := mK_ex hx
     unfold callI at hc
     split at hc
     · rename_i f args' ts hop
       split at hc
       · rename_i k' hf
         split at hc
         · simp only [yay,Prod.mk.injEq] at hc
           obtain ⟨rfl,rfl⟩ := hc
           refine Oper.wp_mono (fun a' w' ⟨g',k1,k2,k3⟩ => ?_) (zRq1 hp hu h hN hop hf h1 hI hdst)
           exact zKn hΦ hp hK r _ tg a' w' ⟨g',k1,by simp only []; rw [zKr]; exact k2,k3⟩ hk
         · cases hc
       · cases hc
     · cases hc
   · refine Oper.wp_mono (fun a' w' ⟨e,_,hk,g',k1,k2,k3⟩ => ?_) (zOh hΦ h hN (fun _ _ h => h) (fun _ _ h => h) hx (fun val wr cnt _ m hm hc => by have := hu m hm; omega) hdst)
     exact zKn hΦ hp hK r _ tg a' w' (RelS.eff (N := N) (fun m hm => (k1 m hm).elim (fun h => by have := hu m h; omega) (fun h => h.2)) k2 k3) hk
def Les (st st' : St) : Prop := st.n ≤ st'.n ∧ (∀ t d,lk st'.s t = some d → lk st.s t = some d) ∧ ∀ m r,lk st'.h m = some r → lk st.h m = some r
def SubI (pn : Nat) (st st' : St) : Prop := (∃ fs,match folds pn fs st with
 | some st1 => Les st1 st'
 | none => False) ∨ Sub pn st st'
theorem RelS.subI {N pn : Nat} {st st' : St} (hpn : ∀ n,en.g0.used n → n < pn) (h : RelS en N st a w) (hs : SubI pn st st') : RelS en N st' a w := by
 rcases hs with ⟨fs,hs⟩ | hs
 · split at hs
   · rename_i st1 hf
     obtain ⟨h1,h2,h3⟩ := hs
     obtain ⟨g,hu,hR,hN⟩ := zEz hpn h hf
     exact ⟨g,fun m hm => Nat.lt_of_lt_of_le (hu m hm) h1,hR.less h2 h3,hN⟩
   · exact hs.elim
 · exact h.sub hpn hs
def loopI (pn : Nat) (body : (Ex → St → Prop) → St → Prop) (K : Ex → St → Prop) (_ : Tag body) (_ : Tag K) (st : St) : Prop :=
 ∃ (ι : Type) (F : ι → St) (μ : ι → Nat) (i0 : ι),SubI pn st (F i0) ∧ ∀ i,body (fun e st' => match e with
     | .norm => ∃ j,μ j < μ i ∧ SubI pn st' (F j)
     | e => K e st') (F i)
theorem zSe {pn : Nat} {body : (Ex → St → Prop) → St → Prop} {K : Ex → St → Prop} {tb : Tag body} {tK : Tag K} {st : St} {ι : Type} (F : ι → St) (μ : ι → Nat) (i0 : ι) (h0 : SubI pn st (F i0))
   (h : ∀ i,body (fun e st' => match e with
     | .norm => ∃ j,μ j < μ i ∧ SubI pn st' (F j)
     | e => K e st') (F i)) : loopI pn body K tb tK st := ⟨ι,F,μ,i0,h0,h⟩
def sxI (P : Program) (Φ : FuncId → Option Ct) (I : List Nat) (N pn : Nat) : Code → (K : Ex → St → Prop) → Tag K → St → Prop
 | .skip,K,_,st => K .norm st
 | .region id ops draw,K,_,st => match memb id I with
   | true => draw = false ∧ regI P Φ N ops.toList ops.toList st (fun st' => K .norm st') .mk
   | false => match draw with
     | false => regX P Φ N ops.toList ops.toList st (fun st' => K .norm st') .mk
     | true => slotsOk ops.toList = true ∧ drX P Φ N st.n ops.toList ops.toList 0 st [] (fun st' acc => rootsOk ops.toList st.n acc = true ∧ K .norm ⟨st'.s,st'.h,st.n + 8 * ops.toList.length⟩) .mk
 | .seq x y,K,t0,st => sxI P Φ I N pn x (fun e st' => match e with
     | .norm => sxI P Φ I N pn y K t0 st'
     | e => K e st') .mk st
 | .cond c x y,K,t0,st => match evI (lk st.s) c with
   | some (.bool b) => gS b true (sxI P Φ I N pn x K t0 st) (sxI P Φ I N pn y K t0 st) .mk .mk
   | _ => False
 | .block id c,K,_,st => sxI P Φ I N pn c (fun e st' => match e with
     | .exit id' => if id' = id then K .norm st' else K (.exit id') st'
     | e => K e st') .mk st
 | .loop c,K,_,st => loopI pn (fun K' st' => sxI P Φ I N pn c K' .mk st') K .mk .mk st
 | .scope c,K,t0,st => sxI P Φ I N pn c K t0 st
 | .exit id,K,_,st => K (.exit id) st
 | .ret,K,_,st => K .ret st
 | _,_,_,_ => False
theorem zDj {Φ : FuncId → Option Ct} (hΦ : Env P Φ) (hm : P.follows .mixedOrders = true) (hp : NoPl en) {I : List Nat} {N pn : Nat} (hpn : ∀ n,en.g0.used n → n < pn) :
   ∀ (c : Code) (K : Ex → St → Prop) (t0 : Tag K) (st : St) (a : Act) (w : World),RelS en N st a w → sxI P Φ I N pn c K t0 st → c.wp P (post en N K) a w
 | .skip,K,t0,st,a,w,h,hx => wp_skip ⟨st,h,hx⟩
 | .region id ops draw,K,t0,st,a,w,h,hx => by
   simp only [sxI] at hx
   split at hx
   · obtain ⟨rfl,hx⟩ := hx
     exact wp_region_list (zKn hΦ hp (K := fun st' => K .norm st') (fun st a w h1 h2 => ⟨st,h1,h2⟩) ops.toList st .mk a w h hx)
   · cases draw with
     | false => exact zEb (en := en) (pn := pn) hΦ hm hpn (.region id ops false) K t0 st a w h (by simpa [sx] using hx)
     | true => exact zEb (en := en) (pn := pn) hΦ hm hpn (.region id ops true) K t0 st a w h (by simpa [sx] using hx)
 | .seq x y,K,t0,st,a,w,h,hx => by
   refine wp_seq (Code.wp_mono (fun e a w hq => ?_) (zDj hΦ hm hp hpn x _ .mk st a w h hx))
   cases e with
   | normal => obtain ⟨st',h1,h2⟩ := hq; exact zDj hΦ hm hp hpn y K t0 st' a w h1 h2
   | exit id => exact hq
   | ret => exact hq
   | _ => exact hq.elim
 | .cond c x y,K,t0,st,a,w,h,hx => by
   simp only [sxI] at hx
   split at hx
   · rename_i b hb
     obtain ⟨g,hu,hR,hN⟩ := h
     have hv := (zBj hR hb).bool_inv
     exact wp_cond_split hv (fun ht => zDj hΦ hm hp hpn x K t0 st a w ⟨g,hu,hR,hN⟩ (hx.1 ht)) (fun ht => zDj hΦ hm hp hpn y K t0 st a w ⟨g,hu,hR,hN⟩ (hx.2 ht))
   · exact hx.elim
 | .block id c,K,t0,st,a,w,h,hx => by
   refine wp_block (Code.wp_mono (fun e a w hq => ?_) (zDj hΦ hm hp hpn c _ .mk st a w h hx))
   cases e with
   | normal => exact hq
   | exit id' =>
     obtain ⟨st',h1,h2⟩ := hq
     simp only [Exit.inBlock]
     split
     · rename_i e; simp only [e,yal] at h2; exact ⟨st',h1,h2⟩
     · rename_i e; simp only [e,yak] at h2; exact ⟨st',h1,h2⟩
   | ret => exact hq
   | _ => exact hq.elim
 | .loop c,K,t0,st,a,w,h,hx => by
   obtain ⟨ι,F,μ,i0,h0,hr⟩ := hx
   have key : ∀ (n : Nat) (i : ι) (a : Act) (w : World),μ i = n → RelS en N (F i) a w → ∀ (b : Frame) (k : List Item) (cs : List Frame),
       ∃ e a' w',post en N K e a' w' ∧ Arrives P (lone (b.at a (.code c :: .inLoop c :: k)) cs w) b k cs e a' w' := by
     intro n
     induction n using Nat.strongRecOn with
     | _ n ih =>
       intro i a w hn hi b k cs
       obtain ⟨e,a₁,w₁,hq,harr⟩ := zDj hΦ hm hp hpn c _ .mk (F i) a w hi (hr i) b (.inLoop c :: k) cs
       cases e with
       | normal =>
         obtain ⟨st',h1,j,hlt,hsub⟩ := hq
         obtain ⟨e₂,a₂,w₂,hq₂,harr₂⟩ := ih (μ j) (hn ▸ hlt) j a₁ w₁ rfl (h1.subI hpn hsub) b k cs
         exact ⟨e₂,a₂,w₂,hq₂,.of_steps (Steps.trans harr (.one step_inLoop)) harr₂⟩
       | exit id => exact ⟨.exit id,a₁,w₁,hq,.pass (x := .inLoop c) rfl (fun _ _ => .inl (by simp)) harr⟩
       | goto l => exact hq.elim
       | ret => exact ⟨.ret,a₁,w₁,hq,.pass (x := .inLoop c) rfl (fun _ _ => .inl (by simp)) harr⟩
       | panic ch => exact hq.elim
       | outgrown => exact hq.elim
   intro b k cs
   obtain ⟨e,a',w',hq,harr⟩ := key _ i0 a w rfl (h.subI hpn h0) b k cs
   exact ⟨e,a',w',hq,.of_steps (.one step_loop) harr⟩
 | .scope c,K,t0,st,a,w,h,hx => by
   refine wp_scope_straight (Code.wp_mono (fun e a w hq => ?_) (zDj hΦ hm hp hpn c K t0 st a w h hx))
   cases e <;> first | exact hq | exact hq.elim
 | .exit id,K,t0,st,a,w,h,hx => wp_exit ⟨st,h,hx⟩
 | .ret,K,t0,st,a,w,h,hx => wp_ret ⟨st,h,hx⟩
 | .rangeFunc _ _ _ _,K,t0,st,a,w,h,hx => by simp [sxI] at hx
 | .label _,K,t0,st,a,w,h,hx => by simp [sxI] at hx
 | .goto _,K,t0,st,a,w,h,hx => by simp [sxI] at hx
 | .refuse _,K,t0,st,a,w,h,hx => by simp [sxI] at hx
def inlF (P : Program) (rs : List ResultVar) (d : D) (h' : List (Nat × Option Root)) (n' : Nat) : Ex → St → Prop
 | .norm,st => mK (mapO (resD P (lk st.s) (lk st.h)) rs) (fun ds => resV ds = d ∧ st.n ≤ n' ∧ ∀ m r,lk h' m = some r → lk st.h m = some r) .mk
 | .ret,st => mK (mapO (resD P (lk st.s) (lk st.h)) rs) (fun ds => resV ds = d ∧ st.n ≤ n' ∧ ∀ m r,lk h' m = some r → lk st.h m = some r) .mk
 | .exit _,_ => False
theorem zWi {Φ : FuncId → Option Ct} (hΦ : Env P Φ) (hm : P.follows .mixedOrders = true) {f : FuncId} {fn : Func} {c : Code} (hf : P.funcs[f]? = some fn) (hb : fn.body = some c) (hnm : (fn.name == "runtime.NumGoroutine") = false)
   (I : List Nat) {ds : List D} {h : List (Nat × Option Root)} {n : Nat} {d : D} {h' : List (Nat × Option Root)} {n' : Nat} (hl : ds.length ≤ fn.ntmps)
   (hx : sxI P Φ I fn.ntmps n c (inlF P fn.results.toList d h' n') .mk ⟨entS id 0 ds,h,n⟩) : InlAt P f ds h n d h' n' := by
 refine ⟨⟨fn,hf,hnm,by rw [hb]; rfl⟩,fun en g S a w args hp hu hR hal hv => ?_⟩
 have hN : args.toArray.size ≤ fn.ntmps := by simpa [hal] using hl
 have hS : RelS (enI g w) fn.ntmps ⟨entS id 0 ds,h,n⟩ { tmps := args.toArray ++ Array.replicate (fn.ntmps - args.toArray.size) undef,defers := [] } w := by
   refine ⟨g,hu,hR.enter (fun t d ht => ?_),by simp; omega⟩
   simp only [zKt,yai,yal,Nat.sub_zero] at ht
   have ht' : ds[t]? = some d := by simpa using ht
   have hlt : t < args.length := by rw [hal]; exact (List.getElem?_eq_some_iff.1 ht').1
   refine ⟨args[t],?_,hv t d _ ht' (List.getElem?_eq_getElem hlt)⟩
   rw [Array.getElem?_append_left (by simpa using hlt)]
   simp [hlt]
 refine calls_of_wp hf hb (Code.wp_mono (fun e a1 w1 hq => ?_) (zDj hΦ hm zTy (pn := n) hu c _ .mk _ _ _ hS hx))
 have fin : ∀ st,RelS (enI g w) fn.ntmps st a1 w1 → inlF P fn.results.toList d h' n' .ret st → a1.defers = [] ∧ ∃ v,(results fn a1.tmps).run P w1 = .ok v w1 ∧ ∃ v' g',Ending.returned v = .returned v' ∧ (∀ m,g'.used m → m < n') ∧ Rel en g' S (lk h') a w1 ∧ DV g' d v' := by
   rintro st ⟨g1,hu1,hR1,hN1⟩ hfin
   obtain ⟨dl,h1,h2,h3,h4⟩ := mK_ex (t := .mk) hfin
   obtain ⟨v,k1,k2⟩ := zIq hR1 h1
   rw [h2] at k2
   exact ⟨hR1.df,v,k1,v,g1,rfl,fun m hm => Nat.lt_of_lt_of_le (hu1 m hm) h3,(hR.leave hp hR1).less (fun _ _ h => h) h4,k2⟩
 cases e with
 | normal => obtain ⟨st,h1,h2⟩ := hq; exact fin st h1 h2
 | ret => obtain ⟨st,h1,h2⟩ := hq; exact fin st h1 h2
 | exit id => obtain ⟨st,h1,h2⟩ := hq; exact h2.elim
 | _ => exact hq.elim
theorem zLc1 {Φ : FuncId → Option Ct} (hΦ : Env P Φ) (hm : P.follows .mixedOrders = true) {f : FuncId} {fn : Func} {c : Code} (hf : P.funcs[f]? = some fn) (hb : fn.body = some c) (hnm : (fn.name == "runtime.NumGoroutine") = false) (I : List Nat)
   {α : Type} {sc : Bool} {args : α → List D} {out : α → Outs}
   (h : ∀ a,(∀ res,(out a).mem res → OkR sc res) ∧ (args a).length ≤ fn.ntmps ∧ sxI P Φ I fn.ntmps 0 c (finK P fn.results.toList 0 (out a)) .mk ⟨entS id 0 (args a),[],0⟩) : Law P f (fam sc (fun a => (args a,[])) out) := by
 refine ⟨⟨fun ds hs o hr => ?_,fun ds hs o hr => ?_⟩,fn,hf,hnm,by rw [hb]; rfl⟩
 · simp only [fam] at hr
   split at hr
   · injection hr with hr; subst hr; exact (h _).1
   · cases hr
 · simp only [fam] at hr
   split at hr
   · rename_i hex
     injection hr with hr
     subst hr
     have hc := Classical.choose_spec hex
     generalize Classical.choose hex = a0 at hc ⊢
     simp only [Prod.mk.injEq] at hc
     obtain ⟨hd,hh⟩ := hc
     subst hh; subst hd
     intro en vs hal hpn hR
     obtain ⟨_,hlen,hx⟩ := h a0
     have hpn' : ∀ n,en.g0.used n → n < 0 := hpn
     have hp : NoPl en := fun b n hb => by have := hpn' n (hR.fr.place b n hb).1; omega
     have hN : vs.toArray.size ≤ fn.ntmps := by simpa [hal] using hlen
     have hS : RelS en fn.ntmps ⟨entS id 0 (args a0),[],0⟩ { tmps := vs.toArray ++ Array.replicate (fn.ntmps - vs.toArray.size) undef,defers := [] } en.w0 := by
       refine ⟨en.g0,hpn',⟨hR.fr,rfl,hR.lt,hR.fz,fun t d ht => ?_,fun n r hn => by simp [lk] at hn,fun n r b hn hb => by simp [lk] at hn⟩,by simp; omega⟩
       simp only [zKt,yai,yal,Nat.sub_zero] at ht
       obtain ⟨v,hv,hd⟩ := hR.slots t d (by simpa using ht)
       refine ⟨v,?_,hd⟩
       simp only [] at hv
       have hlt : t < vs.toArray.size := (Array.getElem?_eq_some_iff.1 hv).1
       rw [Array.getElem?_append_left hlt]; exact hv
     refine calls_of_wp hf hb (Code.wp_mono (fun e a w hq => ?_) (zDj hΦ hm hp (pn := 0) hpn' c _ .mk _ _ _ hS hx))
     have fin0 : ∀ st res,RelS en fn.ntmps st a w → finX P fn.results.toList 0 res st → a.defers = [] ∧ ∃ v,(results fn a.tmps).run P w = .ok v w ∧ ∃ v',Ending.returned v = .returned v' ∧ Done en res v' w := by
       rintro st res ⟨g,hu,hRg,hNg⟩ hfin
       obtain ⟨dl,h1,h2,h3⟩ := mK_ex hfin
       obtain ⟨v,k1,k2⟩ := zIq hRg h1
       refine ⟨hRg.df,v,k1,v,rfl,?_⟩
       split at h3
       · rename_i hr0
         refine ⟨g,[],lk st.s,lk st.h,a,_,hRg,.nil,by simp [hr0],fun m hm => by simp at hm,fun k r m hr _ => ?_,fun k c hc => by have := zVh h2 k c hc; simpa using this,h3,k2⟩
         rw [hr0] at hr; simp at hr
       · obtain ⟨ns,q1,q2,q3,q4⟩ := h3
         obtain ⟨q5,q6⟩ := zYd q3
         refine ⟨g,ns,lk st.s,lk st.h,a,_,hRg,q1,q5,fun m hm hu' => ?_,q6,fun k c hc => by have := zVh h2 k c hc; simpa using this,q4,k2⟩
         have := hpn' m hu'; omega
     have fin : ∀ st,RelS en fn.ntmps st a w → finO P fn.results.toList 0 (out a0) st → a.defers = [] ∧ ∃ v,(results fn a.tmps).run P w = .ok v w ∧ ∃ v',Ending.returned v = .returned v' ∧ ∃ res,(out a0).mem res ∧ Done en res v' w := by
       intro st hst hfin
       generalize out a0 = o at hfin ⊢
       cases o with
       | one r =>
         obtain ⟨k1,v,k2,v',k3,k4⟩ := fin0 st r hst hfin
         exact ⟨k1,v,k2,v',k3,r,rfl,k4⟩
       | any ι f =>
         obtain ⟨i,hfin⟩ := hfin
         obtain ⟨k1,v,k2,v',k3,k4⟩ := fin0 st (f i) hst hfin
         exact ⟨k1,v,k2,v',k3,f i,⟨i,rfl⟩,k4⟩
     cases e with
     | normal => obtain ⟨st,h1,h2⟩ := hq; exact fin st h1 h2
     | ret => obtain ⟨st,h1,h2⟩ := hq; exact fin st h1 h2
     | exit id => obtain ⟨st,h1,h2⟩ := hq; exact h2.elim
     | _ => exact hq.elim
   · cases hr
section eqs
variable {Φ : FuncId → Option Ct} {I : List Nat} {N pn nm : Nat}
theorem ixskip {K : Ex → St → Prop} {t0 : Tag K} {st : St} : sxI P Φ I N pn .skip K t0 st = K .norm st := by rw [sxI] <;> rfl
def regB (P : Program) (Φ : FuncId → Option Ct) (I : List Nat) (N : Nat) (ops : List Oper) (st : St) (b : Bool) (K : St → Prop) (_ : Tag K) : Prop := match b with
 | true => regI P Φ N ops ops st K .mk
 | false => regX P Φ N ops ops st K .mk
theorem rBt {ops : List Oper} {st : St} {K : St → Prop} {t : Tag K} : regB P Φ I N ops st true K t = regI P Φ N ops ops st K .mk := by simp only [regB]
theorem rBf {ops : List Oper} {st : St} {K : St → Prop} {t : Tag K} : regB P Φ I N ops st false K t = regX P Φ N ops ops st K .mk := by simp only [regB]
theorem ixreg0 {K : Ex → St → Prop} {t0 : Tag K} {st : St} {id : Nat} {ops : Array Oper} : sxI P Φ I N pn (.region id ops false) K t0 st = regB P Φ I N ops.toList st (memb id I) (fun st' => K .norm st') .mk := by
 rw [sxI]; unfold regB
 cases memb id I <;> simp
theorem ixreg1 {K : Ex → St → Prop} {t0 : Tag K} {st : St} {id : Nat} {ops : Array Oper} : sxI P Φ I N pn (.region id ops true) K t0 st = (memb id I = false ∧
   (slotsOk ops.toList = true ∧ drX P Φ N st.n ops.toList ops.toList 0 st [] (fun st' acc => rootsOk ops.toList st.n acc = true ∧ K .norm ⟨st'.s,st'.h,st.n + 8 * ops.toList.length⟩) .mk)) := by
 rw [sxI]
 cases memb id I <;> simp
theorem ixseq {K : Ex → St → Prop} {t0 : Tag K} {st : St} {x y : Code} : sxI P Φ I N pn (.seq x y) K t0 st = sxI P Φ I N pn x (fun e st' => match e with
     | .norm => sxI P Φ I N pn y K t0 st'
     | e => K e st') .mk st := by rw [sxI] <;> rfl
theorem ixcond {K : Ex → St → Prop} {t0 : Tag K} {st : St} {c : Operand} {x y : Code} : sxI P Φ I N pn (.cond c x y) K t0 st = (match evI (lk st.s) c with
   | some (.bool b) => gS b true (sxI P Φ I N pn x K t0 st) (sxI P Φ I N pn y K t0 st) .mk .mk
   | _ => False) := by rw [sxI] <;> rfl
theorem ixblock {K : Ex → St → Prop} {t0 : Tag K} {st : St} {id : Nat} {c : Code} : sxI P Φ I N pn (.block id c) K t0 st = sxI P Φ I N pn c (fun e st' => match e with
     | .exit id' => if id' = id then K .norm st' else K (.exit id') st'
     | e => K e st') .mk st := by rw [sxI] <;> rfl
theorem ixloop {K : Ex → St → Prop} {t0 : Tag K} {st : St} {c : Code} : sxI P Φ I N pn (.loop c) K t0 st = loopI pn (fun K' st' => sxI P Φ I N pn c K' .mk st') K .mk .mk st := by rw [sxI] <;> rfl
theorem ixscope {K : Ex → St → Prop} {t0 : Tag K} {st : St} {c : Code} : sxI P Φ I N pn (.scope c) K t0 st = sxI P Φ I N pn c K t0 st := by rw [sxI] <;> rfl
theorem ixexit {K : Ex → St → Prop} {t0 : Tag K} {st : St} {id : Nat} : sxI P Φ I N pn (.exit id) K t0 st = K (.exit id) st := by rw [sxI] <;> rfl
theorem ixret {K : Ex → St → Prop} {t0 : Tag K} {st : St} : sxI P Φ I N pn .ret K t0 st = K .ret st := by rw [sxI] <;> rfl
theorem zRo1 {ops : List Oper} {st : St} {K : St → Prop} {t0 : Tag K} : regI P Φ N ops [] st K t0 = K st := by rw [regI] <;> rfl
def ciM (P : Program) (Φ : FuncId → Option Ct) (s : List (Nat × Option D)) (h : List (Nat × Option Root)) (n : Nat) (c : Option (FuncId × List Operand)) (op : Op) (K : List D → FuncId → Prop) (A : Option D → List (Nat × Option Root) → Nat → Prop) (_ : Tag K) (_ : Tag A) : Prop := match c with
 | some (k,args) => mK (evDs (lk s) args) (fun ds => K ds k) .mk
 | none => opR P Φ n (lk s) (lk h) op A .mk
theorem ciMs {s : List (Nat × Option D)} {h : List (Nat × Option Root)} {n : Nat} {k : FuncId} {args : List Operand} {op : Op} {K : List D → FuncId → Prop} {A : Option D → List (Nat × Option Root) → Nat → Prop} {t : Tag K} {t' : Tag A} :
   ciM P Φ s h n (some (k,args)) op K A t t' = mK (evDs (lk s) args) (fun ds => K ds k) .mk := by simp only [ciM]
theorem ciMn {s : List (Nat × Option D)} {h : List (Nat × Option Root)} {n : Nat} {op : Op} {K : List D → FuncId → Prop} {A : Option D → List (Nat × Option Root) → Nat → Prop} {t : Tag K} {t' : Tag A} :
   ciM P Φ s h n none op K A t t' = opR P Φ n (lk s) (lk h) op A .mk := by simp only [ciM]
theorem zPr1 {ops r : List Oper} {dst : Option Nat} {op : Op} {ty : TypeId} {pos : String} {after : Array Edge} {s : List (Nat × Option D)} {h : List (Nat × Option Root)} {n : Nat} {K : St → Prop} {t0 : Tag K} :
   regI P Φ N ops ({ dst := dst,op := op,type := ty,pos := pos,after := after,guard := none } :: r) ⟨s,h,n⟩ K t0 =
     (dOk N dst ∧ ciM P Φ s h n (callI Φ (lk s) op) op (fun ds k => inlK P k ds h n (fun d h n => regI P Φ N ops r ⟨putS dst (some d) s,h,n⟩ K t0) .mk) (fun val wr cnt => regI P Φ N ops r ⟨putS dst val s,insW wr h,n + cnt⟩ K t0) .mk .mk) := by
 rw [regI]
 simp only [ciM,St.eff,true_and]
theorem zQe1 {S : Nat → Option D} {f : Operand} {args : Array Operand} {ts : Array TypeId} : callI Φ S (.call { callee := .value f,args := args,argTypes := ts }) = (match evC S f with
   | some (.fn (.func k) []) => match Φ k with
     | none => some (k,args.toList)
     | some _ => none
   | _ => none) := by simp only [callI]
theorem zTb1 {S : Nat → Option D} {b : Builtin} {args : Array Operand} {ts : Array TypeId} : callI Φ S (.call { callee := .builtin b,args := args,argTypes := ts }) = none := by simp only [callI]
theorem zQd1 {S : Nat → Option D} {t : TypeId} {x : Operand} : callI Φ S (.load t x) = none := by simp only [callI]
theorem zLj1 {S : Nat → Option D} {t : TypeId} {x y : Operand} : callI Φ S (.store t x y) = none := by simp only [callI]
theorem zQc1 {S : Nat → Option D} {x : Operand} : callI Φ S (.move x) = none := by simp only [callI]
theorem zHz1 {S : Nat → Option D} {x : Operand} : callI Φ S (.assign x) = none := by simp only [callI]
theorem zSz1 {S : Nat → Option D} {t : TypeId} {x : Operand} {i : Nat} : callI Φ S (.fieldAddr t x i) = none := by simp only [callI]
theorem zSy1 {S : Nat → Option D} {t : TypeId} {x : Operand} {i : Nat} : callI Φ S (.field t x i) = none := by simp only [callI]
theorem zSx1 {S : Nat → Option D} {t : TypeId} {x i : Operand} : callI Φ S (.indexAddr t x i) = none := by simp only [callI]
theorem zTa1 {S : Nat → Option D} {x : Operand} {i : Nat} : callI Φ S (.extract x i) = none := by simp only [callI]
end eqs
attribute [go_sem] ixskip ixreg0 ixreg1 ixseq ixcond ixblock ixloop ixscope ixexit ixret rBt rBf zRo1 zPr1 ciMs ciMn zQe1 zTb1 zQd1 zLj1 zQc1 zHz1 zSz1 zSy1 zSx1 zTa1 inlF
end Go.SX
namespace Go.SX
open Go Go.Proofs
noncomputable def zLu : Ct := fam true (fun x : Nat => ([.c (.im (.flt .f64 x)),.c (.im (.flt .f64 x))],[])) (fun _ => .one { val := .c (.im (.bool true)) })
theorem zJh (x : Nat) : zLu.run [.c (.im (.flt .f64 x)),.c (.im (.flt .f64 x))] [] = some (.one { val := .c (.im (.bool true)) }) := by
 refine zAd (args := fun x : Nat => ([D.c (.im (.flt .f64 x)),.c (.im (.flt .f64 x))],[])) ?_ x
 intro a b h
 simp only [Prod.mk.injEq,List.cons.injEq,D.c.injEq,C.im.injEq,I.flt.injEq,true_and,and_true,and_self] at h
 exact h
theorem zJs : Law Tryz.prog 47 zLu := by
 refine zAi zAf hmixA Tryz.func47 rfl rfl (fun x => ⟨zAv rfl,by simp [Tryz.f47],?_⟩)
 cases n1 : fcmp .neq .f64 x x with
 | true =>
   try simp -dsimp (maxSteps := 1000000) only [go_sem,↓reduceIte,yab,Tryz.f47,n1,yaM,yaD]
 | false =>
   have n2 : fcmp .eql .f64 x x = true := by
     have e : fcmp .neq .f64 x x = !(fcmp .eql .f64 x x) := rfl
     rw [e] at n1
     simpa using n1
   cases n3 : fcmp .eql .f64 x 0 with
   | true =>
     generalize hq : fop .quo .f64 4607182418800017408 x = q
     generalize hg : fcmp .gtr .f64 q 0 = b
     try simp -dsimp (maxSteps := 1000000) only [go_sem,↓reduceIte,yab,Tryz.f47,n1,n2,n3,hq,hg,yaN,yaD,yaS,eq_self,BEq.rfl]
   | false =>
     try simp -dsimp (maxSteps := 1000000) only [go_sem,↓reduceIte,yab,Tryz.f47,n1,n2,n3,yaN,yaD,yag,yaS,eq_self,BEq.rfl]
noncomputable def zIi : Ct := fam true (fun x : Nat × Nat => ([.c (.im (.cpx .f64 x.1 x.2)),.c (.im (.cpx .f64 x.1 x.2))],[])) (fun _ => .one { val := .c (.im (.bool true)) })
theorem zGw (x y : Nat) : zIi.run [.c (.im (.cpx .f64 x y)),.c (.im (.cpx .f64 x y))] [] = some (.one { val := .c (.im (.bool true)) }) := by
 refine zAd (args := fun x : Nat × Nat => ([D.c (.im (.cpx .f64 x.1 x.2)),.c (.im (.cpx .f64 x.1 x.2))],[])) ?_ (x,y)
 rintro ⟨a,b⟩ ⟨c,d⟩ h
 simp only [Prod.mk.injEq,List.cons.injEq,D.c.injEq,C.im.injEq,I.cpx.injEq,true_and,and_true,and_self] at h
 exact Prod.ext h.1 h.2
theorem zHf : Law Tryz.prog 46 zIi := by
 refine zAi (zAc zJs zAf) hmixA Tryz.func46 rfl rfl (fun ⟨x,y⟩ => ⟨zAv rfl,by simp [Tryz.f46],?_⟩)
 try simp -dsimp (maxSteps := 1000000) only [go_sem,↓reduceIte,yab,Tryz.f46,zJh,yaD]
abbrev ZsA := { l : List Pt // l.length ≤ sm }
abbrev NsA := { l : List Int // l.length ≤ sm }
noncomputable def zHn : Ct := fam true (fun l : ZsA => ([.c (.im (.sl 1 (rowsZ l.1))),.c (.im (.sl 1 (rowsZ l.1)))],[])) (fun _ => .one { val := .c (.im (.bool true)) })
theorem zGl {l : List Pt} (h : l.length ≤ sm) : zHn.run [.c (.im (.sl 1 (rowsZ l))),.c (.im (.sl 1 (rowsZ l)))] [] = some (.one { val := .c (.im (.bool true)) }) := by
 refine zAd (args := fun l : ZsA => ([D.c (.im (.sl 1 (rowsZ l.1))),.c (.im (.sl 1 (rowsZ l.1)))],[])) ?_ ⟨l,h⟩
 rintro ⟨a,_⟩ ⟨b,_⟩ h
 simp [zBm] at h ⊢
 exact h
theorem zGn : Law Tryz.prog 108 zHn := by
 refine zAi (zAc zHf zAf) hmixA Tryz.func108 rfl rfl (fun ⟨a,ha⟩ => ⟨zAv rfl,by simp [Tryz.f108],?_⟩)
 simp only at ha ⊢
 try simp -dsimp (maxSteps := 1000000) only [go_sem,↓reduceIte,yab,Tryz.f108,zAa,yaS,eq_self,ne_eq,ybc,yaU]
 refine zBa (ι := { k : Nat // k ≤ a.length }) (fun k => ⟨[(0,some (.c (.im (.sl 1 (rowsZ a))))),(1,some (.c (.im (.sl 1 (rowsZ a))))),(5,some (.c (.im (.int .i64 (k.1 : Int)))))],
   [],0⟩) (fun k => a.length - k.1) ⟨0,by simp⟩ ⟨[],[],by ((simp only [go_sem,↓reduceIte,yab,yai]) <;> (try (simp -dsimp only [go_sem,↓reduceIte,yab,yai]))) <;> simp⟩ (fun ⟨k,hk⟩ => ?_)
 simp only
 by_cases hlt : k < a.length
 · obtain ⟨⟨x,y⟩,hp⟩ : ∃ p,a[k]? = some p := ⟨_,List.getElem?_eq_getElem hlt⟩
   have hrow := zCt hp
   have hI : ((k : Int) < (a.length : Int)) = True := eq_true (by omega)
   have h0 : (0 ≤ (k : Int)) = True := eq_true (by omega)
   have hwr := zEn ha hlt
   try simp -dsimp (maxSteps := 1000000) only [go_sem,↓reduceIte,yab,Tryz.f108,hI,h0,Int.toNat_natCast,hrow,zGw,zOw,hwr,zAa]
   repeat' (first
     | ((with_reducible refine sl_i ?_ ?_); focus kernel_rfl)
     | ((with_reducible refine ro_i ?_ ?_); focus kernel_rfl))
   exact ⟨⟨k + 1,by omega⟩,by simp only []; omega,[],[],by (simp only [go_sem,↓reduceIte,yab,yai]) <;> simp⟩
 · have hI : ((k : Int) < (a.length : Int)) = False := eq_false (by omega)
   try simp -dsimp (maxSteps := 1000000) only [go_sem,↓reduceIte,yab,Tryz.f108,hI,zAa]
noncomputable def zXg : Ct := fam true (fun l : NsA => ([.c (.im (.sl 1 (rowsN l.1))),.c (.im (.sl 1 (rowsN l.1)))],[])) (fun _ => .one { val := .c (.im (.bool true)) })
theorem zCc1 {l : List Int} (h : l.length ≤ sm) : zXg.run [.c (.im (.sl 1 (rowsN l))),.c (.im (.sl 1 (rowsN l)))] [] = some (.one { val := .c (.im (.bool true)) }) := by
 refine zAd (args := fun l : NsA => ([D.c (.im (.sl 1 (rowsN l.1))),.c (.im (.sl 1 (rowsN l.1)))],[])) ?_ ⟨l,h⟩
 rintro ⟨a,_⟩ ⟨b,_⟩ h
 simp [zBs] at h ⊢
 exact h
theorem zCu1 : Law Tryz.prog 109 zXg := by
 refine zAi zAf hmixA Tryz.func109 rfl rfl (fun ⟨a,ha⟩ => ⟨zAv rfl,by simp [Tryz.f109],?_⟩)
 simp only at ha ⊢
 try simp -dsimp (maxSteps := 1000000) only [go_sem,↓reduceIte,yab,Tryz.f109,zAb,yaS,eq_self,ne_eq,ybc,yaU]
 refine zBa (ι := { k : Nat // k ≤ a.length }) (fun k => ⟨[(0,some (.c (.im (.sl 1 (rowsN a))))),(1,some (.c (.im (.sl 1 (rowsN a))))),(5,some (.c (.im (.int .i64 (k.1 : Int)))))],
   [],0⟩) (fun k => a.length - k.1) ⟨0,by simp⟩ ⟨[],[],by ((simp only [go_sem,↓reduceIte,yab,yai]) <;> (try (simp -dsimp only [go_sem,↓reduceIte,yab,yai]))) <;> simp⟩ (fun ⟨k,hk⟩ => ?_)
 simp only
 by_cases hlt : k < a.length
 · obtain ⟨x,hp⟩ : ∃ p,a[k]? = some p := ⟨_,List.getElem?_eq_getElem hlt⟩
   have hrow := zFv hp
   have hI : ((k : Int) < (a.length : Int)) = True := eq_true (by omega)
   have h0 : (0 ≤ (k : Int)) = True := eq_true (by omega)
   have hwr := zEn ha hlt
   try simp -dsimp (maxSteps := 1000000) only [go_sem,↓reduceIte,yab,Tryz.f109,hI,h0,Int.toNat_natCast,hrow,hwr,zAb,yaS,eq_self,ne_eq,ybc,yaU]
   repeat' (first
     | ((with_reducible refine sl_i ?_ ?_); focus kernel_rfl)
     | ((with_reducible refine ro_i ?_ ?_); focus kernel_rfl))
   exact ⟨⟨k + 1,by omega⟩,by simp only []; omega,[],[],by (simp only [go_sem,↓reduceIte,yab,yai]) <;> simp⟩
 · have hI : ((k : Int) < (a.length : Int)) = False := eq_false (by omega)
   try simp -dsimp (maxSteps := 1000000) only [go_sem,↓reduceIte,yab,Tryz.f109,hI,zAb]
noncomputable def zXf : Ct := fam true (fun x : ZsA × Int × Int => ([.agg [.im (.sl 1 (rowsZ x.1.1)),.im (.int .i64 x.2.1),.im (.int .i64 x.2.2)],.agg [.im (.sl 1 (rowsZ x.1.1)),.im (.int .i64 x.2.1),.im (.int .i64 x.2.2)]],[])) (fun _ => .one { val := .c (.im (.bool true)) })
theorem zCa1 {l : List Pt} (hl : l.length ≤ sm) (a c : Int) : zXf.run [.agg [.im (.sl 1 (rowsZ l)),.im (.int .i64 a),.im (.int .i64 c)],.agg [.im (.sl 1 (rowsZ l)),.im (.int .i64 a),.im (.int .i64 c)]] [] = some (.one { val := .c (.im (.bool true)) }) := by
 refine zAd (args := fun x : ZsA × Int × Int => ([D.agg [.im (.sl 1 (rowsZ x.1.1)),.im (.int .i64 x.2.1),.im (.int .i64 x.2.2)],.agg [.im (.sl 1 (rowsZ x.1.1)),.im (.int .i64 x.2.1),.im (.int .i64 x.2.2)]],[])) ?_ (⟨l,hl⟩,a,c)
 rintro ⟨⟨a,_⟩,c⟩ ⟨⟨a',_⟩,c'⟩ h
 simp [zBm] at h ⊢
 simp [h,Prod.ext_iff]
theorem zCs1 : Law Tryz.prog 48 zXf := by
 refine zAi (zAc zGn zAf) hmixA Tryz.func48 rfl rfl (fun ⟨⟨l,hl⟩,a,c⟩ => ⟨zAv rfl,by simp [Tryz.f48],?_⟩)
 simp only at hl ⊢
 try simp -dsimp (maxSteps := 1000000) only [go_sem,↓reduceIte,yab,Tryz.f48,zGl hl,yaS,eq_self,ne_eq,ybc,yaU]
noncomputable def zRb : Ct := fam true (fun x : ZsA × NsA => ([.agg [.im (.sl 1 (rowsZ x.1.1)),.im (.sl 1 (rowsN x.2.1))],.agg [.im (.sl 1 (rowsZ x.1.1)),.im (.sl 1 (rowsN x.2.1))]],[])) (fun _ => .one { val := .c (.im (.bool true)) })
theorem zXz {l : List Pt} (hl : l.length ≤ sm) {m : List Int} (hm : m.length ≤ sm) : zRb.run [.agg [.im (.sl 1 (rowsZ l)),.im (.sl 1 (rowsN m))],.agg [.im (.sl 1 (rowsZ l)),.im (.sl 1 (rowsN m))]] [] = some (.one { val := .c (.im (.bool true)) }) := by
 refine zAd (args := fun x : ZsA × NsA => ([D.agg [.im (.sl 1 (rowsZ x.1.1)),.im (.sl 1 (rowsN x.2.1))],.agg [.im (.sl 1 (rowsZ x.1.1)),.im (.sl 1 (rowsN x.2.1))]],[])) ?_ (⟨l,hl⟩,⟨m,hm⟩)
 rintro ⟨⟨a,_⟩,⟨c,_⟩⟩ ⟨⟨a',_⟩,⟨c',_⟩⟩ h
 simp [zBm,zBs] at h ⊢
 simp [h]
theorem zYv : Law Tryz.prog 49 zRb := by
 refine zAi (zAc zGn (zAc zCu1 zAf)) hmixA Tryz.func49 rfl rfl (fun ⟨⟨l,hl⟩,⟨m,hm⟩⟩ => ⟨zAv rfl,by simp [Tryz.f49],?_⟩)
 simp only at hl hm ⊢
 try simp -dsimp (maxSteps := 1000000) only [go_sem,↓reduceIte,yab,Tryz.f49,zGl hl,zCc1 hm,yaS,eq_self,ne_eq,ybc,yaU]
noncomputable def zPh : Ct := fam true (fun x : MdA => ([.agg (modC x.1),.agg (modC x.1)],[])) (fun x => .one { val := .c (.im (.bool true)) })
theorem zUy {k : Int} {t1 t2 s1 s2 lv : Nat} {st : List Pt} {ra rc : Int} {pts : List Pt} {lab : List Int} {c l : Int} (hst : st.length ≤ sm) (hp : pts.length ≤ sm) (hl : lab.length ≤ sm) :
   zPh.run [.agg [.im (.int .i64 k),.im (.cpx .f32 t1 t2),.im (.cpx .f32 s1 s2),.im (.flt .f32 lv),.im (.sl 1 (rowsZ st)),.im (.int .i64 ra),.im (.int .i64 rc),.im (.sl 1 (rowsZ pts)),.im (.sl 1 (rowsN lab)),.im (.int .i64 c),.im (.int .i64 l)],.agg [.im (.int .i64 k),.im (.cpx .f32 t1 t2),.im (.cpx .f32 s1 s2),.im (.flt .f32 lv),.im (.sl 1 (rowsZ st)),.im (.int .i64 ra),.im (.int .i64 rc),.im (.sl 1 (rowsZ pts)),.im (.sl 1 (rowsN lab)),.im (.int .i64 c),.im (.int .i64 l)]] [] =
     some (.one { val := .c (.im (.bool true)) }) := by
 refine zAd (args := fun x : MdA => ([D.agg (modC x.1),.agg (modC x.1)],[])) ?_ ⟨⟨k,(t1,t2),(s1,s2),lv,st,ra,rc,pts,lab,c,l⟩,⟨hst,hp,hl⟩⟩
 rintro ⟨a,_⟩ ⟨b,_⟩ h
 simp at h ⊢
 exact zHu h
theorem zWd : Law Tryz.prog 9 zPh := by
 refine zAi (zAc zHf (zAc zJs (zAc zCs1 (zAc zYv zAf)))) hmixA Tryz.func9 rfl rfl (fun ⟨⟨k,⟨t1,t2⟩,⟨s1,s2⟩,lv,st,ra,rc,pts,lab,c,l⟩,⟨q1,q2,q3⟩⟩ => ⟨zAv rfl,by simp [Tryz.f9],?_⟩)
 simp only at q1 q2 q3
 simp only [modC]
 try simp -dsimp (maxSteps := 1000000) only [go_sem,↓reduceIte,yab,Tryz.f9,zGw,zJh,zOw,zCa1 q1,zXz q2 q3,yaS,eq_self,ne_eq,ybc,yaU]
end Go.SX
namespace Go.SX
open Go Go.Proofs Ieee
theorem zQa1 : ∀ a : Nat,a < 64 → ∀ b : Nat,b < 64 → fconv .f64 (FloatKind.f64.nearest ((64 * a + b : Nat) : Int)) .f32 = some (wI ((64 * a + b : Nat) : Int)) := by decide +kernel
theorem zBa1 {k : Nat} (h : k < 4096) : fconv .f64 (FloatKind.f64.nearest (k : Int)) .f32 = some (wI (k : Int)) := by
 have := zQa1 (k / 64) (by omega) (k % 64) (by omega)
 rwa [Nat.div_add_mod] at this
theorem zLe1 : ∀ a : Nat,a < 64 → ∀ b : Nat,b < 64 → fcmp .eql .f32 (wI ((64 * a + b : Nat) : Int)) (wI ((64 * a + b : Nat) : Int)) = true := by decide +kernel
theorem zTg {k : Nat} (h : k < 4096) : fcmp .eql .f32 (wI (k : Int)) (wI (k : Int)) = true := by
 have := zLe1 (k / 64) (by omega) (k % 64) (by omega)
 rwa [Nat.div_add_mod] at this
theorem zAz1 : fconv .f64 4607182418800017408 .f32 = some 1065353216 := by decide +kernel
theorem zHk1 : fcmp .eql .f32 1065353216 1065353216 = true := by decide +kernel
def mkZ (k n : Nat) : List Pt := (List.range n).map fun i => (wI ((k + i : Nat) : Int),1065353216)
def mkN (k n : Nat) : List Int := (List.range n).map fun i => ((k + i : Nat) : Int)
theorem zFh (k n : Nat) : (mkZ k n).length = n := by simp [mkZ]
theorem zFi (k n : Nat) : (mkN k n).length = n := by simp [mkN]
theorem zRh1 {k n i : Nat} (h : i < n) : (mkZ k n)[i]? = some (wI ((k + i : Nat) : Int),1065353216) := by simp [mkZ,h]
theorem zRi1 {k n i : Nat} (h : i < n) : (mkN k n)[i]? = some ((k + i : Nat) : Int) := by simp [mkN,h]
theorem zKb1 (k n : Nat) : mkZ k (n + 1) = mkZ k n ++ [(wI ((k + n : Nat) : Int),1065353216)] := by simp [mkZ,List.range_succ]
theorem zKc1 (k n : Nat) : mkN k (n + 1) = mkN k n ++ [((k + n : Nat) : Int)] := by simp [mkN,List.range_succ]
abbrev KN := { p : Nat × Nat // p.1 + p.2 ≤ 4096 }
noncomputable def zBl1 : Ct := fam true (fun p : KN => ([.c (.im (.sl 1 (rowsZ (mkZ p.1.1 p.1.2)))),.c (.im (.int .i64 (p.1.1 : Int)))],[])) (fun p => .one { val := .c (.im (.int .i64 ((p.1.1 + p.1.2 : Nat) : Int))) })
theorem zUw {k n : Nat} (h : k + n ≤ 4096) : zBl1.run [.c (.im (.sl 1 (rowsZ (mkZ k n)))),.c (.im (.int .i64 (k : Int)))] [] = some (.one { val := .c (.im (.int .i64 ((k + n : Nat) : Int))) }) := by
 refine zAd (args := fun p : KN => ([D.c (.im (.sl 1 (rowsZ (mkZ p.1.1 p.1.2)))),.c (.im (.int .i64 (p.1.1 : Int)))],[])) ?_ ⟨(k,n),h⟩
 rintro ⟨⟨a,b⟩,_⟩ ⟨⟨a',b'⟩,_⟩ h
 simp only [Prod.mk.injEq,List.cons.injEq,D.c.injEq,C.im.injEq,I.sl.injEq,I.int.injEq,true_and,and_true,Int.natCast_inj] at h
 obtain ⟨h1,rfl⟩ := h
 have := congrArg List.length h1
 simp only [zAa,zFh] at this
 subst this; rfl
theorem zGm1 : Law Tryz.prog 112 zBl1 := by
 refine zAi zAf hmixA Tryz.func112 rfl rfl (fun ⟨⟨k0,n⟩,hk⟩ => ⟨zAv rfl,by simp [Tryz.f112],?_⟩)
 simp only at hk ⊢
 have hsm : sm = 16777216 := rfl
 have hl : (mkZ k0 n).length = n := zFh _ _
 have hat : ∀ i,i < n → ∃ w,(mkZ k0 n)[i]? = some (w,1065353216) ∧ fconv .f64 (FloatKind.f64.nearest ((k0 + i : Nat) : Int)) .f32 = some w ∧ fcmp .eql .f32 w w = true := fun i hi =>
   ⟨_,zRh1 hi,zBa1 (by omega),zTg (by omega)⟩
 generalize mkZ k0 n = L at *
 try simp -dsimp (maxSteps := 1000000) only [go_sem,↓reduceIte,yab,Tryz.f112,zAa,hl]
 refine zBa (ι := { k : Nat // k ≤ n }) (fun k => ⟨[(0,some (.c (.im (.sl 1 (rowsZ L))))),(1,some (.c (.im (.int .i64 ((k0 + k.1 : Nat) : Int))))),(5,some (.c (.im (.int .i64 (k.1 : Int)))))],
   [],0⟩) (fun k => n - k.1) ⟨0,by simp⟩ ⟨[],[],by ((simp only [go_sem,↓reduceIte,yab,yai]) <;> (try (simp -dsimp only [go_sem,↓reduceIte,yab,yai]))) <;> simp⟩ (fun ⟨k,hkn⟩ => ?_)
 simp only
 by_cases hlt : k < n
 · obtain ⟨w,hp,h1,h2⟩ := hat k hlt
   have hrow := zCt hp
   have hI : ((k : Int) < (n : Int)) = True := eq_true (by omega)
   have h0 : (0 ≤ (k : Int)) = True := eq_true (by omega)
   have hwr : IntKind.i64.wrap ((k : Int) + 1) = ((k + 1 : Nat) : Int) := by rw [zAg] <;> omega
   have hwk : IntKind.i64.wrap (((k0 + k : Nat) : Int) + 1) = ((k0 + (k + 1) : Nat) : Int) := by rw [zAg] <;> omega
   try simp -dsimp (maxSteps := 1000000) only [go_sem,↓reduceIte,yab,Tryz.f112,hI,h0,Int.toNat_natCast,hrow,h1,h2,zAz1,zHk1,hwr,hwk,zAa,hl,yaD,yaH]
   exact ⟨⟨k + 1,by omega⟩,by simp only []; omega,[],[],by (simp only [go_sem,↓reduceIte,yab,yai]) <;> simp⟩
 · have hI : ((k : Int) < (n : Int)) = False := eq_false (by omega)
   have hkn' : k = n := by omega
   subst hkn'
   try simp -dsimp (maxSteps := 1000000) only [go_sem,↓reduceIte,yab,Tryz.f112,hI,zAa,hl]
noncomputable def zBk1 : Ct := fam true (fun p : KN => ([.c (.im (.sl 1 (rowsN (mkN p.1.1 p.1.2)))),.c (.im (.int .i64 (p.1.1 : Int)))],[])) (fun p => .one { val := .c (.im (.int .i64 ((p.1.1 + p.1.2 : Nat) : Int))) })
theorem zEd1 {k n : Nat} (h : k + n ≤ 4096) : zBk1.run [.c (.im (.sl 1 (rowsN (mkN k n)))),.c (.im (.int .i64 (k : Int)))] [] = some (.one { val := .c (.im (.int .i64 ((k + n : Nat) : Int))) }) := by
 refine zAd (args := fun p : KN => ([D.c (.im (.sl 1 (rowsN (mkN p.1.1 p.1.2)))),.c (.im (.int .i64 (p.1.1 : Int)))],[])) ?_ ⟨(k,n),h⟩
 rintro ⟨⟨a,b⟩,_⟩ ⟨⟨a',b'⟩,_⟩ h
 simp only [Prod.mk.injEq,List.cons.injEq,D.c.injEq,C.im.injEq,I.sl.injEq,I.int.injEq,true_and,and_true,Int.natCast_inj] at h
 obtain ⟨h1,rfl⟩ := h
 have := congrArg List.length h1
 simp only [zAb,zFi] at this
 subst this; rfl
theorem zGl1 : Law Tryz.prog 113 zBk1 := by
 refine zAi zAf hmixA Tryz.func113 rfl rfl (fun ⟨⟨k0,n⟩,hk⟩ => ⟨zAv rfl,by simp [Tryz.f113],?_⟩)
 simp only at hk ⊢
 have hl : (mkN k0 n).length = n := zFi _ _
 have hat : ∀ i,i < n → (mkN k0 n)[i]? = some ((k0 + i : Nat) : Int) := fun i hi => zRi1 hi
 generalize mkN k0 n = L at *
 try simp -dsimp (maxSteps := 1000000) only [go_sem,↓reduceIte,yab,Tryz.f113,zAb,hl]
 refine zBa (ι := { k : Nat // k ≤ n }) (fun k => ⟨[(0,some (.c (.im (.sl 1 (rowsN L))))),(1,some (.c (.im (.int .i64 ((k0 + k.1 : Nat) : Int))))),(5,some (.c (.im (.int .i64 (k.1 : Int)))))],
   [],0⟩) (fun k => n - k.1) ⟨0,by simp⟩ ⟨[],[],by ((simp only [go_sem,↓reduceIte,yab,yai]) <;> (try (simp -dsimp only [go_sem,↓reduceIte,yab,yai]))) <;> simp⟩ (fun ⟨k,hkn⟩ => ?_)
 simp only
 by_cases hlt : k < n
 · have hrow := zFv (hat k hlt)
   have hI : ((k : Int) < (n : Int)) = True := eq_true (by omega)
   have h0 : (0 ≤ (k : Int)) = True := eq_true (by omega)
   have hwr : IntKind.i64.wrap ((k : Int) + 1) = ((k + 1 : Nat) : Int) := by rw [zAg] <;> omega
   have hwk : IntKind.i64.wrap (((k0 + k : Nat) : Int) + 1) = ((k0 + (k + 1) : Nat) : Int) := by rw [zAg] <;> omega
   try simp -dsimp (maxSteps := 1000000) only [go_sem,↓reduceIte,yab,Tryz.f113,hI,h0,Int.toNat_natCast,hrow,hwr,hwk,zAb,hl,ne_eq,eq_self,ybc,yaU]
   exact ⟨⟨k + 1,by omega⟩,by simp only []; omega,[],[],by (simp only [go_sem,↓reduceIte,yab,yai]) <;> simp⟩
 · have hI : ((k : Int) < (n : Int)) = False := eq_false (by omega)
   have hkn' : k = n := by omega
   subst hkn'
   try simp -dsimp (maxSteps := 1000000) only [go_sem,↓reduceIte,yab,Tryz.f113,hI,zAb,hl]
end Go.SX
namespace Go.SX
open Go Go.Proofs Ieee
theorem zRm1 {α : Type} {h h1 : List (Nat × Option α)} (e : ∀ m,lk h1 m = lk h m) : lk h1 = lk h := funext e
theorem InlAt.conv {P : Program} {k : FuncId} {ds : List D} {h h1 h' : List (Nat × Option Root)} {n n' : Nat} {d : D} (hI : InlAt P k ds h1 n d h' n') (e : ∀ m,lk h1 m = lk h m) : InlAt P k ds h n d h' n' := by
 have := zRm1 e
 refine ⟨hI.1,fun en g S a w args h1 h2 h3 h4 h5 => hI.2 en g S a w args h1 h2 ?_ h4 h5⟩
 rw [this]; exact h3
theorem zSg {h : List (Nat × Option Root)} {n : Nat} {r : Root} (e : lk h n = some r) (m : Nat) : lk ((n,some r) :: h) m = lk h m := by
 simp only [lk]
 split
 · rename_i e1; subst e1; exact e.symm
 · rfl
theorem zSl1 (l : List Pt) (k : Nat) (a b : Nat) : (tI (rowsZ l)).set k [T.im (.cpx .f32 a b)] = tI (rowsZ (l.set k (a,b))) := by simp [tI,rowsZ,List.map_set]
theorem zSm1 (l : List Int) (k : Nat) (a : Int) : (tI (rowsN l)).set k [T.im (.int .i64 a)] = tI (rowsN (l.set k a)) := by simp [tI,rowsN,List.map_set]
theorem zNf {pn : Nat} {st st' : St} (h1 : st.n ≤ st'.n) (h2 : ∀ p ∈ st'.s,∀ d,p.2 = some d → lk st.s p.1 = some d) (h3 : st.h = st'.h) : SubI pn st st' := by
 refine .inl ⟨[],h1,fun t d ht => h2 _ (zJr ht) d rfl,fun m r hr => ?_⟩
 rw [h3]; exact hr
theorem zWk {h : List (Nat × Option Root)} {nm n k0 : Nat} {zs : List Pt} (hH : lk h n = some (.arr 1 (tI (rowsZ zs)))) (hk : k0 + zs.length ≤ 4096) :
   InlAt Tryz.prog 110 [.c (.view n 1 0 zs.length),.c (.im (.int .i64 (k0 : Int)))] h nm (.c (.im (.int .i64 ((k0 + zs.length : Nat) : Int)))) ((n,some (.arr 1 (tI (rowsZ (mkZ k0 zs.length))))) :: h) nm := by
 refine InlAt.conv (h1 := (n,some (.arr 1 (tI (rowsZ zs)))) :: h) ?_ (zSg hH)
 clear hH
 refine zWi (Φ := phi []) zAf hmixA Tryz.func110 rfl rfl [] (by simp [Tryz.f110]) ?_
 obtain ⟨n0,hn0⟩ : ∃ m,zs.length = m := ⟨_,rfl⟩
 rw [hn0] at hk ⊢
 have hfc : ∀ i,i < n0 → ∃ w,wI ((k0 + i : Nat) : Int) = w ∧ fconv .f64 (FloatKind.f64.nearest ((k0 + i : Nat) : Int)) .f32 = some w := fun i hi => ⟨_,rfl,zBa1 (by omega)⟩
 have hL0 : ∀ i,i < n0 → (mkZ k0 i ++ zs.drop i)[i]? = some (zs.getD i (0,0)) := fun i hi => by
   rw [List.getElem?_append_right (by simp [zFh])]
   simp only [zFh,Nat.sub_self,List.getElem?_drop,yaP,List.getD_eq_getElem?_getD]
   rw [List.getElem?_eq_getElem (by omega)]; rfl
 have hLs : ∀ i,i < n0 → (mkZ k0 i ++ zs.drop i).set i (wI ((k0 + i : Nat) : Int),1065353216) = mkZ k0 (i + 1) ++ zs.drop (i + 1) := fun i hi => by
   have hd := List.drop_eq_getElem_cons (l := zs) (i := i) (by omega)
   rw [List.set_append_right _ _ (by simp [zFh]),zKb1,hd,zFh,Nat.sub_self,List.set_cons_zero,List.append_assoc]
   rfl
 have hLl : ∀ i,i ≤ n0 → (mkZ k0 i ++ zs.drop i).length = n0 := fun i hi => by simp [zFh]; omega
 have hLe : mkZ k0 n0 ++ zs.drop n0 = mkZ k0 n0 := by rw [← hn0]; simp
 have hLb : zs = mkZ k0 0 ++ zs.drop 0 := by simp [mkZ]
 obtain ⟨L,hL⟩ : ∃ L : Nat → List Pt,∀ i,mkZ k0 i ++ zs.drop i = L i := ⟨_,fun _ => rfl⟩
 simp only [hL] at hL0 hLs hLl hLe hLb
 rw [hLb,← hLe]
 clear hLb hLe hL hn0
 try simp -dsimp (maxSteps := 1000000) only [go_sem,↓reduceIte,yab,Tryz.f110,zAa,zAt]
 refine zSe (ι := { k : Nat // k ≤ n0 }) (fun k => ⟨[(0,some (.c (.view n 1 0 n0))),(1,some (.c (.im (.int .i64 ((k0 + k.1 : Nat) : Int))))),(5,some (.c (.im (.int .i64 (k.1 : Int)))))],
   (n,some (.arr 1 (tI (rowsZ (L k.1))))) :: h,nm⟩) (fun k => n0 - k.1) ⟨0,by simp⟩ (zNf (Nat.le_refl _) (by simp [lk]) rfl) (fun ⟨k,hkn⟩ => ?_)
 simp only
 by_cases hlt : k < n0
 · obtain ⟨w,hw,hc⟩ := hfc k hlt
   have hrow := zIu1 (zCt (hL0 k hlt))
   have hset := hLs k hlt
   rw [hw] at hset
   have hlen := hLl k hkn
   have hI : ((k : Int) < (n0 : Int)) = True := eq_true (by omega)
   have h0 : (0 ≤ (k : Int)) = True := eq_true (by omega)
   have hwr : IntKind.i64.wrap ((k : Int) + 1) = ((k + 1 : Nat) : Int) := by rw [zAg] <;> omega
   have hwk : IntKind.i64.wrap (((k0 + k : Nat) : Int) + 1) = ((k0 + (k + 1) : Nat) : Int) := by rw [zAg] <;> omega
   try simp -dsimp (maxSteps := 1000000) only [go_sem,↓reduceIte,yab,Tryz.f110,hI,h0,Int.toNat_natCast,hrow,hc,zAz1,hwr,hwk,hset,zSl1,zAt,zAa]
   exact ⟨⟨k + 1,by omega⟩,by simp only []; omega,zNf (Nat.le_refl _) (by simp [lk]) rfl⟩
 · have hI : ((k : Int) < (n0 : Int)) = False := eq_false (by omega)
   have hkn' : k = n0 := by omega
   subst hkn'
   try simp -dsimp (maxSteps := 1000000) only [go_sem,↓reduceIte,yab,Tryz.f110,hI,zAa]
   exact fun _ _ h => h
theorem zGy1 {h : List (Nat × Option Root)} {nm n k0 : Nat} {zs : List Int} (hH : lk h n = some (.arr 1 (tI (rowsN zs)))) (hk : k0 + zs.length ≤ 4096) :
   InlAt Tryz.prog 111 [.c (.view n 1 0 zs.length),.c (.im (.int .i64 (k0 : Int)))] h nm (.c (.im (.int .i64 ((k0 + zs.length : Nat) : Int)))) ((n,some (.arr 1 (tI (rowsN (mkN k0 zs.length))))) :: h) nm := by
 refine InlAt.conv (h1 := (n,some (.arr 1 (tI (rowsN zs)))) :: h) ?_ (zSg hH)
 clear hH
 refine zWi (Φ := phi []) zAf hmixA Tryz.func111 rfl rfl [] (by simp [Tryz.f111]) ?_
 obtain ⟨n0,hn0⟩ : ∃ m,zs.length = m := ⟨_,rfl⟩
 rw [hn0] at hk ⊢
 have hL0 : ∀ i,i < n0 → (mkN k0 i ++ zs.drop i)[i]? = some (zs.getD i 0) := fun i hi => by
   rw [List.getElem?_append_right (by simp [zFi])]
   simp only [zFi,Nat.sub_self,List.getElem?_drop,yaP,List.getD_eq_getElem?_getD]
   rw [List.getElem?_eq_getElem (by omega)]; rfl
 have hLs : ∀ i,i < n0 → (mkN k0 i ++ zs.drop i).set i ((k0 + i : Nat) : Int) = mkN k0 (i + 1) ++ zs.drop (i + 1) := fun i hi => by
   have hd := List.drop_eq_getElem_cons (l := zs) (i := i) (by omega)
   rw [List.set_append_right _ _ (by simp [zFi]),zKc1,hd,zFi,Nat.sub_self,List.set_cons_zero,List.append_assoc]
   rfl
 have hLl : ∀ i,i ≤ n0 → (mkN k0 i ++ zs.drop i).length = n0 := fun i hi => by simp [zFi]; omega
 have hLe : mkN k0 n0 ++ zs.drop n0 = mkN k0 n0 := by rw [← hn0]; simp
 have hLb : zs = mkN k0 0 ++ zs.drop 0 := by simp [mkN]
 obtain ⟨L,hL⟩ : ∃ L : Nat → List Int,∀ i,mkN k0 i ++ zs.drop i = L i := ⟨_,fun _ => rfl⟩
 simp only [hL] at hL0 hLs hLl hLe hLb
 rw [hLb,← hLe]
 clear hLb hLe hL hn0
 try simp -dsimp (maxSteps := 1000000) only [go_sem,↓reduceIte,yab,Tryz.f111,zAb,zAt]
 refine zSe (ι := { k : Nat // k ≤ n0 }) (fun k => ⟨[(0,some (.c (.view n 1 0 n0))),(1,some (.c (.im (.int .i64 ((k0 + k.1 : Nat) : Int))))),(5,some (.c (.im (.int .i64 (k.1 : Int)))))],
   (n,some (.arr 1 (tI (rowsN (L k.1))))) :: h,nm⟩) (fun k => n0 - k.1) ⟨0,by simp⟩ (zNf (Nat.le_refl _) (by simp [lk]) rfl) (fun ⟨k,hkn⟩ => ?_)
 simp only
 by_cases hlt : k < n0
 · have hrow := zIu1 (zFv (hL0 k hlt))
   have hset := hLs k hlt
   have hlen := hLl k hkn
   have hI : ((k : Int) < (n0 : Int)) = True := eq_true (by omega)
   have h0 : (0 ≤ (k : Int)) = True := eq_true (by omega)
   have hwr : IntKind.i64.wrap ((k : Int) + 1) = ((k + 1 : Nat) : Int) := by rw [zAg] <;> omega
   have hwk : IntKind.i64.wrap (((k0 + k : Nat) : Int) + 1) = ((k0 + (k + 1) : Nat) : Int) := by rw [zAg] <;> omega
   try simp -dsimp (maxSteps := 1000000) only [go_sem,↓reduceIte,yab,Tryz.f111,hI,h0,Int.toNat_natCast,hrow,hwr,hwk,hset,zSm1,zAt,zAb]
   exact ⟨⟨k + 1,by omega⟩,by simp only []; omega,zNf (Nat.le_refl _) (by simp [lk]) rfl⟩
 · have hI : ((k : Int) < (n0 : Int)) = False := eq_false (by omega)
   have hkn' : k = n0 := by omega
   subst hkn'
   try simp -dsimp (maxSteps := 1000000) only [go_sem,↓reduceIte,yab,Tryz.f111,hI,zAb]
   exact fun _ _ h => h
theorem zRp1 {h : List (Nat × Option Root)} {nm : Nat} {x : Option Root} (hfr : ∀ m,nm ≤ m → lk h m = none) : ∀ m,nm + 1 ≤ m → lk (ins nm x h) m = none := fun m hm => by
 rw [zCg]
 simp only [upd]
 rw [if_neg (by omega)]
 exact hfr m (by omega)
theorem zMj1 {h : List (Nat × Option Root)} {nm n : Nat} {x : Option Root} {r : Root} (hfr : ∀ m,nm ≤ m → lk h m = none) (hH : lk h n = some r) : lk (ins nm x h) n = some r := by
 rw [zCg]
 simp only [upd]
 rw [if_neg (fun e => by rw [e,hfr nm (Nat.le_refl _)] at hH; cases hH)]
 exact hH
theorem zKh1 {h : List (Nat × Option Root)} {nm n : Nat} {r : Root} (hfr : ∀ m,nm ≤ m → lk h m = none) (hH : lk h n = some r) : n < nm := by
 rcases Nat.lt_or_ge n nm with h1 | h1
 · exact h1
 · rw [hfr n h1] at hH; cases hH
end Go.SX
namespace Go.SX
open Go Go.Proofs
def rowsM (ms : List Mod) : List (List I) := ms.map modI
theorem zAr (l : List Mod) : (rowsM l).length = l.length := by simp [rowsM]
theorem zFw {l : List Mod} {k : Nat} {m : Mod} (h : l[k]? = some m) : (rowsM l)[k]? = some [.int .i64 m.kind,.cpx .f32 m.turn.1 m.turn.2,.cpx .f32 m.state.1 m.state.2,.flt .f32 m.level,.sl 1 (rowsZ m.store),.int .i64 m.rat,.int .i64 m.rcnt,.sl 1 (rowsZ m.pts),.sl 1 (rowsN m.lab),.int .i64 m.count,.int .i64 m.left] := by
 simp [rowsM,h,modI]
theorem zKa1 {a b : Mod} (h : modI a = modI b) : a = b := by
 obtain ⟨k,⟨t1,t2⟩,⟨s1,s2⟩,l,st,r1,r2,p,la,c,le⟩ := a
 obtain ⟨k',⟨t1',t2'⟩,⟨s1',s2'⟩,l',st',r1',r2',p',la',c',le'⟩ := b
 simp [modI,zBm,zBs] at h
 simp [h]
theorem zDo {l m : List Mod} : (rowsM l = rowsM m) = (l = m) := by
 refine propext ⟨fun h => ?_,fun h => by rw [h]⟩
 induction l generalizing m with
 | nil => cases m with | nil => rfl | cons => simp [rowsM] at h
 | cons p l ih =>
   cases m with
   | nil => simp [rowsM] at h
   | cons q m =>
     simp only [rowsM,List.map_cons,List.cons.injEq] at h
     rw [ih h.2,zKa1 h.1]
theorem zCn (rows : List (List I)) : ∀ (sz : Nat),MvR false (.arr sz (tI rows)) := by
 intro sz r hr t ht
 simp only [tI,List.mem_map] at hr
 obtain ⟨r0,hr0,rfl⟩ := hr
 simp only [List.mem_map] at ht
 obtain ⟨i,hi,rfl⟩ := ht
 exact .im _ (.inl rfl)
noncomputable def zMc : Ct := fam true (fun x : { l : List Int // l.length ≤ sm } × Int => ([.c (.im (.sl 1 (rowsN x.1.1))),.c (.im (.int .i64 x.2))],[])) (fun x => .one { val := .c (.im (.int .i64 (idxF (fun y => decide (x.2 = y)) x.1.1 0))) })
theorem zRt {l : List Int} (hl : l.length ≤ sm) (v : Int) : zMc.run [.c (.im (.sl 1 (rowsN l))),.c (.im (.int .i64 v))] [] = some (.one { val := .c (.im (.int .i64 (idxF (fun y => decide (v = y)) l 0))) }) := by
 refine zAd (args := fun x : { l : List Int // l.length ≤ sm } × Int => ([D.c (.im (.sl 1 (rowsN x.1.1))),.c (.im (.int .i64 x.2))],[])) ?_ (⟨l,hl⟩,v)
 rintro ⟨⟨a,b⟩,c⟩ ⟨⟨a',b'⟩,c'⟩ h
 simp [zBs] at h ⊢
 simp [h]
theorem zSr : Law Tryz.prog 125 zMc := by
 refine zAi zAf hmixA Tryz.func125 rfl rfl (fun ⟨⟨l,hl⟩,v⟩ => ⟨zAv rfl,by simp [Tryz.f125],?_⟩)
 try simp -dsimp (maxSteps := 1000000) only [go_sem,↓reduceIte,yab,Tryz.f125,zAb]
 refine zBa (ι := { k : Nat // k ≤ l.length ∧ idxF (fun y => decide (v = y)) l 0 = idxF (fun y => decide (v = y)) (l.drop k) k }) (fun k => ⟨[(0,some (.c (.im (.sl 1 (rowsN l))))),(1,some (.c (.im (.int .i64 v)))),(7,some (.c (.im (.int .i64 (l.length : Int))))),(8,some (.c (.im (.int .i64 (k.1 : Int)))))],
   [],0⟩) (fun k => l.length - k.1) ⟨0,by simp⟩ ⟨[],[],by ((simp only [go_sem,↓reduceIte,yab,yai]) <;> (try (simp -dsimp only [go_sem,↓reduceIte,yab,yai]))) <;> simp⟩ (fun ⟨k,hk,hinv⟩ => ?_)
 by_cases hlt : k < l.length
 · obtain ⟨p,hp⟩ : ∃ p,l[k]? = some p := ⟨_,List.getElem?_eq_getElem hlt⟩
   have hrow := zFv hp
   have hI : ((k : Int) < (l.length : Int)) = True := by simp; omega
   have h0 : (0 ≤ (k : Int)) = True := by simp
   have hidx := zJx (f := (fun y => decide (v = y))) hp
   have hwr := zEn hl hlt
   by_cases hq : v = p
   · have hq' := eq_true hq
     simp only [hq',yaS,yal] at hidx
     rw [hidx] at hinv
     clear hidx hq
     try simp -dsimp (maxSteps := 1000000) only [go_sem,↓reduceIte,yab,Tryz.f125,hI,h0,Int.toNat_natCast,hrow,hq',hinv,zAb]
   · have hq' := eq_false hq
     simp only [hq',yaU,yak,yaj] at hidx
     rw [hidx] at hinv
     clear hidx hq
     try simp -dsimp (maxSteps := 1000000) only [go_sem,↓reduceIte,yab,Tryz.f125,hI,h0,Int.toNat_natCast,hrow,hq',hwr,zAb]
     exact ⟨⟨k + 1,by omega,hinv⟩,by simp only []; omega,[],[],by (simp only [go_sem,↓reduceIte,yab,yai]) <;> simp⟩
 · have hI : ((k : Int) < (l.length : Int)) = False := by simp; omega
   have hkl : k = l.length := by omega
   subst hkl
   rw [List.drop_length] at hinv
   try simp -dsimp (maxSteps := 1000000) only [go_sem,↓reduceIte,yab,Tryz.f125,hI,hinv,idxF,zAb]
def hasF (l : List Int) (v : Int) : Bool := decide (0 ≤ idxF (fun y => decide (v = y)) l 0)
noncomputable def zDs : Ct := fam true (fun x : { l : List Int // l.length ≤ sm } × Int => ([.c (.im (.sl 1 (rowsN x.1.1))),.c (.im (.int .i64 x.2))],[])) (fun x => .one { val := .c (.im (.bool (hasF x.1.1 x.2))) })
theorem zEs : (zDs.sc = true) = True := by simp [zDs,fam]
theorem zEl {l : List Int} (hl : l.length ≤ sm) (v : Int) : zDs.run [.c (.im (.sl 1 (rowsN l))),.c (.im (.int .i64 v))] [] = some (.one { val := .c (.im (.bool (hasF l v))) }) := by
 refine zAd (args := fun x : { l : List Int // l.length ≤ sm } × Int => ([D.c (.im (.sl 1 (rowsN x.1.1))),.c (.im (.int .i64 x.2))],[])) ?_ (⟨l,hl⟩,v)
 rintro ⟨⟨a,b⟩,c⟩ ⟨⟨a',b'⟩,c'⟩ h
 simp [zBs] at h ⊢
 simp [h]
theorem zGp : Law Tryz.prog 56 zDs := by
 refine zAi (zAc zSr zAf) hmixA Tryz.func56 rfl rfl (fun ⟨⟨l,hl⟩,v⟩ => ⟨zAv rfl,by simp [Tryz.f56],?_⟩)
 simp only [hasF]
 try simp -dsimp (maxSteps := 1000000) only [go_sem,↓reduceIte,yab,Tryz.f56,zRt hl]
structure OkR2 (ms : List Mod) (cs : List Cbl) : Prop where
 ml : ms.length ≤ sm
 cl : cs.length ≤ sm
def kindOf (ms : List Mod) (i : Int) : Int := match ms[i.toNat]? with
 | some m => m.kind
 | none => 0
def blocks (ms : List Mod) (out : List Int) (i : Int) (c : Cbl) : Bool := decide (c.2 = i) && (!(decide (kindOf ms c.1 = 4)) && !(hasF out c.1))
def hsO (i : Int) (ms : List Mod) (cs : List Cbl) (out : List Int) : List (List B) := [[.t (.im (.int .i64 i))],[.t (.im (.sl 11 (rowsM ms))),.t (.im (.sl 2 (rowsC cs)))],[.t (.own 1 (tI (rowsN out)))]]
theorem zFp1 {i : Int} {ms : List Mod} {cs : List Cbl} {out : List Int} : ∀ c ∈ hsO i ms cs out,∀ x ∈ c,MvB false x := by
 intro c hc x hx
 simp only [hsO,yae,yaf,or_false] at hc
 rcases hc with rfl | rfl | rfl
 · simp at hx; subst hx; exact .t _ (.im _ (.inl rfl))
 · simp at hx; rcases hx with rfl | rfl <;> exact .t _ (.im _ (.inl rfl))
 · simp at hx; subst hx
   exact .t _ (.own _ _ (zCn _ 1))
structure AO where
 i : Int
 ms : List Mod
 cs : List Cbl
 out : List Int
 ml : ms.length ≤ sm
 cl : cs.length ≤ sm
 ol : out.length ≤ sm
theorem zZc {a b : AO} (h : hsO a.i a.ms a.cs a.out = hsO b.i b.ms b.cs b.out) : a = b := by
 obtain ⟨i,ms,cs,out,_,_,_⟩ := a
 obtain ⟨i',ms',cs',out',_,_,_⟩ := b
 simp [hsO,zDo,zEd] at h
 obtain ⟨rfl,⟨rfl,rfl⟩,h3⟩ := h
 have : out = out' := by
   have h4 := congrArg (mapO (mapO (toI [] (fun _ => none) 0))) h3
   rw [zCj,zCj] at h4
   simp [zBs] at h4
   exact h4
 subst this
 rfl
theorem zDs1 (l : List Int) : (tI (rowsN l)).take l.length = tI (rowsN l) := by rw [List.take_of_length_le]; simp [zAt,zAb]
theorem zFc1 {i : Int} {ms : List Mod} {cs : List Cbl} {out : List Int} {b : Bool} : OkR false { val := .c (.im (.bool b)),places := hsO i ms cs out } := ⟨zQl rfl,by simp,zFp1⟩
noncomputable def zLv : Ct := fam false (fun x : { x : AO × Cbl // 0 ≤ x.2.1 ∧ x.2.1 < x.1.ms.length } => ([.agg [.im (.int .i64 x.1.2.1),.im (.int .i64 x.1.2.2)],.c (.ptr 0 0 0 0),.c (.ptr 1 0 0 0),.c (.ptr 2 0 0 0)],hsO x.1.1.i x.1.1.ms x.1.1.cs x.1.1.out))
 (fun x => .one { val := .c (.im (.bool (blocks x.1.1.ms x.1.1.out x.1.1.i x.1.2))),places := hsO x.1.1.i x.1.1.ms x.1.1.cs x.1.1.out })
theorem zJi {i : Int} {ms : List Mod} {cs : List Cbl} {out : List Int} (h1 : ms.length ≤ sm) (h2 : cs.length ≤ sm) (h3 : out.length ≤ sm) {a b : Int} (h4 : 0 ≤ a) (h5 : a < ms.length) :
   zLv.run [.agg [.im (.int .i64 a),.im (.int .i64 b)],.c (.ptr 0 0 0 0),.c (.ptr 1 0 0 0),.c (.ptr 2 0 0 0)] [[.t (.im (.int .i64 i))],[.t (.im (.sl 11 (rowsM ms))),.t (.im (.sl 2 (rowsC cs)))],[.t (.own 1 (tI (rowsN out)))]] =
     some (.one { val := .c (.im (.bool (blocks ms out i (a,b)))),places := hsO i ms cs out }) := by
 refine zAd (args := fun x : { x : AO × Cbl // 0 ≤ x.2.1 ∧ x.2.1 < x.1.ms.length } => ([D.agg [.im (.int .i64 x.1.2.1),.im (.int .i64 x.1.2.2)],.c (.ptr 0 0 0 0),.c (.ptr 1 0 0 0),.c (.ptr 2 0 0 0)],hsO x.1.1.i x.1.1.ms x.1.1.cs x.1.1.out)) ?_ ⟨(⟨i,ms,cs,out,h1,h2,h3⟩,(a,b)),h4,h5⟩
 rintro ⟨⟨a,b⟩,c⟩ ⟨⟨a',b'⟩,c'⟩ h
 simp only [Prod.mk.injEq,List.cons.injEq,D.agg.injEq,C.im.injEq,I.int.injEq,true_and,and_true] at h
 have := zZc h.2
 subst this
 simp [Prod.ext_iff,h.1]
theorem zSj : Law Tryz.prog 214 zLv := by
 refine zCo (zAc zGp zAf) hmixA Tryz.func214 rfl rfl (fun ⟨⟨⟨i,ms,cs,out,h1,h2,h3⟩,⟨a,b⟩⟩,h4,h5⟩ => ⟨okO zFc1,by simp [Tryz.f214],?_⟩)
 simp only at h4 h5
 simp only [hsO]
 by_cases hb : b = i
 rotate_left
 · have hb' := eq_false hb
   clear hb
   try simp -dsimp (maxSteps := 1000000) only [go_sem,↓reduceIte,yab,Tryz.f214,hb',blocks,yag]
   refine zAm [] ?_
   simp -dsimp (maxSteps := 1000000) only [go_sem,↓reduceIte,yab,hb',blocks,yag]
 have hb' := eq_true hb
 clear hb
 obtain ⟨n,rfl⟩ : ∃ n : Nat,a = n := ⟨a.toNat,by omega⟩
 have hlt : n < ms.length := by omega
 obtain ⟨m,hm⟩ : ∃ m,ms[n]? = some m := ⟨_,List.getElem?_eq_getElem hlt⟩
 have hrow := zFw hm
 have hk : kindOf ms (n : Int) = m.kind := by simp [kindOf,hm]
 have h0 : (0 ≤ (n : Int)) = True := by simp
 by_cases hq : m.kind = 4
 · have hq' := eq_true hq
   clear hq
   try simp -dsimp (maxSteps := 1000000) only [go_sem,↓reduceIte,yab,Tryz.f214,hb',blocks,hk,hq',h0,hrow,Int.toNat_natCast,yah,yag]
   refine zAm [] ?_
   simp -dsimp (maxSteps := 1000000) only [go_sem,↓reduceIte,yab,hb',blocks,hk,hq',yah,yag]
 · have hq' := eq_false hq
   clear hq
   try simp -dsimp (maxSteps := 1000000) only [go_sem,↓reduceIte,yab,Tryz.f214,hb',blocks,hk,hq',h0,hrow,Int.toNat_natCast,yah,zAt,zAb,zDs1,Nat.le_refl,zCj,zEs,zEl h3]
   refine zAm [.fold 2 0 0] ?_
   simp -dsimp (maxSteps := 1000000) only [go_sem,↓reduceIte,yab,hb',blocks,hk,hq',yah,zAt,zAb]
end Go.SX
namespace Go.SX
open Go Go.Proofs
abbrev AI := { x : AO × List Cbl // x.2.length ≤ sm ∧ ∀ c ∈ x.2,0 ≤ c.1 ∧ c.1 < x.1.ms.length }
noncomputable def zFf : Ct := fam false (fun x : AI => ([.c (.im (.sl 2 (rowsC x.1.2))),.c (.fn (.func 214) [.ptr 0 0 0 0,.ptr 1 0 0 0,.ptr 2 0 0 0])],hsO x.1.1.i x.1.1.ms x.1.1.cs x.1.1.out))
 (fun x => .one { val := .c (.im (.int .i64 (idxF (blocks x.1.1.ms x.1.1.out x.1.1.i) x.1.2 0))),places := hsO x.1.1.i x.1.1.ms x.1.1.cs x.1.1.out })
theorem zMp1 : ∀ a b : AI,([D.c (.im (.sl 2 (rowsC a.1.2))),.c (.fn (.func 214) [.ptr 0 0 0 0,.ptr 1 0 0 0,.ptr 2 0 0 0])],hsO a.1.1.i a.1.1.ms a.1.1.cs a.1.1.out) = ([D.c (.im (.sl 2 (rowsC b.1.2))),.c (.fn (.func 214) [.ptr 0 0 0 0,.ptr 1 0 0 0,.ptr 2 0 0 0])],hsO b.1.1.i b.1.1.ms b.1.1.cs b.1.1.out) → a = b := by
 rintro ⟨⟨a,b⟩,c⟩ ⟨⟨a',b'⟩,c'⟩ h
 simp only [Prod.mk.injEq,List.cons.injEq,D.c.injEq,C.im.injEq,I.sl.injEq,true_and,and_true,zEd] at h
 have := zZc h.2
 subst this
 simp [h.1]
theorem zIo {i : Int} {ms : List Mod} {cs ds : List Cbl} {out : List Int} (h1 : ms.length ≤ sm) (h2 : cs.length ≤ sm) (h3 : out.length ≤ sm) (h4 : ds.length ≤ sm) (h5 : ∀ c ∈ ds,0 ≤ c.1 ∧ c.1 < ms.length) :
   zFf.run [.c (.im (.sl 2 (rowsC ds))),.c (.fn (.func 214) [.ptr 0 0 0 0,.ptr 1 0 0 0,.ptr 2 0 0 0])] [[.t (.im (.int .i64 i))],[.t (.im (.sl 11 (rowsM ms))),.t (.im (.sl 2 (rowsC cs)))],[.t (.own 1 (tI (rowsN out)))]] =
     some (.one { val := .c (.im (.int .i64 (idxF (blocks ms out i) ds 0))),places := hsO i ms cs out }) :=
 zAd zMp1 ⟨(⟨i,ms,cs,out,h1,h2,h3⟩,ds),h4,h5⟩
theorem zJu1 {i : Int} {ms : List Mod} {cs : List Cbl} {out : List Int} {z : Int} : OkR false { val := .c (.im (.int .i64 z)),places := hsO i ms cs out } := ⟨zQl rfl,by simp,zFp1⟩
theorem zIu : Law Tryz.prog 263 zFf := by
 refine zAi (zAc zSj zAf) hmixA Tryz.func263 rfl rfl (fun ⟨⟨⟨i,ms,cs,out,h1,h2,h3⟩,l⟩,hl,h5⟩ => ⟨okO zJu1,by simp [Tryz.f263],?_⟩)
 simp only at hl h5
 simp only [hsO]
 have hm1 : ∀ x,MvB false (.t (.im x)) = True := zAy
 have hm2 : MvB false (.t (.own 1 (tI (rowsN out)))) = True := eq_true (.t _ (.own _ _ (zCn _ 1)))
 try simp -dsimp (maxSteps := 1000000) only [go_sem,↓reduceIte,yab,Tryz.f263,zAu]
 refine zBa (ι := { k : Nat // k ≤ l.length ∧ idxF (blocks ms out i) l 0 = idxF (blocks ms out i) (l.drop k) k }) (fun k => ⟨[(0,some (.c (.im (.sl 2 (rowsC l))))),(1,some (.c (.fn (.func 214) [.ptr 0 0 0 0,.ptr 1 0 0 0,.ptr 2 0 0 0]))),(7,some (.c (.im (.int .i64 (l.length : Int))))),(8,some (.c (.im (.int .i64 (k.1 : Int)))))],
   [(0,some (.box [.t (.im (.int .i64 i))])),(1,some (.box [.t (.im (.sl 11 (rowsM ms))),.t (.im (.sl 2 (rowsC cs)))])),(2,some (.box [.t (.own 1 (tI (rowsN out)))]))],3⟩) (fun k => l.length - k.1) ⟨0,by simp⟩ ⟨[],[],by ((simp only [go_sem,↓reduceIte,yab,yai,hm2]) <;> (try (simp -dsimp only [go_sem,↓reduceIte,yab,yai,hm2]))) <;> simp [hm2]⟩ (fun ⟨k,hk,hinv⟩ => ?_)
 by_cases hlt : k < l.length
 · obtain ⟨p,hp⟩ : ∃ p,l[k]? = some p := ⟨_,List.getElem?_eq_getElem hlt⟩
   have hrow := zFd hp
   have hI : ((k : Int) < (l.length : Int)) = True := by simp; omega
   have h0 : (0 ≤ (k : Int)) = True := by simp
   have hidx := zJx (f := blocks ms out i) hp
   have hwr := zEn hl hlt
   obtain ⟨q1,q2⟩ := h5 p (List.mem_of_getElem? hp)
   obtain ⟨a,b⟩ := p
   simp only at q1 q2
   cases hq : blocks ms out i (a,b) with
   | true =>
     simp only [hq,yal] at hidx
     rw [hidx] at hinv
     clear hidx
     try simp -dsimp (maxSteps := 1000000) only [go_sem,↓reduceIte,yab,Tryz.f263,hI,h0,Int.toNat_natCast,hrow,zJi h1 h2 h3 q1 q2,hm2,hq,hinv,hsO,zAu]
   | false =>
     simp only [hq,yak,yaj] at hidx
     rw [hidx] at hinv
     clear hidx
     try simp -dsimp (maxSteps := 1000000) only [go_sem,↓reduceIte,yab,Tryz.f263,hI,h0,Int.toNat_natCast,hrow,zJi h1 h2 h3 q1 q2,hm2,hq,hwr,hsO,zAu]
     exact ⟨⟨k + 1,by omega,hinv⟩,by simp only []; omega,[],[],by (simp only [go_sem,↓reduceIte,yab,yai,hm2]) <;> simp [hm2]⟩
 · have hI : ((k : Int) < (l.length : Int)) = False := by simp; omega
   have hkl : k = l.length := by omega
   subst hkl
   rw [List.drop_length] at hinv
   try simp -dsimp (maxSteps := 1000000) only [go_sem,↓reduceIte,yab,Tryz.f263,hI,hinv,idxF,zAu]
end Go.SX
