/-
  spec: l6Has, l6Ready, l6Order: the order is the program's.
  spec: IsRack, l6Copy, AddCable: of racks whose modules are drawn.
  RunFaults$1: what an output becomes while faults last.
  A rack's step where outputs become others (by 'bec'): the plain words.
  AreFaults.
  RunFaults.
  FnMuted: what the outputs of a rack are under one fault.
  MakeModule; PowersOf; ResetModule; ResetRack.
  The library's contracts at this program: what they ask of it. Printed by wip/tools/laytext.py off the kit's own laying.
  The library's functions on texts: strconv.Itoa, impl.number (over strconv.Atoi), math/bits.TrailingZeros32, strings.Cut: as laws.
  strings.Split at one byte, as a law.
  impl.FormatSingle.
  impl.singleText, pointText, pointsText, intsText, kindNames.
  impl.pointText, pointsText, intsText, kindNames.
  impl.kindNames, FormatModule.
  math.Ldexp at whole numbers.
  No condition.
-/
import Derived.Test.YtfmpjhjnpeheeaaGreatDoorProg
import Derived.Shelf.Strings.Split
import Derived.Shelf.Strings.Cut
import Derived.Shelf.Strconv.Itoa3
import Derived.Shelf.Strconv.AtoiAll
import Derived.Shelf.Spec.TrailingZeros
import Derived.Shelf.Strconv.ErrVarAll
import Derived.WalkKit
import Derived.Lib.ItoaLen
import Derived.Test.YtfmpjhjnpeheeaaGreatDoorPkG
set_option maxRecDepth 100000
set_option maxHeartbeats 16000000
set_option linter.unusedVariables false
set_option linter.unusedSimpArgs false
namespace Go.SX
open Go Go.Proofs
def hasR (n : Nat) (i : Int) : Bool := decide (0 ≤ i) && decide (i < (n : Int))
noncomputable def zBi1 : Ct := fam true (fun x : (List Mod × List Cbl) × Int => ([.agg [.im (.sl 11 (rowsM x.1.1)),.im (.sl 2 (rowsC x.1.2))],.c (.im (.int .i64 x.2))],[])) (fun x => .one { val := .c (.im (.bool (hasR x.1.1.length x.2))) })
theorem zNu (ms : List Mod) (cs : List Cbl) (i : Int) : zBi1.run [.agg [.im (.sl 11 (rowsM ms)),.im (.sl 2 (rowsC cs))],.c (.im (.int .i64 i))] [] = some (.one { val := .c (.im (.bool (hasR ms.length i))) }) := by
 refine zAd (args := fun x : (List Mod × List Cbl) × Int => ([D.agg [.im (.sl 11 (rowsM x.1.1)),.im (.sl 2 (rowsC x.1.2))],.c (.im (.int .i64 x.2))],[])) ?_ ((ms,cs),i)
 rintro ⟨⟨a,b⟩,c⟩ ⟨⟨a',b'⟩,c'⟩ h
 simp [zDo,zEd] at h ⊢
 simp [h]
theorem zGj1 : Law Tryz.prog 148 zBi1 := by
 refine zAi zAf hmixA Tryz.func148 rfl rfl (fun ⟨⟨ms,cs⟩,i⟩ => ⟨zAv rfl,by simp [Tryz.f148],?_⟩)
 simp only [hasR]
 by_cases h1 : 0 ≤ i
 · have h1' := eq_true h1
   clear h1
   try simp -dsimp (maxSteps := 1000000) only [go_sem,↓reduceIte,yab,Tryz.f148,zAr,h1',yah]
 · have h1' := eq_false h1
   clear h1
   try simp -dsimp (maxSteps := 1000000) only [go_sem,↓reduceIte,yab,Tryz.f148,zAr,h1',yag]
def rowsBo (l : List Bool) : List (List I) := l.map fun b => [.bool b]
theorem zCu (l : List Bool) : (rowsBo l).length = l.length := by simp [rowsBo]
theorem zOb {l : List Bool} {k : Nat} {p : Bool} (h : l[k]? = some p) : (rowsBo l)[k]? = some [.bool p] := by simp [rowsBo,h]
theorem zCh1 {l m : List Bool} (h : rowsBo l = rowsBo m) : l = m := by
 induction l generalizing m with
 | nil => cases m with | nil => rfl | cons => simp [rowsBo] at h
 | cons p l ih =>
   cases m with
   | nil => simp [rowsBo] at h
   | cons q m =>
     simp only [rowsBo,List.map_cons,List.cons.injEq,I.bool.injEq,true_and,and_true] at h
     rw [ih h.2,h.1]
theorem zEi1 {l m : List Bool} : (rowsBo l = rowsBo m) = (l = m) := propext ⟨zCh1,fun h => by rw [h]⟩
def blkS (ms : List Mod) (L : List Bool) (i : Int) (c : Cbl) : Bool := decide (c.2 = i) && (!(L.getD c.1.toNat false) && !(decide (kindOf ms c.1 = 4)))
def rdyS (ms : List Mod) (cs : List Cbl) (L : List Bool) (i : Nat) : Bool := !(L.getD i false) && !(cs.any (blkS ms L (i : Int)))
structure ARy where
 ms : List Mod
 cs : List Cbl
 L : List Bool
 i : Nat
 cl : cs.length ≤ sm
 ll : L.length = ms.length
 il : i < ms.length
 ok : ∀ c ∈ cs,0 ≤ c.1 ∧ c.1 < ms.length
noncomputable def zHy : Ct := fam true (fun x : ARy => ([.agg [.im (.sl 11 (rowsM x.ms)),.im (.sl 2 (rowsC x.cs))],.c (.im (.sl 1 (rowsBo x.L))),.c (.im (.int .i64 (x.i : Int)))],[])) (fun x => .one { val := .c (.im (.bool (rdyS x.ms x.cs x.L x.i))) })
theorem zNt {ms : List Mod} {cs : List Cbl} {L : List Bool} {i : Nat} (h1 : cs.length ≤ sm) (h2 : L.length = ms.length) (h3 : i < ms.length) (h4 : ∀ c ∈ cs,0 ≤ c.1 ∧ c.1 < ms.length) :
   zHy.run [.agg [.im (.sl 11 (rowsM ms)),.im (.sl 2 (rowsC cs))],.c (.im (.sl 1 (rowsBo L))),.c (.im (.int .i64 (i : Int)))] [] = some (.one { val := .c (.im (.bool (rdyS ms cs L i))) }) := by
 refine zAd (args := fun x : ARy => ([D.agg [.im (.sl 11 (rowsM x.ms)),.im (.sl 2 (rowsC x.cs))],.c (.im (.sl 1 (rowsBo x.L))),.c (.im (.int .i64 (x.i : Int)))],[])) ?_ ⟨ms,cs,L,i,h1,h2,h3,h4⟩
 rintro ⟨a,b,c,d,_,_,_,_⟩ ⟨a',b',c',d',_,_,_,_⟩ h
 simp [zDo,zEd,zEi1] at h ⊢
 exact ⟨h.1.1,h.1.2,h.2.1,by omega⟩
theorem zQe : (zHy.sc = true) = True := by simp [zHy,fam]
theorem zLo1 {α : Type} {f : α → Bool} {l : List α} {k : Nat} {p : α} (h : l[k]? = some p) : (l.drop k).any f = (f p || (l.drop (k + 1)).any f) := by
 have hlt : k < l.length := (List.getElem?_eq_some_iff.1 h).1
 have hp : l[k] = p := by rw [List.getElem?_eq_getElem hlt] at h; injection h
 rw [List.drop_eq_getElem_cons hlt,hp,List.any_cons]
theorem zYr : Law Tryz.prog 208 zHy := by
 refine zAi zAf hmixA Tryz.func208 rfl rfl (fun ⟨ms,cs,L,i,h1,h2,h3,h4⟩ => ⟨zAv rfl,by simp [Tryz.f208],?_⟩)
 simp only [rdyS]
 obtain ⟨b,hb⟩ : ∃ b,L[i]? = some b := ⟨_,List.getElem?_eq_getElem (by omega)⟩
 have hbd : L.getD i false = b := by rw [List.getD_eq_getElem?_getD,hb]; rfl
 have hrb := zOb hb
 have i0 : (0 ≤ (i : Int)) = True := by simp
 have i1 : ((i : Int) < (L.length : Int)) = True := eq_true (by omega)
 rw [hbd]
 cases b with
 | true =>
   try simp -dsimp (maxSteps := 1000000) only [go_sem,↓reduceIte,yab,Tryz.f208,zCu,hrb,i0,i1,Int.toNat_natCast,yaH,yag]
 | false =>
   try simp -dsimp (maxSteps := 1000000) only [go_sem,↓reduceIte,yab,Tryz.f208,zCu,zAu,hrb,i0,i1,Int.toNat_natCast]
   refine zBa (ι := { k : Nat // k ≤ cs.length ∧ cs.any (blkS ms L (i : Int)) = (cs.drop k).any (blkS ms L (i : Int)) }) (fun k => ⟨[(1,some (.c (.im (.sl 1 (rowsBo L))))),(2,some (.c (.im (.int .i64 (i : Int))))),(3,some (.c (.ptr 0 0 0 0))),(14,some (.c (.im (.sl 2 (rowsC cs))))),(15,some (.c (.im (.int .i64 (cs.length : Int))))),(16,some (.c (.im (.int .i64 (k.1 : Int)))))],
     [(0,some (.box [.t (.im (.sl 11 (rowsM ms))),.t (.im (.sl 2 (rowsC cs)))]))],1⟩) (fun k => cs.length - k.1) ⟨0,by simp⟩ ⟨[],[],by ((simp only [go_sem,↓reduceIte,yab,yai]) <;> (try (simp -dsimp only [go_sem,↓reduceIte,yab,yai]))) <;> simp [lk,zAy]⟩ (fun ⟨k,hk,hinv⟩ => ?_)
   simp only
   by_cases hlt : k < cs.length
   rotate_left
   · have hI : ((k : Int) < (cs.length : Int)) = False := eq_false (by omega)
     obtain rfl : k = cs.length := by omega
     rw [List.drop_length,List.any_nil] at hinv
     try simp -dsimp (maxSteps := 1000000) only [go_sem,↓reduceIte,yab,Tryz.f208,hI,hinv,yaI,yah]
   obtain ⟨⟨f,t⟩,hp⟩ : ∃ p,cs[k]? = some p := ⟨_,List.getElem?_eq_getElem hlt⟩
   have hrow := zFd hp
   have hI : ((k : Int) < (cs.length : Int)) = True := eq_true (by omega)
   have k0 : (0 ≤ (k : Int)) = True := by simp
   have hwr := zEn h1 hlt
   have hidx := zLo1 (f := blkS ms L (i : Int)) hp
   rw [hidx] at hinv
   clear hidx
   obtain ⟨f1,f2⟩ := h4 _ (List.mem_of_getElem? hp)
   simp only at f1 f2
   obtain ⟨F,rfl⟩ := Int.eq_ofNat_of_zero_le f1
   obtain ⟨lb,hlb⟩ : ∃ b,L[F]? = some b := ⟨_,List.getElem?_eq_getElem (by omega)⟩
   obtain ⟨m,hm⟩ : ∃ m,ms[F]? = some m := ⟨_,List.getElem?_eq_getElem (by omega)⟩
   have hrl := zOb hlb
   have hrm := zFw hm
   have hld : L.getD F false = lb := by rw [List.getD_eq_getElem?_getD,hlb]; rfl
   have hkd : kindOf ms (F : Int) = m.kind := by simp [kindOf,hm]
   have F0 : (0 ≤ (F : Int)) = True := by simp
   have F1 : ((F : Int) < (L.length : Int)) = True := eq_true (by omega)
   have F2 : ((F : Int) < (ms.length : Int)) = True := eq_true (by omega)
   simp only [blkS,Int.toNat_natCast,hld,hkd] at hinv
   by_cases ht : t = (i : Int)
   rotate_left
   · have ht' := eq_false ht
     simp only [ht',yaU,yag,yaN] at hinv
     clear ht
     try simp -dsimp (maxSteps := 1000000) only [go_sem,↓reduceIte,yab,Tryz.f208,hI,k0,hrow,hwr,ht',Int.toNat_natCast]
     exact ⟨⟨k + 1,by omega,hinv⟩,by simp only []; omega,[],[0],by (simp only [go_sem,↓reduceIte,yab,yai]) <;> simp [lk,zAy]⟩
   have ht' := eq_true ht
   cases lb with
   | true =>
     simp only [ht',yaS,yaH,yag,yah,yaN] at hinv
     clear ht
     try simp -dsimp (maxSteps := 1000000) only [go_sem,↓reduceIte,yab,Tryz.f208,hI,k0,hrow,hwr,ht',hrl,F0,F1,zCu,Int.toNat_natCast,yaH]
     exact ⟨⟨k + 1,by omega,hinv⟩,by simp only []; omega,[],[0],by (simp only [go_sem,↓reduceIte,yab,yai]) <;> simp [lk,zAy]⟩
   | false =>
     by_cases hd : m.kind = 4
     · have hd' := eq_true hd
       simp only [ht',hd',yaS,yaH,yaI,yaT,yah,yaN] at hinv
       clear ht hd
       try simp -dsimp (maxSteps := 1000000) only [go_sem,↓reduceIte,yab,Tryz.f208,hI,k0,hrow,hwr,ht',hd',hrl,hrm,F0,F1,F2,zCu,zAr,Int.toNat_natCast,yaH,yaI]
       exact ⟨⟨k + 1,by omega,hinv⟩,by simp only []; omega,[],[0],by (simp only [go_sem,↓reduceIte,yab,yai]) <;> simp [lk,zAy]⟩
     · have hd' := eq_false hd
       simp only [ht',hd',yaS,yaU,yaI,yaD,yaM] at hinv
       clear ht hd
       try simp -dsimp (maxSteps := 1000000) only [go_sem,↓reduceIte,yab,Tryz.f208,hI,k0,hrow,hwr,ht',hd',hrl,hrm,F0,F1,F2,hinv,zCu,zAr,Int.toNat_natCast,yaH,yaI,yah]
def lsF (n : Nat) (out : List Int) : List Bool := (List.range n).map fun (i : Nat) => hasF out (i : Int)
theorem zFu1 (n : Nat) (out : List Int) : (lsF n out).length = n := by simp [lsF]
theorem zFv1 {n : Nat} {out : List Int} {i : Nat} (h : i < n) : (lsF n out).getD i false = hasF out (i : Int) := by
 rw [List.getD_eq_getElem?_getD]; simp [lsF,h]
theorem zQt1 {ms : List Mod} {cs : List Cbl} {out : List Int} {i : Nat} (h : i < ms.length) (h4 : ∀ c ∈ cs,0 ≤ c.1 ∧ c.1 < ms.length) : rdyS ms cs (lsF ms.length out) i = readyF ms cs out (i : Int) := by
 unfold rdyS readyF
 rw [zFv1 h]
 congr 2
 unfold anyF
 rw [Bool.eq_iff_iff,List.any_eq_true,decide_eq_true_eq,zZb]
 constructor
 · rintro ⟨c,hc,hb⟩
   refine ⟨c,hc,?_⟩
   obtain ⟨q1,q2⟩ := h4 c hc
   simp only [blkS,blocks] at hb ⊢
   rw [zFv1 (show c.1.toNat < ms.length by omega),show ((c.1.toNat : Nat) : Int) = c.1 by omega] at hb
   revert hb
   cases decide (c.2 = (i : Int)) <;> cases hasF out c.1 <;> cases decide (kindOf ms c.1 = 4) <;> simp
 · rintro ⟨c,hc,hb⟩
   refine ⟨c,hc,?_⟩
   obtain ⟨q1,q2⟩ := h4 c hc
   simp only [blkS,blocks] at hb ⊢
   rw [zFv1 (show c.1.toNat < ms.length by omega),show ((c.1.toNat : Nat) : Int) = c.1 by omega]
   revert hb
   cases decide (c.2 = (i : Int)) <;> cases hasF out c.1 <;> cases decide (kindOf ms c.1 = 4) <;> simp
theorem zPa1 {n : Nat} {out : List Int} {i : Nat} (h : i < n) : (lsF n out).set i true = lsF n (out ++ [(i : Int)]) := by
 apply List.ext_getElem?
 intro j
 rw [List.getElem?_set]
 simp only [zFu1]
 by_cases hj : j < n
 · have e1 : ∀ o : List Int,(lsF n o)[j]? = some (hasF o (j : Int)) := fun o => by simp [lsF,hj]
   rw [e1,e1]
   by_cases e : i = j
   · subst e
     rw [if_pos rfl,if_pos h]
     have : hasF (out ++ [(i : Int)]) (i : Int) = true := by rw [zSx]; simp
     rw [this]
   · rw [if_neg e]
     congr 1
     rw [Bool.eq_iff_iff,zSx,zSx]
     simp
     omega
 · have e1 : ∀ o : List Int,(lsF n o)[j]? = none := fun o => by simp [lsF]; omega
   rw [e1,e1]
   by_cases e : i = j
   · omega
   · rw [if_neg e]
theorem zRe (l : List Bool) : MvR false (.arr 1 (tI (rowsBo l))) = True := eq_true (zCn _ _)
theorem zBt1 (l : List Int) : MvR false (.arr 1 (tI (rowsN l))) = True := eq_true (zCn _ _)
theorem setBo (l : List Bool) (i : Nat) (b : Bool) : (tI (rowsBo l)).set i [T.im (.bool b)] = tI (rowsBo (l.set i b)) := by simp [tI,rowsBo,List.map_set]
theorem zPb1 (n : Nat) : List.replicate n [T.im (.bool false)] = tI (rowsBo (lsF n [])) := by
 have : lsF n [] = List.replicate n false := by
   apply List.ext_getElem?
   intro j
   by_cases hj : j < n
   · simp [lsF,hj,hasF,idxF]
   · simp [lsF,hj]
 rw [this]; simp [tI,rowsBo]
def nxF (ms : List Mod) (cs : List Cbl) (out : List Int) (j : Nat) : Int := if readyIdx ms cs out (ms.length - j) j = ms.length then -1 else (readyIdx ms cs out (ms.length - j) j : Int)
theorem zOt1 (ms : List Mod) (cs : List Cbl) (out : List Int) : nxF ms cs out ms.length = -1 := by simp [nxF,readyIdx]
theorem zJw1 {ms : List Mod} {cs : List Cbl} {out : List Int} {j : Nat} (h : j < ms.length) : nxF ms cs out j = if readyF ms cs out (j : Int) = true then (j : Int) else nxF ms cs out (j + 1) := by
 unfold nxF
 rw [show ms.length - j = (ms.length - (j + 1)) + 1 by omega]
 simp only [readyIdx]
 split
 · rw [if_neg (by omega)]
 · rfl
theorem zYs : Law Tryz.prog 149 zKe := by
 refine zCo (zAc zYr zAf) hmixA Tryz.func149 rfl rfl (fun ⟨ms,cs,h1,h2,h5⟩ => ⟨zVl _,by simp [Tryz.f149],?_⟩)
 have hsm : sm = 16777216 := rfl
 simp only [orderF]
 have k1 : (0 ≤ (ms.length : Int)) = True := by simp
 have k2 : ((ms.length : Int) ≤ 9223372036854775807) = True := eq_true (by omega)
 have k3 : (((1 : Nat) : Int) * (ms.length : Int) ≤ 281474976710656) = True := eq_true (by omega)
 try simp -dsimp (maxSteps := 1000000) only [go_sem,↓reduceIte,yab,Tryz.f149,zAr,zAu,k1,k2,k3,zPb1,Int.toNat_natCast,List.length_replicate]
 refine zBa (ι := { x : List Int // x.length ≤ ms.length ∧ orderGo ms cs ms.length [] = orderGo ms cs (ms.length - x.length) x }) (fun x => ⟨[(1,some (.c (.ptr 0 0 0 0))),(4,some (.c (.view 1 1 0 ms.length))),(5,some (.c (.view 2 1 0 x.1.length)))],
   [(0,some (.box [.t (.im (.sl 11 (rowsM ms))),.t (.im (.sl 2 (rowsC cs)))])),(1,some (.arr 1 (tI (rowsBo (lsF ms.length x.1))))),(2,some (.arr 1 (tI (rowsN x.1))))],3⟩) (fun x => ms.length - x.1.length) ⟨[],by simp⟩ ⟨[],[0,1,2],by ((simp only [go_sem,↓reduceIte,yab,yai,zRe]) <;> (try (simp -dsimp only [go_sem,↓reduceIte,yab,yai,zRe]))) <;> simp [lk,zAy,tI,rowsN,MvRt]⟩ (fun ⟨out,hk,hinv⟩ => ?_)
 simp only
 have hol : (rowsN out).length = out.length := zAb _
 by_cases hlt : out.length < ms.length
 rotate_left
 · have hI : ((out.length : Int) < (ms.length : Int)) = False := eq_false (by omega)
   rw [show ms.length - out.length = 0 by omega] at hinv
   simp only [orderGo] at hinv
   try simp -dsimp (maxSteps := 1000000) only [go_sem,↓reduceIte,yab,Tryz.f149,hI,zAr,hinv,oOrder]
   refine zAm [] ?_
   simp -dsimp (maxSteps := 1000000) only [go_sem,↓reduceIte,yab,hinv,oOrder]
   refine ⟨[2],?_,?_,?_,rfl⟩ <;> simp [rtOk]
 have hI : ((out.length : Int) < (ms.length : Int)) = True := eq_true (by omega)
 have hwn : IntKind.i64.wrap ((ms.length : Int) - 1) = (ms.length : Int) - 1 := zAg (by omega) (by omega)
 try simp -dsimp (maxSteps := 1000000) only [go_sem,↓reduceIte,yab,Tryz.f149,hI,hwn,zAr]
 refine zBa (ι := { j : Nat // j ≤ ms.length }) (fun j => ⟨[(1,some (.c (.ptr 0 0 0 0))),(4,some (.c (.view 1 1 0 ms.length))),(5,some (.c (.view 2 1 0 out.length))),(6,some (.c (.im (.int .i64 (nxF ms cs out j.1))))),(7,some (.c (.im (.int .i64 ((j.1 : Int) - 1)))))],
   [(0,some (.box [.t (.im (.sl 11 (rowsM ms))),.t (.im (.sl 2 (rowsC cs)))])),(1,some (.arr 1 (tI (rowsBo (lsF ms.length out))))),(2,some (.arr 1 (tI (rowsN out))))],3⟩) (fun j => j.1) ⟨ms.length,by omega⟩ ⟨[],[0,1,2],by (simp only [go_sem,↓reduceIte,yab,yai,zRe,zBt1,zOt1]) <;> simp [lk,zAy]⟩ (fun ⟨j,hj⟩ => ?_)
 simp only
 have lL : (lsF ms.length out).length = ms.length := zFu1 _ _
 match j,hj with
 | j + 1,hj =>
   have hJ : (0 ≤ ((j + 1 : Nat) : Int) - 1) = True := eq_true (by omega)
   have hj1 : ((j + 1 : Nat) : Int) - 1 = (j : Int) := by omega
   have j0 : (0 ≤ (j : Int)) = True := by simp
   have hwj : IntKind.i64.wrap ((j : Int) - 1) = (j : Int) - 1 := zAg (by omega) (by omega)
   have tkB : List.take ms.length (tI (rowsBo (lsF ms.length out))) = tI (rowsBo (lsF ms.length out)) := List.take_of_length_le (by rw [zAt,zCu,lL]; omega)
   have hst := zJw1 (ms := ms) (cs := cs) (out := out) (j := j) (by omega)
   have hrd := zQt1 (out := out) (i := j) (by omega) h5
   cases hr : readyF ms cs out (j : Int) with
   | true =>
     rw [hr,if_pos rfl] at hst
     rw [hr] at hrd
     try simp -dsimp (maxSteps := 1000000) only [go_sem,↓reduceIte,yab,Tryz.f149,hj1,j0,hwj,tkB,zNt h2 lL (show j < ms.length by omega) h5,hrd,zQe,zCj,zAt,zCu,lL]
     exact ⟨⟨j,by omega⟩,by simp only []; omega,[],[0,1,2],by (simp only [go_sem,↓reduceIte,yab,yai,zRe,zBt1,hst]) <;> simp [lk,zAy]⟩
   | false =>
     rw [hr,if_neg (by simp)] at hst
     rw [hr] at hrd
     try simp -dsimp (maxSteps := 1000000) only [go_sem,↓reduceIte,yab,Tryz.f149,hj1,j0,hwj,tkB,zNt h2 lL (show j < ms.length by omega) h5,hrd,zQe,zCj,zAt,zCu,lL]
     exact ⟨⟨j,by omega⟩,by simp only []; omega,[],[0,1,2],by (simp only [go_sem,↓reduceIte,yab,yai,zRe,zBt1,hst]) <;> simp [lk,zAy]⟩
 | 0,hj =>
   have hJ : (0 ≤ ((0 : Nat) : Int) - 1) = False := by simp
   rw [show ms.length - out.length = (ms.length - (out.length + 1)) + 1 by omega] at hinv
   simp only [orderGo] at hinv
   have hnx : nxF ms cs out 0 = if readyIdx ms cs out ms.length 0 = ms.length then -1 else (readyIdx ms cs out ms.length 0 : Int) := rfl
   have hle := zOc ms cs out ms.length 0
   by_cases hnone : readyIdx ms cs out ms.length 0 = ms.length
   · rw [if_pos hnone] at hnx hinv
     try simp -dsimp (maxSteps := 1000000) only [go_sem,↓reduceIte,yab,Tryz.f149,hJ,hnx,hinv,oOrder,Int.reduceLT]
     refine zAm [] ?_
     simp -dsimp (maxSteps := 1000000) only [go_sem,↓reduceIte,yab,hinv,oOrder]
   · rw [if_neg hnone] at hnx hinv
     generalize readyIdx ms cs out ms.length 0 = R at *
     have hR : ((R : Int) < 0) = False := eq_false (by omega)
     have R0 : (0 ≤ (R : Int)) = True := by simp
     have R1 : ((R : Int) < (ms.length : Int)) = True := eq_true (by omega)
     obtain ⟨b,hb⟩ : ∃ b,(lsF ms.length out)[R]? = some b := ⟨_,List.getElem?_eq_getElem (by rw [lL]; omega)⟩
     have hrow : (tI (rowsBo (lsF ms.length out)))[R]? = some [T.im (.bool b)] := zIu1 (zOb hb)
     have hby : ((out.length + 1) * 8 ≤ 140737488355328) = True := eq_true (by omega)
     have hset : (tI (rowsBo (lsF ms.length out))).set R [T.im (.bool true)] = tI (rowsBo (lsF ms.length (out ++ [(R : Int)]))) := by rw [setBo,zPa1 (by omega)]
     try simp -dsimp (maxSteps := 1000000) only [go_sem,↓reduceIte,yab,Tryz.f149,hJ,hnx,hR,R0,R1,hrow,hset,hby,lL,zDw1,appendH,srcRows,List.take_succ_cons,yan,yao,yap,okT,yaq,yar,zAt,zAb,zCu,Int.toNat_natCast]
     exact ⟨⟨out ++ [(R : Int)],by simp; omega,by rw [List.length_append]; exact hinv⟩,by simp only [yar,yas,List.length_nil]; omega,[],[0,1,4],by (simp only [go_sem,↓reduceIte,yab,yai,zRe,zBt1,yar]) <;> simp [lk,zAy]⟩
end Go.SX
namespace Go.SX
open Go Go.Proofs
structure ADr where
 ms : List Mod
 cs : List Cbl
 ml : ms.length ≤ sm
 cl : cs.length ≤ sm
 dr : ∀ m ∈ ms,Drawn m
theorem zZk (n : Nat) (c : Cbl) : cabF n c = (hasR n c.1 && hasR n c.2) := by
 simp only [cabF,hasR]
 rw [Bool.eq_iff_iff]
 simp
 omega
theorem zXr (ms : List Mod) : MvR false (.arr 11 (tI (rowsM ms))) = True := eq_true (zCn _ _)
theorem zXs (l : List Cbl) : MvR false (.arr 2 (tI (rowsC l))) = True := eq_true (zCn _ _)
theorem zNz1 (ms : List Mod) (m : Mod) : tI (rowsM ms) ++ [[T.im (.int .i64 m.kind),.im (.cpx .f32 m.turn.1 m.turn.2),.im (.cpx .f32 m.state.1 m.state.2),.im (.flt .f32 m.level),.im (.sl 1 (rowsZ m.store)),.im (.int .i64 m.rat),.im (.int .i64 m.rcnt),.im (.sl 1 (rowsZ m.pts)),.im (.sl 1 (rowsN m.lab)),.im (.int .i64 m.count),.im (.int .i64 m.left)]] = tI (rowsM (ms ++ [m])) := by
 simp [tI,rowsM,modI]
theorem zHa : rowsM [] = [] := rfl
theorem zHb : rowsC [] = [] := rfl
def rRO (ms : List Mod) (cs : List Cbl) (b : Bool) : Res := { val := .tup [.agg [.im (.sl 11 (rowsM ms)),.im (.sl 2 (rowsC cs))],.c (.im (.bool b))] }
theorem zRd1 {ms : List Mod} {cs : List Cbl} {b : Bool} : OkR false (rRO ms cs b) := by
 refine ⟨.tup _ (fun d hd => ?_),by simp [rRO],by simp [rRO]⟩
 simp only [yae,yaf,or_false] at hd
 rcases hd with rfl | rfl
 · refine .inr ⟨_,rfl,fun x hx => ?_⟩
   simp only [yae,yaf,or_false] at hx
   rcases hx with rfl | rfl <;> exact .im _ (.inl rfl)
 · exact .inl ⟨_,rfl,.im _ (.inl rfl)⟩
structure GoodRk (ms : List Mod) (cs : List Cbl) : Prop where
 dr : ∀ m ∈ ms,Drawn m
 rk : isRackF ms cs = true
theorem GoodRk.len {ms : List Mod} {cs : List Cbl} (h : GoodRk ms cs) : ms.length ≤ 16 ∧ cs.length ≤ 40 := by
 have := h.rk
 simp only [isRackF,yaw,yax] at this
 exact ⟨this.1,this.2.1⟩
structure AAc where
 ms : List Mod
 cs : List Cbl
 f : Int
 t : Int
 g : GoodRk ms cs
theorem zIv1 (cs : List Cbl) (f t : Int) : tI (rowsC cs) ++ [[T.im (.int .i64 f),T.im (.int .i64 t)]] = tI (rowsC (cs ++ [(f,t)])) := by simp [tI,rowsC]
end Go.SX
namespace Go.SX
open Go Go.Proofs
structure Fa where
 kind : Int
 md : Int
 fr : Int
 to_ : Int
structure ABec where
 fs : List Fa
 i : Int
 last : List Pt
 n : Int
 p : Pt
 fl : fs.length ≤ sm
 n0 : 0 ≤ n
 n1 : n < last.length
end Go.SX
namespace Go.SX
open Go Go.Proofs
structure AStG where
 ms : List Mod
 cs : List Cbl
 inn : Int
 z : Pt
 fs : List Fa
 i : Int
 last : List Pt
 ml : ms.length ≤ 16
 cl : cs.length ≤ sm
 ok : ∀ m ∈ ms,OkS m
 cr : ∀ c ∈ cs,0 ≤ c.1 ∧ c.1 < ms.length
 fl : fs.length ≤ sm
 ll : last.length = ms.length
end Go.SX
namespace Go.SX
open Go Go.Proofs
structure ABad where
 ms : List Mod
 cs : List Cbl
 f : Fa
structure AIf where
 ms : List Mod
 cs : List Cbl
 l : List Fa
 ll : l.length ≤ sm
structure AAf where
 ms : List Mod
 cs : List Cbl
 l : List Fa
 ml : ms.length ≤ sm
 cl : cs.length ≤ sm
 ok : ∀ m ∈ ms,OkM m
 ll : l.length ≤ sm
end Go.SX
namespace Go.SX
open Go Go.Proofs
structure ARf where
 ms : List Mod
 cs : List Cbl
 a : Int
 b : Int
 xs : List Pt
 fs : List Fa
 n : Int
 ml : ms.length ≤ sm
 cl : cs.length ≤ sm
 xl : xs.length ≤ sm
 fl : fs.length ≤ sm
 ok : ∀ m ∈ ms,OkM m
end Go.SX
namespace Go.SX
open Go Go.Proofs
theorem GoodRk.ord {ms : List Mod} {cs : List Cbl} (h : GoodRk ms cs) : (orderF ms cs).isSome = true := by
 have := h.rk
 simp only [isRackF,yaw] at this
 exact this.2.2.2.2
end Go.SX
namespace Go.SX
open Go Go.Proofs
structure AMv where
 m : Mod
 ok : OkM m
 md : isModuleF m = true
structure ARr where
 ms : List Mod
 cs : List Cbl
 ok : ∀ m ∈ ms,OkM m
 r : isRackF ms cs = true
end Go.SX
set_option maxRecDepth 100000
namespace Go.Proofs
open Go.Shelf
def Tryz.lays146_ren : Go.Shelf.Ren := ⟨fun | 146 => 39 | 221 => 102 | 268 => 180 | 138 => 181 | 143 => 182 | 195 => 237 | 197 => 238 | 218 => 239 | 219 => 209 | 260 => 274 | 217 => 254 | 225 => 255 | 224 => 256 | 267 => 257 | 266 => 283 | 314 => 284 | n => n,fun | 9 => 9 | 31 => 71 | 3 => 3 | 4 => 4 | 0 => 0 | 105 => 243 | 21 => 21 | 5 => 5 | 46 => 215 | 119 => 299 | 139 => 302 | 138 => 301 | 146 => 281 | 51 => 201 | n => n,fun | 1 => 2 | 3 => 5 | 4 => 6 | n => n⟩
theorem Tryz.lays146 : Lays.n146 Tryz.prog Tryz.lays146_ren := {
 mixed := by kernel_rfl,
 f138 := Tryz.func181.trans (congrArg some (by kernel_rfl)),
 f143 := Tryz.func182.trans (congrArg some (by kernel_rfl)),
 f146 := Tryz.func39.trans (congrArg some (by kernel_rfl)),
 f195 := Tryz.func237.trans (congrArg some (by kernel_rfl)),
 f197 := Tryz.func238.trans (congrArg some (by kernel_rfl)),
 f217 := Tryz.func254.trans (congrArg some (by kernel_rfl)),
 f218 := Tryz.func239.trans (congrArg some (by kernel_rfl)),
 f219 := Tryz.func209.trans (congrArg some (by kernel_rfl)),
 f221 := Tryz.func102.trans (congrArg some (by kernel_rfl)),
 f224 := Tryz.func256.trans (congrArg some (by kernel_rfl)),
 f225 := Tryz.func255.trans (congrArg some (by kernel_rfl)),
 f260 := Tryz.func274.trans (congrArg some (by kernel_rfl)),
 f266 := Tryz.func283.trans (congrArg some (by kernel_rfl)),
 f267 := Tryz.func257.trans (congrArg some (by kernel_rfl)),
 f268 := Tryz.func180.trans (congrArg some (by kernel_rfl)),
 f314 := Tryz.func284.trans (congrArg some (by kernel_rfl)),
 t0 := Tryz.underlying0,
 a0 := Tryz.isAgg0,
 z0 := Tryz.sizeOf0,
 v0 := Tryz.zeroValue0,
 t3 := Tryz.underlying3,
 a3 := Tryz.isAgg3,
 z3 := Tryz.sizeOf3,
 v3 := Tryz.zeroValue3,
 t4 := Tryz.underlying4,
 a4 := Tryz.isAgg4,
 z4 := Tryz.sizeOf4,
 v4 := Tryz.zeroValue4,
 t5 := Tryz.underlying5,
 a5 := Tryz.isAgg5,
 z5 := Tryz.sizeOf5,
 v5 := Tryz.zeroValue5,
 t9 := Tryz.underlying9,
 a9 := Tryz.isAgg9,
 z9 := Tryz.sizeOf9,
 v9 := Tryz.zeroValue9,
 t21 := Tryz.underlying21,
 a21 := Tryz.isAgg21,
 z21 := Tryz.sizeOf21,
 v21 := Tryz.zeroValue21,
 t31 := Tryz.underlying71,
 a31 := Tryz.isAgg71,
 z31 := Tryz.sizeOf71,
 v31 := Tryz.zeroValue71,
 t46 := Tryz.underlying215,
 a46 := Tryz.isAgg215,
 z46 := Tryz.sizeOf215,
 v46 := Tryz.zeroValue215,
 t51 := Tryz.underlying201,
 a51 := Tryz.isAgg201,
 z51 := Tryz.sizeOf201,
 v51 := Tryz.zeroValue201,
 t105 := Tryz.underlying243,
 a105 := Tryz.isAgg243,
 z105 := Tryz.sizeOf243,
 v105 := Tryz.zeroValue243,
 t119 := Tryz.underlying299,
 a119 := Tryz.isAgg299,
 z119 := Tryz.sizeOf299,
 t138 := Tryz.underlying301,
 a138 := Tryz.isAgg301,
 z138 := Tryz.sizeOf301,
 v138 := Tryz.zeroValue301,
 t139 := Tryz.underlying302,
 a139 := Tryz.isAgg302,
 z139 := Tryz.sizeOf302,
 v139 := Tryz.zeroValue302,
 t146 := Tryz.underlying281,
 a146 := Tryz.isAgg281,
 z146 := Tryz.sizeOf281,
 v146 := Tryz.zeroValue281,
 g1 := by kernel_rfl,
 g3 := by kernel_rfl,
 g4 := by kernel_rfl }
def Tryz.lays145_ren : Go.Shelf.Ren := ⟨fun | 145 => 77 | 220 => 150 | 219 => 209 | 217 => 254 | 225 => 255 | 224 => 256 | 267 => 257 | 266 => 283 | 314 => 284 | n => n,fun | 9 => 9 | 4 => 4 | 59 => 116 | 3 => 3 | 5 => 5 | 46 => 215 | 146 => 281 | 51 => 201 | n => n,fun | 1 => 2 | n => n⟩
theorem Tryz.lays145 : Lays.n145 Tryz.prog Tryz.lays145_ren := {
 mixed := by kernel_rfl,
 f145 := Tryz.func77.trans (congrArg some (by kernel_rfl)),
 f217 := Tryz.func254.trans (congrArg some (by kernel_rfl)),
 f219 := Tryz.func209.trans (congrArg some (by kernel_rfl)),
 f220 := Tryz.func150.trans (congrArg some (by kernel_rfl)),
 f224 := Tryz.func256.trans (congrArg some (by kernel_rfl)),
 f225 := Tryz.func255.trans (congrArg some (by kernel_rfl)),
 f266 := Tryz.func283.trans (congrArg some (by kernel_rfl)),
 f267 := Tryz.func257.trans (congrArg some (by kernel_rfl)),
 f314 := Tryz.func284.trans (congrArg some (by kernel_rfl)),
 t3 := Tryz.underlying3,
 a3 := Tryz.isAgg3,
 z3 := Tryz.sizeOf3,
 v3 := Tryz.zeroValue3,
 t4 := Tryz.underlying4,
 a4 := Tryz.isAgg4,
 z4 := Tryz.sizeOf4,
 v4 := Tryz.zeroValue4,
 t5 := Tryz.underlying5,
 a5 := Tryz.isAgg5,
 z5 := Tryz.sizeOf5,
 v5 := Tryz.zeroValue5,
 t9 := Tryz.underlying9,
 a9 := Tryz.isAgg9,
 z9 := Tryz.sizeOf9,
 v9 := Tryz.zeroValue9,
 t46 := Tryz.underlying215,
 a46 := Tryz.isAgg215,
 z46 := Tryz.sizeOf215,
 v46 := Tryz.zeroValue215,
 t51 := Tryz.underlying201,
 a51 := Tryz.isAgg201,
 z51 := Tryz.sizeOf201,
 v51 := Tryz.zeroValue201,
 t59 := Tryz.underlying116,
 a59 := Tryz.isAgg116,
 z59 := Tryz.sizeOf116,
 v59 := Tryz.zeroValue116,
 t146 := Tryz.underlying281,
 a146 := Tryz.isAgg281,
 z146 := Tryz.sizeOf281,
 v146 := Tryz.zeroValue281,
 g1 := by kernel_rfl }
def Tryz.lays171_ren : Go.Shelf.Ren := ⟨fun | 171 => 146 | 243 => 207 | 246 => 253 | 283 => 279 | 284 => 280 | 285 => 281 | 286 => 282 | 129 => 300 | 317 => 304 | 318 => 305 | 319 => 306 | 320 => 307 | 337 => 206 | 338 => 316 | n => n,fun | 3 => 3 | 9 => 9 | 2 => 2 | 4 => 4 | 171 => 276 | 0 => 0 | 53 => 247 | 37 => 37 | 5 => 5 | 173 => 279 | 212 => 308 | 51 => 201 | 20 => 20 | 213 => 309 | 46 => 215 | 232 => 256 | 233 => 323 | n => n,fun | 17 => 7 | 18 => 1 | 19 => 8 | n => n⟩
theorem Tryz.lays171 : LaysM.n171 Tryz.prog Tryz.lays171_ren := {
 mixed := by kernel_rfl,
 f129 := Tryz.func300.trans (congrArg some (by kernel_rfl)),
 f171 := Tryz.func146.trans (congrArg some (by kernel_rfl)),
 f243 := Tryz.func207.trans (congrArg some (by kernel_rfl)),
 f246 := Tryz.func253.trans (congrArg some (by kernel_rfl)),
 f283 := Tryz.func279.trans (congrArg some (by kernel_rfl)),
 f284 := Tryz.func280.trans (congrArg some (by kernel_rfl)),
 f285 := Tryz.func281.trans (congrArg some (by kernel_rfl)),
 f286 := Tryz.func282.trans (congrArg some (by kernel_rfl)),
 f317 := Tryz.func304.trans (congrArg some (by kernel_rfl)),
 f318 := Tryz.func305.trans (congrArg some (by kernel_rfl)),
 f319 := Tryz.func306.trans (congrArg some (by kernel_rfl)),
 f320 := Tryz.func307.trans (congrArg some (by kernel_rfl)),
 f337 := Tryz.func206.trans (congrArg some (by kernel_rfl)),
 f338 := Tryz.func316.trans (congrArg some (by kernel_rfl)),
 t0 := Tryz.underlying0,
 a0 := Tryz.isAgg0,
 z0 := Tryz.sizeOf0,
 v0 := Tryz.zeroValue0,
 t2 := Tryz.underlying2,
 a2 := Tryz.isAgg2,
 z2 := Tryz.sizeOf2,
 v2 := Tryz.zeroValue2,
 t3 := Tryz.underlying3,
 a3 := Tryz.isAgg3,
 z3 := Tryz.sizeOf3,
 v3 := Tryz.zeroValue3,
 t4 := Tryz.underlying4,
 a4 := Tryz.isAgg4,
 z4 := Tryz.sizeOf4,
 v4 := Tryz.zeroValue4,
 t5 := Tryz.underlying5,
 a5 := Tryz.isAgg5,
 z5 := Tryz.sizeOf5,
 v5 := Tryz.zeroValue5,
 t9 := Tryz.underlying9,
 a9 := Tryz.isAgg9,
 z9 := Tryz.sizeOf9,
 v9 := Tryz.zeroValue9,
 t20 := Tryz.underlying20,
 a20 := Tryz.isAgg20,
 z20 := Tryz.sizeOf20,
 v20 := Tryz.zeroValue20,
 t37 := Tryz.underlying37,
 a37 := Tryz.isAgg37,
 z37 := Tryz.sizeOf37,
 v37 := Tryz.zeroValue37,
 t46 := Tryz.underlying215,
 a46 := Tryz.isAgg215,
 z46 := Tryz.sizeOf215,
 v46 := Tryz.zeroValue215,
 t51 := Tryz.underlying201,
 a51 := Tryz.isAgg201,
 z51 := Tryz.sizeOf201,
 v51 := Tryz.zeroValue201,
 t53 := Tryz.underlying247,
 a53 := Tryz.isAgg247,
 z53 := Tryz.sizeOf247,
 v53 := Tryz.zeroValue247,
 t171 := Tryz.underlying276,
 a171 := Tryz.isAgg276,
 z171 := Tryz.sizeOf276,
 v171 := Tryz.zeroValue276,
 t173 := Tryz.underlying279,
 a173 := Tryz.isAgg279,
 z173 := Tryz.sizeOf279,
 v173 := Tryz.zeroValue279,
 t212 := Tryz.underlying308,
 a212 := Tryz.isAgg308,
 z212 := Tryz.sizeOf308,
 v212 := Tryz.zeroValue308,
 t213 := Tryz.underlying309,
 a213 := Tryz.isAgg309,
 z213 := Tryz.sizeOf309,
 t232 := Tryz.underlying256,
 a232 := Tryz.isAgg256,
 z232 := Tryz.sizeOf256,
 v232 := Tryz.zeroValue256,
 t233 := Tryz.underlying323,
 a233 := Tryz.isAgg323,
 z233 := Tryz.sizeOf323,
 v233 := Tryz.zeroValue323,
 g17 := by kernel_rfl,
 g18 := by kernel_rfl,
 g19 := by kernel_rfl,
 i0 := by kernel_rfl,
 i2 := by kernel_rfl,
 i3 := by kernel_rfl,
 i4 := by kernel_rfl,
 i5 := by kernel_rfl,
 i9 := by kernel_rfl,
 i20 := by kernel_rfl,
 i37 := by kernel_rfl,
 i46 := by kernel_rfl,
 i51 := by kernel_rfl,
 i53 := by kernel_rfl,
 i171 := by kernel_rfl,
 i173 := by kernel_rfl,
 i212 := by kernel_rfl,
 i232 := by kernel_rfl,
 i233 := by kernel_rfl,
 m17 := by kernel_rfl,
 m18 := by kernel_rfl,
 m19 := by kernel_rfl }
def Tryz.lays28_ren : Go.Shelf.Ren := ⟨fun | 28 => 206 | n => n,fun | 27 => 201 | 3 => 3 | 4 => 4 | 25 => 215 | 53 => 256 | 0 => 0 | 5 => 5 | n => n,fun | 0 => 1 | n => n⟩
theorem Tryz.lays28 : Lays7.n28 Tryz.prog Tryz.lays28_ren := {
 mixed := by kernel_rfl,
 f28 := Tryz.func206.trans (congrArg some (by kernel_rfl)),
 t0 := Tryz.underlying0,
 a0 := Tryz.isAgg0,
 z0 := Tryz.sizeOf0,
 v0 := Tryz.zeroValue0,
 i0 := by kernel_rfl,
 t3 := Tryz.underlying3,
 a3 := Tryz.isAgg3,
 z3 := Tryz.sizeOf3,
 v3 := Tryz.zeroValue3,
 i3 := by kernel_rfl,
 t4 := Tryz.underlying4,
 a4 := Tryz.isAgg4,
 z4 := Tryz.sizeOf4,
 v4 := Tryz.zeroValue4,
 i4 := by kernel_rfl,
 t5 := Tryz.underlying5,
 a5 := Tryz.isAgg5,
 z5 := Tryz.sizeOf5,
 v5 := Tryz.zeroValue5,
 i5 := by kernel_rfl,
 t25 := Tryz.underlying215,
 a25 := Tryz.isAgg215,
 z25 := Tryz.sizeOf215,
 v25 := Tryz.zeroValue215,
 i25 := by kernel_rfl,
 t27 := Tryz.underlying201,
 a27 := Tryz.isAgg201,
 z27 := Tryz.sizeOf201,
 v27 := Tryz.zeroValue201,
 i27 := by kernel_rfl,
 t53 := Tryz.underlying256,
 a53 := Tryz.isAgg256,
 z53 := Tryz.sizeOf256,
 v53 := Tryz.zeroValue256,
 i53 := by kernel_rfl,
 g0 := by kernel_rfl }
def Tryz.lays172_ren : Go.Shelf.Ren := ⟨fun | 172 => 151 | 244 => 210 | 245 => 211 | 247 => 258 | 279 => 259 | 280 => 260 | 281 => 261 | 282 => 262 | 287 => 285 | 316 => 286 | 171 => 146 | 205 => 287 | 321 => 308 | 322 => 309 | 243 => 207 | 246 => 253 | 283 => 279 | 284 => 280 | 285 => 281 | 286 => 282 | 129 => 300 | 317 => 304 | 318 => 305 | 319 => 306 | 320 => 307 | 337 => 206 | 338 => 316 | n => n,fun | 9 => 9 | 3 => 3 | 75 => 169 | 76 => 170 | 4 => 4 | 5 => 5 | 167 => 259 | 37 => 37 | 0 => 0 | 85 => 260 | 2 => 2 | 168 => 262 | 53 => 247 | 175 => 283 | 46 => 215 | 210 => 286 | 127 => 268 | 145 => 313 | 143 => 311 | 21 => 21 | 171 => 276 | 173 => 279 | 212 => 308 | 51 => 201 | 20 => 20 | 213 => 309 | 232 => 256 | 233 => 323 | 80 => 78 | n => n,fun | 15 => 3 | 16 => 4 | 17 => 7 | 18 => 1 | 19 => 8 | n => n⟩
theorem Tryz.lays172 : LaysC.n172 Tryz.prog Tryz.lays172_ren := {
 mixed := by kernel_rfl,
 f129 := Tryz.func300.trans (congrArg some (by kernel_rfl)),
 f171 := Tryz.func146.trans (congrArg some (by kernel_rfl)),
 f172 := Tryz.func151.trans (congrArg some (by kernel_rfl)),
 f205 := Tryz.func287.trans (congrArg some (by kernel_rfl)),
 f243 := Tryz.func207.trans (congrArg some (by kernel_rfl)),
 f244 := Tryz.func210.trans (congrArg some (by kernel_rfl)),
 f245 := Tryz.func211.trans (congrArg some (by kernel_rfl)),
 f246 := Tryz.func253.trans (congrArg some (by kernel_rfl)),
 f247 := Tryz.func258.trans (congrArg some (by kernel_rfl)),
 f279 := Tryz.func259.trans (congrArg some (by kernel_rfl)),
 f280 := Tryz.func260.trans (congrArg some (by kernel_rfl)),
 f281 := Tryz.func261.trans (congrArg some (by kernel_rfl)),
 f282 := Tryz.func262.trans (congrArg some (by kernel_rfl)),
 f283 := Tryz.func279.trans (congrArg some (by kernel_rfl)),
 f284 := Tryz.func280.trans (congrArg some (by kernel_rfl)),
 f285 := Tryz.func281.trans (congrArg some (by kernel_rfl)),
 f286 := Tryz.func282.trans (congrArg some (by kernel_rfl)),
 f287 := Tryz.func285.trans (congrArg some (by kernel_rfl)),
 f316 := Tryz.func286.trans (congrArg some (by kernel_rfl)),
 f317 := Tryz.func304.trans (congrArg some (by kernel_rfl)),
 f318 := Tryz.func305.trans (congrArg some (by kernel_rfl)),
 f319 := Tryz.func306.trans (congrArg some (by kernel_rfl)),
 f320 := Tryz.func307.trans (congrArg some (by kernel_rfl)),
 f321 := Tryz.func308.trans (congrArg some (by kernel_rfl)),
 f322 := Tryz.func309.trans (congrArg some (by kernel_rfl)),
 f337 := Tryz.func206.trans (congrArg some (by kernel_rfl)),
 f338 := Tryz.func316.trans (congrArg some (by kernel_rfl)),
 t0 := Tryz.underlying0,
 a0 := Tryz.isAgg0,
 z0 := Tryz.sizeOf0,
 v0 := Tryz.zeroValue0,
 t2 := Tryz.underlying2,
 a2 := Tryz.isAgg2,
 z2 := Tryz.sizeOf2,
 v2 := Tryz.zeroValue2,
 t3 := Tryz.underlying3,
 a3 := Tryz.isAgg3,
 z3 := Tryz.sizeOf3,
 v3 := Tryz.zeroValue3,
 t4 := Tryz.underlying4,
 a4 := Tryz.isAgg4,
 z4 := Tryz.sizeOf4,
 v4 := Tryz.zeroValue4,
 t5 := Tryz.underlying5,
 a5 := Tryz.isAgg5,
 z5 := Tryz.sizeOf5,
 v5 := Tryz.zeroValue5,
 t9 := Tryz.underlying9,
 a9 := Tryz.isAgg9,
 z9 := Tryz.sizeOf9,
 v9 := Tryz.zeroValue9,
 t20 := Tryz.underlying20,
 a20 := Tryz.isAgg20,
 z20 := Tryz.sizeOf20,
 v20 := Tryz.zeroValue20,
 t21 := Tryz.underlying21,
 a21 := Tryz.isAgg21,
 z21 := Tryz.sizeOf21,
 v21 := Tryz.zeroValue21,
 t37 := Tryz.underlying37,
 a37 := Tryz.isAgg37,
 z37 := Tryz.sizeOf37,
 v37 := Tryz.zeroValue37,
 t46 := Tryz.underlying215,
 a46 := Tryz.isAgg215,
 z46 := Tryz.sizeOf215,
 v46 := Tryz.zeroValue215,
 t51 := Tryz.underlying201,
 a51 := Tryz.isAgg201,
 z51 := Tryz.sizeOf201,
 v51 := Tryz.zeroValue201,
 t53 := Tryz.underlying247,
 a53 := Tryz.isAgg247,
 z53 := Tryz.sizeOf247,
 v53 := Tryz.zeroValue247,
 t75 := Tryz.underlying169,
 a75 := Tryz.isAgg169,
 z75 := Tryz.sizeOf169,
 v75 := Tryz.zeroValue169,
 t76 := Tryz.underlying170,
 a76 := Tryz.isAgg170,
 z76 := Tryz.sizeOf170,
 v76 := Tryz.zeroValue170,
 t85 := Tryz.underlying260,
 a85 := Tryz.isAgg260,
 z85 := Tryz.sizeOf260,
 v85 := Tryz.zeroValue260,
 t127 := Tryz.underlying268,
 a127 := Tryz.isAgg268,
 z127 := Tryz.sizeOf268,
 v127 := Tryz.zeroValue268,
 t143 := Tryz.underlying311,
 a143 := Tryz.isAgg311,
 z143 := Tryz.sizeOf311,
 v143 := Tryz.zeroValue311,
 t145 := Tryz.underlying313,
 a145 := Tryz.isAgg313,
 z145 := Tryz.sizeOf313,
 v145 := Tryz.zeroValue313,
 t167 := Tryz.underlying259,
 a167 := Tryz.isAgg259,
 z167 := Tryz.sizeOf259,
 v167 := Tryz.zeroValue259,
 t168 := Tryz.underlying262,
 a168 := Tryz.isAgg262,
 z168 := Tryz.sizeOf262,
 v168 := Tryz.zeroValue262,
 t171 := Tryz.underlying276,
 a171 := Tryz.isAgg276,
 z171 := Tryz.sizeOf276,
 v171 := Tryz.zeroValue276,
 t173 := Tryz.underlying279,
 a173 := Tryz.isAgg279,
 z173 := Tryz.sizeOf279,
 v173 := Tryz.zeroValue279,
 t175 := Tryz.underlying283,
 a175 := Tryz.isAgg283,
 z175 := Tryz.sizeOf283,
 v175 := Tryz.zeroValue283,
 t210 := Tryz.underlying286,
 a210 := Tryz.isAgg286,
 z210 := Tryz.sizeOf286,
 v210 := Tryz.zeroValue286,
 t212 := Tryz.underlying308,
 a212 := Tryz.isAgg308,
 z212 := Tryz.sizeOf308,
 v212 := Tryz.zeroValue308,
 t213 := Tryz.underlying309,
 a213 := Tryz.isAgg309,
 z213 := Tryz.sizeOf309,
 t232 := Tryz.underlying256,
 a232 := Tryz.isAgg256,
 z232 := Tryz.sizeOf256,
 v232 := Tryz.zeroValue256,
 t233 := Tryz.underlying323,
 a233 := Tryz.isAgg323,
 z233 := Tryz.sizeOf323,
 v233 := Tryz.zeroValue323,
 g15 := by kernel_rfl,
 g16 := by kernel_rfl,
 g17 := by kernel_rfl,
 g18 := by kernel_rfl,
 g19 := by kernel_rfl,
 t80 := Tryz.underlying78,
 a80 := Tryz.isAgg78,
 z80 := Tryz.sizeOf78,
 v80 := Tryz.zeroValue78,
 i0 := by kernel_rfl,
 i2 := by kernel_rfl,
 i3 := by kernel_rfl,
 i4 := by kernel_rfl,
 i5 := by kernel_rfl,
 i9 := by kernel_rfl,
 i20 := by kernel_rfl,
 i21 := by kernel_rfl,
 i37 := by kernel_rfl,
 i46 := by kernel_rfl,
 i51 := by kernel_rfl,
 i53 := by kernel_rfl,
 i75 := by kernel_rfl,
 i76 := by kernel_rfl,
 i80 := by kernel_rfl,
 i85 := by kernel_rfl,
 i127 := by kernel_rfl,
 i143 := by kernel_rfl,
 i145 := by kernel_rfl,
 i167 := by kernel_rfl,
 i168 := by kernel_rfl,
 i171 := by kernel_rfl,
 i173 := by kernel_rfl,
 i175 := by kernel_rfl,
 i210 := by kernel_rfl,
 i212 := by kernel_rfl,
 i232 := by kernel_rfl,
 i233 := by kernel_rfl,
 m15 := by kernel_rfl,
 m16 := by kernel_rfl,
 m17 := by kernel_rfl,
 m18 := by kernel_rfl,
 m19 := by kernel_rfl,
 c0 := by kernel_rfl,
 c2 := by kernel_rfl,
 c3 := by kernel_rfl,
 c4 := by kernel_rfl,
 c5 := by kernel_rfl,
 c9 := by kernel_rfl,
 c20 := by kernel_rfl,
 c21 := by kernel_rfl,
 c37 := by kernel_rfl,
 c46 := by kernel_rfl,
 c51 := by kernel_rfl,
 c53 := by kernel_rfl,
 c75 := by kernel_rfl,
 c76 := by kernel_rfl,
 c80 := by kernel_rfl,
 c85 := by kernel_rfl,
 c127 := by kernel_rfl,
 c143 := by kernel_rfl,
 c145 := by kernel_rfl,
 c167 := by kernel_rfl,
 c168 := by kernel_rfl,
 c171 := by kernel_rfl,
 c173 := by kernel_rfl,
 c175 := by kernel_rfl,
 c210 := by kernel_rfl,
 c212 := by kernel_rfl,
 c213 := by kernel_rfl,
 c232 := by kernel_rfl,
 c233 := by kernel_rfl }
end Go.Proofs
namespace Go.SX
open Go Go.Proofs Go.RowKit
theorem zAp (l : Txt) : (⟨l.toArray⟩ : ByteArray).size = l.length := by simp [ByteArray.size]
theorem zBo (a b : Txt) : (⟨a.toArray⟩ : ByteArray) ++ ⟨b.toArray⟩ = ⟨(a ++ b).toArray⟩ := by
 apply ByteArray.ext
 simp
theorem zSi1 (s : ByteArray) : s = ⟨s.data.toList.toArray⟩ := by cases s; rfl
theorem zAh (a b : Txt) : ((⟨a.toArray⟩ : ByteArray).toList == (⟨b.toArray⟩ : ByteArray).toList) = decide (a = b) := by
 rw [ByteArray.toList_mk,ByteArray.toList_mk]
 by_cases h : a = b <;> simp [h]
theorem zHo {a b : Txt} : (⟨a.toArray⟩ : ByteArray) = ⟨b.toArray⟩ ↔ a = b := by
 constructor
 · intro h
   have := congrArg (fun s : ByteArray => s.data.toList) h
   simpa using this
 · rintro rfl; rfl
theorem zGs1 {w : World} (h : Laid (fun _ => none) w) : Lib.TabIs Tryz.prog w "internal/strconv.uint64pow10" .u64 Lib.pow10Tab := by
 obtain ⟨⟨e,fr,h1⟩,_⟩ := h.v 7 (Lib.pow10Tab.map fun z => Value.int .u64 z) (by simp [globV])
 unfold Lib.TabIs World.var?
 rw [show Tryz.prog.globalNamed "internal/strconv.uint64pow10" = some 7 by kernel_rfl]
 simp only [Option.bind_some,h1]
theorem zPn1 {w : World} (h : Laid (fun _ => none) w) : TabAt 1 Lib.deBruijn32tab w := by
 obtain ⟨⟨e,fr,h1⟩,_⟩ := h.v 1 (Lib.deBruijn32tab.map fun (k : Nat) => Value.int .u8 (k : Int)) (by simp [globV])
 intro j hj
 have h2 : (Lib.deBruijn32tab.map fun (k : Nat) => Value.int .u8 (k : Int)).toArray[j]? = some (.int .u8 (Lib.deBruijn32tab.getD j 0 : Nat)) := by
   simp [List.getElem?_eq_getElem hj,List.getD_eq_getElem?_getD]
 simp [World.cell?,h1,h2]
theorem zAn1 {w : World} (h : Laid (fun _ => none) w) {b : Nat} (hb : b = 3 ∨ b = 4) : ∃ t p,w.cell? ⟨b,0,none⟩ = some (.iface t p) := by
 obtain ⟨⟨t,p,e,fr,h1⟩,_⟩ := h.i b (by simpa [globI] using hb)
 exact ⟨t,p,by simp [World.cell?,h1]⟩
theorem zAm1 {w : World} (h : Laid (fun _ => none) w) : ∃ m,w.cell? ⟨2,0,none⟩ = some (.int .i64 m) := by
 obtain ⟨⟨m,e,fr,h1⟩,_⟩ := h.n 2 (by simp [globN])
 exact ⟨m,by simp [World.cell?,h1]⟩
theorem zZl (w : World) (n : Nat) : Below w.heap.size w (w.drewN n) := ⟨rfl,rfl,rfl,Nat.le_refl _,fun _ _ => rfl⟩
theorem zDm1 (w : World) (k : Nat) (os : Array Obj) : Below w.heap.size w (Sort.grow (w.drewN k) os) :=
 ⟨rfl,rfl,rfl,by simp [Sort.grow,World.drewN],fun j hj => by simp [Sort.grow,World.drewN]; rw [Array.getElem?_append_left (by simpa using hj)]⟩
theorem zUi {g : Gh} {s : ByteArray} {v : Value} (h : DV g (.c (.im (.str s))) v) : v = .string s := by
 cases h with | c _ _ hc => cases hc with | im _ _ hi => exact hi.str_inv
theorem zMi1 {g : Gh} {k : IntKind} {n : Int} {v : Value} (h : DV g (.c (.im (.int k n))) v) : v = .int k n := by
 cases h with | c _ _ hc => cases hc with | im _ _ hi => exact hi.int_inv
theorem zZf {i : I} {v : Value} (h : ∀ fz,IR fz i v) (g : Gh) : DV g (.c (.im i)) v := .c _ _ (.im _ _ (h _))
theorem zYi {ds : List D} {args : List Value} (hl : args.length = ds.length) {d : D} (hd : ds = [d]) : ∃ v,args = [v] := by
 subst hd
 match args,hl with
 | [v],_ => exact ⟨v,rfl⟩
abbrev Z64 := { n : Int // i64B n }
noncomputable def zHu1 : Ct := fam true (fun n : Z64 => ([.c (.im (.int .i64 n.1))],[])) (fun n => .one { val := .c (.im (.str ⟨(Lib.itoa n.1).toArray⟩)) })
theorem zRs {n : Int} (h : i64B n) : zHu1.run [.c (.im (.int .i64 n))] [] = some (.one { val := .c (.im (.str ⟨(Lib.itoa n).toArray⟩)) }) := by
 refine zAd (args := fun n : Z64 => ([D.c (.im (.int .i64 n.1))],[])) ?_ ⟨n,h⟩
 rintro ⟨a,_⟩ ⟨b,_⟩ h
 simp only [Prod.mk.injEq,List.cons.injEq,D.c.injEq,C.im.injEq,I.int.injEq,true_and,and_true] at h
 exact Subtype.ext h
theorem zRd {n : Int} (h : i64B n) {w : World} (hL : Laid (fun _ => none) w) : Calls Tryz.prog 146 #[.int .i64 n] w fun e w' => e = .returned (.string ⟨(Lib.itoa n).toArray⟩) ∧ Below w.heap.size w w' :=
 (Any.strconv_Itoa Tryz.lays171 n h.1 h.2 w (zGs1 hL)).mono fun e w' ⟨he,k,os,hw⟩ => ⟨he,by rw [hw]; exact zDm1 w k os⟩
theorem zAl1 : Law Tryz.prog 146 zHu1 := by
 refine zSn (ds := fun n : Z64 => [.c (.im (.int .i64 n.1))]) Tryz.func146 rfl rfl (fun a => zAv rfl) (fun ⟨n,h⟩ args w hl hv hL => ?_)
 obtain ⟨v,rfl⟩ := zYi hl rfl
 obtain ⟨g,hg⟩ := hv 0 _ v rfl rfl
 rw [zMi1 hg]
 exact (zRd h hL).mono fun e w' ⟨he,hB⟩ => ⟨_,he,⟨_,rfl,rfl,rfl,fun _ => rfl,zZf fun _ => .str _⟩,hB⟩
abbrev S21 := { s : Txt // s.length ≤ 2097152 }
noncomputable def zXb : Ct := fam true (fun s : S21 => ([.c (.im (.str ⟨s.1.toArray⟩))],[])) (fun s => .one { val := .tup [.c (.im (.int .i64 (numF s.1).1)),.c (.im (.bool (numF s.1).2))] })
theorem zZm : ∀ a b : S21,([D.c (.im (.str ⟨a.1.toArray⟩))],([] : List (List B))) = ([D.c (.im (.str ⟨b.1.toArray⟩))],[]) → a = b := by
 rintro ⟨a,_⟩ ⟨b,_⟩ h
 simp only [Prod.mk.injEq,List.cons.injEq,D.c.injEq,C.im.injEq,I.str.injEq,zHo,true_and,and_true] at h
 exact Subtype.ext h
theorem zDe {s : Txt} (h : s.length ≤ 2097152) : zXb.run [.c (.im (.str ⟨s.toArray⟩))] [] = some (.one { val := .tup [.c (.im (.int .i64 (numF s).1)),.c (.im (.bool (numF s).2))] }) :=
 zAd (args := fun s : S21 => ([D.c (.im (.str ⟨s.1.toArray⟩))],[])) zZm ⟨s,h⟩
theorem zRb1 {sc : Bool} {n : Int} {b : Bool} : OkR sc { val := .tup [.c (.im (.int .i64 n)),.c (.im (.bool b))] } :=
 ⟨.tup _ (by intro d hd; simp at hd; rcases hd with rfl | rfl; exact .inl ⟨_,rfl,zFn rfl⟩; exact .inl ⟨_,rfl,zFn rfl⟩),by simp,by simp⟩
theorem zSv1 {n : Int} {b : Bool} (g : Gh) : DV g (.tup [.c (.im (.int .i64 n)),.c (.im (.bool b))]) (.tuple #[.int .i64 n,.bool b]) := by
 refine .tup _ _ rfl fun j d v hd hv => ?_
 match j,hd,hv with
 | 0,hd,hv => simp at hd hv; subst hd hv; exact zZf (fun _ => .int _ _) g
 | 1,hd,hv => simp at hd hv; subst hd hv; exact zZf (fun _ => .bool _) g
 | j + 2,hd,hv => simp at hd
theorem laidB {w w' : World} (h : Laid (fun _ => none) w) (hB : Below w.heap.size w w') : Laid (fun _ => none) w' := h.move fun b hb _ => ⟨rfl,hB.block b hb⟩
theorem zTq {s : Txt} (hs : s.length ≤ 2097152) {v : Int} (h : Lib.atoiAll s = .ok v) (w : World) : Calls Tryz.prog 151 #[.string ⟨s.toArray⟩] w fun e w' => e = .returned (.tuple #[.int .i64 v,.nilIface]) ∧ Below w.heap.size w w' :=
 (Any.strconv_Atoi_ok Tryz.lays172 ⟨s.toArray⟩ (by rw [zAp]; omega) v (by simpa using h) w).mono fun e w' ⟨he,hw⟩ => ⟨he,by
   rcases hw with rfl | ⟨t,rfl⟩
   · exact Below.refl _ _
   · exact Lib.bytesWorld_below _ _ _⟩
theorem zTr {s : Txt} (hs : s.length ≤ 2097152) (h : ∀ v,Lib.atoiAll s ≠ .ok v) {w : World} (hL : Laid (fun _ => none) w) :
   Calls Tryz.prog 151 #[.string ⟨s.toArray⟩] w fun e w' => ∃ N t,e = .returned (.tuple #[.int .i64 (numF s).1,.iface t (.pointer (some ⟨N,0,none⟩))]) ∧ Below w.heap.size w w' := by
 cases hq : Lib.atoiAll s with
 | ok v => exact absurd hq (h v)
 | range =>
   obtain ⟨t,p,hc⟩ := zAn1 hL (b := 4) (.inr rfl)
   refine (Any.strconv_Atoi_range Tryz.lays172 ⟨s.toArray⟩ (by rw [zAp]; omega) (by simpa using hq) _ w hc (.inr ⟨t,p,rfl⟩)).mono fun e w' ⟨N,he,_,_,hB⟩ => ⟨N,Tryz.lays172_ren.t 168,?_,hB⟩
   rw [he]; simp [numF,hq]
 | _ =>
   obtain ⟨t,p,hc⟩ := zAn1 hL (b := 3) (.inl rfl)
   refine (Any.strconv_Atoi_syntax Tryz.lays172 ⟨s.toArray⟩ (by rw [zAp]; omega) (by simpa using hq) _ w hc (.inr ⟨t,p,rfl⟩)).mono fun e w' ⟨N,he,_,_,hB⟩ => ⟨N,Tryz.lays172_ren.t 168,?_,hB⟩
   rw [he]; simp [numF,hq]
theorem zOu1 {s : Txt} (h : ∀ v,Lib.atoiAll s ≠ .ok v) : (numF s).2 = false := by
 unfold numF
 split
 · rename_i v hv; exact absurd hv (h v)
 · rfl
 · rfl
theorem zXn {s : Txt} (hs : s.length ≤ 2097152) {w : World} (hL : Laid (fun _ => none) w) : Calls Tryz.prog 78 #[.string ⟨s.toArray⟩] w fun e w' => e = .returned (.tuple #[.int .i64 (numF s).1,.bool (numF s).2]) ∧ Below w.heap.size w w' := by
 rcases (show (∃ v,Lib.atoiAll s = .ok v) ∨ (∀ v,Lib.atoiAll s ≠ .ok v) from by
   cases hq : Lib.atoiAll s with
   | ok v => exact .inl ⟨v,rfl⟩
   | _ => exact .inr (fun v h => by cases h)) with ⟨v,h⟩ | h
 · have hb := Lib.atoiAll_bounds h
   go_enter Tryz.func78,Tryz.ntmps78
   go_wp2_with (first
     | (go_at_call 151; refine (zTq hs h _).mono ?_; rintro e w1 ⟨rfl,hB⟩)
     | (go_at_call 146; refine (zRd hb (laidB hL hB)).mono ?_; rintro e w2 ⟨rfl,hB2⟩))
   go_ret2
   refine ⟨?_,hB.trans (hB2.mono hB.size)⟩
   have e : (Lib.itoa v == s) = decide (Lib.itoa v = s) := by by_cases h : Lib.itoa v = s <;> simp [h]
   simp [numF,h,e]
 · have hn := zOu1 h
   go_enter Tryz.func78,Tryz.ntmps78
   go_wp2_with (go_at_call 151; refine (zTr hs h hL).mono ?_; rintro e w1 ⟨N,t,rfl,hB⟩)
   go_ret2
   rw [hn]
   exact ⟨rfl,hB⟩
theorem zKu : Law Tryz.prog 78 zXb := by
 refine zSn (ds := fun s : S21 => [.c (.im (.str ⟨s.1.toArray⟩))]) Tryz.func78 rfl rfl (fun a => okO zRb1) (fun ⟨s,h⟩ args w hl hv hL => ?_)
 obtain ⟨v,rfl⟩ := zYi hl rfl
 obtain ⟨g,hg⟩ := hv 0 _ v rfl rfl
 rw [zUi hg]
 exact (zXn h hL).mono fun e w' ⟨he,hB⟩ => ⟨_,he,⟨_,rfl,rfl,rfl,fun _ => rfl,zSv1⟩,hB⟩
abbrev U32 := { m : Nat // 0 < m ∧ m < 4294967296 }
noncomputable def zSf1 : Ct := fam true (fun m : U32 => ([.c (.im (.int .u32 (m.1 : Int)))],[])) (fun m => .one { val := .c (.im (.int .i64 (tz m.1 : Int))) })
theorem zQr1 {m : Nat} (h0 : 0 < m) (h : m < 4294967296) : zSf1.run [.c (.im (.int .u32 (m : Int)))] [] = some (.one { val := .c (.im (.int .i64 (tz m : Int))) }) := by
 refine zAd (args := fun m : U32 => ([D.c (.im (.int .u32 (m.1 : Int)))],[])) ?_ ⟨m,h0,h⟩
 rintro ⟨a,_⟩ ⟨b,_⟩ h
 simp only [Prod.mk.injEq,List.cons.injEq,D.c.injEq,C.im.injEq,I.int.injEq,true_and,and_true,Int.natCast_inj] at h
 exact Subtype.ext h
theorem zQu : ∀ (f m : Nat),0 < m → m < 2 ^ f → Lib.ctzFrom f m = tz m
 | 0,m,h0,h => by simp at h; omega
 | f + 1,m,h0,h => by
   unfold Lib.ctzFrom tz
   by_cases h1 : m % 2 = 1
   · rw [if_pos h1,dif_pos (.inr h1)]
   · rw [if_neg h1,dif_neg (by omega),zQu f (m / 2) (by omega) (by rw [Nat.pow_succ] at h; omega)]
     omega
theorem zRn1 : Law Tryz.prog 206 zSf1 := by
 refine zSn (ds := fun m : U32 => [.c (.im (.int .u32 (m.1 : Int)))]) Tryz.func206 rfl rfl (fun a => zAv rfl) (fun ⟨m,h0,h⟩ args w hl hv hL => ?_)
 obtain ⟨v,rfl⟩ := zYi hl rfl
 obtain ⟨g,hg⟩ := hv 0 _ v rfl rfl
 rw [zMi1 hg]
 refine (Any7.bits_TrailingZeros32 Tryz.lays28 m h w (fun _ => zPn1 hL)).mono fun e w' ⟨he,hw⟩ => ⟨_,he,⟨_,rfl,rfl,rfl,fun _ => rfl,?_⟩,by rw [hw]; exact Below.refl _ _⟩
 have e1 : Lib.ctz 32 m = tz m := by
   unfold Lib.ctz
   rw [if_neg (by omega),zQu 32 m h0 h]
 rw [e1]
 exact zZf fun _ => .int _ _
abbrev SB := { x : Txt × UInt8 // x.1.length ≤ 2097152 }
def oCut (s : Txt) (c : UInt8) : Outs := .one { val := .tup [.c (.im (.str ⟨(Lib.cut s [c]).1.toArray⟩)),.c (.im (.str ⟨(Lib.cut s [c]).2.1.toArray⟩)),.c (.im (.bool (Lib.cut s [c]).2.2))] }
noncomputable def zMm1 : Ct := fam true (fun x : SB => ([.c (.im (.str ⟨x.1.1.toArray⟩)),.c (.im (.str ⟨#[x.1.2]⟩))],[])) (fun x => oCut x.1.1 x.1.2)
theorem zYc {s : Txt} (h : s.length ≤ 2097152) (c : UInt8) : zMm1.run [.c (.im (.str ⟨s.toArray⟩)),.c (.im (.str ⟨#[c]⟩))] [] = some (oCut s c) := by
 refine zAd (args := fun x : SB => ([D.c (.im (.str ⟨x.1.1.toArray⟩)),.c (.im (.str ⟨#[x.1.2]⟩))],[])) ?_ ⟨(s,c),h⟩
 rintro ⟨⟨a,b⟩,_⟩ ⟨⟨a',b'⟩,_⟩ h
 simp only [Prod.mk.injEq,List.cons.injEq,D.c.injEq,C.im.injEq,I.str.injEq,zHo,true_and,and_true] at h
 exact Subtype.ext (Prod.ext h.1 h.2)
theorem zGq1 : Law Tryz.prog 77 zMm1 := by
 refine zSn (ds := fun x : SB => [.c (.im (.str ⟨x.1.1.toArray⟩)),.c (.im (.str ⟨#[x.1.2]⟩))]) Tryz.func77 rfl rfl (fun a => okO ⟨.tup _ (by intro d hd; simp at hd; rcases hd with rfl | rfl | rfl <;> exact .inl ⟨_,rfl,zFn rfl⟩),by simp,by simp⟩) (fun ⟨⟨s,c⟩,h⟩ args w hl hv hL => ?_)
 match args,hl with
 | [v0,v1],_ =>
   obtain ⟨g,hg⟩ := hv 0 _ v0 rfl rfl
   obtain ⟨g',hg'⟩ := hv 1 _ v1 rfl rfl
   rw [zUi hg,zUi hg']
   obtain ⟨m,hm⟩ := zAm1 hL
   refine (Any.strings_Cut Tryz.lays145 ⟨s.toArray⟩ ⟨#[c]⟩ m w (by rw [zAp]; simp only at h; omega) hm).mono fun e w' ⟨he,n,hw⟩ => ⟨_,he,⟨_,rfl,rfl,rfl,fun _ => rfl,fun g => ?_⟩,by rw [hw]; exact zZl w n⟩
   refine .tup _ _ rfl fun j d v hd hv => ?_
   match j,hd,hv with
   | 0,hd,hv => simp at hd hv; subst hd hv; exact zZf (fun _ => .str _) g
   | 1,hd,hv => simp at hd hv; subst hd hv; exact zZf (fun _ => .str _) g
   | 2,hd,hv => simp at hd hv; subst hd hv; exact zZf (fun _ => .bool _) g
   | j + 3,hd,hv => simp at hd
end Go.SX
namespace Go.SX
open Go Go.Proofs Go.RowKit
def rowsS (ps : List Txt) : List (List I) := ps.map fun p => [.str ⟨p.toArray⟩]
theorem zAe (ps : List Txt) : (rowsS ps).length = ps.length := by simp [rowsS]
theorem zMq {ps : List Txt} {k : Nat} {p : Txt} (h : ps[k]? = some p) : (rowsS ps)[k]? = some [.str ⟨p.toArray⟩] := by simp [rowsS,h]
theorem zAn : rowsS [] = [] := rfl
theorem zAw (p : Txt) (ps : List Txt) : rowsS (p :: ps) = [.str ⟨p.toArray⟩] :: rowsS ps := rfl
theorem zMp {a b : List Txt} : (rowsS a = rowsS b) = (a = b) := by
 apply propext
 constructor
 · intro h
   induction a generalizing b with
   | nil => cases b with
     | nil => rfl
     | cons y b => simp [rowsS] at h
   | cons x a ih => cases b with
     | nil => simp [rowsS] at h
     | cons y b =>
       simp only [zAw,List.cons.injEq,I.str.injEq,zHo,and_true] at h
       rw [h.1,ih h.2]
 · rintro rfl; rfl
theorem zIx1 (s : Txt) (c : UInt8) : Lib.splitB ⟨#[c]⟩ 0 (Lib.countB ⟨s.toArray⟩ ⟨#[c]⟩) ⟨s.toArray⟩ = (splT c s).map fun p => (⟨p.toArray⟩ : ByteArray) := by
 have h := Lib.splitB_data ⟨#[c]⟩ 0 (Lib.countB ⟨s.toArray⟩ ⟨#[c]⟩) ⟨s.toArray⟩
 have e : (⟨#[c]⟩ : ByteArray).data.toList = [c] := rfl
 have e2 : (⟨s.toArray⟩ : ByteArray).data.toList = s := by simp
 rw [e,e2,zQd c _ s (by rw [Lib.countB,e,e2,Lib.count_one]; exact Nat.le_refl _)] at h
 have h2 := congrArg (List.map fun p : Txt => (⟨p.toArray⟩ : ByteArray)) h
 rw [List.map_map] at h2
 rw [← h2]
 conv => lhs; rw [← List.map_id (Lib.splitB _ _ _ _)]
 refine List.map_congr_left fun x _ => ?_
 exact zSi1 x
noncomputable def zMy : Ct := fam false (fun x : SB => ([.c (.im (.str ⟨x.1.1.toArray⟩)),.c (.im (.str ⟨#[x.1.2]⟩))],[])) (fun x => .one { val := .c (.im (.sl 1 (rowsS (splT x.1.2 x.1.1)))) })
theorem zVb {s : Txt} (h : s.length ≤ 2097152) (c : UInt8) : zMy.run [.c (.im (.str ⟨s.toArray⟩)),.c (.im (.str ⟨#[c]⟩))] [] = some (.one { val := .c (.im (.sl 1 (rowsS (splT c s)))) }) := by
 refine zAd (args := fun x : SB => ([D.c (.im (.str ⟨x.1.1.toArray⟩)),.c (.im (.str ⟨#[x.1.2]⟩))],[])) ?_ ⟨(s,c),h⟩
 rintro ⟨⟨a,b⟩,_⟩ ⟨⟨a',b'⟩,_⟩ h
 simp only [Prod.mk.injEq,List.cons.injEq,D.c.injEq,C.im.injEq,I.str.injEq,zHo,true_and,and_true] at h
 exact Subtype.ext (Prod.ext h.1 h.2)
theorem zEc : (zMy.sc = true) = False := by simp [zMy,fam]
theorem zWg : Law Tryz.prog 39 zMy := by
 have := zKo1 (P := Tryz.prog) (ds := fun x : SB => [.c (.im (.str ⟨x.1.1.toArray⟩)),.c (.im (.str ⟨#[x.1.2]⟩))]) (out := fun x : SB => (splT x.1.2 x.1.1).map fun p => (⟨p.toArray⟩ : ByteArray)) Tryz.func39 rfl rfl (fun ⟨⟨s,c⟩,h⟩ args w hl hv hL => ?_)
 · simp only [List.map_map] at this
   exact this
 match args,hl with
 | [v0,v1],_ =>
   obtain ⟨g,hg⟩ := hv 0 _ v0 rfl rfl
   obtain ⟨g',hg'⟩ := hv 1 _ v1 rfl rfl
   rw [zUi hg,zUi hg']
   obtain ⟨m,hm⟩ := zAm1 hL
   have hs : (⟨s.toArray⟩ : ByteArray).size < 4294967281 := by rw [zAp]; simp only at h; omega
   refine (Any.strings_Split Tryz.lays146 (by kernel_rfl) ⟨s.toArray⟩ ⟨#[c]⟩ m w hs hm (Nat.le_refl 1)).mono fun e w' ⟨he,hw⟩ => ?_
   have hlen := Lib.splitB_all ⟨#[c]⟩ (Nat.le_refl 1) 0 _ ⟨s.toArray⟩ rfl
   rw [zIx1] at hw hlen
   refine ⟨_,Lib.countB ⟨s.toArray⟩ ⟨#[c]⟩ + 1,?_,by rw [hlen]; omega,hw⟩
   rw [he,hlen]
end Go.SX
namespace Go.SX
open Go Go.Proofs Ieee
theorem zIa (x : Nat) : bitsI .and .u32 (x : Int) 8388607 = ((x % 8388608 : Nat) : Int) := by
 have h : (BitVec.ofInt 32 (x : Int) &&& BitVec.ofInt 32 8388607).toNat = x % 8388608 := by
   rw [BitVec.toNat_and]
   have e1 : (BitVec.ofInt 32 (x : Int)).toNat = x % 2 ^ 32 := by simp
   have e2 : (BitVec.ofInt 32 8388607).toNat = 2 ^ 23 - 1 := by decide
   rw [e1,e2,Nat.and_two_pow_sub_one_eq_mod]
   omega
 show IntKind.u32.wrap _ = _
 rw [show (IntKind.u32.bits) = 32 from rfl,h]
 show (((x % 8388608 : Nat) : Int) % 4294967296) = _
 omega
theorem zLa (x : Nat) : bitsI .and .u32 (x : Int) 255 = ((x % 256 : Nat) : Int) := by
 have h : (BitVec.ofInt 32 (x : Int) &&& BitVec.ofInt 32 255).toNat = x % 256 := by
   rw [BitVec.toNat_and]
   have e1 : (BitVec.ofInt 32 (x : Int)).toNat = x % 2 ^ 32 := by simp
   have e2 : (BitVec.ofInt 32 255).toNat = 2 ^ 8 - 1 := by decide
   rw [e1,e2,Nat.and_two_pow_sub_one_eq_mod]
   omega
 show IntKind.u32.wrap _ = _
 rw [show (IntKind.u32.bits) = 32 from rfl,h]
 show (((x % 256 : Nat) : Int) % 4294967296) = _
 omega
theorem zIa1 {x : Nat} (hx : x < 8388608) : bitsI .or .u32 (x : Int) 8388608 = ((8388608 + x : Nat) : Int) := by
 have h : (BitVec.ofInt 32 (x : Int) ||| BitVec.ofInt 32 8388608).toNat = 8388608 + x := by
   rw [BitVec.toNat_or]
   have e1 : (BitVec.ofInt 32 (x : Int)).toNat = x := by simp; omega
   have e2 : (BitVec.ofInt 32 8388608).toNat = 2 ^ 23 := by decide
   rw [e1,e2,Nat.or_comm]
   have := Nat.two_pow_add_eq_or_of_lt (i := 23) (b := x) (by omega) 1
   rw [Nat.mul_one] at this
   exact this.symm
 show IntKind.u32.wrap _ = _
 rw [show (IntKind.u32.bits) = 32 from rfl,h]
 show (((8388608 + x : Nat) : Int) % 4294967296) = _
 omega
theorem zXu (x k : Nat) (hk : k ≤ 32) : (x : Int).fdiv (2 ^ min (k : Int).toNat 32) = ((x / 2 ^ k : Nat) : Int) := by
 rw [Int.toNat_natCast,Nat.min_eq_left hk]
 have h : (0 : Int) ≤ 2 ^ k := by exact_mod_cast Nat.zero_le (2 ^ k)
 rw [Int.fdiv_eq_ediv_of_nonneg _ h]
 exact_mod_cast rfl
theorem zBd {n : Int} (h : i64B n) : (Lib.itoa n).length ≤ 21 := Lib.itoa_length_le n h.1 h.2
theorem zPy1 {w : Nat} (h : isFin w = true) : isNaNb .f32 w = false := by
 cases hn : isNaNb .f32 w with
 | false => rfl
 | true => rw [zOs hn] at h; cases h
def fsT (w : Nat) : Txt := if isFin w then fmtT w else []
theorem zKg1 {r : Nat} (h1 : r < 2139095040) : (r / 8388608 = 0 → rgM single r = r ∧ rgE single r = -149) ∧ (r / 8388608 ≠ 0 → rgM single r = 8388608 + r % 8388608 ∧ rgE single r = ((r / 8388608 : Nat) : Int) - 150) := by
 unfold rgM rgE
 rw [bn1,ep1]
 refine ⟨fun h => ?_,fun h => ?_⟩
 · rw [if_pos (by omega),if_pos (by omega)]; exact ⟨rfl,rfl⟩
 · rw [if_neg (by omega),if_neg (by omega)]; exact ⟨rfl,by omega⟩
abbrev W32a := { w : Nat // w < 4294967296 }
noncomputable def zDr : Ct := fam true (fun w : W32a => ([.c (.im (.flt .f32 w.1))],[])) (fun w => .one { val := .c (.im (.str ⟨(fsT w.1).toArray⟩)) })
theorem zAs {w : Nat} (h : w < 4294967296) : zDr.run [.c (.im (.flt .f32 w))] [] = some (.one { val := .c (.im (.str ⟨(fsT w).toArray⟩)) }) := by
 refine zAd (args := fun w : W32a => ([D.c (.im (.flt .f32 w.1))],[])) ?_ ⟨w,h⟩
 rintro ⟨a,_⟩ ⟨b,_⟩ h
 simp only [Prod.mk.injEq,List.cons.injEq,D.c.injEq,C.im.injEq,I.flt.injEq,true_and,and_true] at h
 exact Subtype.ext h
theorem zGo : Law Tryz.prog 145 zDr := by
 refine zAi (zAc zLr (zDa zSp (zAc zRn1 (zAc zAl1 zAf)))) hmixA Tryz.func145 rfl rfl (fun ⟨w,hw⟩ => ⟨zAv rfl,by simp [Tryz.f145],?_⟩)
 simp only
 cases hf : isFin w with
 | false =>
   have e : fsT w = [] := by simp [fsT,hf]
   try simp -dsimp (maxSteps := 1000000) only [go_sem,↓reduceIte,yab,Tryz.f145,zCc,hf,e,yaI]
 | true =>
   have hn := zPy1 hf
   have hr : w % 2147483648 < 2139095040 := by simp only [isFin,yax] at hf; omega
   obtain ⟨r,hre⟩ : ∃ r,w % 2147483648 = r := ⟨_,rfl⟩
   have e : fsT w = sgnT (decide (2147483648 ≤ w)) ++ magT r := by simp [fsT,hf,fmtT,hre]
   rw [hre] at hr
   obtain ⟨m1,m2⟩ := zKg1 hr
   have h31 : (w : Int).fdiv (2 ^ min (Int.toNat 31) 32) = ((w / 2147483648 : Nat) : Int) := zXu w 31 (by omega)
   have h23 : (w : Int).fdiv (2 ^ min (Int.toNat 23) 32) = ((w / 8388608 : Nat) : Int) := zXu w 23 (by omega)
   have hwe : IntKind.i64.wrap ((r / 8388608 : Nat) : Int) = ((r / 8388608 : Nat) : Int) := zAg (by omega) (by omega)
   have hlow : w % 8388608 = r % 8388608 := by omega
   have hexp : w / 8388608 % 256 = r / 8388608 := by omega
   obtain ⟨S,hS,sl,c31,hsg⟩ : ∃ S : Txt,fsT w = S ++ magT r ∧ S.length ≤ 1 ∧ ((((w / 2147483648 : Nat) : Int) = 1) = True ∧ S = [45] ∨ (((w / 2147483648 : Nat) : Int) = 1) = False ∧ S = []) ∧ True := by
     rw [e]
     by_cases hs : 2147483648 ≤ w
     · exact ⟨[45],by simp [sgnT,hs],by simp,.inl ⟨eq_true (by omega),rfl⟩,trivial⟩
     · exact ⟨[],by simp [sgnT,hs],by simp,.inr ⟨eq_false (by omega),rfl⟩,trivial⟩
   clear e hsg
   rw [hS]
   by_cases hr0 : r = 0
   · subst hr0
     have ce : (((0 / 8388608 : Nat) : Int) = 0) = True := by simp
     have cm : (((0 % 8388608 : Nat) : Int) = 0) = True := by simp
     have z : magT 0 = [48] := rfl
     rcases c31 with ⟨c31,rfl⟩ | ⟨c31,rfl⟩
     · skip
       try simp -dsimp (maxSteps := 1000000) only [go_sem,↓reduceIte,yab,Tryz.f145,zCc,hf,yaH,zFc hn,h31,h23,zIa,zLa,hlow,hexp,hwe,c31,ce,cm,z,Int.reduceLT,zBo,yaX,Nat.reduceAdd,Nat.reduceLeDiff]
     · skip
       try simp -dsimp (maxSteps := 1000000) only [go_sem,↓reduceIte,yab,Tryz.f145,zCc,hf,yaH,zFc hn,h31,h23,zIa,zLa,hlow,hexp,hwe,c31,ce,cm,z,Int.reduceLT,zBo,yaX,Nat.reduceAdd,Nat.reduceLeDiff]
   have hrp : 0 < r := Nat.pos_of_ne_zero hr0
   have hmd := zSc hrp hr
   have hMp := zEt hrp
   have hMl := zHq (r := r)
   have hz := zLs1 (k := 24) hMp hMl
   obtain ⟨E1,E2⟩ := zJg hr
   have hsh : ((rgM single r : Nat) : Int).fdiv (2 ^ min (Int.toNat ((tz (rgM single r) : Nat) : Int)) 32) = ((mdM r : Nat) : Int) := zXu _ _ (by omega)
   have hs2 : IntKind.i64.wrap (rgE single r + ((tz (rgM single r) : Nat) : Int)) = mdE r := by rw [zAg (by omega) (by omega)]; rfl
   have rz := zQr1 hMp (by omega : rgM single r < 4294967296)
   have hneg : (((tz (rgM single r) : Nat) : Int) < 0) = False := eq_false (by omega)
   have mdl := hmd.lt
   have hb1 : i64B ((mdM r : Nat) : Int) := ⟨by omega,by omega⟩
   have hb2 : i64B (mdE r) := ⟨by have := hmd.lo; omega,by have := hmd.hi; omega⟩
   have hwm : IntKind.i64.wrap ((mdM r : Nat) : Int) = ((mdM r : Nat) : Int) := zAg hb1.1 hb1.2
   have ri1 := zRs hb1
   have ri2 := zRs hb2
   have hmag : magT r = Lib.itoa (mdM r) ++ 112 :: Lib.itoa (mdE r) := by simp [magT,hr0]
   have la := zBd hb1
   have lb := zBd hb2
   have hM0 : (((rgM single r : Nat) : Int) = 0) = False := eq_false (by omega)
   generalize Lib.itoa (mdM r) = A at *
   generalize Lib.itoa (mdE r) = B at *
   have q1 : (1 + A.length ≤ 4611686018427387904) = True := eq_true (by omega)
   have q2 : (A.length + 1 + 1 ≤ 4611686018427387904) = True := eq_true (by omega)
   have q3 : (A.length + 1 + 1 + B.length ≤ 4611686018427387904) = True := eq_true (by omega)
   have q4 : (A.length ≤ 4611686018427387904) = True := eq_true (by omega)
   have q5 : (A.length + 1 ≤ 4611686018427387904) = True := eq_true (by omega)
   have q6 : (A.length + 1 + B.length ≤ 4611686018427387904) = True := eq_true (by omega)
   have hfin : S ++ A ++ [112] ++ B = S ++ magT r := by rw [hmag]; simp
   rw [← hfin]
   by_cases he0 : r / 8388608 = 0
   · obtain ⟨k1,k2⟩ := m1 he0
     have ce : (((r / 8388608 : Nat) : Int) = 0) = True := eq_true (by omega)
     have hmm : r % 8388608 = rgM single r := by rw [k1]; omega
     have hs1 : IntKind.i64.wrap (1 - 150) = rgE single r := by rw [k2]; decide
     rcases c31 with ⟨c31,rfl⟩ | ⟨c31,rfl⟩
     · skip
       try simp -dsimp (maxSteps := 1000000) only [go_sem,↓reduceIte,yab,Tryz.f145,zCc,hf,yaH,zFc hn,h31,h23,zIa,zLa,hlow,hexp,hwe,c31,ce,hmm,hM0,rz,hsh,hneg,hwm,ri1,hs1,hs2,ri2,Int.reduceLT,zBo,yaX,yar,q1,q2,q3,q4,q5,q6]
     · skip
       try simp -dsimp (maxSteps := 1000000) only [go_sem,↓reduceIte,yab,Tryz.f145,zCc,hf,yaH,zFc hn,h31,h23,zIa,zLa,hlow,hexp,hwe,c31,ce,hmm,hM0,rz,hsh,hneg,hwm,ri1,hs1,hs2,ri2,Int.reduceLT,zBo,yaX,yar,q1,q2,q3,q4,q5,q6]
   · obtain ⟨k1,k2⟩ := m2 he0
     have ce : (((r / 8388608 : Nat) : Int) = 0) = False := eq_false (by omega)
     have hor : bitsI .or .u32 ((r % 8388608 : Nat) : Int) 8388608 = ((rgM single r : Nat) : Int) := by rw [zIa1 (by omega),k1]
     have hs1 : IntKind.i64.wrap (((r / 8388608 : Nat) : Int) - 150) = rgE single r := by rw [k2,zAg (by omega) (by omega)]
     rcases c31 with ⟨c31,rfl⟩ | ⟨c31,rfl⟩
     · skip
       try simp -dsimp (maxSteps := 1000000) only [go_sem,↓reduceIte,yab,Tryz.f145,zCc,hf,yaH,zFc hn,h31,h23,zIa,zLa,hlow,hexp,hwe,c31,ce,hor,hM0,rz,hsh,hneg,hwm,ri1,hs1,hs2,ri2,Int.reduceLT,zBo,yaX,yar,q1,q2,q3,q4,q5,q6]
     · skip
       try simp -dsimp (maxSteps := 1000000) only [go_sem,↓reduceIte,yab,Tryz.f145,zCc,hf,yaH,zFc hn,h31,h23,zIa,zLa,hlow,hexp,hwe,c31,ce,hor,hM0,rz,hsh,hneg,hwm,ri1,hs1,hs2,ri2,Int.reduceLT,zBo,yaX,yar,q1,q2,q3,q4,q5,q6]
end Go.SX
namespace Go.SX
open Go Go.Proofs Ieee
theorem zKe1 : double.read 9218868437227405311 = .number false 9007199254740991 971 := by decide +kernel
theorem zZd {y : Nat} {s : Bool} {m : Nat} {e : Int} (h : double.read y = .number s m e) (hm : m < 9007199254740992) (he : e ≤ 900) : fcmp .gtr .f64 y 9218868437227405311 = false := by
 show (double.order y 9218868437227405311 == some .gt) = false
 unfold Format.order
 rw [h,zKe1]
 simp only [Datum.order]
 have hb : min e 971 = e := by omega
 rw [hb]
 have e1 : (e - e).toNat = 0 := by omega
 rw [e1]
 have hpow : 2 ≤ 2 ^ (971 - e).toNat := by
   calc 2 = 2 ^ 1 := rfl
     _ ≤ _ := Nat.pow_le_pow_right (by omega) (by omega)
 have h2 : signed false 9007199254740991 (971 - e).toNat = ((9007199254740991 * 2 ^ (971 - e).toNat : Nat) : Int) := by simp [signed,zDb]
 have h3 : (9007199254740991 * 2 : Nat) ≤ 9007199254740991 * 2 ^ (971 - e).toNat := Nat.mul_le_mul_left _ hpow
 have h1 : signed s m 0 ≤ (m : Int) := by cases s <;> simp [signed] <;> omega
 have hlt : signed s m 0 < signed false 9007199254740991 (971 - e).toNat := by rw [h2]; omega
 have : compare (signed s m 0) (signed false 9007199254740991 (971 - e).toNat) = .lt := by
   simp [compare,compareOfLessAndEq,hlt]
 rw [this]; rfl
theorem zIk1 {R : Nat} (h : R < 2 ^ 63) : R ^^^ 2 ^ 63 = 2 ^ 63 + R ∧ (2 ^ 63 + R) ^^^ 2 ^ 63 = R := by
 have h1 : 2 ^ 63 ||| R = 2 ^ 63 + R := by
   have := Nat.two_pow_add_eq_or_of_lt (i := 63) (b := R) h 1
   rw [Nat.mul_one] at this
   exact this.symm
 have hb : R.testBit 63 = false := Nat.testBit_lt_two_pow h
 have hx : R ^^^ 2 ^ 63 = 2 ^ 63 + R := by
   rw [← h1]
   apply Nat.eq_of_testBit_eq
   intro i
   rw [Nat.testBit_xor,Nat.testBit_or,Nat.testBit_two_pow]
   by_cases e : 63 = i
   · subst e; simp [hb]
   · simp [e]
 refine ⟨hx,?_⟩
 rw [← hx,Nat.xor_assoc,Nat.xor_self,Nat.xor_zero]
theorem zJy1 {s : Bool} {R : Nat} (h : R < 2 ^ 63) : Op.negFloat .f64 (double.word s R) = double.word (!s) R := by
 obtain ⟨h1,h2⟩ := zIk1 h
 have e : double.signWeight = 2 ^ 63 := by decide
 have hx : ∀ x,Op.negFloat .f64 x = x ^^^ 2 ^ 63 := fun x => rfl
 rw [hx]
 cases s
 · simp only [Format.word,e,yaj,yak,yaI,yal]; exact h1
 · simp only [Format.word,e,yal,yaH,yaj,yak]; exact h2
theorem zMu1 {w : Nat} (hw : w < 4294967296) (hf : w % 2147483648 < 2139095040) :
   ∃ (R m : Nat) (e : Int),w64 w = double.word (decide (2147483648 ≤ w)) R ∧ R < double.infRung ∧ (∀ s,double.read (double.word s R) = .number s m e) ∧ m < 9007199254740992 ∧ e ≤ 900 := by
 obtain ⟨r,hr⟩ : ∃ r,w % 2147483648 = r := ⟨_,rfl⟩
 rw [hr] at hf
 have hword : w = single.word (decide (2147483648 ≤ w)) r := by
   unfold Format.word
   rw [sw1]
   by_cases h : 2147483648 ≤ w
   · simp [h]; omega
   · simp [h]; omega
 have hd : FloatKind.f32.decode w = .number (decide (2147483648 ≤ w)) (rgM single r) (rgE single r) := by
   have := zCy (f := single) (by decide) (r := r) (by rw [ir1]; exact hf) (decide (2147483648 ≤ w))
   rw [← hword] at this
   exact this
 by_cases h0 : r = 0
 · subst h0
   have hread : ∀ s,double.read (double.word s 0) = .number s 0 (-1074) := fun s => by cases s <;> decide +kernel
   have he : ∀ s,FloatKind.f64.encode (.number s (rgM single 0) (rgE single 0)) = double.word s 0 := fun s => by cases s <;> decide +kernel
   refine ⟨0,0,-1074,?_,by decide,hread,by omega,by omega⟩
   unfold w64 fconv
   rw [if_neg (by decide),hd]
   simp only [he]
   have hdd : FloatKind.f64.decode (double.word (decide (2147483648 ≤ w)) 0) = .number (decide (2147483648 ≤ w)) 0 (-1074) := hread _
   rw [hdd]; rfl
 · have h0' := Nat.pos_of_ne_zero h0
   obtain ⟨M,last,a,b,c,d,g⟩ := zOx (zHm1 h0' hf)
   have hlt : M < 9007199254740992 := a.lt
   have hR : (last - double.leastPlace).toNat * double.binade + M < double.infRung := by
     rw [ep2,bn2,ir2]
     omega
   obtain ⟨k1,k2⟩ := zMz a
   have hread : ∀ s,double.read (double.word s ((last - double.leastPlace).toNat * double.binade + M)) = .number s M last := fun s => by
     rw [zCy (by decide) hR,k1,k2]
   have he : ∀ s,FloatKind.f64.encode (.number s (rgM single r) (rgE single r)) = double.word s ((last - double.leastPlace).toNat * double.binade + M) := fun s => by
     show double.nearest s _ _ = _
     rw [zBw a b,Nat.min_eq_left (by omega)]
   refine ⟨_,M,last,?_,hR,hread,hlt,c⟩
   unfold w64 fconv
   rw [if_neg (by decide),hd]
   simp only [he]
   have hdd : FloatKind.f64.decode (double.word (decide (2147483648 ≤ w)) ((last - double.leastPlace).toNat * double.binade + M)) = .number (decide (2147483648 ≤ w)) M last := hread _
   rw [hdd]; rfl
theorem zKt1 : double.infRung < 2 ^ 63 := by decide
theorem zGx1 {w : Nat} (hw : w < 4294967296) (hf : w % 2147483648 < 2139095040) : fcmp .gtr .f64 (w64 w) 9218868437227405311 = false ∧ fcmp .gtr .f64 (Op.negFloat .f64 (w64 w)) 9218868437227405311 = false := by
 obtain ⟨R,m,e,h1,h2,h3,h4,h5⟩ := zMu1 hw hf
 have hlt := zKt1
 refine ⟨zZd (by rw [h1]; exact h3 _) h4 h5,zZd (s := !decide (2147483648 ≤ w)) ?_ h4 h5⟩
 rw [h1,zJy1 (by omega)]; exact h3 _
theorem zGv1 : fcmp .gtr .f64 (w64 2139095040) 9218868437227405311 = true := by decide +kernel
theorem zGw1 : fcmp .gtr .f64 (w64 4286578688) 9218868437227405311 = false ∧ fcmp .gtr .f64 (Op.negFloat .f64 (w64 4286578688)) 9218868437227405311 = true := by
 constructor <;> decide +kernel
theorem zFj1 {w : Nat} (h : 2139095040 < w % 2147483648) : fcmp .neq .f32 w w = true := by
 have hr : ∃ s t,single.read w = .nan s t := by
   unfold Format.read
   simp only [sw1,bn1,ir1]
   rw [if_neg (by omega),if_neg (by omega),if_neg (by omega)]
   exact ⟨_,_,rfl⟩
 obtain ⟨s,t,hr⟩ := hr
 show (single.order w w != some .eq) = true
 unfold Format.order
 rw [hr]; rfl
theorem zTp (x : Int) : compare x x = .eq := by simp [compare,compareOfLessAndEq]
theorem zFi1 {w : Nat} (h : ¬ 2139095040 < w % 2147483648) : fcmp .neq .f32 w w = false := by
 show (single.order w w != some .eq) = false
 unfold Format.order Format.read
 simp only [sw1,bn1,ir1]
 split
 · simp only [Datum.order,Int.min_self,zTp]; rfl
 · split
   · simp only [Datum.order,Int.min_self,zTp]; rfl
   · split
     · simp only [Datum.order]
       cases (w / 2147483648 % 2 == 1) <;> rfl
     · omega
def infC (x : Nat × Bool) : Bool := fcmp .gtr .f64 (if x.2 then x.1 else Op.negFloat .f64 x.1) 9218868437227405311
noncomputable def zTo : Ct := fam true (fun x : Nat × Bool => ([.c (.im (.flt .f64 x.1)),.c (.im (.int .i64 (if x.2 then 1 else -1)))],[])) (fun x => .one { val := .c (.im (.bool (infC x))) })
theorem zWh : ∀ x y : Nat × Bool,([D.c (.im (.flt .f64 x.1)),.c (.im (.int .i64 (if x.2 then 1 else -1)))],([] : List (List B))) = ([D.c (.im (.flt .f64 y.1)),.c (.im (.int .i64 (if y.2 then 1 else -1)))],[]) → x = y := by
 rintro ⟨a,b⟩ ⟨a',b'⟩ h
 simp only [Prod.mk.injEq,List.cons.injEq,D.c.injEq,C.im.injEq,I.flt.injEq,I.int.injEq,true_and,and_true] at h
 obtain ⟨rfl,h⟩ := h
 cases b <;> cases b' <;> simp at h ⊢
theorem zKm (y : Nat) : zTo.run [.c (.im (.flt .f64 y)),.c (.im (.int .i64 1))] [] = some (.one { val := .c (.im (.bool (fcmp .gtr .f64 y 9218868437227405311))) }) :=
 zAd (args := fun x : Nat × Bool => ([D.c (.im (.flt .f64 x.1)),.c (.im (.int .i64 (if x.2 then 1 else -1)))],[])) zWh (y,true)
theorem zQg (y : Nat) : zTo.run [.c (.im (.flt .f64 y)),.c (.im (.int .i64 (-1)))] [] = some (.one { val := .c (.im (.bool (fcmp .gtr .f64 (Op.negFloat .f64 y) 9218868437227405311))) }) :=
 zAd (args := fun x : Nat × Bool => ([D.c (.im (.flt .f64 x.1)),.c (.im (.int .i64 (if x.2 then 1 else -1)))],[])) zWh (y,false)
theorem zGp1 : Law Tryz.prog 144 zTo := by
 refine zAi zAf hmixA Tryz.func144 rfl rfl (fun ⟨y,b⟩ => ⟨zAv rfl,by simp [Tryz.f144],?_⟩)
 cases b with
 | true =>
   simp only [infC,yal]
   try simp -dsimp (maxSteps := 1000000) only [go_sem,↓reduceIte,yab,Tryz.f144,Int.reduceEq,Int.reduceLT]
 | false =>
   simp only [infC,yaj,yak]
   try simp -dsimp (maxSteps := 1000000) only [go_sem,↓reduceIte,yab,Tryz.f144,Int.reduceEq,Int.reduceLT,Int.reduceNeg]
noncomputable def zGg : Ct := fam true (fun w : W32a => ([.c (.im (.flt .f32 w.1))],[])) (fun w => .one { val := .c (.im (.str ⟨(sglT w.1).toArray⟩)) })
theorem zBu {w : Nat} (h : w < 4294967296) : zGg.run [.c (.im (.flt .f32 w))] [] = some (.one { val := .c (.im (.str ⟨(sglT w).toArray⟩)) }) := by
 refine zAd (args := fun w : W32a => ([D.c (.im (.flt .f32 w.1))],[])) ?_ ⟨w,h⟩
 rintro ⟨a,_⟩ ⟨b,_⟩ h
 simp only [Prod.mk.injEq,List.cons.injEq,D.c.injEq,C.im.injEq,I.flt.injEq,true_and,and_true] at h
 exact Subtype.ext h
theorem zIg : Law Tryz.prog 71 zGg := by
 refine zAi (zAc zGp1 (zAc zGo zAf)) hmixA Tryz.func71 rfl rfl (fun ⟨w,hw⟩ => ⟨zAv rfl,by simp [Tryz.f71],?_⟩)
 simp only
 by_cases h1 : 2139095040 < w % 2147483648
 · have hT : sglT w = nanT := by unfold sglT; rw [if_pos h1]
   have hn := zFj1 h1
   rw [hT,nanT]
   try simp -dsimp (maxSteps := 1000000) only [go_sem,↓reduceIte,yab,Tryz.f71,hn]
 have hn := zFi1 h1
 by_cases h2 : w % 2147483648 = 2139095040
 · by_cases h3 : 2147483648 ≤ w
   · have : w = 4286578688 := by omega
     subst this
     have hT : sglT 4286578688 = ninfT := by decide
     obtain ⟨i1,i2⟩ := zGw1
     generalize hx : w64 4286578688 = y at *
     have hfc := zOw (x := 4286578688)
     rw [hx] at hfc
     generalize (4286578688 : Nat) = w at *
     rw [hT,ninfT]
     try simp -dsimp (maxSteps := 1000000) only [go_sem,↓reduceIte,yab,Tryz.f71,hn,hfc,zKm,zQg,i1,i2]
   · have : w = 2139095040 := by omega
     subst this
     have hT : sglT 2139095040 = infT := by decide
     have i1 := zGv1
     generalize hx : w64 2139095040 = y at *
     have hfc := zOw (x := 2139095040)
     rw [hx] at hfc
     generalize (2139095040 : Nat) = w at *
     rw [hT,infT]
     try simp -dsimp (maxSteps := 1000000) only [go_sem,↓reduceIte,yab,Tryz.f71,hn,hfc,zKm,i1]
 · have hf : isFin w = true := by simp only [isFin,yax]; omega
   have hT : sglT w = fsT w := by unfold sglT fsT; rw [if_neg h1,if_neg h2,if_pos hf]
   obtain ⟨i1,i2⟩ := zGx1 hw (by omega)
   rw [hT]
   try simp -dsimp (maxSteps := 1000000) only [go_sem,↓reduceIte,yab,Tryz.f71,hn,zOw,zKm,zQg,i1,i2,zAs hw]
end Go.SX
namespace Go.SX
open Go Go.Proofs Ieee
theorem zLb1 {w : Nat} (h : Fin32 w) : (fmtT w).length ≤ 44 := by
 have hs : ∀ b,(sgnT b).length ≤ 1 := fun b => by cases b <;> simp [sgnT]
 have h1 := hs (decide (2147483648 ≤ w))
 unfold fmtT
 rw [List.length_append]
 unfold magT
 split
 · simp; omega
 · rename_i h0
   have hm := zSc (Nat.pos_of_ne_zero h0) h.fin
   have a := zBd (n := (mdM (w % 2147483648) : Int)) ⟨by omega,by have := hm.lt; omega⟩
   have b := zBd (n := mdE (w % 2147483648)) ⟨by have := hm.lo; omega,by have := hm.hi; omega⟩
   simp only [yar,yas]
   omega
theorem zCm {w : Nat} (hw : w < 4294967296) : (sglT w).length ≤ 44 := by
 unfold sglT
 split
 · simp [nanT]
 · split
   · split
     · simp [ninfT]
     · simp [infT]
   · exact zLb1 ⟨hw,by omega⟩
theorem zEo {α : Type} {l : List α} {k : Nat} {p : α} (h : l[k]? = some p) : l.take (k + 1) = l.take k ++ [p] := by
 rw [List.take_add_one,h]; rfl
abbrev PtW := { p : Pt // p.1 < 4294967296 ∧ p.2 < 4294967296 }
def ptT (p : Pt) : Txt := sglT p.1 ++ 32 :: sglT p.2
noncomputable def zHk : Ct := fam true (fun p : PtW => ([.c (.im (.cpx .f32 p.1.1 p.1.2))],[])) (fun p => .one { val := .c (.im (.str ⟨(ptT p.1).toArray⟩)) })
theorem zCb {u v : Nat} (h1 : u < 4294967296) (h2 : v < 4294967296) : zHk.run [.c (.im (.cpx .f32 u v))] [] = some (.one { val := .c (.im (.str ⟨(ptT (u,v)).toArray⟩)) }) := by
 refine zAd (args := fun p : PtW => ([D.c (.im (.cpx .f32 p.1.1 p.1.2))],[])) ?_ ⟨(u,v),h1,h2⟩
 rintro ⟨⟨a,b⟩,_⟩ ⟨⟨a',b'⟩,_⟩ h
 simp only [Prod.mk.injEq,List.cons.injEq,D.c.injEq,C.im.injEq,I.cpx.injEq,true_and,and_true] at h
 exact Subtype.ext (Prod.ext h.1 h.2)
theorem zSi : Law Tryz.prog 143 zHk := by
 refine zAi (zAc zIg zAf) hmixA Tryz.func143 rfl rfl (fun ⟨⟨u,v⟩,h1,h2⟩ => ⟨zAv rfl,by simp [Tryz.f143],?_⟩)
 simp only [ptT]
 have r1 := zBu h1
 have r2 := zBu h2
 have la := zCm h1
 have lb := zCm h2
 simp only at la lb r1 r2
 generalize sglT u = A at *
 generalize sglT v = B at *
 have q5 : (A.length + 1 ≤ 4611686018427387904) = True := eq_true (by omega)
 have q6 : (A.length + 1 + B.length ≤ 4611686018427387904) = True := eq_true (by omega)
 have e : A ++ [32] ++ B = A ++ 32 :: B := by simp
 try simp -dsimp (maxSteps := 1000000) only [go_sem,↓reduceIte,yab,Tryz.f143,r1,r2,q5,q6,zBo,e,yaX,yar]
theorem zGa {p : Pt} (h : p.1 < 4294967296 ∧ p.2 < 4294967296) : (ptT p).length ≤ 89 := by
 have a := zCm h.1
 have b := zCm h.2
 simp only [ptT,yar,yas]
 omega
theorem zEq (a b : List Txt) : behind (a ++ b) = behind a ++ behind b := by simp [behind]
theorem zPl (p : Pt) : behind (ptW p) = 32 :: ptT p := by simp [behind,ptW,ptT]
theorem zZy (a b : List Pt) : ptsW (a ++ b) = ptsW a ++ ptsW b := by simp [ptsW]
theorem zBf : ∀ (l : List Pt),(∀ p ∈ l,p.1 < 4294967296 ∧ p.2 < 4294967296) → (behind (ptsW l)).length ≤ 90 * l.length
 | [],_ => by simp [behind,ptsW]
 | p :: l,h => by
   have ih := zBf l (fun q hq => h q (List.mem_cons_of_mem _ hq))
   have e : ptsW (p :: l) = ptW p ++ ptsW l := by simp [ptsW]
   have := zGa (h p (by simp))
   rw [e,zEq,zPl,List.length_append,List.length_cons,List.length_cons]
   omega
structure APtw where
 l : List Pt
 h : l.length ≤ sm
 w : ∀ p ∈ l,p.1 < 4294967296 ∧ p.2 < 4294967296
noncomputable def zCe : Ct := fam true (fun x : APtw => ([.c (.im (.sl 1 (rowsZ x.l)))],[])) (fun x => .one { val := .c (.im (.str ⟨(behind (ptsW x.l)).toArray⟩)) })
theorem zCw {l : List Pt} (h : l.length ≤ sm) (w : ∀ p ∈ l,p.1 < 4294967296 ∧ p.2 < 4294967296) : zCe.run [.c (.im (.sl 1 (rowsZ l)))] [] = some (.one { val := .c (.im (.str ⟨(behind (ptsW l)).toArray⟩)) }) := by
 refine zAd (args := fun x : APtw => ([D.c (.im (.sl 1 (rowsZ x.l)))],[])) ?_ ⟨l,h,w⟩
 rintro ⟨a,_,_⟩ ⟨b,_,_⟩ h
 simp only [Prod.mk.injEq,List.cons.injEq,D.c.injEq,C.im.injEq,I.sl.injEq,true_and,and_true,zBm] at h
 subst h; rfl
theorem zDk : (zCe.sc = true) = True := by simp [zCe,fam]
theorem zPx : Law Tryz.prog 70 zCe := by
 refine zAi (zAc zSi zAf) hmixA Tryz.func70 rfl rfl (fun ⟨l,hl,hw⟩ => ⟨zAv rfl,by simp [Tryz.f70],?_⟩)
 simp only
 have hsm : sm = 16777216 := rfl
 try simp -dsimp (maxSteps := 1000000) only [go_sem,↓reduceIte,yab,Tryz.f70,zAa]
 refine zBa (ι := { k : Nat // k ≤ l.length }) (fun k => ⟨[(3,some (.c (.im (.str ⟨(behind (ptsW (l.take k.1))).toArray⟩)))),(6,some (.c (.im (.sl 1 (rowsZ l))))),(7,some (.c (.im (.int .i64 (l.length : Int))))),(8,some (.c (.im (.int .i64 (k.1 : Int)))))],
   [],0⟩) (fun k => l.length - k.1) ⟨0,by simp⟩ ⟨[],[],by ((simp only [go_sem,↓reduceIte,yab,yai,yan,behind,ptsW,yaA]) <;> (try (simp -dsimp only [go_sem,↓reduceIte,yab,yai,yan,behind,ptsW,yaA]))) <;> simp⟩ (fun ⟨k,hk⟩ => ?_)
 simp only
 by_cases hlt : k < l.length
 · obtain ⟨⟨u,v⟩,hp⟩ : ∃ p,l[k]? = some p := ⟨_,List.getElem?_eq_getElem hlt⟩
   have hrow := zCt hp
   have hI : ((k : Int) < (l.length : Int)) = True := by simp; omega
   have h0 : (0 ≤ (k : Int)) = True := by simp
   have hwr := zEn hl hlt
   obtain ⟨w1,w2⟩ := hw _ (List.mem_of_getElem? hp)
   simp only at w1 w2
   have rp := zCb w1 w2
   have hsn : behind (ptsW (l.take (k + 1))) = behind (ptsW (l.take k)) ++ 32 :: ptT (u,v) := by
     rw [zEo hp,zZy,zEq]
     simp [ptsW,zPl]
   have la := zGa (p := (u,v)) ⟨w1,w2⟩
   have lb := zBf (l.take k) (fun p hp => hw p (List.mem_of_mem_take hp))
   have lc : (l.take k).length ≤ l.length := by rw [List.length_take]; omega
   generalize ptT (u,v) = A at *
   generalize behind (ptsW (l.take k)) = X at *
   have q1 : (1 + A.length ≤ 4611686018427387904) = True := eq_true (by omega)
   have q2 : (X.length + (A.length + 1) ≤ 4611686018427387904) = True := eq_true (by omega)
   try simp -dsimp (maxSteps := 1000000) only [go_sem,↓reduceIte,yab,Tryz.f70,hI,h0,Int.toNat_natCast,hrow,hwr,rp,q1,q2,zBo,yaX,yar]
   exact ⟨⟨k + 1,by omega⟩,by simp only []; omega,[],[],by (simp only [go_sem,↓reduceIte,yab,yai,hsn]) <;> simp⟩
 · have hI : ((k : Int) < (l.length : Int)) = False := by simp; omega
   have hkl : l.take k = l := List.take_of_length_le (by omega)
   rw [hkl]
   try simp -dsimp (maxSteps := 1000000) only [go_sem,↓reduceIte,yab,Tryz.f70,hI]
theorem zCl : ∀ (l : List Int),(∀ n ∈ l,i64B n) → (behind (l.map Lib.itoa)).length ≤ 22 * l.length
 | [],_ => by simp [behind]
 | n :: l,h => by
   have ih := zCl l (fun q hq => h q (List.mem_cons_of_mem _ hq))
   have e : behind ((n :: l).map Lib.itoa) = (32 :: Lib.itoa n) ++ behind (l.map Lib.itoa) := by simp [behind]
   have := zBd (h n (by simp))
   rw [e,List.length_append,List.length_cons,List.length_cons]
   omega
structure AInw where
 l : List Int
 h : l.length ≤ sm
 w : ∀ n ∈ l,i64B n
noncomputable def zCq : Ct := fam true (fun x : AInw => ([.c (.im (.sl 1 (rowsN x.l)))],[])) (fun x => .one { val := .c (.im (.str ⟨(behind (x.l.map Lib.itoa)).toArray⟩)) })
theorem zFb {l : List Int} (h : l.length ≤ sm) (w : ∀ n ∈ l,i64B n) : zCq.run [.c (.im (.sl 1 (rowsN l)))] [] = some (.one { val := .c (.im (.str ⟨(behind (l.map Lib.itoa)).toArray⟩)) }) := by
 refine zAd (args := fun x : AInw => ([D.c (.im (.sl 1 (rowsN x.l)))],[])) ?_ ⟨l,h,w⟩
 rintro ⟨a,_,_⟩ ⟨b,_,_⟩ h
 simp only [Prod.mk.injEq,List.cons.injEq,D.c.injEq,C.im.injEq,I.sl.injEq,true_and,and_true,zBs] at h
 subst h; rfl
theorem zFs : (zCq.sc = true) = True := by simp [zCq,fam]
theorem zWa : Law Tryz.prog 72 zCq := by
 refine zAi (zAc zAl1 zAf) hmixA Tryz.func72 rfl rfl (fun ⟨l,hl,hw⟩ => ⟨zAv rfl,by simp [Tryz.f72],?_⟩)
 simp only
 have hsm : sm = 16777216 := rfl
 try simp -dsimp (maxSteps := 1000000) only [go_sem,↓reduceIte,yab,Tryz.f72,zAb]
 refine zBa (ι := { k : Nat // k ≤ l.length }) (fun k => ⟨[(3,some (.c (.im (.str ⟨(behind ((l.take k.1).map Lib.itoa)).toArray⟩)))),(6,some (.c (.im (.sl 1 (rowsN l))))),(7,some (.c (.im (.int .i64 (l.length : Int))))),(8,some (.c (.im (.int .i64 (k.1 : Int)))))],
   [],0⟩) (fun k => l.length - k.1) ⟨0,by simp⟩ ⟨[],[],by ((simp only [go_sem,↓reduceIte,yab,yai,yan,yaE,behind,yaA]) <;> (try (simp -dsimp only [go_sem,↓reduceIte,yab,yai,yan,yaE,behind,yaA]))) <;> simp⟩ (fun ⟨k,hk⟩ => ?_)
 simp only
 by_cases hlt : k < l.length
 · obtain ⟨n,hp⟩ : ∃ p,l[k]? = some p := ⟨_,List.getElem?_eq_getElem hlt⟩
   have hrow := zFv hp
   have hI : ((k : Int) < (l.length : Int)) = True := by simp; omega
   have h0 : (0 ≤ (k : Int)) = True := by simp
   have hwr := zEn hl hlt
   have hn := hw _ (List.mem_of_getElem? hp)
   have rp := zRs hn
   have hsn : behind ((l.take (k + 1)).map Lib.itoa) = behind ((l.take k).map Lib.itoa) ++ 32 :: Lib.itoa n := by
     rw [zEo hp,List.map_append,zEq]
     simp [behind]
   have la := zBd hn
   have lb := zCl (l.take k) (fun p hp => hw p (List.mem_of_mem_take hp))
   have lc : (l.take k).length ≤ l.length := by rw [List.length_take]; omega
   generalize Lib.itoa n = A at *
   generalize behind ((l.take k).map Lib.itoa) = X at *
   have q1 : (1 + A.length ≤ 4611686018427387904) = True := eq_true (by omega)
   have q2 : (X.length + (A.length + 1) ≤ 4611686018427387904) = True := eq_true (by omega)
   try simp -dsimp (maxSteps := 1000000) only [go_sem,↓reduceIte,yab,Tryz.f72,hI,h0,Int.toNat_natCast,hrow,hwr,rp,q1,q2,zBo,yaX,yar]
   exact ⟨⟨k + 1,by omega⟩,by simp only []; omega,[],[],by (simp only [go_sem,↓reduceIte,yab,yai,hsn]) <;> simp⟩
 · have hI : ((k : Int) < (l.length : Int)) = False := by simp; omega
   have hkl : l.take k = l := List.take_of_length_le (by omega)
   rw [hkl]
   try simp -dsimp (maxSteps := 1000000) only [go_sem,↓reduceIte,yab,Tryz.f72,hI]
end Go.SX
namespace Go.SX
open Go Go.Proofs Ieee
def rNames : Res := { val := .c (.view 0 1 0 9),roots := [.arr 1 [[.im (.str ⟨#[]⟩)],[.im (.str ⟨#[115,111,117,114,99,101]⟩)],[.im (.str ⟨#[109,105,120,101,114]⟩)],[.im (.str ⟨#[103,97,105,110]⟩)],[.im (.str ⟨#[100,101,108,97,121]⟩)],[.im (.str ⟨#[115,117,109]⟩)],[.im (.str ⟨#[115,108,105,99,101,114]⟩)],[.im (.str ⟨#[109,101,116,101,114]⟩)],[.im (.str ⟨#[104,111,108,100]⟩)]]] }
theorem zFa1 {sc : Bool} : OkR sc rNames := by
 refine ⟨.c _ (.view _ _ _ _ (by simp [rNames])),fun r hr => ?_,by simp [rNames]⟩
 simp only [rNames,yaG] at hr
 subst hr
 intro row hrow t ht
 simp only [yae,yaf,or_false] at hrow
 rcases hrow with rfl | rfl | rfl | rfl | rfl | rfl | rfl | rfl | rfl <;> (simp only [yaG] at ht; subst ht; exact .im _ (.inr rfl))
noncomputable def zHm : Ct := fam true (fun _ : Unit => ([],[])) (fun _ => .one rNames)
theorem zBr : zHm.run [] [] = some (.one rNames) := zAd (args := fun _ : Unit => (([] : List D),[])) (fun _ _ _ => rfl) ()
theorem zJu : Law Tryz.prog 41 zHm := by
 refine zAi zAf hmixA Tryz.func41 rfl rfl (fun _ => ⟨okO zFa1,by simp [Tryz.f41],?_⟩)
 simp only [rNames]
 try simp -dsimp (maxSteps := 1000000) only [go_sem,↓reduceIte,yab,Tryz.f41]
 exact ⟨[0],by simp,by simp,by simp [rtOk],by simp⟩
structure AFm where
 m : Mod
 ok : OkM m
 w : W32 m
 rat : i64B m.rat
 cnt : i64B m.count
 lft : i64B m.left
 lab : ∀ x ∈ m.lab,i64B x
noncomputable def zCr : Ct := fam true (fun x : AFm => ([.agg (modC x.m)],[])) (fun x => .one { val := .c (.im (.str ⟨(fmtM x.m).toArray⟩)) })
theorem zBb (x : AFm) : zCr.run [.agg (modC x.m)] [] = some (.one { val := .c (.im (.str ⟨(fmtM x.m).toArray⟩)) }) := by
 refine zAd (args := fun x : AFm => ([D.agg (modC x.m)],[])) ?_ x
 rintro ⟨a,_,_,_,_,_,_⟩ ⟨b,_,_,_,_,_,_⟩ h
 simp only [Prod.mk.injEq,List.cons.injEq,D.agg.injEq,and_true] at h
 have := zHu h
 subst this; rfl
theorem zAq : (zCr.sc = true) = True := by simp [zCr,fam]
theorem zUh {pts : List Pt} {lab : List Int} (hl : pts.length = lab.length) {k : Nat} {p : Pt} {n : Int} (hp : pts[k]? = some p) (hn : lab[k]? = some n) : tabW (pts.take (k + 1)) (lab.take (k + 1)) = tabW (pts.take k) (lab.take k) ++ [sglT p.1,sglT p.2,Lib.itoa n] := by
 induction k generalizing pts lab with
 | zero =>
   cases pts with
   | nil => simp at hp
   | cons a pts => cases lab with
     | nil => simp at hn
     | cons b lab =>
       simp at hp hn
       subst hp hn
       simp [tabW]
 | succ k ih =>
   cases pts with
   | nil => simp at hp
   | cons a pts => cases lab with
     | nil => simp at hn
     | cons b lab =>
       have := ih (pts := pts) (lab := lab) (by simpa using hl) (by simpa using hp) (by simpa using hn)
       simp only [List.take_succ_cons,tabW,this,yaB]
theorem zMl : ∀ (pts : List Pt) (lab : List Int),(∀ p ∈ pts,p.1 < 4294967296 ∧ p.2 < 4294967296) → (∀ x ∈ lab,i64B x) → (behind (tabW pts lab)).length ≤ 120 * pts.length
 | [],_,_,_ => by simp [tabW,behind]
 | _ :: _,[],_,_ => by simp [tabW,behind]
 | p :: pts,n :: lab,h1,h2 => by
   have ih := zMl pts lab (fun q hq => h1 q (List.mem_cons_of_mem _ hq)) (fun q hq => h2 q (List.mem_cons_of_mem _ hq))
   have a := zCm (h1 p (by simp)).1
   have b := zCm (h1 p (by simp)).2
   have c := zBd (h2 n (by simp))
   have e : behind (tabW (p :: pts) (n :: lab)) = 32 :: sglT p.1 ++ (32 :: sglT p.2 ++ (32 :: Lib.itoa n ++ behind (tabW pts lab))) := by simp [tabW,behind]
   rw [e]
   simp only [yar,yas]
   omega
theorem zMi : Law Tryz.prog 23 zCr := by
 refine zAi (zAc zHi (zAc zJu (zAc zPx (zAc zIg (zAc zWa zAf))))) hmixA Tryz.func23 rfl rfl (fun ⟨m,ok,hw,hrat,hcnt,hlft,hlab⟩ => ⟨zAv rfl,by simp [Tryz.f23],?_⟩)
 simp only
 have hsm : sm = 16777216 := rfl
 have c9 : ((9 : Nat) : Int) = 9 := rfl
 cases hv : isModuleF m with
 | false =>
   have hT : fmtM m = [] := by simp [fmtM,hv]
   rw [hT]
   obtain ⟨k,⟨t1,t2⟩,⟨s1,s2⟩,lv,st,ra,rc,pts,lab,c,lf⟩ := m
   have ri := zBh (k := k) (t1 := t1) (t2 := t2) (s1 := s1) (s2 := s2) (lv := lv) (ra := ra) (rc := rc) (c := c) (l := lf) ok.store ok.pts ok.lab
   rw [hv] at ri
   simp only [modC]
   try simp -dsimp (maxSteps := 1000000) only [go_sem,↓reduceIte,yab,Tryz.f23,ri,yaI]
 | true =>
   have hT : fmtM m = nameT m.kind ++ behind (restW m) := by simp [fmtM,hv]
   rw [hT]
   have ri := fun (k : Int) (t1 t2 s1 s2 lv : Nat) (st : List Pt) (ra rc : Int) (pts : List Pt) (lab : List Int) (c lf : Int) (e : m = ⟨k,(t1,t2),(s1,s2),lv,st,ra,rc,pts,lab,c,lf⟩) => zBh (k := k) (t1 := t1) (t2 := t2) (s1 := s1) (s2 := s2) (lv := lv) (st := st) (ra := ra) (rc := rc) (pts := pts) (lab := lab) (c := c) (l := lf) (by have := ok.store; rw [e] at this; exact this) (by have := ok.pts; rw [e] at this; exact this) (by have := ok.lab; rw [e] at this; exact this)
   rcases zCf hv with ⟨⟨t1,t2⟩,⟨s1,s2⟩,e⟩ | ⟨⟨t1,t2⟩,⟨s1,s2⟩,e⟩ | ⟨l,e⟩ | ⟨st,a,e,hr⟩ | e | ⟨pts,lab,c,e,ht⟩ | ⟨l,e,hl⟩ | ⟨⟨s1,s2⟩,c,l,e,h1,h2,h3,h4⟩
   · replace ri := ri _ _ _ _ _ _ _ _ _ _ _ _ _ e
     subst e
     rw [hv] at ri
     have rp : zCe.run [.c (.im (.sl 1 [[.cpx .f32 t1 t2],[.cpx .f32 s1 s2]]))] [] = some (.one { val := .c (.im (.str ⟨(behind (ptsW [(t1,t2),(s1,s2)])).toArray⟩)) }) := zCw (l := [(t1,t2),(s1,s2)]) (by simp [sm]) (by simp; exact ⟨hw.turn,hw.state⟩)
     have lb := zBf [(t1,t2),(s1,s2)] (by simp; exact ⟨hw.turn,hw.state⟩)
     have hfin : nameT 1 ++ behind (restW ⟨1,(t1,t2),(s1,s2),0,[],0,0,[],[],0,0⟩) = [115,111,117,114,99,101] ++ behind (ptsW [(t1,t2),(s1,s2)]) := by simp [restW,nameT,sourceT,ptsW]
     simp only [modC]
     generalize behind (ptsW [(t1,t2),(s1,s2)]) = X at *
     have q : (6 + X.length ≤ 4611686018427387904) = True := eq_true (by simp at lb; omega)
     try simp -dsimp (maxSteps := 1000000) only [go_sem,↓reduceIte,yab,Tryz.f23,ri,zBr,rNames,c9,hfin,rp,zDk,q,zBo,yaX,yar,List.take_succ_cons,yan,Nat.reduceAdd,Int.reduceEq,Int.reduceLE,Int.reduceLT,Int.reduceToNat,yaH]
     repeat' (first
       | ((with_reducible refine sl_i ?_ ?_); focus kernel_rfl)
       | ((with_reducible refine ro_e ?_); kernel_rfl))
   · replace ri := ri _ _ _ _ _ _ _ _ _ _ _ _ _ e
     subst e
     rw [hv] at ri
     have rp : zCe.run [.c (.im (.sl 1 [[.cpx .f32 t1 t2],[.cpx .f32 s1 s2]]))] [] = some (.one { val := .c (.im (.str ⟨(behind (ptsW [(t1,t2),(s1,s2)])).toArray⟩)) }) := zCw (l := [(t1,t2),(s1,s2)]) (by simp [sm]) (by simp; exact ⟨hw.turn,hw.state⟩)
     have lb := zBf [(t1,t2),(s1,s2)] (by simp; exact ⟨hw.turn,hw.state⟩)
     have hfin : nameT 2 ++ behind (restW ⟨2,(t1,t2),(s1,s2),0,[],0,0,[],[],0,0⟩) = [109,105,120,101,114] ++ behind (ptsW [(t1,t2),(s1,s2)]) := by simp [restW,nameT,mixerT,ptsW]
     simp only [modC]
     generalize behind (ptsW [(t1,t2),(s1,s2)]) = X at *
     have q : (5 + X.length ≤ 4611686018427387904) = True := eq_true (by simp at lb; omega)
     try simp -dsimp (maxSteps := 1000000) only [go_sem,↓reduceIte,yab,Tryz.f23,ri,zBr,rNames,c9,hfin,rp,zDk,q,zBo,yaX,yar,List.take_succ_cons,yan,Nat.reduceAdd,Int.reduceEq,Int.reduceLE,Int.reduceLT,Int.reduceToNat,yaH]
     repeat' (first
       | ((with_reducible refine sl_i ?_ ?_); focus kernel_rfl)
       | ((with_reducible refine ro_e ?_); kernel_rfl))
   · replace ri := ri _ _ _ _ _ _ _ _ _ _ _ _ _ e
     subst e
     rw [hv] at ri
     have rp := zBu hw.level
     have lb := zCm hw.level
     simp only at rp lb
     have hfin : nameT 3 ++ behind (restW ⟨3,(0,0),(0,0),l,[],0,0,[],[],0,0⟩) = [103,97,105,110] ++ 32 :: sglT l := by simp [restW,nameT,gainT,behind]
     simp only [modC]
     generalize sglT l = X at *
     have q0 : (1 + X.length ≤ 4611686018427387904) = True := eq_true (by omega)
     have q : (4 + (X.length + 1) ≤ 4611686018427387904) = True := eq_true (by omega)
     try simp -dsimp (maxSteps := 1000000) only [go_sem,↓reduceIte,yab,Tryz.f23,ri,zBr,rNames,c9,hfin,rp,q0,q,zBo,yaX,yar,List.take_succ_cons,yan,Nat.reduceAdd,Int.reduceEq,Int.reduceLE,Int.reduceLT,Int.reduceToNat,yaH]
     repeat' (first
       | ((with_reducible refine sl_i ?_ ?_); focus kernel_rfl)
       | ((with_reducible refine ro_e ?_); kernel_rfl))
   · replace ri := ri _ _ _ _ _ _ _ _ _ _ _ _ _ e
     subst e
     rw [hv] at ri
     have hst := ok.store
     simp only at hst
     have ra : zCq.run [.c (.im (.sl 1 [[.int .i64 a]]))] [] = some (.one { val := .c (.im (.str ⟨(behind [Lib.itoa a]).toArray⟩)) }) := zFb (l := [a]) (by simp [sm]) (by simp; exact hrat)
     have rp := zCw hst hw.store
     have la := zCl [a] (by simp; exact hrat)
     have lb := zBf st hw.store
     simp only [List.map_cons,yaE] at la
     have hfin : nameT 4 ++ behind (restW ⟨4,(0,0),(0,0),0,st,a,(st.length : Int),[],[],0,0⟩) = [100,101,108,97,121] ++ (behind [Lib.itoa a] ++ behind (ptsW st)) := by simp [restW,nameT,delayT,behind]
     simp only [modC]
     generalize behind [Lib.itoa a] = A at *
     generalize behind (ptsW st) = X at *
     have q0 : (A.length + X.length ≤ 4611686018427387904) = True := eq_true (by simp at la; omega)
     have q : (5 + (A.length + X.length) ≤ 4611686018427387904) = True := eq_true (by simp at la; omega)
     try simp -dsimp (maxSteps := 1000000) only [go_sem,↓reduceIte,yab,Tryz.f23,ri,zBr,rNames,c9,hfin,ra,rp,zFs,zDk,q0,q,zBo,yaX,yar,List.take_succ_cons,yan,Nat.reduceAdd,Int.reduceEq,Int.reduceLE,Int.reduceLT,Int.reduceToNat,yaH]
     repeat' (first
       | ((with_reducible refine sl_i ?_ ?_); focus kernel_rfl)
       | ((with_reducible refine ro_i ?_ ?_); focus kernel_rfl)
       | ((with_reducible refine ro_e ?_); kernel_rfl))
   · replace ri := ri _ _ _ _ _ _ _ _ _ _ _ _ _ e
     subst e
     rw [hv] at ri
     have hfin : nameT 5 ++ behind (restW ⟨5,(0,0),(0,0),0,[],0,0,[],[],0,0⟩) = [115,117,109] := by simp [restW,nameT,sumT,behind]
     simp only [modC]
     try simp -dsimp (maxSteps := 1000000) only [go_sem,↓reduceIte,yab,Tryz.f23,ri,zBr,rNames,c9,hfin,c9,zBo,yaX,yar,List.take_succ_cons,yan,Nat.reduceAdd,Int.reduceEq,Int.reduceLE,Int.reduceLT,Int.reduceToNat,yaH]
     repeat' (first
       | ((with_reducible refine sl_i ?_ ?_); focus kernel_rfl)
       | ((with_reducible refine ro_e ?_); kernel_rfl))
   · replace ri := ri _ _ _ _ _ _ _ _ _ _ _ _ _ e
     subst e
     rw [hv] at ri
     have hpl := ok.pts
     have hll := ok.lab
     simp only at hpl hll
     simp only [isTableF,yaw,yax] at ht
     have hpeq := ht.1
     have hw2 := hw.pts
     simp only at hw2 hlab hcnt
     have ra : zCq.run [.c (.im (.sl 1 [[.int .i64 c]]))] [] = some (.one { val := .c (.im (.str ⟨(behind [Lib.itoa c]).toArray⟩)) }) := zFb (l := [c]) (by simp [sm]) (by simp; exact hcnt)
     have la := zCl [c] (by simp; exact hcnt)
     simp only [List.map_cons,yaE] at la
     have hfin : nameT 6 ++ behind (restW ⟨6,(0,0),(0,0),0,[],0,0,pts,lab,c,0⟩) = [115,108,105,99,101,114] ++ behind [Lib.itoa c] ++ behind (tabW pts lab) := by simp [restW,nameT,slicerT,behind]
     simp only [modC]
     clear ht hv hT
     have hT2 : behind (tabW (pts.take pts.length) (lab.take pts.length)) = behind (tabW pts lab) := by rw [List.take_length,hpeq,List.take_length]
     generalize behind [Lib.itoa c] = A at *
     have q : (6 + A.length ≤ 4611686018427387904) = True := eq_true (by simp at la; omega)
     try simp -dsimp (maxSteps := 1000000) only [go_sem,↓reduceIte,yab,Tryz.f23,ri,zBr,rNames,c9,ra,zFs,q,zAa,zBo,yaX,yar,List.take_succ_cons,yan,Nat.reduceAdd,Int.reduceEq,Int.reduceLE,Int.reduceLT,Int.reduceToNat,yaH]
     repeat' (first
       | ((with_reducible refine sl_i ?_ ?_); focus kernel_rfl)
       | ((with_reducible refine ro_i ?_ ?_); focus kernel_rfl))
     refine zBa (ι := { k : Nat // k ≤ pts.length }) (fun k => ⟨[(1,some (.c (.ptr 0 0 0 0))),(3,some (.c (.im (.str ⟨([115,108,105,99,101,114] ++ A ++ behind (tabW (pts.take k.1) (lab.take k.1))).toArray⟩)))),(60,some (.c (.im (.sl 1 (rowsZ pts))))),(61,some (.c (.im (.int .i64 (pts.length : Int))))),(62,some (.c (.im (.int .i64 (k.1 : Int)))))],
       [(0,some (.box [.t (.im (.int .i64 6)),.t (.im (.cpx .f32 0 0)),.t (.im (.cpx .f32 0 0)),.t (.im (.flt .f32 0)),.t (.im (.sl 1 (rowsZ []))),.t (.im (.int .i64 0)),.t (.im (.int .i64 0)),.t (.im (.sl 1 (rowsZ pts))),.t (.im (.sl 1 (rowsN lab))),.t (.im (.int .i64 c)),.t (.im (.int .i64 0))]))],1⟩) (fun k => pts.length - k.1) ⟨0,by simp⟩ ⟨[],[0],by ((simp only [go_sem,↓reduceIte,yab,yai,yan,tabW,behind,yaA,List.append_nil]) <;> (try (simp -dsimp only [go_sem,↓reduceIte,yab,yai,yan,tabW,behind,yaA,List.append_nil]))) <;> simp [lk,zAy]⟩ (fun ⟨k,hk⟩ => ?_)
     simp only
     by_cases hlt : k < pts.length
     · obtain ⟨⟨u,v⟩,hp⟩ : ∃ p,pts[k]? = some p := ⟨_,List.getElem?_eq_getElem hlt⟩
       obtain ⟨n,hn⟩ : ∃ p,lab[k]? = some p := ⟨lab[k]'(by omega),List.getElem?_eq_getElem (by omega)⟩
       have hrow := zCt hp
       have hrow2 := zFv hn
       have hI : ((k : Int) < (pts.length : Int)) = True := eq_true (by omega)
       have hI2 : ((k : Int) < (lab.length : Int)) = True := eq_true (by omega)
       have h0 : (0 ≤ (k : Int)) = True := eq_true (by omega)
       have hwr := zEn hpl hlt
       have w1 := hw2 _ (List.mem_of_getElem? hp)
       have i1 := hlab n (List.mem_of_getElem? hn)
       have rp : zCe.run [.c (.im (.sl 1 [[.cpx .f32 u v]]))] [] = some (.one { val := .c (.im (.str ⟨(behind (ptsW [(u,v)])).toArray⟩)) }) := zCw (l := [(u,v)]) (by simp [sm]) (by simp; exact w1)
       have rn : zCq.run [.c (.im (.sl 1 [[.int .i64 n]]))] [] = some (.one { val := .c (.im (.str ⟨(behind [Lib.itoa n]).toArray⟩)) }) := zFb (l := [n]) (by simp [sm]) (by simp; exact i1)
       have l1 := zBf [(u,v)] (by simp; exact w1)
       have l2 := zCl [n] (by simp; exact i1)
       simp only [List.map_cons,yaE] at l2
       have l3 := zMl (pts.take k) (lab.take k) (fun p hp => hw2 p (List.mem_of_mem_take hp)) (fun p hp => hlab p (List.mem_of_mem_take hp))
       have l4 : (pts.take k).length ≤ pts.length := by rw [List.length_take]; omega
       have hsn : [115,108,105,99,101,114] ++ A ++ behind (tabW (pts.take (k + 1)) (lab.take (k + 1))) = [115,108,105,99,101,114] ++ A ++ behind (tabW (pts.take k) (lab.take k)) ++ (behind (ptsW [(u,v)]) ++ behind [Lib.itoa n]) := by
         rw [zUh hpeq hp hn,zEq]
         simp [behind,ptsW,ptW]
       generalize behind (ptsW [(u,v)]) = X at *
       generalize behind [Lib.itoa n] = Y at *
       generalize hO : [115,108,105,99,101,114] ++ A ++ behind (tabW (pts.take k) (lab.take k)) = O at *
       have lO : O.length ≤ 6 + A.length + 120 * pts.length := by rw [← hO]; simp only [yar,yas,List.length_nil]; omega
       have q0 : (X.length + Y.length ≤ 4611686018427387904) = True := eq_true (by simp at l1 l2; omega)
       have q1 : (O.length + (X.length + Y.length) ≤ 4611686018427387904) = True := eq_true (by simp at l1 l2 la; omega)
       try simp -dsimp (maxSteps := 1000000) only [go_sem,↓reduceIte,yab,Tryz.f23,hI,hI2,h0,Int.toNat_natCast,hrow,hrow2,hwr,rp,rn,zDk,zFs,q0,q1,zAa,zAb,zBo,yaX,yar,List.take_succ_cons,yan,Nat.reduceAdd]
       repeat' (first
         | ((with_reducible refine sl_i ?_ ?_); focus kernel_rfl)
         | ((with_reducible refine ro_i ?_ ?_); focus kernel_rfl))
       refine ⟨⟨k + 1,by omega⟩,by simp only []; omega,[],[0],?_⟩
       ((simp only [go_sem,↓reduceIte,yab,yai]) <;> (try (simp -dsimp only [go_sem,↓reduceIte,yab,yai])))
       all_goals simp [lk,zAy]
       simpa using hsn.symm
     · have hI : ((k : Int) < (pts.length : Int)) = False := eq_false (by omega)
       have hke : k = pts.length := by omega
       subst hke
       rw [hT2]
       try simp -dsimp (maxSteps := 1000000) only [go_sem,↓reduceIte,yab,Tryz.f23,hI,hfin]
   · replace ri := ri _ _ _ _ _ _ _ _ _ _ _ _ _ e
     subst e
     rw [hv] at ri
     have rp := zBu hw.level
     have lb := zCm hw.level
     simp only at rp lb
     have hfin : nameT 7 ++ behind (restW ⟨7,(0,0),(0,0),l,[],0,0,[],[],0,0⟩) = [109,101,116,101,114] ++ 32 :: sglT l := by simp [restW,nameT,meterT,behind]
     simp only [modC]
     generalize sglT l = X at *
     have q0 : (1 + X.length ≤ 4611686018427387904) = True := eq_true (by omega)
     have q : (5 + (X.length + 1) ≤ 4611686018427387904) = True := eq_true (by omega)
     try simp -dsimp (maxSteps := 1000000) only [go_sem,↓reduceIte,yab,Tryz.f23,ri,zBr,rNames,c9,hfin,rp,q0,q,zBo,yaX,yar,List.take_succ_cons,yan,Nat.reduceAdd,Int.reduceEq,Int.reduceLE,Int.reduceLT,Int.reduceToNat,yaH]
     repeat' (first
       | ((with_reducible refine sl_i ?_ ?_); focus kernel_rfl)
       | ((with_reducible refine ro_e ?_); kernel_rfl))
   · replace ri := ri _ _ _ _ _ _ _ _ _ _ _ _ _ e
     subst e
     rw [hv] at ri
     have ra : zCq.run [.c (.im (.sl 1 [[.int .i64 c],[.int .i64 l]]))] [] = some (.one { val := .c (.im (.str ⟨(behind [Lib.itoa c,Lib.itoa l]).toArray⟩)) }) := zFb (l := [c,l]) (by simp [sm]) (by simp; exact ⟨hcnt,hlft⟩)
     have rp : zCe.run [.c (.im (.sl 1 [[.cpx .f32 s1 s2]]))] [] = some (.one { val := .c (.im (.str ⟨(behind (ptsW [(s1,s2)])).toArray⟩)) }) := zCw (l := [(s1,s2)]) (by simp [sm]) (by simp; exact hw.state)
     have la := zCl [c,l] (by simp; exact ⟨hcnt,hlft⟩)
     have lb := zBf [(s1,s2)] (by simp; exact hw.state)
     simp only [List.map_cons,yaE] at la
     have hfin : nameT 8 ++ behind (restW ⟨8,(0,0),(s1,s2),0,[],0,0,[],[],c,l⟩) = [104,111,108,100] ++ (behind [Lib.itoa c,Lib.itoa l] ++ behind (ptsW [(s1,s2)])) := by simp [restW,nameT,holdT,behind,ptsW]
     simp only [modC]
     generalize behind [Lib.itoa c,Lib.itoa l] = A at *
     generalize behind (ptsW [(s1,s2)]) = X at *
     have q0 : (A.length + X.length ≤ 4611686018427387904) = True := eq_true (by simp at la lb; omega)
     have q : (4 + (A.length + X.length) ≤ 4611686018427387904) = True := eq_true (by simp at la lb; omega)
     try simp -dsimp (maxSteps := 1000000) only [go_sem,↓reduceIte,yab,Tryz.f23,ri,zBr,rNames,c9,hfin,ra,rp,zFs,zDk,q0,q,zBo,yaX,yar,List.take_succ_cons,yan,Nat.reduceAdd,Int.reduceEq,Int.reduceLE,Int.reduceLT,Int.reduceToNat,yaH]
     repeat' (first
       | ((with_reducible refine sl_i ?_ ?_); focus kernel_rfl)
       | ((with_reducible refine ro_i ?_ ?_); focus kernel_rfl)
       | ((with_reducible refine ro_e ?_); kernel_rfl))
end Go.SX
namespace Go.SX
open Go Go.Proofs Ieee
theorem zCi {m : Nat} {e : Int} (h : Dr m e) : dW m e = ((m.log2 : Int) + e + 1022).toNat * 4503599627370496 + m * 2 ^ (52 - m.log2) ∧ 4503599627370496 ≤ m * 2 ^ (52 - m.log2) ∧ m * 2 ^ (52 - m.log2) < 9007199254740992 ∧ m.log2 ≤ 52 := by
 have h0 := h.pos
 have hl : m.log2 ≤ 52 := zBt h0 (show m < 2 ^ (52 + 1) from h.lt)
 have hlo := h.lo
 have hhi := h.hi
 have g1 : 4503599627370496 ≤ m * 2 ^ (52 - m.log2) := by
   calc 4503599627370496 = 2 ^ m.log2 * 2 ^ (52 - m.log2) := by rw [← Nat.pow_add,show m.log2 + (52 - m.log2) = 52 by omega]
     _ ≤ _ := Nat.mul_le_mul_right _ (Nat.log2_self_le (Nat.ne_of_gt h0))
 have g2 : m * 2 ^ (52 - m.log2) < 9007199254740992 := by
   calc m * 2 ^ (52 - m.log2) < 2 ^ (m.log2 + 1) * 2 ^ (52 - m.log2) := Nat.mul_lt_mul_of_pos_right (Nat.lt_log2_self) (Nat.two_pow_pos _)
     _ = 9007199254740992 := by rw [← Nat.pow_add,show m.log2 + 1 + (52 - m.log2) = 53 by omega]
 have hc : Can double (m * 2 ^ (52 - m.log2)) (e - (52 - m.log2 : Nat)) := ⟨by omega,g2,by rw [ep2]; omega,.inr g1⟩
 have hsv := SV.shl m e (52 - m.log2)
 refine ⟨?_,g1,g2,hl⟩
 have hr : (e - ((52 - m.log2 : Nat) : Int) - double.leastPlace).toNat = ((m.log2 : Int) + e + 1022).toNat := by rw [ep2]; omega
 rw [dW,zBw hc hsv,hr,bn2,Nat.min_eq_left]
 · rfl
 · rw [ir2]; omega
theorem zJm {m : Nat} {e : Int} (h : Dr m e) : double.read (dW m e) = .number false (m * 2 ^ (52 - m.log2)) (e - (52 - m.log2 : Nat)) := by
 obtain ⟨e1,g1,g2,hl⟩ := zCi h
 have hlo := h.lo
 have hhi := h.hi
 have hc : Can double (m * 2 ^ (52 - m.log2)) (e - (52 - m.log2 : Nat)) := ⟨by omega,g2,by rw [ep2]; omega,.inr g1⟩
 obtain ⟨k1,k2⟩ := zMz hc
 have hr : (e - ((52 - m.log2 : Nat) : Int) - double.leastPlace).toNat = ((m.log2 : Int) + e + 1022).toNat := by rw [ep2]; omega
 rw [hr,bn2,← e1] at k1 k2
 have hlt : dW m e < double.infRung := by rw [e1,ir2]; omega
 have := zCy (f := double) (by decide) hlt false
 have hw : double.word false (dW m e) = dW m e := by simp [Format.word]
 rw [k1,k2,hw] at this
 exact this
theorem zSc1 {m : Nat} {e : Int} (h : Dr m e) : dW m e < 9223372036854775808 := by
 obtain ⟨e1,g1,g2,hl⟩ := zCi h
 have hlo := h.lo
 have hhi := h.hi
 rw [e1]; omega
theorem zBe1 {m : Nat} {e : Int} (h : Dr m e) : isNaNb .f64 (dW m e) = false := by
 unfold isNaNb
 have : FloatKind.f64.format.read (dW m e) = .number false (m * 2 ^ (52 - m.log2)) (e - (52 - m.log2 : Nat)) := zJm h
 rw [this]; rfl
theorem zWy {m : Nat} {e : Int} (h : Dr m e) : double.order (dW m e) 0 = some .gt := by
 have h0 : double.read 0 = .number false 0 (-1074) := by decide
 unfold Format.order
 rw [zJm h,h0]
 simp only [Datum.order]
 obtain ⟨e1,g1,g2,hl⟩ := zCi h
 have hp : 0 < (m * 2 ^ (52 - m.log2)) * 2 ^ (e - ((52 - m.log2 : Nat) : Int) - min (e - ((52 - m.log2 : Nat) : Int)) (-1074)).toNat := Nat.mul_pos (by omega) (Nat.two_pow_pos _)
 have h1 : signed false (m * 2 ^ (52 - m.log2)) (e - ((52 - m.log2 : Nat) : Int) - min (e - ((52 - m.log2 : Nat) : Int)) (-1074)).toNat = (((m * 2 ^ (52 - m.log2)) * 2 ^ (e - ((52 - m.log2 : Nat) : Int) - min (e - ((52 - m.log2 : Nat) : Int)) (-1074)).toNat : Nat) : Int) := by simp [signed,zDb]
 have h2 : ∀ k,signed false 0 k = 0 := fun k => by simp [signed]
 rw [h1,h2]
 generalize (m * 2 ^ (52 - m.log2)) * 2 ^ (e - ((52 - m.log2 : Nat) : Int) - min (e - ((52 - m.log2 : Nat) : Int)) (-1074)).toNat = X at hp
 have : compare ((X : Nat) : Int) 0 = .gt := by
   have a : ¬ ((X : Int) < 0) := by omega
   have b : ¬ ((X : Int) = 0) := by omega
   have b' : ¬ (X = 0) := by omega
   simp [compare,compareOfLessAndEq,b']
 rw [this]
theorem zSe1 {m : Nat} {e : Int} (h : Dr m e) : fcmp .eql .f64 (dW m e) 0 = false := by
 show (double.order (dW m e) 0 == some .eq) = false
 rw [zWy h]; rfl
theorem zMl1 {m : Nat} {e : Int} (h : Dr m e) : fcmp .neq .f64 (dW m e) (dW m e) = false := by
 show (double.order (dW m e) (dW m e) != some .eq) = false
 unfold Format.order
 rw [zJm h]
 simp only [Datum.order,Int.min_self,zTp]; rfl
theorem zSb1 {m : Nat} {e : Int} (h : Dr m e) : fcmp .gtr .f64 (dW m e) 9218868437227405311 = false := by
 obtain ⟨e1,g1,g2,hl⟩ := zCi h
 exact zZd (zJm h) g2 (by have := h.hi; omega)
theorem zLf1 {m : Nat} {e : Int} (h : Dr m e) : fcmp .lss .f64 (dW m e) 4503599627370496 = false := by
 have hc : double.read 4503599627370496 = .number false 4503599627370496 (-1074) := by decide +kernel
 show (double.order (dW m e) 4503599627370496 == some .lt) = false
 unfold Format.order
 rw [zJm h,hc]
 simp only [Datum.order]
 obtain ⟨e1,g1,g2,hl⟩ := zCi h
 have hlo := h.lo
 have hb : min (e - ((52 - m.log2 : Nat) : Int)) (-1074) = -1074 := by omega
 rw [hb]
 have e0 : (-1074 - -1074 : Int).toNat = 0 := rfl
 rw [e0]
 obtain ⟨k,hk⟩ : ∃ k,(e - ((52 - m.log2 : Nat) : Int) - -1074).toNat = k := ⟨_,rfl⟩
 rw [hk]
 have h1 : signed false (m * 2 ^ (52 - m.log2)) k = ((m * 2 ^ (52 - m.log2) * 2 ^ k : Nat) : Int) := by simp [signed,zDb]
 have h2 : signed false 4503599627370496 0 = 4503599627370496 := rfl
 rw [h1,h2]
 have h3 : m * 2 ^ (52 - m.log2) * 1 ≤ m * 2 ^ (52 - m.log2) * 2 ^ k := Nat.mul_le_mul_left _ (Nat.two_pow_pos k)
 generalize m * 2 ^ (52 - m.log2) * 2 ^ k = X at h3
 have hn : ¬ ((X : Int) < 4503599627370496) := by omega
 have : compare ((X : Nat) : Int) 4503599627370496 ≠ .lt := by
   simp only [compare,compareOfLessAndEq,hn,yak]
   split <;> simp
 cases hcmp : compare ((X : Nat) : Int) 4503599627370496 with
 | lt => exact absurd hcmp this
 | eq => rfl
 | gt => rfl
theorem zEy1 {m : Nat} {e : Int} (h : Dr m e) : fop .mul .f64 4607182418800017408 (dW m e) = dW m e := by
 have h1 : double.read 4607182418800017408 = .number false 4503599627370496 (-52) := by decide +kernel
 have e2 : double.mul 4607182418800017408 (dW m e) = some (dW m e) := by
   unfold Format.mul
   rw [h1,zJm h]
   simp only [Datum.product,yaK,Format.write,Bool.false_xor]
   congr 1
   refine zYk h ?_
   have a : SV m e (m * 2 ^ (52 - m.log2)) (e - (52 - m.log2 : Nat)) := SV.shl m e _
   have b : SV 1 0 4503599627370496 (-52) := SV.shl 1 0 52
   have := SV.mul b a
   rw [Nat.one_mul,Int.zero_add] at this
   exact this
 show (double.mul 4607182418800017408 (dW m e)).getD _ = _
 rw [e2]; rfl
theorem shr52 {m : Nat} {e : Int} (h : Dr m e) : ((dW m e : Nat) : Int).fdiv (2 ^ min (Int.toNat 52) 64) = (m.log2 : Int) + e + 1023 := by
 obtain ⟨e1,g1,g2,hl⟩ := zCi h
 have hlo := h.lo
 have h0 : (0 : Int) ≤ 2 ^ 52 := by decide
 show ((dW m e : Nat) : Int).fdiv (2 ^ 52) = _
 rw [Int.fdiv_eq_ediv_of_nonneg _ h0,e1]
 generalize m * 2 ^ (52 - m.log2) = M at g1 g2
 have : (2 : Int) ^ 52 = 4503599627370496 := by decide
 rw [this]
 omega
theorem andNot52 {x : Nat} (h : x < 9223372036854775808) : bitsI .andNot .u64 (x : Int) 9218868437227405312 = ((x % 4503599627370496 : Nat) : Int) := by
 have h1 : (BitVec.ofInt 64 (x : Int) &&& ~~~BitVec.ofInt 64 9218868437227405312).toNat = x % 4503599627370496 := by
   rw [BitVec.toNat_and]
   have e1 : (BitVec.ofInt 64 (x : Int)).toNat = x := by simp; omega
   have e2 : (~~~BitVec.ofInt 64 9218868437227405312).toNat = 2 ^ 63 ||| (2 ^ 52 - 1) := by decide
   rw [e1,e2,Nat.and_or_distrib_left,Nat.and_two_pow_sub_one_eq_mod]
   have hb : x.testBit 63 = false := Nat.testBit_lt_two_pow h
   have h0 : x &&& 2 ^ 63 = 0 := by
     apply Nat.eq_of_testBit_eq
     intro i
     rw [Nat.testBit_and,Nat.testBit_two_pow,Nat.zero_testBit]
     by_cases e : 63 = i
     · subst e; simp [hb]
     · simp [e]
   rw [h0,Nat.zero_or]
 show IntKind.u64.wrap _ = _
 rw [show (IntKind.u64.bits) = 64 from rfl,h1]
 show (((x % 4503599627370496 : Nat) : Int) % 18446744073709551616) = _
 omega
theorem or52 {a k : Nat} (ha : a < 4503599627370496) (hk : k < 2048) : bitsI .or .u64 (a : Int) ((k * 4503599627370496 : Nat) : Int) = ((k * 4503599627370496 + a : Nat) : Int) := by
 have h1 : (BitVec.ofInt 64 (a : Int) ||| BitVec.ofInt 64 ((k * 4503599627370496 : Nat) : Int)).toNat = k * 4503599627370496 + a := by
   rw [BitVec.toNat_or]
   have e1 : (BitVec.ofInt 64 (a : Int)).toNat = a := by simp; omega
   have e2 : (BitVec.ofInt 64 ((k * 4503599627370496 : Nat) : Int)).toNat = k * 4503599627370496 := by
     rw [BitVec.ofInt_natCast,BitVec.toNat_ofNat]; omega
   rw [e1,e2,Nat.or_comm]
   have := Nat.two_pow_add_eq_or_of_lt (i := 52) (b := a) ha k
   rw [Nat.mul_comm] at this
   exact this.symm
 show IntKind.u64.wrap _ = _
 rw [show (IntKind.u64.bits) = 64 from rfl,h1]
 show (((k * 4503599627370496 + a : Nat) : Int) % 18446744073709551616) = _
 omega
theorem and11 {a : Int} (h0 : 0 ≤ a) (h : a < 2048) : bitsI .and .i64 a 2047 = a := by
 obtain ⟨x,rfl⟩ : ∃ x : Nat,a = x := ⟨a.toNat,by omega⟩
 have h1 : (BitVec.ofInt 64 (x : Int) &&& BitVec.ofInt 64 2047).toNat = x := by
   rw [BitVec.toNat_and]
   have e1 : (BitVec.ofInt 64 (x : Int)).toNat = x := by simp; omega
   have e2 : (BitVec.ofInt 64 2047).toNat = 2 ^ 11 - 1 := by decide
   rw [e1,e2,Nat.and_two_pow_sub_one_eq_mod]
   omega
 show IntKind.i64.wrap _ = _
 rw [show (IntKind.i64.bits) = 64 from rfl,h1]
 exact zAg (by omega) (by omega)
abbrev N64 := { x : Nat // isNaNb .f64 x = false }
noncomputable def zXh : Ct := fam true (fun x : N64 => ([.c (.im (.flt .f64 x.1))],[])) (fun x => .one { val := .c (.im (.int .u64 x.1)) })
theorem zQf {x : Nat} (h : isNaNb .f64 x = false) : zXh.run [.c (.im (.flt .f64 x))] [] = some (.one { val := .c (.im (.int .u64 x)) }) := by
 refine zAd (args := fun x : N64 => ([D.c (.im (.flt .f64 x.1))],[])) ?_ ⟨x,h⟩
 rintro ⟨a,_⟩ ⟨b,_⟩ h
 simp only [Prod.mk.injEq,List.cons.injEq,D.c.injEq,C.im.injEq,I.flt.injEq,true_and,and_true] at h
 exact Subtype.ext h
theorem zQo : ExtLaw Tryz.prog 252 zXh := by
 refine zTc (fun ⟨x,hx⟩ => ⟨rfl,by simp [scI],fun fz vs w hl hv => ?_⟩)
 match vs,hl with
 | [v],_ =>
   have h1 := hv 0 _ v rfl rfl
   obtain ⟨y,rfl,he⟩ := h1.flt_inv
   rcases he with rfl | ⟨h2,_⟩
   · refine ⟨.int .u64 x,.int .u64 x,?_,rfl,.int _ _⟩
     rw [run_callFunc_extern (e := Extern.MathFloatBits.float64bits) Tryz.func252 (by kernel_rfl) (by kernel_rfl) (by kernel_rfl) (by kernel_rfl)]
     rfl
   · simp only at h2; rw [hx] at h2; cases h2
noncomputable def zDq : Ct := fam true (fun x : Nat => ([.c (.im (.int .u64 x))],[])) (fun x => .one { val := .c (.im (.flt .f64 x)) })
theorem zCx (x : Nat) : zDq.run [.c (.im (.int .u64 (x : Int)))] [] = some (.one { val := .c (.im (.flt .f64 x)) }) :=
 zAd (fun a b h => by simp only [Prod.mk.injEq,List.cons.injEq,D.c.injEq,C.im.injEq,I.int.injEq] at h; omega) x
theorem zEf : ExtLaw Tryz.prog 240 zDq := by
 refine zTc (fun x => ⟨rfl,by simp [scI],fun fz vs w hl hv => ?_⟩)
 match vs,hl with
 | [v],_ =>
   have h1 := hv 0 _ v rfl rfl
   cases h1.int_inv
   refine ⟨.float .f64 x,.flt .f64 x,?_,rfl,.flt _ _ _ (.inl rfl)⟩
   rw [run_callFunc_extern (e := Extern.MathFloatBits.float64frombits) Tryz.func240 (by kernel_rfl) (by kernel_rfl) (by kernel_rfl) (by kernel_rfl)]
   rfl
end Go.SX
