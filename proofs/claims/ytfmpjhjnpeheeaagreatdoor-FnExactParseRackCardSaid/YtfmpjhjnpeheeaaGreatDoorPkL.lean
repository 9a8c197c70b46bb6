/-
  Texts of racks: what impl.ParseRack reads (implR), what spec.ParseRack reads (specR); both are the same.
  spec.IsRack at any rack whose modules' words are below 2^32.
  A step, a reset, a control keep a module valid, its words below 2^32: plain words.
  spec.FormatRack: the text of a rack whose modules' words are below 2^32.
  spec.ParseModule gives what impl.ParseModule gives.
  spec.ParseRack gives what is read by implR.
  impl.ParseRack gives what is read by implR.
  laws.FnExactParseRack returns true at every text.
  What the rows' lists give: the package variables of 'Laid' hold what they are to hold.
  From a law over one string to the call of it.
  FnExactParseRack: the given statement's card: the law returns true at every input, which reads behind the call as it did. The frame: lines of the kit's printed shell for a law over a string, and of the guide's page on a row that lists variables.
  No condition.
-/
import Derived.Test.YtfmpjhjnpeheeaaGreatDoorRows
import Derived.Test.YtfmpjhjnpeheeaaGreatDoorCards
import Derived.Test.YtfmpjhjnpeheeaaGreatDoorTie
import Derived.WalkKit
import Derived.ProofKit
import Derived.OpenShut
import Derived.Lay
import Derived.MakeChecks
import Derived.Deep.DeepHandedRow
import Derived.Lib.LaidTab
import Derived.Lib.LaidU8
import Derived.Stop.LaidErr
import Derived.SevenTiedAt
import Derived.Test.YtfmpjhjnpeheeaaGreatDoorPkK
set_option maxRecDepth 100000
set_option maxHeartbeats 16000000
set_option linter.unusedVariables false
set_option linter.unusedSimpArgs false
namespace Go.SX
open Go Go.Proofs Ieee
def cableT : Txt := [99,97,98,108,101]
def cabL (l : Txt) : Option (Txt × Txt) := match splT 32 l with
 | [w,a,b] => if w = cableT then some (a,b) else none
 | _ => none
noncomputable def goT : List Txt → List Mod → List Cbl → Option (List Mod × List Cbl)
 | [],_,_ => none
 | l :: ls,ms,cs => if ls = [] then (if l = [] then some (ms,cs) else none) else match cabL l with
   | some (a,b) => if (numF a).2 && (numF b).2 then goT ls ms (cs ++ [((numF a).1,(numF b).1)]) else none
   | none => match implM l with
     | some m => if cs = [] then goT ls (ms ++ [m]) cs else none
     | none => none
noncomputable def implR (s : Txt) : Option (List Mod × List Cbl) := match goT (splT 10 s) [] [] with
 | some (ms,cs) => if isRackF ms cs = true then some (ms,cs) else none
 | none => none
noncomputable def specG : List Txt → List Mod → List Cbl → List Mod × List Cbl
 | [],ms,cs => (ms,cs)
 | l :: ls,ms,cs => match cabL l with
   | some (a,b) => specG ls ms (cs ++ [((riF a).1,(riF b).1)])
   | none => specG ls (ms ++ [(implM l).getD (mod0 0)]) cs
def lnC (c : Cbl) : Txt := cableT ++ 32 :: (Lib.itoa c.1 ++ 32 :: Lib.itoa c.2)
def fmtR (ms : List Mod) (cs : List Cbl) : Txt := ms.flatMap (fun m => fmtM m ++ [10]) ++ cs.flatMap (fun c => lnC c ++ [10])
noncomputable def specR (s : Txt) : Option (List Mod × List Cbl) := if 57 < (splT 10 s).length then none else
 if isRackF (specG (splT 10 s).dropLast [] []).1 (specG (splT 10 s).dropLast [] []).2 = true ∧ fmtR (specG (splT 10 s).dropLast [] []).1 (specG (splT 10 s).dropLast [] []).2 = s then some (specG (splT 10 s).dropLast [] []) else none
theorem zBp1 (c : Cbl) : cabL (lnC c) = some (Lib.itoa c.1,Lib.itoa c.2) := by
 unfold cabL lnC
 rw [zGv (by decide),zGv (zSu _),zEh (zSu _)]
 simp
theorem zHw1 {l a b : Txt} (h : cabL l = some (a,b)) : l = cableT ++ 32 :: (a ++ 32 :: b) := by
 unfold cabL at h
 split at h
 · rename_i w x y hs
   split at h
   · rename_i hw
     simp only [yay,Prod.mk.injEq] at h
     obtain ⟨rfl,rfl⟩ := h
     have := zOq 32 l
     rw [hs,hw] at this
     rw [← this]
     simp [joinT]
   · cases h
 · cases h
theorem zBo1 {l w : Txt} {ws : List Txt} (hs : splT 32 l = w :: ws) (h : ¬ (w = cableT ∧ ws.length = 2)) : cabL l = none := by
 unfold cabL
 rw [hs]
 split
 · rename_i x a b he
   simp only [List.cons.injEq] at he
   obtain ⟨rfl,rfl⟩ := he
   rw [if_neg (fun hw => h ⟨hw,rfl⟩)]
 · rfl
theorem zHx1 {l a b : Txt} (hs : splT 32 l = [cableT,a,b]) : cabL l = some (a,b) := by
 unfold cabL
 rw [hs]
 simp
theorem zWn {s : Txt} {m : Mod} (h : implM s = some m) : OkM m := by
 have hsm : sm = 16777216 := rfl
 have h1 := (zHw h).1
 rcases zCf h1 with ⟨t,u,rfl⟩ | ⟨t,u,rfl⟩ | ⟨l,rfl⟩ | ⟨st,a,rfl,hr⟩ | rfl | ⟨pts,lab,c,rfl,ht⟩ | ⟨l,rfl,_⟩ | ⟨u,c,l,rfl,_⟩
 · exact ⟨by simp,by simp,by simp⟩
 · exact ⟨by simp,by simp,by simp⟩
 · exact ⟨by simp,by simp,by simp⟩
 · have : st.length ≤ 16 := by
     unfold isRingF at hr
     simp only [yaw,yax] at hr
     exact hr.1.2.1
   exact ⟨by simp only; omega,by simp,by simp⟩
 · exact ⟨by simp,by simp,by simp⟩
 · obtain ⟨q1,q2⟩ := zGu ht
   exact ⟨by simp,by simp only; omega,by simp only; omega⟩
 · exact ⟨by simp,by simp,by simp⟩
 · exact ⟨by simp,by simp,by simp⟩
theorem zPc1 (c : Cbl) : (10 : UInt8) ∉ lnC c := by
 unfold lnC
 simp only [yaz,yae,not_or]
 exact ⟨by decide,by decide,zAp1 _,by decide,zAp1 _⟩
theorem zAo1 : ∀ (L : List Txt),joinT 10 (L ++ [[]]) = L.flatMap (fun l => l ++ [10])
 | [] => by simp [joinT]
 | l :: ls => by
   rw [List.cons_append,zHv,List.flatMap_append]
   have ih := zAo1 ls
   cases ls with
   | nil => simp
   | cons p q =>
     rw [List.cons_append,zHv,List.flatMap_append] at ih
     simp only [List.flatMap_cons,yaA,List.append_nil] at ih ⊢
     simp only [List.append_assoc,yaB,yaC] at ih ⊢
     rw [ih]
theorem zWs (ms : List Mod) (cs : List Cbl) : fmtR ms cs = joinT 10 (ms.map fmtM ++ cs.map lnC ++ [[]]) := by
 rw [zAo1,List.flatMap_append,List.flatMap_map,List.flatMap_map]; rfl
def GdM (m : Mod) : Prop := cabL (fmtM m) = none ∧ implM (fmtM m) = some m ∧ (10 : UInt8) ∉ fmtM m
theorem zAt1 : ∀ (C : List Cbl),(∀ c ∈ C,i64B c.1 ∧ i64B c.2) → ∀ (ms : List Mod) (cs : List Cbl),goT (C.map lnC ++ [[]]) ms cs = some (ms,cs ++ C)
 | [],_,ms,cs => by simp [goT]
 | c :: C,h,ms,cs => by
   obtain ⟨h1,h2⟩ := h c (by simp)
   simp only [List.map_cons,yaB,goT]
   rw [if_neg (by simp),zBp1]
   simp only [zHc h1.1 h1.2,zHc h2.1 h2.2,yaD,yal]
   rw [zAt1 C (fun x hx => h x (by simp [hx]))]
   simp
theorem zHb1 : ∀ (M : List Mod) (C : List Cbl),(∀ m ∈ M,GdM m) → (∀ c ∈ C,i64B c.1 ∧ i64B c.2) → ∀ (ms : List Mod),goT (M.map fmtM ++ C.map lnC ++ [[]]) ms [] = some (ms ++ M,C)
 | [],C,_,hC,ms => by simpa using zAt1 C hC ms []
 | m :: M,C,hM,hC,ms => by
   obtain ⟨h1,h2,_⟩ := hM m (by simp)
   simp only [List.map_cons,yaB,goT]
   rw [if_neg (by simp),h1]
   simp only [h2,yal]
   rw [zHb1 M C (fun x hx => hM x (by simp [hx])) hC]
   simp
theorem zZe : ∀ (L : List Txt) (ms : List Mod) (cs : List Cbl) (ms' : List Mod) (cs' : List Cbl),(∀ l ∈ L,(10 : UInt8) ∉ l) → goT L ms cs = some (ms',cs') →
   ∃ M C,L = M.map fmtM ++ C.map lnC ++ [[]] ∧ ms' = ms ++ M ∧ cs' = cs ++ C ∧ (∀ m ∈ M,GdM m) ∧ (∀ c ∈ C,i64B c.1 ∧ i64B c.2) ∧ (cs ≠ [] → M = [])
 | [],ms,cs,ms',cs',_,h => by simp [goT] at h
 | l :: ls,ms,cs,ms',cs',hn,h => by
   simp only [goT] at h
   split at h
   · rename_i hls
     split at h
     · rename_i hl
       simp only [yay,Prod.mk.injEq] at h
       obtain ⟨rfl,rfl⟩ := h
       exact ⟨[],[],by simp [hls,hl],by simp,by simp,by simp,by simp,by simp⟩
     · cases h
   · rename_i hls
     split at h
     · rename_i a b hc
       split at h
       · rename_i hq
         simp only [yaw] at hq
         obtain ⟨q1,q2,q3⟩ := zVm hq.1
         obtain ⟨q4,q5,q6⟩ := zVm hq.2
         obtain ⟨M,C,h1,h2,h3,h4,h5,h6⟩ := zZe ls _ _ _ _ (fun x hx => hn x (by simp [hx])) h
         obtain rfl : M = [] := h6 (by simp)
         refine ⟨[],((numF a).1,(numF b).1) :: C,?_,h2,by rw [h3]; simp,by simp,?_,fun _ => rfl⟩
         · rw [h1]
           simp only [yaE,yaC,List.map_cons,yaB,List.cons.injEq,and_true]
           rw [zHw1 hc]
           unfold lnC
           simp only
           rw [← q3,← q6]
         · intro c hc
           simp only [yae] at hc
           rcases hc with rfl | hc
           · exact ⟨⟨q1,q2⟩,q4,q5⟩
           · exact h5 c hc
       · cases h
     · rename_i hc
       split at h
       · rename_i m hm
         split at h
         · rename_i hcs
           obtain ⟨M,C,h1,h2,h3,h4,h5,h6⟩ := zZe ls _ _ _ _ (fun x hx => hn x (by simp [hx])) h
           obtain ⟨_,hf⟩ := zHw hm
           refine ⟨m :: M,C,by rw [h1,← hf]; simp,by rw [h2]; simp,h3,?_,h5,fun h => absurd hcs h⟩
           intro x hx
           simp only [yae] at hx
           rcases hx with rfl | hx
           · unfold GdM
             rw [hf]
             exact ⟨hc,hm,hn l (by simp)⟩
           · exact h4 x hx
         · cases h
       · cases h
theorem zKk : ∀ (M : List Mod) (C : List Cbl),(∀ m ∈ M,GdM m) → (∀ c ∈ C,i64B c.1 ∧ i64B c.2) → ∀ (ms : List Mod) (cs : List Cbl),specG (M.map fmtM ++ C.map lnC) ms cs = (ms ++ M,cs ++ C)
 | [],[],_,_,ms,cs => by simp [specG]
 | [],c :: C,_,hC,ms,cs => by
   obtain ⟨h1,h2⟩ := hC c (by simp)
   have ih := zKk [] C (by simp) (fun x hx => hC x (by simp [hx])) ms (cs ++ [c])
   simp only [yaE,yaC,List.map_cons,specG] at ih ⊢
   rw [zBp1]
   simp only [zFx h1,zFx h2]
   rw [ih]; simp
 | m :: M,C,hM,hC,ms,cs => by
   obtain ⟨h1,h2,_⟩ := hM m (by simp)
   have ih := zKk M C (fun x hx => hM x (by simp [hx])) hC (ms ++ [m]) cs
   simp only [List.map_cons,yaB,specG]
   rw [h1]
   simp only [h2,yaF]
   rw [ih]; simp
theorem zOx1 : isModuleF (mod0 0) = false := by decide
theorem zNh : ∀ (L : List Txt) (ms : List Mod) (cs : List Cbl) (m : Mod),m ∈ ms → m ∈ (specG L ms cs).1
 | [],ms,cs,m,h => h
 | l :: ls,ms,cs,m,h => by
   simp only [specG]
   split
   · exact zNh ls _ _ m h
   · exact zNh ls _ _ m (by simp [h])
theorem zNj : ∀ (L : List Txt) (ms : List Mod) (cs : List Cbl),(∀ l ∈ L,(10 : UInt8) ∉ l) → (∀ m ∈ (specG L ms cs).1,isModuleF m = true) → (∀ m ∈ ms,GdM m) → (∀ c ∈ cs,i64B c.1 ∧ i64B c.2) →
   (∀ m ∈ (specG L ms cs).1,GdM m) ∧ (∀ c ∈ (specG L ms cs).2,i64B c.1 ∧ i64B c.2)
 | [],ms,cs,_,_,h1,h2 => ⟨h1,h2⟩
 | l :: ls,ms,cs,hn,hv,h1,h2 => by
   simp only [specG] at hv ⊢
   split at hv
   · rename_i a b hc
     refine zNj ls _ _ (fun x hx => hn x (by simp [hx])) hv h1 ?_
     intro c hc
     simp only [yaz,yaG] at hc
     rcases hc with hc | rfl
     · exact h2 c hc
     · exact ⟨zJl _,zJl _⟩
   · rename_i hc
     refine zNj ls _ _ (fun x hx => hn x (by simp [hx])) hv ?_ h2
     intro m hm
     simp only [yaz,yaG] at hm
     rcases hm with hm | rfl
     · exact h1 m hm
     · have hmem : (implM l).getD (mod0 0) ∈ (specG ls (ms ++ [(implM l).getD (mod0 0)]) cs).1 := zNh ls _ _ _ (by simp)
       have hmv := hv _ hmem
       cases hi : implM l with
       | none => rw [hi] at hmv; simp [zOx1] at hmv
       | some m =>
         obtain ⟨_,hf⟩ := zHw hi
         simp only [yaF]
         unfold GdM
         rw [hf]
         exact ⟨hc,hi,hn l (by simp)⟩
theorem zWv (L : List Txt) (x : Txt) : (L ++ [x]).dropLast = L := by simp
theorem zLs {ms : List Mod} {cs : List Cbl} (h : isRackF ms cs = true) : ∀ m ∈ ms,isModuleF m = true := by
 unfold isRackF at h
 simp only [yaw] at h
 exact fun m hm => List.all_eq_true.1 h.2.2.1 m hm
theorem zIv {ms : List Mod} {cs : List Cbl} (h : isRackF ms cs = true) : ms.length ≤ 16 ∧ cs.length ≤ 40 := by
 unfold isRackF at h
 simp only [yaw,yax] at h
 exact ⟨h.1,h.2.1⟩
theorem zJa1 {s : Txt} {ms : List Mod} {cs : List Cbl} (h : implR s = some (ms,cs)) : specR s = some (ms,cs) := by
 unfold implR at h
 split at h
 · rename_i M C hg
   split at h
   · rename_i hr
     simp only [yay,Prod.mk.injEq] at h
     obtain ⟨rfl,rfl⟩ := h
     obtain ⟨M',C',h1,h2,h3,h4,h5,_⟩ := zZe _ _ _ _ _ (fun l hl => zJe hl) hg
     simp only [yaC] at h2 h3
     subst h2; subst h3
     obtain ⟨l1,l2⟩ := zIv hr
     have hG := zKk M C h4 h5 [] []
     simp only [yaC] at hG
     have hj := zOq 10 s
     rw [h1] at hj
     unfold specR
     rw [h1,zWv,if_neg (by simp; omega),hG,if_pos ⟨hr,by rw [zWs]; exact hj⟩]
   · cases h
 · cases h
theorem zKv1 {s : Txt} {ms : List Mod} {cs : List Cbl} (h : specR s = some (ms,cs)) : implR s = some (ms,cs) := by
 unfold specR at h
 split at h
 · cases h
 · split at h
   · rename_i hl hq
     simp only [yay] at h
     rw [h] at hq
     obtain ⟨hr,hf⟩ := hq
     have hi := zNj (splT 10 s).dropLast [] [] (fun l hl => zJe (List.dropLast_subset _ hl)) (by rw [h]; exact zLs hr) (by simp) (by simp)
     rw [h] at hi
     obtain ⟨h1,h2⟩ := hi
     simp only at h1 h2
     have hs : splT 10 s = ms.map fmtM ++ cs.map lnC ++ [[]] := by
       rw [← hf,zWs]
       refine zNg (by simp) (fun p hp => ?_)
       simp only [yaz,List.mem_map,yaG] at hp
       rcases hp with (⟨m,hm,rfl⟩ | ⟨c,hc,rfl⟩) | rfl
       · exact (h1 m hm).2.2
       · exact zPc1 c
       · simp
     have hg := zHb1 ms cs h1 h2 []
     rw [← hs] at hg
     unfold implR
     rw [hg]
     simp only [yaC]
     rw [if_pos hr]
   · cases h
theorem zJb1 (s : Txt) : specR s = implR s := by
 cases h : implR s with
 | some x => exact zJa1 (ms := x.1) (cs := x.2) h
 | none =>
   cases h2 : specR s with
   | none => rfl
   | some x => rw [zKv1 (ms := x.1) (cs := x.2) h2] at h; cases h
end Go.SX
namespace Go.SX
open Go Go.Proofs
structure ARa where
 ms : List Mod
 cs : List Cbl
 ml : ms.length ≤ sm
 cl : cs.length ≤ sm
 ok : ∀ m ∈ ms,OkM m ∧ W32 m
theorem zQj1 {x y : ARa} (h : x.ms = y.ms ∧ x.cs = y.cs) : x = y := by
 obtain ⟨a,b,_,_,_⟩ := x
 obtain ⟨c,d,_,_,_⟩ := y
 obtain ⟨rfl,rfl⟩ := h
 rfl
noncomputable def zGh : Ct := fam true (fun x : ARa => ([.agg [.im (.sl 11 (rowsM x.ms)),.im (.sl 2 (rowsC x.cs))]],[])) (fun x => .one { val := .c (.im (.bool (isRackF x.ms x.cs))) })
theorem zLg {ms : List Mod} {cs : List Cbl} (h1 : ms.length ≤ sm) (h2 : cs.length ≤ sm) (h5 : ∀ m ∈ ms,OkM m ∧ W32 m) : zGh.run [.agg [.im (.sl 11 (rowsM ms)),.im (.sl 2 (rowsC cs))]] [] = some (.one { val := .c (.im (.bool (isRackF ms cs))) }) := by
 refine zAd (args := fun x : ARa => ([D.agg [.im (.sl 11 (rowsM x.ms)),.im (.sl 2 (rowsC x.cs))]],[])) (fun x y h => ?_) ⟨ms,cs,h1,h2,h5⟩
 simp [zDo,zEd] at h
 exact zQj1 h
theorem zIl : (zGh.sc = true) = True := by simp [zGh,fam]
theorem zLo : Law Tryz.prog 75 zGh := by
 refine zAi (zAc zIh (zAc zGj1 (zAc zYs zAf))) hmixA Tryz.func75 rfl rfl (fun ⟨ms,cs,h1,h2,h5⟩ => ⟨zAv rfl,by simp [Tryz.f75],?_⟩)
 by_cases hm : ms.length ≤ 16
 rotate_left
 · have e1 : ((16 : Int) < (ms.length : Int)) = True := eq_true (by omega)
   have hF : isRackF ms cs = false := by simp only [isRackF,decide_eq_false hm,yag]
   clear hm
   try simp -dsimp (maxSteps := 1000000) only [go_sem,↓reduceIte,yab,Tryz.f75,zAr,zAu,e1,hF]
 have e1 : ((16 : Int) < (ms.length : Int)) = False := eq_false (by omega)
 by_cases hc : cs.length ≤ 40
 rotate_left
 · have e2 : ((40 : Int) < (cs.length : Int)) = True := eq_true (by omega)
   have hF : isRackF ms cs = false := by simp only [isRackF,decide_eq_false hc,yag,yaT]
   clear hc
   try simp -dsimp (maxSteps := 1000000) only [go_sem,↓reduceIte,yab,Tryz.f75,zAr,zAu,e1,e2,hF]
 have e2 : ((40 : Int) < (cs.length : Int)) = False := eq_false (by omega)
 have hF : isRackF ms cs = (ms.all isModuleF && (cs.all (cabF ms.length) && (orderF ms cs).isSome)) := by simp only [isRackF,decide_eq_true hm,decide_eq_true hc,yah]
 rw [hF]
 clear hF
 try simp -dsimp (maxSteps := 1000000) only [go_sem,↓reduceIte,yab,Tryz.f75,zAr,zAu,e1,e2]
 refine zBa (ι := { k : Nat // k ≤ ms.length ∧ ms.all isModuleF = (ms.drop k).all isModuleF }) (fun k => ⟨[(1,some (.c (.ptr 0 0 0 0))),(20,some (.c (.im (.sl 11 (rowsM ms))))),(21,some (.c (.im (.int .i64 (ms.length : Int))))),(22,some (.c (.im (.int .i64 (k.1 : Int)))))],
   [(0,some (.box [.t (.im (.sl 11 (rowsM ms))),.t (.im (.sl 2 (rowsC cs)))]))],1⟩) (fun k => ms.length - k.1) ⟨0,by simp⟩ ⟨[],[],by ((simp only [go_sem,↓reduceIte,yab,yai]) <;> (try (simp -dsimp only [go_sem,↓reduceIte,yab,yai]))) <;> simp [lk,zAy]⟩ (fun ⟨k,hk,hinv⟩ => ?_)
 simp only
 by_cases hlt : k < ms.length
 · obtain ⟨m,hp⟩ : ∃ p,ms[k]? = some p := ⟨_,List.getElem?_eq_getElem hlt⟩
   have hrow := zFw hp
   have hI : ((k : Int) < (ms.length : Int)) = True := eq_true (by omega)
   have h0 : (0 ≤ (k : Int)) = True := by simp
   have hwr := zEn h1 hlt
   have hidx := zNa (f := isModuleF) hp
   obtain ⟨q1,q2⟩ := h5 m (List.mem_of_getElem? hp)
   have rm := zIe ⟨m,q1,q2⟩
   simp only [modC] at rm
   rw [hidx] at hinv
   clear hidx
   cases hq : isModuleF m with
   | false =>
     simp only [hq,yag] at hinv
     rw [hq] at rm
     try simp -dsimp (maxSteps := 1000000) only [go_sem,↓reduceIte,yab,Tryz.f75,hI,h0,Int.toNat_natCast,hrow,rm,hinv,yag]
   | true =>
     simp only [hq,yah] at hinv
     rw [hq] at rm
     try simp -dsimp (maxSteps := 1000000) only [go_sem,↓reduceIte,yab,Tryz.f75,hI,h0,Int.toNat_natCast,hrow,rm,hwr]
     exact ⟨⟨k + 1,by omega,hinv⟩,by simp only []; omega,[],[0],by (simp only [go_sem,↓reduceIte,yab,yai]) <;> simp [lk,zAy]⟩
 have hI : ((k : Int) < (ms.length : Int)) = False := eq_false (by omega)
 obtain rfl : k = ms.length := by omega
 rw [List.drop_length,List.all_nil] at hinv
 rw [hinv,Bool.true_and]
 clear hlt hinv
 try simp -dsimp (maxSteps := 1000000) only [go_sem,↓reduceIte,yab,Tryz.f75,hI,zAr,zAu]
 refine zBa (ι := { k : Nat // k ≤ cs.length ∧ cs.all (cabF ms.length) = (cs.drop k).all (cabF ms.length) ∧ (cs.take k).all (cabF ms.length) = true }) (fun k => ⟨[(1,some (.c (.ptr 0 0 0 0))),(31,some (.c (.im (.sl 2 (rowsC cs))))),(32,some (.c (.im (.int .i64 (cs.length : Int))))),(33,some (.c (.im (.int .i64 (k.1 : Int)))))],
   [(0,some (.box [.t (.im (.sl 11 (rowsM ms))),.t (.im (.sl 2 (rowsC cs)))]))],1⟩) (fun k => cs.length - k.1) ⟨0,by simp⟩ ⟨[],[],by ((simp only [go_sem,↓reduceIte,yab,yai]) <;> (try (simp -dsimp only [go_sem,↓reduceIte,yab,yai]))) <;> simp [lk,zAy]⟩ (fun ⟨k,hk,hinv2,hinv3⟩ => ?_)
 simp only
 by_cases hlt : k < cs.length
 · obtain ⟨⟨f,t⟩,hp⟩ : ∃ p,cs[k]? = some p := ⟨_,List.getElem?_eq_getElem hlt⟩
   have hrow := zFd hp
   have hI : ((k : Int) < (cs.length : Int)) = True := eq_true (by omega)
   have h0 : (0 ≤ (k : Int)) = True := by simp
   have hwr := zEn h2 hlt
   have hidx := zNa (f := cabF ms.length) hp
   rw [hidx,zZk] at hinv2
   clear hidx
   simp only at hinv2
   cases q1 : hasR ms.length f with
   | false =>
     simp only [q1,yag] at hinv2
     try simp -dsimp (maxSteps := 1000000) only [go_sem,↓reduceIte,yab,Tryz.f75,hI,h0,Int.toNat_natCast,hrow,zNu,q1,hinv2,yag]
   | true =>
     cases q2 : hasR ms.length t with
     | false =>
       simp only [q1,q2,yag,yaT] at hinv2
       try simp -dsimp (maxSteps := 1000000) only [go_sem,↓reduceIte,yab,Tryz.f75,hI,h0,Int.toNat_natCast,hrow,zNu,q1,q2,hinv2,yag]
     | true =>
       simp only [q1,q2,yah] at hinv2
       have h3' : (cs.take (k + 1)).all (cabF ms.length) = true := by
         rw [zUf hp,List.all_append,hinv3]
         simp [zZk,q1,q2]
       try simp -dsimp (maxSteps := 1000000) only [go_sem,↓reduceIte,yab,Tryz.f75,hI,h0,Int.toNat_natCast,hrow,zNu,q1,q2,hwr]
       exact ⟨⟨k + 1,by omega,hinv2,h3'⟩,by simp only []; omega,[],[0],by (simp only [go_sem,↓reduceIte,yab,yai]) <;> simp [lk,zAy]⟩
 have hI : ((k : Int) < (cs.length : Int)) = False := eq_false (by omega)
 obtain rfl : k = cs.length := by omega
 rw [List.drop_length,List.all_nil] at hinv2
 rw [List.take_length] at hinv3
 have hcab : ∀ c ∈ cs,0 ≤ c.1 ∧ c.1 < ms.length := fun c hc => by
   have := List.all_eq_true.1 hinv3 c hc
   rw [zZk,Bool.and_eq_true] at this
   simpa [hasR] using this.1
 cases ho : orderF ms cs with
 | none =>
   try simp -dsimp (maxSteps := 1000000) only [go_sem,↓reduceIte,yab,Tryz.f75,hI,zJj hm h2 hcab,ho,oOrder,hinv2,Option.isSome_none,yah]
 | some ord =>
   try simp -dsimp (maxSteps := 1000000) only [go_sem,↓reduceIte,yab,Tryz.f75,hI,zJj hm h2 hcab,ho,oOrder,hinv2,Option.isSome_some,yah]
end Go.SX
namespace Go.SX
open Go Go.Proofs Ieee
theorem zOg1 {st : List Pt} {a c : Int} (h : isRingF st a c = true) : 1 ≤ st.length ∧ st.length ≤ 16 ∧ 0 ≤ a ∧ a < st.length := by
 simp only [isRingF,yaw,yax] at h
 obtain ⟨⟨h1,h2,h3,h4,_⟩,_⟩ := h
 exact ⟨h1,h2,h3,h4⟩
theorem zAw1 {m : Mod} (hw : Wd m) : (fmtM m).length ≤ 1048576 := by
 cases hv : isModuleF m with
 | false => simp [fmtM,hv]
 | true =>
   have e : fmtM m = nameT m.kind ++ behind (restW m) := by simp [fmtM,hv]
   have hn : ∀ k,(nameT k).length ≤ 6 := fun k => by
     unfold nameT
     repeat' split
     all_goals decide
   have hn := hn m.kind
   rw [e,List.length_append]
   clear e
   generalize nameT m.kind = NM at hn ⊢
   rcases zCf hv with ⟨t,s,rfl⟩ | ⟨t,s,rfl⟩ | ⟨l,rfl⟩ | ⟨st,a,rfl,hr⟩ | rfl | ⟨pts,lab,c,rfl,ht⟩ | ⟨l,rfl,hl⟩ | ⟨s,c,l,rfl,h1,h2,h3,h4⟩
   · have lb := zBf [t,s] (by simp; exact ⟨hw.w.turn,hw.w.state⟩)
     have : restW ⟨1,t,s,0,[],0,0,[],[],0,0⟩ = ptsW [t,s] := by simp [restW,ptsW]
     rw [this]
     simp only [yas,List.length_nil] at lb
     omega
   · have lb := zBf [t,s] (by simp; exact ⟨hw.w.turn,hw.w.state⟩)
     have : restW ⟨2,t,s,0,[],0,0,[],[],0,0⟩ = ptsW [t,s] := by simp [restW,ptsW]
     rw [this]
     simp only [yas,List.length_nil] at lb
     omega
   · have lb := zCm hw.w.level
     have : behind (restW ⟨3,(0,0),(0,0),l,[],0,0,[],[],0,0⟩) = 32 :: sglT l := by simp [restW,behind]
     rw [this,List.length_cons]
     simp only at lb
     omega
   · have la := zBd hw.rat
     have lb := zBf st hw.w.store
     obtain ⟨r1,r2,r3,r4⟩ := zOg1 hr
     have : behind (restW ⟨4,(0,0),(0,0),0,st,a,(st.length : Int),[],[],0,0⟩) = 32 :: Lib.itoa a ++ behind (ptsW st) := by simp [restW,behind]
     rw [this]
     simp only [yar,yas]
     simp only at la
     omega
   · have : behind (restW ⟨5,(0,0),(0,0),0,[],0,0,[],[],0,0⟩) = [] := by simp [restW,behind]
     rw [this,List.length_nil]
     omega
   · have la := zBd hw.cnt
     have lb := zMl pts lab hw.w.pts hw.lab
     obtain ⟨r1,r2⟩ := zGu ht
     have : behind (restW ⟨6,(0,0),(0,0),0,[],0,0,pts,lab,c,0⟩) = 32 :: Lib.itoa c ++ behind (tabW pts lab) := by simp [restW,behind]
     rw [this]
     simp only [yar,yas]
     simp only at la
     omega
   · have lb := zCm hw.w.level
     have : behind (restW ⟨7,(0,0),(0,0),l,[],0,0,[],[],0,0⟩) = 32 :: sglT l := by simp [restW,behind]
     rw [this,List.length_cons]
     simp only at lb
     omega
   · have la := zBd hw.cnt
     have lc := zBd hw.lft
     have lb := zBf [s] (by simp; exact hw.w.state)
     have : behind (restW ⟨8,(0,0),s,0,[],0,0,[],[],c,l⟩) = 32 :: Lib.itoa c ++ (32 :: Lib.itoa l ++ behind (ptsW [s])) := by simp [restW,behind,ptsW]
     rw [this]
     simp only [yar,yas,List.length_nil] at lb ⊢
     simp only at la lc
     omega
end Go.SX
namespace Go.SX
open Go Go.Proofs Ieee
structure AFr where
 ms : List Mod
 cs : List Cbl
 ml : ms.length ≤ sm
 cl : cs.length ≤ sm
 ok : ∀ m ∈ ms,OkM m ∧ Wd m
 ci : ∀ c ∈ cs,i64B c.1 ∧ i64B c.2
def fmtRk (ms : List Mod) (cs : List Cbl) : Txt := if isRackF ms cs = true then fmtR ms cs else []
noncomputable def zEg : Ct := fam true (fun x : AFr => ([.agg [.im (.sl 11 (rowsM x.ms)),.im (.sl 2 (rowsC x.cs))]],[])) (fun x => .one { val := .c (.im (.str ⟨(fmtRk x.ms x.cs).toArray⟩)) })
theorem zNp {ms : List Mod} {cs : List Cbl} (h1 : ms.length ≤ sm) (h2 : cs.length ≤ sm) (h3 : ∀ m ∈ ms,OkM m ∧ Wd m) (h4 : ∀ c ∈ cs,i64B c.1 ∧ i64B c.2) : zEg.run [.agg [.im (.sl 11 (rowsM ms)),.im (.sl 2 (rowsC cs))]] [] = some (.one { val := .c (.im (.str ⟨(fmtRk ms cs).toArray⟩)) }) := by
 refine zAd (args := fun x : AFr => ([D.agg [.im (.sl 11 (rowsM x.ms)),.im (.sl 2 (rowsC x.cs))]],[])) ?_ ⟨ms,cs,h1,h2,h3,h4⟩
 rintro ⟨a,b,_,_,_,_⟩ ⟨a',b',_,_,_,_⟩ h
 simp [zDo,zEd] at h ⊢
 exact h
theorem zId : (zEg.sc = true) = True := by simp [zEg,fam]
def fmtA (ms : List Mod) : Txt := ms.flatMap (fun m => fmtM m ++ [10])
def fmtB (cs : List Cbl) : Txt := cs.flatMap (fun c => lnC c ++ [10])
theorem zHi1 {ms : List Mod} {k : Nat} {m : Mod} (h : ms[k]? = some m) : fmtA (ms.take (k + 1)) = fmtA (ms.take k) ++ fmtM m ++ [10] := by
 rw [zEo h]; simp [fmtA]
theorem zHh1 {cs : List Cbl} {k : Nat} {a b : Int} (h : cs[k]? = some (a,b)) : fmtB (cs.take (k + 1)) = fmtB (cs.take k) ++ [99,97,98,108,101,32] ++ Lib.itoa a ++ [32] ++ Lib.itoa b ++ [10] := by
 rw [zEo h]; simp [fmtB,lnC,cableT]
theorem zTa : ∀ (ms : List Mod),(∀ m ∈ ms,Wd m) → (fmtA ms).length ≤ 2000000 * ms.length
 | [],_ => by simp [fmtA]
 | m :: ms,h => by
   have ih := zTa ms (fun x hx => h x (by simp [hx]))
   have := zAw1 (h m (by simp))
   simp only [fmtA,List.flatMap_cons,yar,yas,List.length_nil] at ih ⊢
   omega
theorem zAx1 : ∀ (cs : List Cbl),(∀ c ∈ cs,i64B c.1 ∧ i64B c.2) → (fmtB cs).length ≤ 200 * cs.length
 | [],_ => by simp [fmtB]
 | c :: cs,h => by
   have ih := zAx1 cs (fun x hx => h x (by simp [hx]))
   obtain ⟨h1,h2⟩ := h c (by simp)
   have l1 := zBd h1
   have l2 := zBd h2
   simp only [fmtB,lnC,cableT,List.flatMap_cons,yar,yas,List.length_nil] at ih ⊢
   omega
theorem zOm : Law Tryz.prog 76 zEg := by
 refine zAi (zAc zLo (zAc zFo (zAc zVx zAf))) hmixA Tryz.func76 rfl rfl (fun ⟨ms,cs,h1,h2,h3,h4⟩ => ⟨zAv rfl,by simp [Tryz.f76],?_⟩)
 simp only [fmtRk]
 have hsm : sm = 16777216 := rfl
 have rr := zLg h1 h2 (fun m hm => ⟨(h3 m hm).1,(h3 m hm).2.w⟩)
 have big : ∀ n : Nat,n ≤ 1000000000000000 → (n ≤ 4611686018427387904) = True := fun n h => eq_true (by omega)
 cases hr : isRackF ms cs with
 | false =>
   rw [hr] at rr
   try simp -dsimp (maxSteps := 1000000) only [go_sem,↓reduceIte,yab,Tryz.f76,rr,yaj,yak]
 | true =>
   rw [hr] at rr
   obtain ⟨l1,l2⟩ := zIv hr
   have hR : fmtR ms cs = fmtA ms ++ fmtB cs := rfl
   rw [if_pos (rfl : true = true),hR]
   have lA := zTa ms (fun m hm => (h3 m hm).2)
   clear hR hr
   try simp -dsimp (maxSteps := 1000000) only [go_sem,↓reduceIte,yab,Tryz.f76,rr,zAr,zAu]
   refine zBa (ι := { k : Nat // k ≤ ms.length }) (fun k => ⟨[(1,some (.c (.ptr 0 0 0 0))),(3,some (.c (.im (.str ⟨(fmtA (ms.take k.1)).toArray⟩)))),(12,some (.c (.im (.sl 11 (rowsM ms))))),(13,some (.c (.im (.int .i64 (ms.length : Int))))),(14,some (.c (.im (.int .i64 (k.1 : Int)))))],
     [(0,some (.box [.t (.im (.sl 11 (rowsM ms))),.t (.im (.sl 2 (rowsC cs)))]))],1⟩) (fun k => ms.length - k.1) ⟨0,by simp⟩ ⟨[],[],by ((simp only [go_sem,↓reduceIte,yab,yai,yan]) <;> (try (simp -dsimp only [go_sem,↓reduceIte,yab,yai,yan]))) <;> simp [lk,zAy,fmtA]⟩ (fun ⟨k,hk⟩ => ?_)
   simp only
   by_cases hlt : k < ms.length
   · obtain ⟨m,hp⟩ : ∃ p,ms[k]? = some p := ⟨_,List.getElem?_eq_getElem hlt⟩
     have hrow := zFw hp
     have hI : ((k : Int) < (ms.length : Int)) = True := eq_true (by omega)
     have h0 : (0 ≤ (k : Int)) = True := by simp
     have hwr := zEn h1 hlt
     obtain ⟨q1,q2⟩ := h3 m (List.mem_of_getElem? hp)
     have rf := zBb ⟨m,q1,q2.w,q2.rat,q2.cnt,q2.lft,q2.lab⟩
     simp only [modC] at rf
     have hsn := zHi1 hp
     have lM := zAw1 q2
     have lO := zTa (ms.take k) (fun m hm => (h3 m (List.mem_of_mem_take hm)).2)
     have lk1 : (ms.take k).length ≤ 16 := by rw [List.length_take]; omega
     generalize fmtM m = X at *
     generalize fmtA (ms.take k) = O at *
     have q0 := big (O.length + X.length) (by omega)
     have q3 := big (O.length + X.length + 1) (by omega)
     clear big
     try simp -dsimp (maxSteps := 1000000) only [go_sem,↓reduceIte,yab,Tryz.f76,hI,h0,Int.toNat_natCast,hrow,rf,hwr,q0,q3,zBo,yaX,yar]
     exact ⟨⟨k + 1,by omega⟩,by simp only []; omega,[],[0],by (simp only [go_sem,↓reduceIte,yab,yai,hsn]) <;> simp [lk,zAy,hsn]⟩
   have hI : ((k : Int) < (ms.length : Int)) = False := eq_false (by omega)
   obtain rfl : k = ms.length := by omega
   rw [List.take_length]
   clear hlt
   generalize fmtA ms = A at *
   try simp -dsimp (maxSteps := 1000000) only [go_sem,↓reduceIte,yab,Tryz.f76,hI,zAr,zAu]
   refine zBa (ι := { k : Nat // k ≤ cs.length }) (fun k => ⟨[(3,some (.c (.im (.str ⟨(A ++ fmtB (cs.take k.1)).toArray⟩)))),(25,some (.c (.im (.sl 2 (rowsC cs))))),(26,some (.c (.im (.int .i64 (cs.length : Int))))),(27,some (.c (.im (.int .i64 (k.1 : Int)))))],
     [],0⟩) (fun k => cs.length - k.1) ⟨0,by simp⟩ ⟨[],[],by ((simp only [go_sem,↓reduceIte,yab,yai,yan]) <;> (try (simp -dsimp only [go_sem,↓reduceIte,yab,yai,yan]))) <;> simp [lk,zAy,fmtB]⟩ (fun ⟨k,hk⟩ => ?_)
   simp only
   by_cases hlt : k < cs.length
   · obtain ⟨⟨a,b⟩,hp⟩ : ∃ p,cs[k]? = some p := ⟨_,List.getElem?_eq_getElem hlt⟩
     have hrow := zFd hp
     have hI : ((k : Int) < (cs.length : Int)) = True := eq_true (by omega)
     have h0 : (0 ≤ (k : Int)) = True := by simp
     have hwr := zEn h2 hlt
     obtain ⟨i1,i2⟩ := h4 _ (List.mem_of_getElem? hp)
     simp only at i1 i2
     have r1 := zEv i1
     have r2 := zEv i2
     have z1 := zBd i1
     have z2 := zBd i2
     have hsn := zHh1 hp
     have lO := zAx1 (cs.take k) (fun m hm => h4 m (List.mem_of_mem_take hm))
     have lk1 : (cs.take k).length ≤ 40 := by rw [List.length_take]; omega
     generalize Lib.itoa a = X at *
     generalize Lib.itoa b = Y at *
     obtain ⟨O,hO⟩ : ∃ O,A ++ fmtB (cs.take k) = O := ⟨_,rfl⟩
     have lO2 : O.length ≤ A.length + 8000 := by rw [← hO,List.length_append]; omega
     have hsn2 : A ++ fmtB (cs.take (k + 1)) = O ++ [99,97,98,108,101,32] ++ X ++ [32] ++ Y ++ [10] := by rw [hsn,← hO]; simp
     rw [hO]
     have q0 := big (O.length + 6) (by omega)
     have q1 := big (O.length + 6 + X.length) (by omega)
     have q2 := big (O.length + 6 + X.length + 1) (by omega)
     have q3 := big (O.length + 6 + X.length + 1 + Y.length) (by omega)
     have q4 := big (O.length + 6 + X.length + 1 + Y.length + 1) (by omega)
     clear big
     try simp -dsimp (maxSteps := 1000000) only [go_sem,↓reduceIte,yab,Tryz.f76,hI,h0,Int.toNat_natCast,hrow,r1,r2,hwr,q0,q1,q2,q3,q4,zBo,yaX,yar]
     repeat' (first
       | ((with_reducible refine sl_i ?_ ?_); focus kernel_rfl)
       | ((with_reducible refine ro_i ?_ ?_); focus kernel_rfl))
     exact ⟨⟨k + 1,by omega⟩,by simp only []; omega,[],[],by (simp only [go_sem,↓reduceIte,yab,yai,hsn2]) <;> simp [lk,zAy,hsn2]⟩
   have hI : ((k : Int) < (cs.length : Int)) = False := eq_false (by omega)
   obtain rfl : k = cs.length := by omega
   rw [List.take_length]
   try simp -dsimp (maxSteps := 1000000) only [go_sem,↓reduceIte,yab,Tryz.f76,hI]
end Go.SX
namespace Go.SX
open Go Go.Proofs Ieee
noncomputable def pSp (s : Txt) : Res := match implM s with
 | some m => rMB m true
 | none => rMB (mod0 0) false
theorem zQz1 (s : Txt) : OkR false (pSp s) := by
 unfold pSp
 cases implM s with
 | some m => exact zFe1
 | none => exact zFe1
noncomputable def zHj : Ct := fam false (fun s : S20 => ([.c (.im (.str ⟨s.1.toArray⟩))],[])) (fun s => .one (pSp s.1))
theorem zMf {s : Txt} (h : s.length ≤ 1048576) : zHj.run [.c (.im (.str ⟨s.toArray⟩))] [] = some (.one (pSp s)) :=
 zAd (args := fun s : S20 => ([D.c (.im (.str ⟨s.1.toArray⟩))],[])) zTx ⟨s,h⟩
theorem zMh : Law Tryz.prog 7 zHj := by
 refine zCo (zAc zKl1 (zAc zIs (zAc zYp (zAc zFo zAf)))) hmixA Tryz.func7 rfl rfl (fun ⟨s,hs⟩ => ⟨okO (zQz1 s),by simp [Tryz.f7],?_⟩)
 simp only at hs ⊢
 have hsp := zJc1 s
 unfold specM at hsp
 by_cases g1 : s = sumT
 · have hr : pSp s = rMB mSum' true := by
     rw [if_pos g1] at hsp
     unfold pSp; rw [← hsp]
   have h1 : (s = [115,117,109]) = True := eq_true g1
   rw [hr]
   simp only [rMB,modC,mSum',zAj,zAl]
   clear g1 hr hsp
   try simp -dsimp (maxSteps := 1000000) only [go_sem,↓reduceIte,yab,Tryz.f7,zAh,h1,zJh1,rM,modC,mSum',zAj,zAl]
   refine zAm [] ?_
   simp -dsimp (maxSteps := 1000000) only [go_sem,↓reduceIte,yab]
 rw [if_neg g1] at hsp
 have h1 : (s = [115,117,109]) = False := eq_false g1
 have rsp : zEp.run [.c (.im (.str ⟨s.toArray⟩)),.c (.im (.int .u8 32))] [] = some (.one { val := .c (.im (.sl 1 (rowsS (splT 32 s)))) }) := zFt (by omega) 32
 have hsub := zFr 32 s
 obtain ⟨w,ws,hws⟩ : ∃ w ws,splT 32 s = w :: ws := by
   cases h : splT 32 s with
   | nil => exact absurd h (zEr _ _)
   | cons a b => exact ⟨a,b,rfl⟩
 rw [hws] at hsp rsp hsub
 simp only at hsp
 rw [zAw] at rsp
 have bad : ¬ (1 ≤ ws.length ∧ ws.length ≤ 299 ∧ (wrdF w ws).2 = true ∧ fmtM (wrdF w ws).1 = s) → pSp s = rMB (mod0 0) false := fun h => by
   rw [if_neg h] at hsp
   unfold pSp; rw [← hsp]
 have good : (1 ≤ ws.length ∧ ws.length ≤ 299 ∧ (wrdF w ws).2 = true ∧ fmtM (wrdF w ws).1 = s) → pSp s = rMB (wrdF w ws).1 true := fun h => by
   rw [if_pos h] at hsp
   unfold pSp; rw [← hsp]
 clear hsp
 have L0 : ((0 : Int) < ((ws.length + 1 : Nat) : Int)) = True := eq_true (by omega)
 have L1 : ((1 : Int) ≤ ((ws.length + 1 : Nat) : Int)) = True := eq_true (by omega)
 by_cases e1 : ws.length < 1
 · have k1 : (((ws.length + 1 : Nat) : Int) < 2) = True := eq_true (by omega)
   rw [bad (fun h => by omega)]
   simp only [rMB,modC,mod0,zAj,zAl]
   clear bad good
   try simp -dsimp (maxSteps := 1000000) only [go_sem,↓reduceIte,yab,Tryz.f7,zAh,h1,rsp,zAe,k1]
   refine zAm [.nilI 1 [.b 0 0 4,.b 0 0 7,.b 0 0 8]] ?_
   simp -dsimp (maxSteps := 1000000) only [go_sem,↓reduceIte,yab]
 have k1 : (((ws.length + 1 : Nat) : Int) < 2) = False := eq_false (by omega)
 by_cases e2 : 299 < ws.length
 · have k2 : ((300 : Int) < ((ws.length + 1 : Nat) : Int)) = True := eq_true (by omega)
   rw [bad (fun h => by omega)]
   simp only [rMB,modC,mod0,zAj,zAl]
   clear bad good
   try simp -dsimp (maxSteps := 1000000) only [go_sem,↓reduceIte,yab,Tryz.f7,zAh,h1,rsp,zAe,k1,k2]
   refine zAm [.nilI 1 [.b 0 0 4,.b 0 0 7,.b 0 0 8]] ?_
   simp -dsimp (maxSteps := 1000000) only [go_sem,↓reduceIte,yab]
 have k2 : ((300 : Int) < ((ws.length + 1 : Nat) : Int)) = False := eq_false (by omega)
 have h4 : List.drop 1 (List.take (ws.length + 1) ([I.str ⟨w.toArray⟩] :: rowsS ws)) = rowsS ws := by rw [List.take_of_length_le (by simp [zAe])]; rfl
 have rw' := zXx (w := w) (ws := ws) (by omega) (by omega) (fun p hp => by have := hsub p (by simp [hp]); omega)
 obtain ⟨hok,hwd⟩ := zDn1 w (ws := ws) (by omega)
 have rF := zBb ⟨_,hok,hwd.w,hwd.rat,hwd.cnt,hwd.lft,hwd.lab⟩
 obtain ⟨M,hM⟩ : ∃ M,(wrdF w ws).1 = M := ⟨_,rfl⟩
 obtain ⟨ok,hk⟩ : ∃ M,(wrdF w ws).2 = M := ⟨_,rfl⟩
 simp only [hM] at rF
 rw [hM,hk] at rw' bad good
 clear hok hwd
 obtain ⟨k,⟨t1,t2⟩,⟨s1,s2⟩,lv,st,ra,rc,pts,lab,c,lf⟩ := M
 simp only [rMB,modC] at rw' rF
 cases ok with
 | false =>
   rw [bad (fun h => by have := h.2.2.1; cases this)]
   simp only [rMB,modC,mod0,zAj,zAl]
   clear bad good hM
   try simp -dsimp (maxSteps := 1000000) only [go_sem,↓reduceIte,yab,Tryz.f7,zAh,h1,rsp,zAe,k1,k2,L0,L1,h4,rw',yaY,ybb,yaR,yaQ,Int.toNat_natCast,Int.reduceLE,yaI,yaH]
   repeat' (first
     | ((with_reducible refine sl_i ?_ ?_); focus kernel_rfl)
     | ((with_reducible refine ro_i ?_ ?_); focus kernel_rfl))
   refine zAm [.nilI 1 [.b 0 0 4,.b 0 0 7,.b 0 0 8]] ?_
   simp -dsimp (maxSteps := 1000000) only [go_sem,↓reduceIte,yab]
 | true =>
   by_cases hF : fmtM ⟨k,(t1,t2),(s1,s2),lv,st,ra,rc,pts,lab,c,lf⟩ = s
   · rw [good ⟨by omega,by omega,rfl,hF⟩]
     rw [hF] at rF
     simp only [rMB,modC]
     clear bad good hM hF
     try simp -dsimp (maxSteps := 1000000) only [go_sem,↓reduceIte,yab,Tryz.f7,zAh,h1,rsp,zAe,k1,k2,L0,L1,h4,rw',rF,zAq,yaY,ybb,yaR,yaQ,Int.toNat_natCast,Int.reduceLE,ne_eq,ybc,yaU,yaS,yaI,yaH]
     repeat' (first
       | ((with_reducible refine sl_i ?_ ?_); focus kernel_rfl)
       | ((with_reducible refine ro_i ?_ ?_); focus kernel_rfl))
     refine zAm [] ?_
     simp -dsimp (maxSteps := 1000000) only [go_sem,↓reduceIte,yab]
   · rw [bad (fun h => hF h.2.2.2)]
     simp only [rMB,modC,mod0,zAj,zAl]
     clear bad good hM
     generalize fmtM ⟨k,(t1,t2),(s1,s2),lv,st,ra,rc,pts,lab,c,lf⟩ = G at *
     have hG := eq_false hF
     try simp -dsimp (maxSteps := 1000000) only [go_sem,↓reduceIte,yab,Tryz.f7,zAh,h1,rsp,zAe,k1,k2,L0,L1,h4,rw',rF,hG,zAq,yaY,ybb,yaR,yaQ,Int.toNat_natCast,Int.reduceLE,ne_eq,not_false_eq_true,yaU,yaS,yaI,yaH]
     repeat' (first
       | ((with_reducible refine sl_i ?_ ?_); focus kernel_rfl)
       | ((with_reducible refine ro_i ?_ ?_); focus kernel_rfl))
     refine zAm [.nilI 1 [.b 0 0 4,.b 0 0 7,.b 0 0 8]] ?_
     simp -dsimp (maxSteps := 1000000) only [go_sem,↓reduceIte,yab]
end Go.SX
namespace Go.SX
open Go Go.Proofs Ieee
theorem zNk : ∀ (A B : List Txt) (ms : List Mod) (cs : List Cbl),specG (A ++ B) ms cs = specG B (specG A ms cs).1 (specG A ms cs).2
 | [],B,ms,cs => rfl
 | l :: A,B,ms,cs => by
   simp only [yaB,specG]
   split
   · exact zNk A B _ _
   · exact zNk A B _ _
theorem zNi : ∀ (L : List Txt) (ms : List Mod) (cs : List Cbl),(specG L ms cs).1.length ≤ ms.length + L.length ∧ (specG L ms cs).2.length ≤ cs.length + L.length
 | [],ms,cs => by simp [specG]
 | l :: L,ms,cs => by
   simp only [specG,yas]
   split
   · have ih := zNi L ms
     rename_i a b _
     have := ih (cs ++ [((riF a).1,(riF b).1)])
     simp only [yar,yas,List.length_nil] at this
     omega
   · have := zNi L (ms ++ [(implM l).getD (mod0 0)]) cs
     simp only [yar,yas,List.length_nil] at this
     omega
theorem ok_z : OkM (mod0 0) := ⟨by simp [mod0],by simp [mod0],by simp [mod0]⟩
theorem zRk : ∀ (L : List Txt) (ms : List Mod) (cs : List Cbl),(∀ m ∈ ms,OkM m ∧ Wd m) → (∀ c ∈ cs,i64B c.1 ∧ i64B c.2) → (∀ m ∈ (specG L ms cs).1,OkM m ∧ Wd m) ∧ ∀ c ∈ (specG L ms cs).2,i64B c.1 ∧ i64B c.2
 | [],ms,cs,h1,h2 => ⟨h1,h2⟩
 | l :: L,ms,cs,h1,h2 => by
   simp only [specG]
   split
   · refine zRk L _ _ h1 (fun c hc => ?_)
     simp only [yaz,yaG] at hc
     rcases hc with hc | rfl
     · exact h2 c hc
     · exact ⟨zJl _,zJl _⟩
   · refine zRk L _ _ (fun m hm => ?_) h2
     simp only [yaz,yaG] at hm
     rcases hm with hm | rfl
     · exact h1 m hm
     · cases hi : implM l with
       | none => exact ⟨ok_z,wd_z 0⟩
       | some m => exact ⟨zWn hi,zAr1 hi⟩
noncomputable def pRk (s : Txt) : Res := match implR s with
 | some x => rRO x.1 x.2 true
 | none => rRO [] [] false
theorem zOr1 (s : Txt) : OkR false (pRk s) := by
 unfold pRk
 split <;> exact zRd1
noncomputable def zKb : Ct := fam false (fun s : S20 => ([.c (.im (.str ⟨s.1.toArray⟩))],[])) (fun s => .one (pRk s.1))
theorem zPq {s : Txt} (h : s.length ≤ 1048576) : zKb.run [.c (.im (.str ⟨s.toArray⟩))] [] = some (.one (pRk s)) :=
 zAd (args := fun s : S20 => ([D.c (.im (.str ⟨s.1.toArray⟩))],[])) zTx ⟨s,h⟩
theorem zJs1 (l : Txt) : ∃ b,pSp l = rMB ((implM l).getD (mod0 0)) b := by
 unfold pSp
 cases implM l with
 | some m => exact ⟨true,rfl⟩
 | none => exact ⟨false,rfl⟩
theorem zCg1 (ps : List Txt) (k : Nat) : (rowsS ps).take k = rowsS (ps.take k) := by simp [rowsS,List.map_take]
theorem zPv : Law Tryz.prog 25 zKb := by
 refine zCo (zAc zIs (zAc zGe (zAc zMh (zAc zLo (zAc zOm zAf))))) hmixA Tryz.func25 rfl rfl (fun ⟨s,hs⟩ => ⟨okO (zOr1 s),by simp [Tryz.f25],?_⟩)
 simp only at hs ⊢
 have hsm : sm = 16777216 := rfl
 have hsp := zJb1 s
 unfold specR at hsp
 have rsp : zEp.run [.c (.im (.str ⟨s.toArray⟩)),.c (.im (.int .u8 10))] [] = some (.one { val := .c (.im (.sl 1 (rowsS (splT 10 s)))) }) := zFt (by omega) 10
 have hsub := zFr 10 s
 have hne : 0 < (splT 10 s).length := List.length_pos_iff.2 (zEr 10 s)
 obtain ⟨L,hL⟩ : ∃ L,splT 10 s = L := ⟨_,rfl⟩
 rw [hL] at hsp rsp hsub hne
 clear hL
 by_cases big : 57 < L.length
 · have k1 : ((57 : Int) < (L.length : Int)) = True := eq_true (by omega)
   have hr : pRk s = rRO [] [] false := by
     rw [if_pos big] at hsp
     unfold pRk; rw [← hsp]
   rw [hr]
   simp only [rRO,zHa,zHb]
   clear hr hsp big
   try simp -dsimp (maxSteps := 1000000) only [go_sem,↓reduceIte,yab,Tryz.f25,rsp,zAe,k1]
   refine zAm [.nilI 11 [.b 0 0 0],.nilI 2 [.b 0 0 1]] ?_
   simp -dsimp (maxSteps := 1000000) only [go_sem,↓reduceIte,yab]
 have k1 : ((57 : Int) < (L.length : Int)) = False := eq_false (by omega)
 rw [if_neg big] at hsp
 obtain ⟨n,hn⟩ : ∃ n,L.length = n + 1 := ⟨L.length - 1,by omega⟩
 have hdl : L.dropLast = L.take n := by rw [List.dropLast_eq_take,hn]; rfl
 rw [hdl] at hsp
 have kw : IntKind.i64.wrap ((L.length : Int) - 1) = (n : Int) := by rw [hn,zAg (by omega) (by omega)]; omega
 have k2 : (0 ≤ (n : Int)) = True := eq_true (by omega)
 have k3 : ((n : Int) ≤ (L.length : Int)) = True := eq_true (by omega)
 have htk : List.take n (rowsS L) = rowsS (L.take n) := zCg1 L n
 have hln : (L.take n).length = n := by rw [List.length_take]; omega
 have hsubT : ∀ p ∈ L.take n,p.length ≤ s.length := fun p hp => hsub p (List.mem_of_mem_take hp)
 obtain ⟨Ls,hLs⟩ : ∃ Ls,L.take n = Ls := ⟨_,rfl⟩
 rw [hLs] at hsp htk hln hsubT
 have hG : ∀ k,(∀ m ∈ (specG (Ls.take k) [] []).1,OkM m ∧ Wd m) ∧ ∀ c ∈ (specG (Ls.take k) [] []).2,i64B c.1 ∧ i64B c.2 := fun k => zRk _ _ _ (by simp) (by simp)
 have hGl : ∀ k,(specG (Ls.take k) [] []).1.length ≤ k ∧ (specG (Ls.take k) [] []).2.length ≤ k := fun k => by
   have := zNi (Ls.take k) [] []
   have h2 : (Ls.take k).length ≤ k := by rw [List.length_take]; omega
   simp only [List.length_nil] at this
   omega
 have hGs : ∀ k l,Ls[k]? = some l → specG (Ls.take (k + 1)) [] [] = specG [l] (specG (Ls.take k) [] []).1 (specG (Ls.take k) [] []).2 := fun k l h => by
   rw [zEo h,zNk]
 have hG0 : specG (Ls.take 0) [] [] = ([],[]) := by simp [specG]
 have hGn : specG (Ls.take n) [] [] = specG Ls [] [] := by rw [← hln,List.take_length]
 obtain ⟨G,hGd⟩ : ∃ G : Nat → List Mod × List Cbl,∀ k,specG (Ls.take k) [] [] = G k := ⟨_,fun _ => rfl⟩
 simp only [hGd] at hG hGl hGs hG0 hGn
 rw [← hGn] at hsp
 have g01 : (G 0).1 = [] := by rw [hG0]
 have g02 : (G 0).2 = [] := by rw [hG0]
 try simp -dsimp (maxSteps := 1000000) only [go_sem,↓reduceIte,yab,Tryz.f25,rsp,zAe,k1,k2,k3,kw,htk,hln,ybb,Int.toNat_natCast,yaQ]
 refine zBa (ι := { k : Nat // k ≤ n }) (fun k => ⟨[(0,some (.c (.im (.str ⟨s.toArray⟩)))),(2,some (.c (.ptr 0 0 0 0))),(5,some (.c (.ptr 1 0 0 0))),(26,some (.c (.im (.sl 1 (rowsS Ls))))),(27,some (.c (.im (.int .i64 (n : Int))))),(28,some (.c (.im (.int .i64 (k.1 : Int)))))],
   [(0,some (.box [.t .nil,.t .nil])),(1,some (.box [.t (.lent 2 11 (G k.1).1.length),.t (.lent 3 2 (G k.1).2.length)])),(2,some (.arr 11 (tI (rowsM (G k.1).1)))),(3,some (.arr 2 (tI (rowsC (G k.1).2))))],4⟩) (fun k => n - k.1) ⟨0,by simp⟩ ⟨[.nilT 1 0 0 11,.nilT 1 0 1 2,.unf 1 0 0,.unf 1 0 1],[0,1,2,3],?sub⟩ (fun ⟨k,hk⟩ => ?_)
 case sub =>
   ((simp only [go_sem,↓reduceIte,yab,yai,yaK,zXs,zXr,g01,g02,zHa,zHb]) <;> (try (simp -dsimp only [go_sem,↓reduceIte,yab,yai,yaK,zXs,zXr,g01,g02,zHa,zHb])))
   all_goals simp [lk,zAy,tI,MvRt]
 simp only
 have lM : ∀ j,(tI (rowsM (G j).1)).length = (G j).1.length := fun j => by rw [zAt,zAr]
 have lC : ∀ j,(tI (rowsC (G j).2)).length = (G j).2.length := fun j => by rw [zAt,zAu]
 by_cases hlt : k < n
 rotate_left
 · have hI : ((k : Int) < (n : Int)) = False := eq_false (by omega)
   obtain rfl : k = n := by omega
   obtain ⟨hmo,hco⟩ := hG k
   obtain ⟨l1,l2⟩ := hGl k
   obtain ⟨M,hM⟩ : ∃ M,(G k).1 = M := ⟨_,rfl⟩
   obtain ⟨C,hC⟩ : ∃ M,(G k).2 = M := ⟨_,rfl⟩
   have lM' := lM k
   have lC' := lC k
   rw [show G k = (M,C) by rw [← hM,← hC]] at hsp
   simp only [hM,hC] at hmo hco l1 l2 lM' lC' ⊢
   have r1 := zLg (ms := M) (cs := C) (by omega) (by omega) (fun m hm => ⟨(hmo m hm).1,(hmo m hm).2.w⟩)
   have r2 := zNp (ms := M) (cs := C) (by omega) (by omega) hmo hco
   have tkm : List.take M.length (tI (rowsM M)) = tI (rowsM M) := List.take_of_length_le (by omega)
   have tkc : List.take C.length (tI (rowsC C)) = tI (rowsC C) := List.take_of_length_le (by omega)
   have hmm : mapO (mapO imT) (tI (rowsM M)) = some (rowsM M) := zQc _
   have hmc : mapO (mapO imT) (tI (rowsC C)) = some (rowsC C) := zQc _
   have bad : ¬ (isRackF M C = true ∧ fmtR M C = s) → pRk s = rRO [] [] false := fun h => by
     rw [if_neg h] at hsp
     unfold pRk; rw [← hsp]
   have good : (isRackF M C = true ∧ fmtR M C = s) → pRk s = rRO M C true := fun h => by
     rw [if_pos h] at hsp
     unfold pRk; rw [← hsp]
   clear hsp
   unfold fmtRk at r2
   cases hr : isRackF M C with
   | false =>
     rw [bad (fun h => by rw [hr] at h; cases h.1)]
     rw [hr] at r1
     simp only [rRO,zHa,zHb]
     clear bad good r2
     try simp -dsimp (maxSteps := 1000000) only [go_sem,↓reduceIte,yab,Tryz.f25,hI,r1,lM',lC',tkm,tkc,zIl,zCj,zAt,zAr,zAu,yaI,yaH]
     refine zAm [.nilI 11 [.b 0 0 0],.nilI 2 [.b 0 0 1]] ?_
     simp -dsimp (maxSteps := 1000000) only [go_sem,↓reduceIte,yab]
   | true =>
     rw [hr] at r1
     rw [if_pos hr] at r2
     by_cases hF : fmtR M C = s
     · rw [good ⟨hr,hF⟩]
       rw [hF] at r2
       simp only [rRO]
       clear bad good
       try simp -dsimp (maxSteps := 1000000) only [go_sem,↓reduceIte,yab,Tryz.f25,hI,r1,r2,lM',lC',tkm,tkc,zIl,zId,zAh,zCj,zAt,zAr,zAu,ne_eq,ybc,yaU,yaS,yaI,yaH]
       refine zAm [.frz 2 [.b 0 0 0],.frz 3 [.b 0 0 1]] ?_
       simp -dsimp (maxSteps := 1000000) only [go_sem,↓reduceIte,yab,hmm,hmc,lM',lC']
     · rw [bad (fun h => hF h.2)]
       simp only [rRO,zHa,zHb]
       clear bad good
       generalize fmtR M C = X at *
       have hF' := eq_false hF
       try simp -dsimp (maxSteps := 1000000) only [go_sem,↓reduceIte,yab,Tryz.f25,hI,r1,r2,lM',lC',tkm,tkc,zIl,zId,zAh,hF',zCj,zAt,zAr,zAu,ne_eq,not_false_eq_true,yaU,yaS,yaI,yaH]
       refine zAm [.nilI 11 [.b 0 0 0],.nilI 2 [.b 0 0 1]] ?_
       simp -dsimp (maxSteps := 1000000) only [go_sem,↓reduceIte,yab]
 obtain ⟨l,hl⟩ : ∃ l,Ls[k]? = some l := ⟨_,List.getElem?_eq_getElem (by omega)⟩
 have hrow := zMq hl
 have hI : ((k : Int) < (n : Int)) = True := eq_true (by omega)
 have h0 : (0 ≤ (k : Int)) = True := eq_true (by omega)
 have hwr : IntKind.i64.wrap ((k : Int) + 1) = ((k + 1 : Nat) : Int) := by rw [zAg] <;> omega
 have hll := hsubT l (List.mem_of_getElem? hl)
 have rs : zEp.run [.c (.im (.str ⟨l.toArray⟩)),.c (.im (.int .u8 32))] [] = some (.one { val := .c (.im (.sl 1 (rowsS (splT 32 l)))) }) := zFt (by omega) 32
 have hsubl := zFr 32 l
 have hstep := hGs k l hl
 obtain ⟨g1,g2⟩ := hGl k
 obtain ⟨w,ws,hws⟩ : ∃ w ws,splT 32 l = w :: ws := by
   cases h : splT 32 l with
   | nil => exact absurd h (zEr _ _)
   | cons a b => exact ⟨a,b,rfl⟩
 rw [hws] at rs hsubl
 rw [zAw] at rs
 have L0 : ((0 : Int) < ((ws.length + 1 : Nat) : Int)) = True := eq_true (by omega)
 obtain ⟨M,hM⟩ : ∃ M,(G k).1 = M := ⟨_,rfl⟩
 obtain ⟨C,hC⟩ : ∃ M,(G k).2 = M := ⟨_,rfl⟩
 have lM' := lM k
 have lC' := lC k
 simp only [hM,hC] at g1 g2 hstep lM' lC' ⊢
 by_cases hcb : w = cableT ∧ ws.length = 2
 · obtain ⟨rfl,h2⟩ := hcb
   obtain ⟨a,b,rfl⟩ : ∃ a b,ws = [a,b] := by
     match ws,h2 with
     | [a,b],_ => exact ⟨a,b,rfl⟩
   have ra := zCs (s := a) (by have := hsubl a (by simp); omega)
   have rb := zCs (s := b) (by have := hsubl b (by simp); omega)
   simp only [specG,zHx1 hws] at hstep
   obtain ⟨⟨na,ba⟩,ea⟩ : ∃ x,riF a = x := ⟨_,rfl⟩
   obtain ⟨⟨nb,bb⟩,eb⟩ : ∃ x,riF b = x := ⟨_,rfl⟩
   rw [ea,rIB] at ra
   rw [eb,rIB] at rb
   rw [ea,eb] at hstep
   simp only at ra rb hstep
   have e1 : (G (k + 1)).1 = M := by rw [hstep]
   have e2 : (G (k + 1)).2 = C ++ [(na,nb)] := by rw [hstep]
   have happ := zIv1 C na nb
   have hby : ((C.length + 1) * 16 ≤ 140737488355328) = True := eq_true (by omega)
   have hct : (cableT = [99,97,98,108,101]) = True := eq_true rfl
   have c3 : (((0 + 1 + 1 + 1 : Nat) : Int) = 3) = True := eq_true rfl
   try simp -dsimp (maxSteps := 1000000) only [go_sem,↓reduceIte,yab,Tryz.f25,hI,h0,hrow,hwr,Int.toNat_natCast,rs,zAw,zAn,zAh,hct,c3,ra,rb,happ,hby,lM',lC',zAt,zAr,zAu,appendH,srcRows,List.take_succ_cons,yan,yao,yap,okT,yaq,yar,Int.reduceLE,Int.reduceLT,yaQ,yaR,Int.reduceToNat]
   refine ⟨⟨k + 1,by omega⟩,by simp only []; omega,[],[0,1,2,5],?_⟩
   (simp only [go_sem,↓reduceIte,yab,yai,zXs,zXr,e1,e2,yar])
   all_goals simp [lk,zAy]
 have hcn := zBo1 hws hcb
 simp only [specG,hcn] at hstep
 obtain ⟨b,rp⟩ := zJs1 l
 have rm := zMf (s := l) (by omega)
 rw [rp] at rm
 obtain ⟨m,hm⟩ : ∃ m,(implM l).getD (mod0 0) = m := ⟨_,rfl⟩
 rw [hm] at rm hstep
 simp only [rMB,modC] at rm
 have e1 : (G (k + 1)).1 = M ++ [m] := by rw [hstep]
 have e2 : (G (k + 1)).2 = C := by rw [hstep]
 have happ := zNz1 M m
 have hby : ((M.length + 1) * 136 ≤ 140737488355328) = True := eq_true (by omega)
 by_cases hw : w = cableT
 · have hw' : (w = [99,97,98,108,101]) = True := eq_true hw
   have c3 : (((ws.length + 1 : Nat) : Int) = 3) = False := eq_false (fun h => hcb ⟨hw,by omega⟩)
   try simp -dsimp (maxSteps := 1000000) only [go_sem,↓reduceIte,yab,Tryz.f25,hI,h0,hrow,hwr,Int.toNat_natCast,rs,zAe,L0,zAh,hw',c3,rm,happ,hby,lM',lC',zAt,zAr,zAu,appendH,srcRows,List.take_succ_cons,yan,yao,yap,okT,yaq,yar,Int.reduceLE,Int.reduceLT,yaQ]
   refine ⟨⟨k + 1,by omega⟩,by simp only []; omega,[],[0,1,6,3],?_⟩
   (simp only [go_sem,↓reduceIte,yab,yai,zXs,zXr,e1,e2,yar])
   all_goals simp [lk,zAy]
 · have hw' : (w = [99,97,98,108,101]) = False := eq_false hw
   try simp -dsimp (maxSteps := 1000000) only [go_sem,↓reduceIte,yab,Tryz.f25,hI,h0,hrow,hwr,Int.toNat_natCast,rs,zAe,L0,zAh,hw',rm,happ,hby,lM',lC',zAt,zAr,zAu,appendH,srcRows,List.take_succ_cons,yan,yao,yap,okT,yaq,yar,Int.reduceLE,Int.reduceLT,yaQ]
   refine ⟨⟨k + 1,by omega⟩,by simp only []; omega,[],[0,1,6,3],?_⟩
   (simp only [go_sem,↓reduceIte,yab,yai,zXs,zXr,e1,e2,yar])
   all_goals simp [lk,zAy]
end Go.SX
namespace Go.SX
open Go Go.Proofs Ieee
def finR (o : Option (List Mod × List Cbl)) : Option (List Mod × List Cbl) := match o with
 | some (ms,cs) => if isRackF ms cs = true then some (ms,cs) else none
 | none => none
theorem zWm (s : Txt) : implR s = finR (goT (splT 10 s) [] []) := rfl
def rRkB (ms : List Mod) (cs : List Cbl) (b : Bool) : Res := { val := .tup [.agg [.view 0 11 0 ms.length,.view 1 2 0 cs.length],.c (.im (.bool b))],roots := [.arr 11 (tM ms),.arr 2 (tI (rowsC cs))] }
theorem zEz1 {sc : Bool} {ms : List Mod} {cs : List Cbl} {b : Bool} : OkR sc (rRkB ms cs b) := by
 refine ⟨.tup _ (fun d hd => ?_),fun r hr => ?_,by simp [rRkB]⟩
 · simp only [rRkB,yae,yaf,or_false] at hd
   rcases hd with rfl | rfl
   · refine .inr ⟨_,rfl,fun x hx => ?_⟩
     simp only [yae,yaf,or_false] at hx
     rcases hx with rfl | rfl <;> exact .view _ _ _ _ (by simp [rRkB])
   · exact .inl ⟨_,rfl,zFn rfl⟩
 · simp only [rRkB,yae,yaf,or_false] at hr
   rcases hr with rfl | rfl
   · exact zFo1 _
   · exact zLl (zJg1 _)
noncomputable def oPr (s : Txt) : Outs := match implR s with
 | some x => .one (rRkB x.1 x.2 true)
 | none => .one (rRkB [] [] false)
noncomputable def zMb : Ct := fam true (fun s : S20 => ([.c (.im (.str ⟨s.1.toArray⟩))],[])) (fun s => oPr s.1)
theorem zRr {s : Txt} (h : s.length ≤ 1048576) : zMb.run [.c (.im (.str ⟨s.toArray⟩))] [] = some (oPr s) :=
 zAd (args := fun s : S20 => ([D.c (.im (.str ⟨s.1.toArray⟩))],[])) zTx ⟨s,h⟩
theorem zRe1 (s : Txt) {sc : Bool} : ∀ res,(oPr s).mem res → OkR sc res := by
 unfold oPr
 cases implR s with
 | none => exact okO zEz1
 | some m => exact okO zEz1
theorem zLt1 : tM [] = [] := rfl
theorem rowsC0 : rowsC [] = [] := rfl
theorem zTz (ms : List Mod) : MvR false (.arr 11 (tM ms)) = True := eq_true (zFo1 _)
theorem zHp (l : List Cbl) : MvR false (.arr 2 (tI (rowsC l))) = True := eq_true (zCn _ _)
theorem zOa1 (cs : List Cbl) (f t : Int) : tI (rowsC cs) ++ [[T.im (.int .i64 f),T.im (.int .i64 t)]] = tI (rowsC (cs ++ [(f,t)])) := by simp [tI,rowsC]
theorem zAb1 {s : Txt} (h : implR s = none) : oPr s = .one (rRkB [] [] false) := by unfold oPr; rw [h]
theorem zJv1 {s : Txt} {ms : List Mod} {cs : List Cbl} (h : implR s = some (ms,cs)) : oPr s = .one (rRkB ms cs true) := by unfold oPr; rw [h]
theorem zKz1 {l : Txt} {ls : List Txt} {ms : List Mod} {cs : List Cbl} (h : ls ≠ []) : goT (l :: ls) ms cs = match cabL l with
   | some (a,b) => if (numF a).2 && (numF b).2 then goT ls ms (cs ++ [((numF a).1,(numF b).1)]) else none
   | none => match implM l with
     | some m => if cs = [] then goT ls (ms ++ [m]) cs else none
     | none => none := by
 rw [goT,if_neg h] <;> rfl
theorem zSq : Law Tryz.prog 26 zMb := by
 refine zCo (zAc zGq1 (zAc zWg (zAc zKu (zAc zOo (zAc zCw1 zAf))))) hmixA Tryz.func26 rfl rfl (fun ⟨s,hs⟩ => ⟨zRe1 s,by simp [Tryz.f26],?_⟩)
 simp only at hs ⊢
 have hsm : sm = 16777216 := rfl
 have hfin := zWm s
 try simp -dsimp (maxSteps := 1000000) only [go_sem,↓reduceIte,yab,Tryz.f26]
 refine zBa (ι := { x : Txt × List Mod × List Cbl // x.1.length + x.2.1.length + x.2.2.length ≤ 1048576 ∧ (∀ m ∈ x.2.1,OkM m) ∧ implR s = finR (goT (splT 10 x.1) x.2.1 x.2.2) }) (fun x => ⟨[(2,some (.c (.ptr 0 0 0 0))),(4,some (.c (.ptr 1 0 0 0))),(5,some (.c (.im (.str ⟨x.1.1.toArray⟩))))],
   [(0,some (.box [.t .nil,.t .nil])),(1,some (.box [.t (.lent 2 11 x.1.2.1.length),.t (.lent 3 2 x.1.2.2.length)])),(2,some (.arr 11 (tM x.1.2.1))),(3,some (.arr 2 (tI (rowsC x.1.2.2))))],4⟩) (fun x => x.1.1.length) ⟨(s,[],[]),by simpa using hs,by simp,hfin⟩ ⟨[.nilT 1 0 0 11,.nilT 1 0 1 2,.unf 1 0 0,.unf 1 0 1],[0,1,2,3],?sub⟩ (fun ⟨⟨text,ms,cs⟩,hlen,hok,hinv⟩ => ?_)
 case sub =>
   ((simp only [go_sem,↓reduceIte,yab,yai,yaK,zTz,zHp,zLt1,rowsC0]) <;> (try (simp -dsimp only [go_sem,↓reduceIte,yab,yai,yaK,zTz,zHp,zLt1,rowsC0])))
   all_goals simp [lk,zAy,tI,tM,rowsC,MvRt]
 simp only at hlen hok hinv ⊢
 clear hfin
 have bad : implR s = none → oPr s = .one (rRkB [] [] false) := zAb1
 have lM : (tM ms).length = ms.length := zQb ms
 have lC : (tI (rowsC cs)).length = cs.length := by rw [zAt,zAu]
 by_cases h0 : text = []
 · subst h0
   have e0 : (([] : Txt) = []) = True := eq_true rfl
   have hg : goT (splT 10 []) ms cs = some (ms,cs) := by simp [splT,goT]
   rw [hg] at hinv
   have rr := zCd1 (ms := ms) (cs := cs) (by omega) (by omega) hok
   have tkm : List.take ms.length (tM ms) = tM ms := List.take_of_length_le (by omega)
   have tkc : List.take cs.length (tI (rowsC cs)) = tI (rowsC cs) := List.take_of_length_le (by omega)
   cases hr : isRackF ms cs with
   | false =>
     rw [hr] at rr
     rw [zAb1 (by rw [hinv]; simp [finR,hr])]
     simp only [rRkB]
     clear hinv bad
     try simp -dsimp (maxSteps := 1000000) only [go_sem,↓reduceIte,yab,Tryz.f26,zAh,e0,rr,zUp,lM,lC,tkm,tkc,zZp,zCj]
     refine zAm [.nilT 0 0 0 11,.nilT 0 0 1 2,.unf 0 0 0,.unf 0 0 1] ?_
     simp -dsimp (maxSteps := 1000000) only [go_sem,↓reduceIte,yab]
     refine ⟨[4,5],?_,?_,?_,rfl,rfl⟩ <;> simp [rtOk,tM,rowsC,tI]
   | true =>
     rw [hr] at rr
     rw [zJv1 (ms := ms) (cs := cs) (by rw [hinv]; simp [finR,hr])]
     simp only [rRkB]
     clear hinv bad
     try simp -dsimp (maxSteps := 1000000) only [go_sem,↓reduceIte,yab,Tryz.f26,zAh,e0,rr,zUp,lM,lC,tkm,tkc,zZp,zCj]
     refine zAm [] ?_
     simp -dsimp (maxSteps := 1000000) only [go_sem,↓reduceIte,yab]
     refine ⟨[2,3],?_,?_,?_,rfl,rfl⟩ <;> simp [rtOk]
 have e0 : (text = []) = False := eq_false h0
 have rc := zYc (s := text) (by omega) 10
 by_cases hnl : (10 : UInt8) ∈ text
 rotate_left
 · have hcut := zTl hnl
   have hg : goT (splT 10 text) ms cs = none := by
     rw [zEh hnl]
     simp [goT,h0]
   rw [hg] at hinv
   rw [bad hinv]
   simp only [oCut,hcut] at rc
   simp only [rRkB]
   clear hinv bad
   try simp -dsimp (maxSteps := 1000000) only [go_sem,↓reduceIte,yab,Tryz.f26,zAh,e0,rc,yaI,yaH]
   refine zAm [.nilT 0 0 0 11,.nilT 0 0 1 2,.unf 0 0 0,.unf 0 0 1] ?_
   simp -dsimp (maxSteps := 1000000) only [go_sem,↓reduceIte,yab]
   refine ⟨[4,5],?_,?_,?_,rfl,rfl⟩ <;> simp [rtOk,tM,rowsC,tI]
 obtain ⟨l,rest,rfl,hl⟩ := zMv hnl
 have hcut := zXa (b := rest) hl
 simp only [oCut,hcut] at rc
 rw [zGv hl,zKz1 (zEr _ _)] at hinv
 have hl2 : l.length + rest.length + 1 = (l ++ 10 :: rest).length := by simp only [yar,yas]; omega
 rw [← hl2] at hlen
 have rs := zVb (s := l) (by omega) 32
 have hsubl := zFr 32 l
 obtain ⟨w,ws,hws⟩ : ∃ w ws,splT 32 l = w :: ws := by
   cases h : splT 32 l with
   | nil => exact absurd h (zEr _ _)
   | cons a b => exact ⟨a,b,rfl⟩
 rw [hws] at rs hsubl
 rw [zAw] at rs
 have L0 : ((0 : Int) < ((ws.length + 1 : Nat) : Int)) = True := eq_true (by omega)
 by_cases hcb : w = cableT ∧ ws.length = 2
 · obtain ⟨rfl,h2⟩ := hcb
   obtain ⟨a,b,rfl⟩ : ∃ a b,ws = [a,b] := by
     match ws,h2 with
     | [a,b],_ => exact ⟨a,b,rfl⟩
   have ra := zDe (s := a) (by have := hsubl a (by simp); omega)
   have rb := zDe (s := b) (by have := hsubl b (by simp); omega)
   rw [zHx1 hws] at hinv
   simp only at hinv
   obtain ⟨⟨na,ba⟩,ea⟩ : ∃ x,numF a = x := ⟨_,rfl⟩
   obtain ⟨⟨nb,bb⟩,eb⟩ : ∃ x,numF b = x := ⟨_,rfl⟩
   rw [ea] at ra
   rw [eb] at rb
   rw [ea,eb] at hinv
   simp only at ra rb hinv
   have hct : (cableT = [99,97,98,108,101]) = True := eq_true rfl
   have c3 : (((0 + 1 + 1 + 1 : Nat) : Int) = 3) = True := eq_true rfl
   cases ba with
   | false =>
     rw [bad (by rw [hinv]; simp [finR])]
     simp only [rRkB]
     clear hinv bad
     try simp -dsimp (maxSteps := 1000000) only [go_sem,↓reduceIte,yab,Tryz.f26,zAh,e0,rc,rs,zEc,zAw,zAn,hct,c3,ra,rb,yaI,yaH,Int.reduceLE,Int.reduceLT,yaQ,yaR,Int.reduceToNat]
     refine zAm [.nilT 0 0 0 11,.nilT 0 0 1 2,.unf 0 0 0,.unf 0 0 1] ?_
     simp -dsimp (maxSteps := 1000000) only [go_sem,↓reduceIte,yab]
     refine ⟨[4,5],?_,?_,?_,rfl,rfl⟩ <;> simp [rtOk,tM,rowsC,tI]
   | true =>
     cases bb with
     | false =>
       rw [bad (by rw [hinv]; simp [finR])]
       simp only [rRkB]
       clear hinv bad
       try simp -dsimp (maxSteps := 1000000) only [go_sem,↓reduceIte,yab,Tryz.f26,zAh,e0,rc,rs,zEc,zAw,zAn,hct,c3,ra,rb,yaI,yaH,Int.reduceLE,Int.reduceLT,yaQ,yaR,Int.reduceToNat]
       refine zAm [.nilT 0 0 0 11,.nilT 0 0 1 2,.unf 0 0 0,.unf 0 0 1] ?_
       simp -dsimp (maxSteps := 1000000) only [go_sem,↓reduceIte,yab]
       refine ⟨[4,5],?_,?_,?_,rfl,rfl⟩ <;> simp [rtOk,tM,rowsC,tI]
     | true =>
       simp only [yaD,yal] at hinv
       have happ := zOa1 cs na nb
       have hby : ((cs.length + 1) * 16 ≤ 140737488355328) = True := eq_true (by omega)
       have lC2 : (tI (rowsC (cs ++ [(na,nb)]))).length = cs.length + 1 := by rw [zAt,zAu]; simp
       try simp -dsimp (maxSteps := 1000000) only [go_sem,↓reduceIte,yab,Tryz.f26,zAh,e0,rc,rs,zEc,zAw,zAn,hct,c3,ra,rb,happ,hby,lM,lC,lC2,appendH,srcRows,List.take_succ_cons,yan,yao,yap,okT,yaq,yar,yaI,yaH,Int.reduceLE,Int.reduceLT,yaQ,yaR,Int.reduceToNat]
       refine ⟨⟨(rest,ms,cs ++ [(na,nb)]),by simp only [yar,yas,List.length_nil]; omega,hok,hinv⟩,by simp only []; omega,[],[0,1,2,5],?_⟩
       ((simp only [go_sem,↓reduceIte,yab,yai,zTz,zHp,lM,lC2]) <;> (try (simp -dsimp only [go_sem,↓reduceIte,yab,yai,zTz,zHp,lM,lC2])))
       all_goals simp [lk,zAy]
 have hcn := zBo1 hws hcb
 rw [hcn] at hinv
 simp only at hinv
 have rm := zNy (s := l) (by omega)
 have step : ∀ (P : Prop),((w = [99,97,98,108,101]) = True → (((ws.length + 1 : Nat) : Int) = 3) = False → P) → ((w = [99,97,98,108,101]) = False → P) → P := fun P h1 h2 => by
   by_cases hw : w = cableT
   · exact h1 (eq_true hw) (eq_false (fun h => hcb ⟨hw,by omega⟩))
   · exact h2 (eq_false hw)
 cases hi : implM l with
 | none =>
   rw [hi] at hinv
   rw [show oPm l = .one (rModB (mod0 0) false) by unfold oPm; rw [hi]] at rm
   simp only [rModB,mod0] at rm
   rw [bad (by rw [hinv]; simp [finR])]
   simp only [rRkB]
   clear hinv bad
   refine step _ (fun hw c3 => ?_) (fun hw => ?_)
   · skip
     try simp -dsimp (maxSteps := 1000000) only [go_sem,↓reduceIte,yab,Tryz.f26,zAh,e0,rc,rs,zEc,zAe,L0,hw,c3,rm,yaI,yaH,Int.reduceLE,Int.reduceLT,yaQ]
     refine zAm [.nilT 0 0 0 11,.nilT 0 0 1 2,.unf 0 0 0,.unf 0 0 1] ?_
     simp -dsimp (maxSteps := 1000000) only [go_sem,↓reduceIte,yab]
     refine ⟨[8,9],?_,?_,?_,rfl,rfl⟩ <;> simp [rtOk,tM,rowsC,tI]
   · skip
     try simp -dsimp (maxSteps := 1000000) only [go_sem,↓reduceIte,yab,Tryz.f26,zAh,e0,rc,rs,zEc,zAe,L0,hw,rm,yaI,yaH,Int.reduceLE,Int.reduceLT,yaQ]
     refine zAm [.nilT 0 0 0 11,.nilT 0 0 1 2,.unf 0 0 0,.unf 0 0 1] ?_
     simp -dsimp (maxSteps := 1000000) only [go_sem,↓reduceIte,yab]
     refine ⟨[8,9],?_,?_,?_,rfl,rfl⟩ <;> simp [rtOk,tM,rowsC,tI]
 | some m =>
   rw [hi] at hinv
   simp only at hinv
   rw [show oPm l = .one (rModB m true) by unfold oPm; rw [hi]] at rm
   simp only [rModB] at rm
   by_cases hc0 : cs = []
   rotate_left
   · have hcl : 0 < cs.length := List.length_pos_iff.2 hc0
     have hc1 : ((0 : Int) < (cs.length : Int)) = True := eq_true (by omega)
     rw [if_neg hc0] at hinv
     rw [bad (by rw [hinv]; simp [finR])]
     simp only [rRkB]
     clear hinv bad
     refine step _ (fun hw c3 => ?_) (fun hw => ?_)
     · skip
       try simp -dsimp (maxSteps := 1000000) only [go_sem,↓reduceIte,yab,Tryz.f26,zAh,e0,rc,rs,zEc,zAe,L0,hw,c3,rm,hc1,yaI,yaH,Int.reduceLE,Int.reduceLT,yaQ]
       refine zAm [.nilT 0 0 0 11,.nilT 0 0 1 2,.unf 0 0 0,.unf 0 0 1] ?_
       simp -dsimp (maxSteps := 1000000) only [go_sem,↓reduceIte,yab]
       refine ⟨[8,9],?_,?_,?_,rfl,rfl⟩ <;> simp [rtOk,tM,rowsC,tI]
     · skip
       try simp -dsimp (maxSteps := 1000000) only [go_sem,↓reduceIte,yab,Tryz.f26,zAh,e0,rc,rs,zEc,zAe,L0,hw,rm,hc1,yaI,yaH,Int.reduceLE,Int.reduceLT,yaQ]
       refine zAm [.nilT 0 0 0 11,.nilT 0 0 1 2,.unf 0 0 0,.unf 0 0 1] ?_
       simp -dsimp (maxSteps := 1000000) only [go_sem,↓reduceIte,yab]
       refine ⟨[8,9],?_,?_,?_,rfl,rfl⟩ <;> simp [rtOk,tM,rowsC,tI]
   subst hc0
   simp only [yal] at hinv
   have hc1 : ((0 : Int) < ((0 : Nat) : Int)) = False := by simp
   have hby : ((ms.length + 1) * 136 ≤ 140737488355328) = True := eq_true (by omega)
   have hsn : tM (ms ++ [m]) = tM ms ++ [modT m] := by simp [tM]
   have hmv : MvR false (.arr 11 (tM (ms ++ [m]))) = True := eq_true (zFo1 _)
   rw [hsn] at hmv
   simp only [modT] at hsn hmv
   have hok2 : ∀ x ∈ ms ++ [m],OkM x := fun x hx => by
     simp only [yaz,yaG] at hx
     rcases hx with hx | rfl
     · exact hok x hx
     · exact zWn hi
   have ha := zSj1 lM
   have hs2 := zQg1 lM
   have hl3 := zQh1 lM
   refine step _ (fun hw c3 => ?_) (fun hw => ?_)
   · skip
     try simp -dsimp (maxSteps := 1000000) only [go_sem,↓reduceIte,yab,Tryz.f26,zAh,e0,rc,rs,zEc,zAe,L0,hw,c3,rm,hc1,hby,lM,lC,hl3,appendH,srcRows,List.take_succ_cons,yan,yao,yap,okT,yaq,yar,yaI,yaH,Int.reduceLE,Int.reduceLT,yaQ]
     refine ⟨⟨(rest,ms ++ [m],[]),by simp only [yar,yas,List.length_nil] at hlen ⊢; omega,hok2,hinv⟩,by simp only []; omega,[.fold 9 ms.length 4,.fold 9 ms.length 7,.fold 9 ms.length 8],[0,1,9,3],?_⟩
     ((simp only [go_sem,↓reduceIte,yab,yai,yaK,forall_eq_or_imp,forall_eq,hsn,ha,hs2,hl3,hmv,zHp,zAt,zAa,zAb]) <;> (try (simp -dsimp only [go_sem,↓reduceIte,yab,yai,yaK,forall_eq_or_imp,forall_eq,hsn,ha,hs2,hl3,hmv,zHp,zAt,zAa,zAb])))
     all_goals simp [lk,zAy]
   · skip
     try simp -dsimp (maxSteps := 1000000) only [go_sem,↓reduceIte,yab,Tryz.f26,zAh,e0,rc,rs,zEc,zAe,L0,hw,rm,hc1,hby,lM,lC,hl3,appendH,srcRows,List.take_succ_cons,yan,yao,yap,okT,yaq,yar,yaI,yaH,Int.reduceLE,Int.reduceLT,yaQ]
     refine ⟨⟨(rest,ms ++ [m],[]),by simp only [yar,yas,List.length_nil] at hlen ⊢; omega,hok2,hinv⟩,by simp only []; omega,[.fold 9 ms.length 4,.fold 9 ms.length 7,.fold 9 ms.length 8],[0,1,9,3],?_⟩
     ((simp only [go_sem,↓reduceIte,yab,yai,yaK,forall_eq_or_imp,forall_eq,hsn,ha,hs2,hl3,hmv,zHp,zAt,zAa,zAb]) <;> (try (simp -dsimp only [go_sem,↓reduceIte,yab,yai,yaK,forall_eq_or_imp,forall_eq,hsn,ha,hs2,hl3,hmv,zHp,zAt,zAa,zAb])))
     all_goals simp [lk,zAy]
end Go.SX
namespace Go.SX
open Go Go.Proofs Ieee
theorem zUb {m : Mod} (hv : isModuleF m = true) : m.store.length ≤ 16 ∧ m.pts.length ≤ 64 ∧ m.lab.length ≤ 64 := by
 rcases zCf hv with ⟨t,u,rfl⟩ | ⟨t,u,rfl⟩ | ⟨l,rfl⟩ | ⟨st,a,rfl,hr⟩ | rfl | ⟨pts,lab,c,rfl,ht⟩ | ⟨l,rfl,_⟩ | ⟨u,c,l,rfl,_⟩
 · simp
 · simp
 · simp
 · have : st.length ≤ 16 := by
     unfold isRingF at hr
     simp only [yaw,yax] at hr
     exact hr.1.2.1
   simp; omega
 · simp
 · obtain ⟨h1,h2⟩ := zGu ht
   simp; omega
 · simp
 · simp
theorem zMf1 : ∀ (ms : List Mod) (k : Nat),(∀ m ∈ ms,isModuleF m = true) → mkT k ms ≤ k + 152 * ms.length
 | [],k,_ => by simp [mkT]
 | m :: ms,k,h => by
   have ih := zMf1 ms (k + szM m) (fun x hx => h x (by simp [hx]))
   obtain ⟨h1,h2,h3⟩ := zUb (h m (by simp))
   simp only [mkT,szM,yas] at ih ⊢
   omega
theorem bothR (s : Txt) : ∃ (ms : List Mod) (cs : List Cbl) (b : Bool),pRk s = rRO ms cs b ∧ oPr s = .one (rRkB ms cs b) ∧ ms.length ≤ 16 ∧ cs.length ≤ 40 ∧ (∀ m ∈ ms,OkM m) ∧ mkT 1 ms + 2 * cs.length ≤ 4096 := by
 have hsm : sm = 16777216 := rfl
 cases h : implR s with
 | some x =>
   obtain ⟨ms,cs⟩ := x
   have hr : isRackF ms cs = true := by
     rw [zWm] at h
     unfold finR at h
     split at h
     · split at h
       · rename_i hr
         simp only [yay,Prod.mk.injEq] at h
         rw [← h.1,← h.2]; exact hr
       · cases h
     · cases h
   obtain ⟨l1,l2⟩ := zIv hr
   have hv := zLs hr
   have hb := zMf1 ms 1 hv
   refine ⟨ms,cs,true,by simp [pRk,h],by simp [oPr,h],l1,l2,fun m hm => ?_,by omega⟩
   obtain ⟨q1,q2,q3⟩ := zUb (hv m hm)
   exact ⟨by omega,by omega,by omega⟩
 | none => exact ⟨[],[],false,by simp [pRk,h],by simp [oPr,h],by simp,by simp,by simp,by simp [mkT]⟩
theorem InlAt.up {P : Program} {k : FuncId} {ds : List D} {h h' : List (Nat × Option Root)} {n n' n2 : Nat} {d : D} (hI : InlAt P k ds h n d h' n') (hle : n' ≤ n2) : InlAt P k ds h n d h' n2 :=
 ⟨hI.1,fun en g S a w args h1 h2 h3 h4 h5 => (hI.2 en g S a w args h1 h2 h3 h4 h5).mono fun _ _ ⟨v,g',he,k1,k2,k3⟩ => ⟨v,g',he,fun m hm => Nat.lt_of_lt_of_le (k1 m hm) hle,k2,k3⟩⟩
theorem zIc : Law Tryz.prog 5 ctLs := by
 refine zLc1 (zAc zPv (zAc zSq (zAc zCt1 (zAc zWb zAf)))) hmixA Tryz.func5 rfl rfl [8] (args := fun s : Txt => [.c (.im (.str ⟨s.toArray⟩))]) (fun s => ⟨zAv rfl,by simp [Tryz.f5],?_⟩)
 by_cases hbig : 1048576 < s.length
 · have hI : ((1048576 : Int) < (s.length : Int)) = True := eq_true (by omega)
   try simp -dsimp (maxSteps := 1000000) only [go_sem,↓reduceIte,yab,Tryz.f5,zAp,hI]
 have hI : ((1048576 : Int) < (s.length : Int)) = False := eq_false (by omega)
 have r1 := zPq (s := s) (by omega)
 have r2 := zRr (s := s) (by omega)
 obtain ⟨ms,cs,b,e1,e2,q1,q2,q3,hE⟩ := bothR s
 rw [e1] at r1
 rw [e2] at r2
 have hsm : sm = 16777216 := rfl
 have req := zCb1 (ms := ms) (cs := cs) (by omega) (by omega) q3
 simp only [rRO,rRkB] at r1 r2
 clear e1 e2
 have rh := zUv (k := 1) q1 hE
 have c1 : ((1 : Nat) : Int) = 1 := rfl
 rw [c1] at rh
 have lm : (tM ms).length = ms.length := zQb ms
 have lc : (tI (rowsC cs)).length = cs.length := by rw [zAt,zAu]
 have tkm : List.take ms.length (tM ms) = tM ms := List.take_of_length_le (by omega)
 have tkc : List.take cs.length (tI (rowsC cs)) = tI (rowsC cs) := List.take_of_length_le (by omega)
 have lS : (tM (mkMs 1 ms)).length = ms.length := by rw [zQb,zGc]
 have lQ : (tI (rowsC (mkCs (mkT 1 ms) cs.length))).length = cs.length := by rw [zAt,zAu,zEm]
 have tS : List.take ms.length (tM (mkMs 1 ms)) = tM (mkMs 1 ms) := List.take_of_length_le (by omega)
 have tQ : List.take cs.length (tI (rowsC (mkCs (mkT 1 ms) cs.length))) = tI (rowsC (mkCs (mkT 1 ms) cs.length)) := List.take_of_length_le (by omega)
 have hneg : (((mkT 1 ms + 2 * cs.length : Nat) : Int) < 0) = False := eq_false (by omega)
 try simp -dsimp (maxSteps := 1000000) only [go_sem,↓reduceIte,yab,Tryz.f5,zAp,hI,r1,r2,req,zUo,tkm,tkc,lm,lc,zZp,zCj,bne_self_eq_false,beq_self_eq_true]
 refine zQp (InlAt.up (n2 := 60) (zWj (n1 := 1) (n2 := 2) (k0 := 1) (by simp [lk]) (by simp [lk]) (by decide) (fun m hm => by simp [lk,show m ≠ 0 by omega,show m ≠ 1 by omega,show m ≠ 2 by omega,show m ≠ 3 by omega]) q1 hE) (by omega)) ?_
 generalize mkMs 1 ms = S at *
 generalize mkCs (mkT 1 ms) cs.length = Q at *
 generalize mkT 1 ms + 2 * cs.length = E at *
 try simp -dsimp (maxSteps := 1000000) only [go_sem,↓reduceIte,yab,Tryz.f5,zAp,hI,r1,r2,req,rh,zUo,zXw,tkm,tkc,tS,tQ,lm,lc,lS,lQ,hneg,zZp,zCj,bne_self_eq_false,beq_self_eq_true,ne_eq,eq_self,ybc,yaU]
end Go.SX
namespace Go.SX
open Go Go.Proofs Go.RowKit Go.ChangeShapes
def laidL : List (String × DataW Unit) := [("math/bits.deBruijn32tab", YtfmpjhjnpeheeaaGreatDoor.Rows.laid_math_bits_deBruijn32tab), ("math/bits.deBruijn64tab", YtfmpjhjnpeheeaaGreatDoor.Rows.laid_math_bits_deBruijn64tab), ("internal/strconv.uint64pow10", YtfmpjhjnpeheeaaGreatDoor.Rows.laid_internal_strconv_uint64pow10), ("unicode/utf8.acceptRanges", YtfmpjhjnpeheeaaGreatDoor.Rows.laid_unicode_utf8_acceptRanges), ("strconv.ErrRange", YtfmpjhjnpeheeaaGreatDoor.Rows.laid_strconv_ErrRange), ("strconv.ErrSyntax", YtfmpjhjnpeheeaaGreatDoor.Rows.laid_strconv_ErrSyntax), ("unicode/utf8.first", YtfmpjhjnpeheeaaGreatDoor.Rows.laid_unicode_utf8_first)]
theorem lx1 : Tryz.prog.globalNamed "math/bits.deBruijn32tab" = some 1 := by kernel_rfl
theorem lx1t : (Tryz.prog.globals[1]?).map (·.type) = some 256 := by kernel_rfl
theorem lx1u : Tryz.prog.underlying 256 = some (.array 32 5) := by kernel_rfl
theorem lx1e : Tryz.prog.underlying 5 = some (.int .u8) := by kernel_rfl
theorem lx1c : Tryz.prog.cellsOf 5 = 1 := by kernel_rfl
theorem lx1d : Tryz.prog.cellsOf 256 = 32 := by kernel_rfl
theorem lx7 : Tryz.prog.globalNamed "internal/strconv.uint64pow10" = some 7 := by kernel_rfl
theorem lx7t : (Tryz.prog.globals[7]?).map (·.type) = some 308 := by kernel_rfl
theorem lx7u : Tryz.prog.underlying 308 = some (.array 20 247) := by kernel_rfl
theorem lx7e : Tryz.prog.underlying 247 = some (.int .u64) := by kernel_rfl
theorem lx7c : Tryz.prog.cellsOf 247 = 1 := by kernel_rfl
theorem lx7d : Tryz.prog.cellsOf 308 = 20 := by kernel_rfl
theorem lx3 : Tryz.prog.globalNamed "strconv.ErrSyntax" = some 3 := by kernel_rfl
theorem lx3t : (Tryz.prog.globals[3]?).map (·.type) = some 169 := by kernel_rfl
theorem lx4 : Tryz.prog.globalNamed "strconv.ErrRange" = some 4 := by kernel_rfl
theorem lx4t : (Tryz.prog.globals[4]?).map (·.type) = some 169 := by kernel_rfl
theorem lxS : "*" ++ "errors.errorString" = "*errors.errorString" := by decide
theorem lxR (u : TypeId) (h : Tryz.prog.typeName? 3 u = some "*errors.errorString") : u = 311 :=
 typeName_ptr_named (nm := "errors.errorString") (by rw [lxS]; kernel_rfl) (by kernel_rfl) (by decide) u (by rw [lxS]; exact h)
theorem lxc313 : Tryz.prog.cellsOf 313 = 1 := by kernel_rfl
theorem lxc9 : Tryz.prog.cellsOf 9 = 1 := by kernel_rfl
theorem lxd1 : YtfmpjhjnpeheeaaGreatDoor.Rows.laid_math_bits_deBruijn32tab = (Lib.tabData .u8 (Lib.deBruijn32tab.map fun (k : Nat) => (k : Int)) : DataW Unit) := by kernel_rfl
theorem lxd7 : YtfmpjhjnpeheeaaGreatDoor.Rows.laid_internal_strconv_uint64pow10 = (Lib.tabData .u64 Lib.pow10Tab : DataW Unit) := by kernel_rfl
theorem zSw {P : Program} {w : World} {n : String} {g : Nat} {cs : Array Value} (hg : P.globalNamed n = some g) (h : w.var? P n = some cs) : ∃ e fr, w.heap[g]? = some (.cells cs e fr) := by
 unfold World.var? at h
 rw [hg] at h
 simp only [Option.bind_some] at h
 split at h
 · rename_i c e fr hh
   injection h with h
   subst h
   exact ⟨e, fr, hh⟩
 · cases h
theorem zUg {P : Program} {W : World} {name : String} {k : IntKind} {zs : List Int} {l : List (String × DataW Unit)} {g : Nat} {t e : TypeId} {n : Nat}
   (hg : P.globalNamed name = some g) (hty : (P.globals[g]?).map (·.type) = some t) (ht : P.underlying t = some (.array n e)) (he : P.underlying e = some (.int k)) (hce : P.cellsOf e = 1) (hct : P.cellsOf t = n)
   (h : laidMet P l W) (hm : (name, Lib.tabData k zs) ∈ l) : ∃ e fr, W.heap[g]? = some (.cells (zs.map fun z => Value.int k z).toArray e fr) := by
 obtain ⟨g', t', cs, fuel, p, hg', ht', hvar, hd⟩ := Lib.laidMet.reads h hm
 obtain rfl := Option.some.inj (hg.symm.trans hg')
 obtain rfl := Option.some.inj (hty.symm.trans ht')
 have := Lib.cells_of_tab ht he hce hct hd
 rw [← this]
 exact zSw hg hvar
theorem lxM0 : ((begin Tryz.prog (fun _ _ => 0) default).world.heap[2]?).bind Obj.row? = some (#[.int .i64 0], 3) := by kernel_rfl
theorem lxMs : 2 < Tryz.prog.globals.size := of_decide_eq_true (by kernel_rfl)
theorem lxMb : Tryz.prog.buildable 3 = true := by kernel_rfl
theorem lxMt : Tryz.prog.cellTypes Tryz.prog.depth 3 = some [3] := by kernel_rfl
theorem lxMu : Tryz.prog.underlying 3 = some (.int .i64) := by kernel_rfl
set_option maxRecDepth 100000 in
theorem zPo1 {W : World} (h : laidMetH Tryz.prog laidL W) (hs : W.ShapedOpen Tryz.prog) : Laid (fun _ => none) W := by
 rw [MakeChecks.laidMetH_plain _ _ _ (by kernel_rfl)] at h
 refine ⟨fun b cs hb => ⟨?_, rfl⟩, fun b hb => ⟨?_, rfl⟩, fun b hb => ⟨?_, rfl⟩⟩
 · simp only [globV, List.mem_cons, List.not_mem_nil, or_false, Prod.mk.injEq] at hb
   rcases hb with ⟨rfl, rfl⟩ | ⟨rfl, rfl⟩
   · have := zUg lx1 lx1t lx1u lx1e lx1c lx1d h (zs := Lib.deBruijn32tab.map fun (k : Nat) => (k : Int)) (by rw [← lxd1]; simp [laidL])
     simpa [List.map_map, Function.comp_def] using this
   · exact zUg lx7 lx7t lx7u lx7e lx7c lx7d h (zs := Lib.pow10Tab) (by rw [← lxd7]; simp [laidL])
 · simp only [globI, List.mem_cons, List.not_mem_nil, or_false] at hb
   rcases hb with rfl | rfl
   · obtain ⟨a0, s0, hv, _, _, _⟩ := laid_sentinel h.tail.tail.tail.tail.tail lx3 lx3t Tryz.underlying169 lxR Tryz.underlying311 Tryz.underlying313 rfl rfl Tryz.underlying9 lxc313 lxc9
     obtain ⟨e, fr, hh⟩ := zSw lx3 hv
     exact ⟨_, _, e, fr, hh⟩
   · obtain ⟨a0, s0, hv, _, _, _⟩ := laid_sentinel h.tail.tail.tail.tail lx4 lx4t Tryz.underlying169 lxR Tryz.underlying311 Tryz.underlying313 rfl rfl Tryz.underlying9 lxc313 lxc9
     obtain ⟨e, fr, hh⟩ := zSw lx4 hv
     exact ⟨_, _, e, fr, hh⟩
 · simp only [globN, List.mem_cons, List.not_mem_nil, or_false] at hb
   subst hb
   obtain ⟨cs, hh, hsz, hok⟩ := hs.1 2 _ _ lxMs lxM0
   obtain ⟨ts, hts, _, hc⟩ := hok lxMb
   rw [lxMt] at hts
   injection hts with hts
   subst hts
   obtain ⟨l⟩ := cs
   have hl : l.length = 1 := by simpa using hsz
   match l, hl with
   | [v], _ =>
     obtain ⟨u, hu, hv⟩ := hc 0 v (by simp)
     simp only [List.length_singleton, Nat.zero_mod, List.getElem?_cons_zero, Option.some.injEq] at hu
     subst hu
     unfold Cell.ok at hv
     rw [lxMu] at hv
     cases v <;> simp at hv
     obtain ⟨rfl, _⟩ := hv
     exact ⟨_, _, _, hh⟩
set_option maxRecDepth 100000 in
theorem zCz1 (os : Os) (args : Array Value) : laidMetH Tryz.prog laidL ((World.laidAll Tryz.prog os laidL).forCall (fun _ _ => 0) ⟨#[], args, []⟩).memory := by
 rw [MakeChecks.laidMetH_plain _ _ _ (by kernel_rfl)]
 exact laidMet_laidAll _ (by kernel_rfl) (by kernel_rfl)
end Go.SX
namespace Go.SX
open Go Go.RowKit
theorem zGd1 {P : Program} {f : FuncId} (hL : Law P f ctLs) {w : World} (hlaid : Laid (fun _ => none) w) (b : ByteArray) :
   Calls P f #[.string b] w fun e w' => e = .returned (.bool true) ∧ Below w.heap.size w w' := by
 refine (zGn1 hL (ds := [.c (.im (.str b))]) (args := [.string b]) (i := .bool true) rfl w hlaid (zQs1 b) rfl (fun t d v hd hv => ?_)).mono fun e w' ⟨v, he, hv, hb⟩ => ?_
 · cases t with
   | zero => simp at hd hv; subst hd; subst hv; exact .c _ _ (.im _ _ (.str _))
   | succ t => simp at hd
 · rw [hv.bool_inv] at he; exact ⟨he, hb⟩
end Go.SX
namespace Go.Proofs.YtfmpjhjnpeheeaaGreatDoor.fnExactParseRack
open Go.ChangeShapes Go.WideShapes Go.ChangeAt Go.RowKit
open Go.ChangeMaps (open_string shut_string)
theorem own : ownKnob Tryz.prog.godebug = none := by kernel_rfl
theorem walk (a0 : ByteArray) (w0 : a0.size ≤ maxLen) (w : World) (hl : Go.SX.Laid (fun _ => none) w) :
   Calls Tryz.prog 5 #[.string a0] w fun e w' => e = .returned (.bool true) ∧ Below w.heap.size w w' :=
 Go.SX.zGd1 Go.SX.zIc hl a0
theorem reads (os : Os) {H : Type} (enc : TypeId × Value → H) : ∃ places, DataW.whole enc Tryz.prog ((World.laidAll Tryz.prog os Go.SX.laidL).forCall (fun _ _ => 0) ⟨#[], #[.string ByteArray.empty], []⟩).memory (Tryz.f5).params.toList Rows.fnExactParseRackSpec.vars false #[Value.string ByteArray.empty].toList 8 = some ([.lit (.string [])], [], places) :=
 ⟨[], by kernel_rfl⟩
set_option maxRecDepth 100000 in
theorem lifted (os : Os) (started : os.Started) (H : Type) (enc : TypeId × Value → H) (F : Stop.Interp) :
   ReturnsInHanded {} Tryz.checked os 5 .any ((OpenSpec.ofChange Rows.fnExactParseRackSpec).preRow enc Tryz.prog Tryz.f5 Rows.fnExactParseRackRow.domain false Rows.fnExactParseRackRow.laid) (((OpenSpec.ofChange Rows.fnExactParseRackSpec).at F).post enc Tryz.prog Tryz.f5 false true false false) := by
 obtain ⟨places, hx⟩ := reads os enc
 refine returnsInHanded_of_row (C := Tryz.checked) (s := OpenSpec.ofChange Rows.fnExactParseRackSpec) own started (by kernel_rfl) Tryz.func5
   ⟨World.laidAll Tryz.prog os Go.SX.laidL, fun _ _ => 0, ⟨#[], #[.string ByteArray.empty], []⟩, World.laidAll_os _ _ _, World.shaped_of_ZipB (by kernel_rfl) (by kernel_rfl), rfl, (Input.okWide_of_okWideB (base := (World.laidAll Tryz.prog os Go.SX.laidL).heap.size) (by kernel_rfl)).2,
     OpenSpec.preRow_of_cond 8 hx (by kernel_rfl) (fun k hk => by cases hk) (by kernel_rfl) (Go.SX.zCz1 os _), by
       simp only [Assume.holds]
       exact ⟨by simp, by simp, fun _ => Modest.zero, by simp, by simp⟩⟩ ?_
 intro W base args ds gs before hval0 hW _ _ _ hL hsh _
 have hval : ∀ (j : Nat) t v, (Tryz.f5).params[j]? = some t → args[j]? = some v → Value.okWide Tryz.prog W .any base t v := hval0
 have hW' := hW
 obtain ⟨p, q, hA0, hV, rfl, hfz, hnd⟩ := hW
 have hA : DataW.TrodAll enc Tryz.prog W 0 (fun _ => true) true (Tryz.f5).params.toList args.toList ds p := hA0
 rw [Tryz.params5] at hA hval
 obtain ⟨v0, vs0, d0, ds0, p0, q0, hargs, rfl, rfl, h0, r0⟩ := trodAll_cons hA
 obtain ⟨rfl, rfl, rfl⟩ := trodAll_nil r0
 obtain rfl : args = #[v0] := by cases args; simp_all
 obtain ⟨rfl, rfl⟩ := trodVars_none hV
 obtain ⟨a0, rfl, rfl, rfl, w0⟩ := open_string Tryz.underlying9 (hval 0 9 v0 rfl rfl) h0
 clear hA0 hval0
 refine (walk a0 w0 W (Go.SX.zPo1 hL hsh)).mono fun e W' ⟨he, bel⟩ => ?_
 subst he
 exact ⟨_, rfl, _, _, _, [], _, [], hW', trodAll_mk1 (shut_bool Tryz.underlying4 _), (trodAll_cons_mk (shut_string Tryz.underlying9 w0) trodAll_mk0), rfl, bel.frame _, fun h => by cases h⟩
theorem said : Rows.FnExactParseRackSaid :=
 OpenClaim.holds_of_cond 5 Tryz.f5 rfl rfl rfl rfl rfl rfl rfl ⟨rfl, rfl, rfl, rfl, rfl⟩ rfl rfl rfl rfl rfl (by kernel_rfl) Tryz.func5 (by kernel_rfl)
   (of_decide_eq_true (by kernel_rfl)) (by unfold Func.isWrapper; first | (rw [if_pos (by decide +kernel)]; kernel_rfl) | (rw [if_neg (by decide +kernel)]; exact ⟨rfl, rfl⟩))
   (fun os started H enc _ F => by rw [OpenClaim.pre_eq_preRow]; exact lifted os started H enc F)
theorem plain (f : FuncId) (fn : Func) (hf : Tryz.pinned.checked.prog.funcNamed "loop.example/g03223/laws.FnExactParseRack" = some f) (hfn : Tryz.pinned.checked.prog.funcs[f]? = some fn) :
   true = Tryz.pinned.checked.prog.looks [] ∧ ∀ (j : Nat) t, fn.params[j]? = some t → Tryz.pinned.checked.prog.wantsStandIn t = false := by
 obtain rfl : f = 5 := Option.some.inj ((show Tryz.prog.funcNamed "loop.example/g03223/laws.FnExactParseRack" = some 5 by kernel_rfl).symm.trans hf) |>.symm
 obtain rfl : fn = Tryz.f5 := (Option.some.inj ((Tryz.func5).symm.trans hfn)).symm
 refine ⟨by kernel_rfl, fun j t ht => ?_⟩
 rw [Tryz.params5] at ht
 obtain rfl : t = 9 := by simpa using Array.mem_of_getElem? ht
 exact (show Tryz.prog.wantsStandIn 9 = false by kernel_rfl)
theorem proved : Rows.FnExactParseRackCardSaid :=
 Claim7.holds_tied_plain_at .later [] _ _ _ _ said (fun _ h => by cases h) (by kernel_rfl) (fun _ h => by cases h) fnExactParseRack_row_tie rfl ⟨rfl, rfl⟩ (by kernel_rfl) rfl plain (by kernel_rfl)
#print axioms proved
end Go.Proofs.YtfmpjhjnpeheeaaGreatDoor.fnExactParseRack
