/-
  SX: the engine, parts K to T, in one text. Plain definitions and theorems over any program.
  No condition.
-/
import Derived.Test.YtfmpjhjnpeheeaaGreatDoorPkC
set_option maxRecDepth 100000
set_option maxHeartbeats 16000000
set_option linter.unusedVariables false
set_option linter.unusedSimpArgs false
namespace Go.SX
open Go Go.RowKit
variable {en : En} {g : Gh} {S : Nat → Option D} {H : Nat → Option Root} {a : Act} {w : World} {P : Program}
theorem zIz {ops : List Oper} {x y : Oper} (h : apartT ops x y = true) : (∀ d,x.dst = some d → d ∉ lookT ops y) ∧ (∀ d,x.dst = some d → y.dst ≠ some d) ∧ (∀ d,y.dst = some d → d ∉ lookT ops x) := by
 refine ⟨fun d hd hm => ?_,fun d hd he => ?_,fun d hd hm => ?_⟩
 · rw [← zEe] at hm; simp [apartT,hd,hm] at h
 · simp [apartT,hd,he] at h
 · rw [← zEe] at hm; simp [apartT,hd,hm] at h
structure SlOk (ops : List Oper) : Prop where
 lt : ∀ (j : Nat) (oj : Oper),ops[j]? = some oj → ∀ e ∈ oj.after,Region.binds .any e = true → e.on < j
 just : ∀ (i j : Nat) (oi oj : Oper),ops[i]? = some oi → ops[j]? = some oj → i < j → bfB (Region.before ops.toArray) i j = true → ∃ e ∈ oj.after,Region.binds .any e = true ∧ (e.on = i ∨ (i < e.on ∧ bfB (Region.before ops.toArray) i e.on = true))
 apart : ∀ (i j : Nat) (oi oj : Oper),ops[i]? = some oi → ops[j]? = some oj → i < j → bfB (Region.before ops.toArray) i j = false → apartT ops oi oj = true
theorem zUl {ops : List Oper} (h : slotsOk ops = true) : SlOk ops := by
 simp only [slotsOk,List.all_eq_true] at h
 have hz : ∀ (j : Nat) (o : Oper),ops[j]? = some o → (o,j) ∈ ops.zipIdx := fun j o ho => List.mem_zipIdx_iff_getElem?.2 ho
 refine ⟨fun j oj hj e he hb => ?_,fun i j oi oj hi hj hij hb => ?_,fun i j oi oj hi hj hij hb => ?_⟩
 · have := h _ (hz j oj hj)
   simp only [yaw,List.all_eq_true] at this
   have := this.1 e (by simpa using he)
   simp [hb] at this
   exact this
 · have := h _ (hz j oj hj)
   simp only [yaw,List.all_eq_true] at this
   have := this.2 _ (hz i oi hi)
   simp only [hb,yal,Bool.or_eq_true,yax,List.any_eq_true,yaw] at this
   rcases this with h1 | ⟨e,he,h1,h2⟩
   · omega
   · exact ⟨e,by simpa using he,h1,h2⟩
 · have := h _ (hz j oj hj)
   simp only [yaw,List.all_eq_true] at this
   have := this.2 _ (hz i oi hi)
   simp only [hb,yaj,yak,Bool.or_eq_true,yax] at this
   exact this.resolve_left (by omega)
theorem zJy {n0 : Nat} {x y : DI} (h : disj n0 x y = true) : (∀ n ∈ x.wr,n ∉ y.wr ∧ n ∉ y.rd ∧ ¬ (y.old = true ∧ n < n0)) ∧ (∀ n ∈ y.wr,n ∉ x.rd ∧ ¬ (x.old = true ∧ n < n0)) := by
 simp only [disj,yaw,List.all_eq_true,Bool.not_eq_true',Bool.and_eq_false_iff,decide_eq_false_iff_not] at h
 have hm : ∀ {n : Nat} {l : List Nat},memb n l = false → n ∉ l := fun h hm => by rw [zEe.2 hm] at h; cases h
 refine ⟨fun n hn => ?_,fun n hn => ?_⟩
 · obtain ⟨h1,h2,h3⟩ := h.1 n hn
   refine ⟨hm h1,hm h2,fun hc => ?_⟩
   rcases h3 with h3 | h3
   · rw [hc.1] at h3; cases h3
   · exact h3 hc.2
 · obtain ⟨h1,h3⟩ := h.2 n hn
   refine ⟨hm h1,fun hc => ?_⟩
   rcases h3 with h3 | h3
   · rw [hc.1] at h3; cases h3
   · exact h3 hc.2
theorem zHn1 {n0 : Nat} {x y : DI} (h : (∀ n ∈ x.wr,n ∉ y.wr ∧ n ∉ y.rd ∧ ¬ (y.old = true ∧ n < n0)) ∧ (∀ n ∈ y.wr,n ∉ x.rd ∧ ¬ (x.old = true ∧ n < n0))) :
   (∀ n ∈ y.wr,n ∉ x.wr ∧ n ∉ x.rd ∧ ¬ (x.old = true ∧ n < n0)) ∧ (∀ n ∈ x.wr,n ∉ y.rd ∧ ¬ (y.old = true ∧ n < n0)) :=
 ⟨fun n hn => ⟨fun hx => (h.1 n hx).1 hn,h.2 n hn⟩,fun n hn => (h.1 n hn).2⟩
section order
variable {Φ : FuncId → Option Ct} {N n0 : Nat} {ops : List Oper} {es : List EI} {S0 : Nat → Option D} {H0 : Nat → Option Root} {Q : Exit → Act → World → Prop}
def Xof (listed : Array Bool) : Nat → Bool := fun i => listed.getD i false
def Dc (ops : List Oper) (X : Nat → Bool) : Prop := ∀ (j : Nat) (o : Oper),ops[j]? = some o → X j = true → ∀ e ∈ o.after,Region.binds .any e = true → X e.on = true
theorem Dc.anc (hs : SlOk ops) {X : Nat → Bool} (hd : Dc ops X) : ∀ (j i : Nat) (oi oj : Oper),ops[i]? = some oi → ops[j]? = some oj → i < j → X j = true → bfB (Region.before ops.toArray) i j = true → X i = true := by
 intro j
 induction j using Nat.strongRecOn with
 | _ j ih =>
   intro i oi oj hi hj hij hx hb
   obtain ⟨e,he,hbd,h⟩ := hs.just i j oi oj hi hj hij hb
   have hxe := hd j oj hj hx e he hbd
   rcases h with h | ⟨h1,h⟩
   · rw [← h]; exact hxe
   · have hlt := hs.lt j oj hj e he hbd
     have hjl : j < ops.length := (List.getElem?_eq_some_iff.1 hj).1
     exact ih e.on hlt i oi ops[e.on] hi (List.getElem?_eq_getElem (by omega)) h1 hxe h
theorem zDj1 {p q : Nat → Bool} {i : Nat} (hq : ∀ j,q j = true → p j = true) (hi : p i = true) (hqi : q i = false) : ∀ {l : List Nat},i ∈ l → (l.filter q).length < (l.filter p).length := by
 have hle : ∀ l : List Nat,(l.filter q).length ≤ (l.filter p).length := by
   intro l
   induction l with
   | nil => simp
   | cons x l ih =>
     simp only [List.filter_cons]
     by_cases h : q x = true
     · rw [if_pos h,if_pos (hq x h)]; simp; exact ih
     · rw [if_neg h]; split <;> (try simp) <;> omega
 intro l
 induction l with
 | nil => intro h; cases h
 | cons x l ih =>
   intro h
   simp only [List.filter_cons]
   by_cases e : x = i
   · subst e
     rw [if_pos hi,if_neg (by rw [hqi]; simp)]
     have := hle l
     simp; omega
   · have hm : i ∈ l := by
       rcases List.mem_cons.1 h with h | h
       · exact absurd h.symm e
       · exact h
     have := ih hm
     by_cases h2 : q x = true
     · rw [if_pos h2,if_pos (hq x h2)]; simp; exact this
     · rw [if_neg h2]; split <;> (try simp) <;> omega
theorem zCj1 (hs : SlOk ops) {listed : Array Bool} (hsz : listed.size = ops.length) (hr : Region.ready .any ops.toArray listed = []) : ∀ i,i < ops.length → Xof listed i = true := by
 intro i
 induction i using Nat.strongRecOn with
 | _ i ih =>
   intro hi
   cases hx : Xof listed i with
   | true => rfl
   | false =>
     have hm : i ∈ Region.ready .any ops.toArray listed := by
       have hoi : ops[i]? = some ops[i] := List.getElem?_eq_getElem hi
       refine mem_ready.2 ⟨?_,ops[i],by simp,fun e he hb => ?_⟩
       · simp only [Xof] at hx
         have hlt : i < listed.size := by omega
         simp [hlt] at hx ⊢; exact hx
       · have hlt := hs.lt i _ hoi e he hb
         exact ih e.on hlt (by omega)
     rw [hr] at hm; cases hm
theorem zLd1 {S S' : Nat → Option D} {x : Operand} (h : ∀ t ∈ oT x,S t = S' t) : ev S x = ev S' x := by
 cases x with
 | tmp t => exact h t (by simp [oT])
 | _ => rfl
theorem zJb {S S' : Nat → Option D} {x : Operand} (h : ∀ t ∈ oT x,S t = S' t) : vwO S x = vwO S' x := by
 unfold vwO; rw [zLd1 h]
theorem zKx {S S' : Nat → Option D} : ∀ {l : List Operand},(∀ t ∈ l.flatMap oT,S t = S' t) → l.flatMap (vwO S) = l.flatMap (vwO S')
 | [],_ => rfl
 | x :: l,h => by
   simp only [List.flatMap_cons,yaz] at h ⊢
   rw [zJb (fun t ht => h t (.inl ht)),zKx (fun t ht => h t (.inr ht))]
theorem zVf {S S' : Nat → Option D} {o : Op} (h : ∀ t ∈ opTm o,S t = S' t) : rdN S o = rdN S' o := by
 unfold rdN
 split
 · exact zJb (fun t ht => h t (by simpa [opTm] using ht))
 · exact zJb (fun t ht => h t (by simp only [opTm,yaz]; exact .inl ht))
 · rw [zJb (fun t ht => h t (by simp only [opTm,yaz]; exact .inl ht)),zKx (fun t ht => h t (by simp only [opTm,yaz]; exact .inr ht))]
 · exact zKx (fun t ht => h t (by simpa only [opTm] using ht))
 · rfl
theorem zOi {H H' : Nat → Option Root} : ∀ {L : List Nat},(∀ n ∈ L,H n = H' n) → nestH H L = nestH H' L
 | [],_ => rfl
 | n :: L,h => by
   have ih := zOi (L := L) (fun m hm => h m (.tail _ hm))
   simp only [nestH,List.flatMap_cons] at ih ⊢
   rw [h n (.head _),ih]
theorem zEn1 {S S' : Nat → Option D} {H H' : Nat → Option Root} {o : Op} (h : ∀ t ∈ opTm o,S t = S' t) (hH : ∀ n ∈ rdN S o,H n = H' n) : rdX S H o = rdX S' H' o := by
 unfold rdX
 rw [← zVf h,zOi hH]
theorem zCi1 {α : Type} {L : List Nat} {S S' : Nat → Option α} (h : ∀ t ∈ L,S t = S' t) : resF L S = resF L S' := by
 funext t
 simp only [resF]
 split
 · rename_i hm; exact h t (zEe.1 hm)
 · rfl
theorem zWo {s s' : List (Nat × Option D)} {o : Oper} (h : ∀ t ∈ lookT ops o,lk s t = lk s' t) {b : Bool} (hg : gOk ops s o b) : gOk ops s' o b := by
 unfold gOk at hg ⊢
 cases hgu : o.guard with
 | none => simp only [hgu] at hg ⊢; exact hg
 | some jw =>
   obtain ⟨j,want⟩ := jw
   simp only [hgu] at hg ⊢
   obtain ⟨t,ht,hg⟩ := hg
   have hm : t ∈ lookT ops o := by simp [lookT,hgu,ht]
   refine ⟨t,ht,?_⟩
   rw [← h t hm]; exact hg
theorem zIw {s : List (Nat × Option D)} {o : Oper} (h : gOk ops s o true) (h' : gOk ops s o false) : False := by
 unfold gOk at h h'
 split at h
 · rename_i hgu; simp only [hgu] at h'; cases h'
 · rename_i j want hgu
   simp only [hgu] at h'
   obtain ⟨t,ht,h⟩ := h
   obtain ⟨t',ht',h'⟩ := h'
   rw [ht] at ht'; injection ht' with ht'; subst ht'
   rcases h with ⟨b,hb,he⟩ | ⟨ds,hb,he⟩
   · rcases h' with ⟨b',hb',he'⟩ | ⟨ds',hb',he'⟩
     · rw [hb] at hb'
       simp only [yay,D.c.injEq,C.im.injEq,I.bool.injEq] at hb'
       subst hb'
       rw [← he] at he'; cases he'
     · rw [hb] at hb'; cases hb'
   · cases he
theorem zFe {acc : List DI} (h : rootsOk ops n0 acc = true) {x y : DI} (hx : x ∈ acc) (hy : y ∈ acc) (hlt : x.i < y.i) (hb : bfB (Region.before ops.toArray) x.i y.i = false) : disj n0 x y = true := by
 simp only [rootsOk,List.all_eq_true] at h
 have := h y hy x hx
 simp only [Bool.or_eq_true,yax,hb,yaj,false_or] at this
 exact this.resolve_left (by omega)
section again
variable {K : St → List DI → Prop} {X : Nat → Bool} {i : Nat}
structure Ag (ops : List Oper) (X : Nat → Bool) (i k : Nat) (st st2 : St) (acc acc2 : List DI) : Prop where
 s : ∀ t,(∀ j oj,j < k → i ≤ j → X j = false → ops[j]? = some oj → oj.dst ≠ some t) → lk st.s t = lk st2.s t
 h : ∀ n,(∀ y ∈ acc,i ≤ y.i → X y.i = false → n ∉ y.wr) → (∀ y ∈ acc2,i ≤ y.i → X y.i = false → n ∉ y.wr) → lk st.h n = lk st2.h n
 lt : ∀ y ∈ acc,y.i < k
 lt2 : ∀ y ∈ acc2,y.i < k
theorem zAj1 {st : St} {dst : Option Nat} {val : Option D} {wr : List (Nat × Option Root)} {c t : Nat} (h : dst ≠ some t) : lk (st.eff dst val wr c).s t = lk st.s t := by
 simp only [St.eff,zKr]
 cases dst with
 | none => rfl
 | some d => simp only [apS]; exact zBp _ _ (fun e => h (by rw [e]))
theorem zFy1 {st st2 : St} {dst : Option Nat} {val : Option D} {wr : List (Nat × Option Root)} {c t : Nat} (h : lk st.s t = lk st2.s t) : lk (st.eff dst val wr c).s t = lk (st2.eff dst val wr c).s t := by
 simp only [St.eff,zKr]
 cases dst with
 | none => exact h
 | some d => simp only [apS,upd]; split; rfl; exact h
theorem zAk1 {st : St} {dst : Option Nat} {val : Option D} {wr : List (Nat × Option Root)} {c n : Nat} (h : n ∉ wr.map (·.1)) : lk (st.eff dst val wr c).h n = lk st.h n := by
 simp only [St.eff,zKs,zLb,zJa h]
theorem zFz1 {st st2 : St} {dst : Option Nat} {val : Option D} {wr : List (Nat × Option Root)} {c n : Nat} (h : lk st.h n = lk st2.h n) : lk (st.eff dst val wr c).h n = lk (st2.eff dst val wr c).h n := by
 simp only [St.eff,zKs,zLb,h]
theorem Ag.same {k : Nat} {st st2 : St} {acc acc2 : List DI} (h : Ag ops X i k st st2 acc acc2) (o : Oper) (e : EI) :
   Ag ops X i (k + 1) (st.eff o.dst e.val e.wr 0) (st2.eff o.dst e.val e.wr 0) (⟨k,e.old,e.rd,e.wr.map (·.1)⟩ :: acc) (⟨k,e.old,e.rd,e.wr.map (·.1)⟩ :: acc2) := by
 refine ⟨fun t ht => zFy1 (h.s t (fun j oj hj => ht j oj (by omega))),fun n h1 h2 => zFz1 (h.h n (fun y hy => h1 y (.tail _ hy)) (fun y hy => h2 y (.tail _ hy))),fun y hy => ?_,fun y hy => ?_⟩
 · rcases List.mem_cons.1 hy with rfl | hy
   · simp
   · have := h.lt y hy; omega
 · rcases List.mem_cons.1 hy with rfl | hy
   · simp
   · have := h.lt2 y hy; omega
theorem Ag.other {k : Nat} {st st2 : St} {acc acc2 : List DI} (h : Ag ops X i k st st2 acc acc2) {o : Oper} (ho : ops[k]? = some o) (hx : X k = false) (hik : i ≤ k) (e e2 : EI) :
   Ag ops X i (k + 1) (st.eff o.dst e.val e.wr 0) (st2.eff o.dst e2.val e2.wr 0) (⟨k,e.old,e.rd,e.wr.map (·.1)⟩ :: acc) (⟨k,e2.old,e2.rd,e2.wr.map (·.1)⟩ :: acc2) := by
 refine ⟨fun t ht => ?_,fun n h1 h2 => ?_,fun y hy => ?_,fun y hy => ?_⟩
 · have hd := ht k o (by omega) hik hx ho
   rw [zAj1 hd,zAj1 hd]
   exact h.s t (fun j oj hj => ht j oj (by omega))
 · rw [zAk1 (h1 _ (.head _) hik hx),zAk1 (h2 _ (.head _) hik hx)]
   exact h.h n (fun y hy => h1 y (.tail _ hy)) (fun y hy => h2 y (.tail _ hy))
 · rcases List.mem_cons.1 hy with rfl | hy
   · simp
   · have := h.lt y hy; omega
 · rcases List.mem_cons.1 hy with rfl | hy
   · simp
   · have := h.lt2 y hy; omega
theorem Ok1.ei {o : Oper} {k : Nat} {st : St} {e : EI} (h : Ok1 P Φ N n0 ops o k st e) : (gOk ops st.s o true ∧ e = ⟨e.val,e.wr,isCallO o.op,rdX (lk st.s) (lk st.h) o.op⟩) ∨ (gOk ops st.s o false ∧ e = ⟨some (.tup []),[],false,[]⟩) := by
 rcases h.run with ⟨h1,h2,h3,_⟩ | h1
 · exact .inl ⟨h1,by cases e; simp_all⟩
 · exact .inr h1
theorem par (hs : SlOk ops) (hd : Dc ops X) (hxi : X i = false) (hK : ∀ st acc,K st acc → rootsOk ops n0 acc = true) :
   ∀ (l : List Oper) (k : Nat) (st st2 : St) (acc acc2 : List DI) (es : List EI) (st' : St) (tg : Tag K),l = ops.drop k → i < k → DRun P Φ N n0 ops l k st es st' → rootsOk ops n0 (accL k es acc) = true →
     drX P Φ N n0 ops l k st2 acc2 K tg → Ag ops X i k st st2 acc acc2 →
     ∃ es2 st2',DRun P Φ N n0 ops l k st2 es2 st2' ∧ K st2' (accL k es2 acc2) ∧ es2.length = es.length ∧ ∀ j e,X (k + j) = true → es[j]? = some e → es2[j]? = some e
 | [],k,st,st2,acc,acc2,es,st',tg,hl,hik,hold,hro,hnew,hag => by
   cases hold with
   | nil => exact ⟨[],st2,.nil _ _,hnew,rfl,fun j e _ h => by simp at h⟩
 | o :: r,k,st,st2,acc,acc2,es,st',tg,hl,hik,hold,hro,hnew,hag => by
   have hok : ops[k]? = some o := by have := congrArg (·[0]?) hl; simpa using this.symm
   have hr : r = ops.drop (k + 1) := by
     have := congrArg List.tail hl
     simpa [List.tail_drop] using this
   have hkl : k < ops.length := (List.getElem?_eq_some_iff.1 hok).1
   cases hold with
   | cons h1 hrest =>
     rename_i e es
     by_cases hx : X k = true
     ·
       have hbf : ∀ j oj,j < k → X j = false → ops[j]? = some oj → bfB (Region.before ops.toArray) j k = false := fun j oj hj hxj hoj => by
         cases hb : bfB (Region.before ops.toArray) j k with
         | false => rfl
         | true => have := Dc.anc hs hd k j oj o hoj hok hj hx hb; rw [hxj] at this; cases this
       have hsl : ∀ t ∈ lookT ops o,lk st.s t = lk st2.s t := fun t ht => hag.s t (fun j oj hj hij hxj hoj hdt =>
         (zIz (hs.apart j k oj o hoj hok hj (hbf j oj hj hxj hoj))).1 t hdt ht)
       have hsl' : ∀ t ∈ opTm o.op,lk st.s t = lk st2.s t := fun t ht => hsl t (by simp only [lookT,yaz]; exact .inl ht)
       have hF : resF (lookT ops o) (lk st2.s) = resF (lookT ops o) (lk st.s) := (zCi1 hsl).symm
       rcases h1.ei with ⟨hg,hee⟩ | ⟨hg,hee⟩
       · rcases zHx hnew with ⟨hg2,X2,hX2,⟨e0,he0⟩,hall2⟩ | ⟨hg2,_⟩
         · have hroots : ∀ n,((isCallO o.op = true ∧ n < n0) ∨ (n ∈ rdX (lk st.s) (lk st.h) o.op ∧ n ∈ rdX (lk st2.s) (lk st2.h) o.op)) → lk st2.h n = lk st.h n := fun n hn => by
             refine (hag.h n (fun y hy hiy hxy hw => ?_) (fun y hy hiy hxy hw => ?_)).symm
             · have hlt := hag.lt y hy
               obtain ⟨oj,hoj⟩ : ∃ oj,ops[y.i]? = some oj := ⟨_,List.getElem?_eq_getElem (by omega)⟩
               have hm1 : y ∈ accL k (e :: es) acc := zIb.1 y hy
               have hm2 : (⟨k,e.old,e.rd,e.wr.map (·.1)⟩ : DI) ∈ accL k (e :: es) acc := by
                 have := (zIb (es := e :: es) (i := k) (acc := acc)).2 0 e rfl
                 simpa using this
               have hdj := (zJy (zFe hro hm1 hm2 hlt (hbf y.i oj hlt hxy hoj))).1 n hw
               rw [hee] at hdj
               rcases hn with hn | hn
               · exact hdj.2.2 hn
               · exact hdj.2.1 hn.1
             · have hlt := hag.lt2 y hy
               obtain ⟨oj,hoj⟩ : ∃ oj,ops[y.i]? = some oj := ⟨_,List.getElem?_eq_getElem (by omega)⟩
               obtain ⟨es3,st3,hd3,hk3⟩ := zBb1 (hall2 e0 he0).2
               have hro3 := hK _ _ hk3
               have hm1 : y ∈ accL (k + 1) es3 (⟨k,isCallO o.op,rdX (lk st2.s) (lk st2.h) o.op,e0.wr.map (·.1)⟩ :: acc2) := zIb.1 y (.tail _ hy)
               have hm2 : (⟨k,isCallO o.op,rdX (lk st2.s) (lk st2.h) o.op,e0.wr.map (·.1)⟩ : DI) ∈ accL (k + 1) es3 (⟨k,isCallO o.op,rdX (lk st2.s) (lk st2.h) o.op,e0.wr.map (·.1)⟩ :: acc2) := zIb.1 _ (.head _)
               have hdj := (zJy (zFe hro3 hm1 hm2 hlt (hbf y.i oj hlt hxy hoj))).1 n hw
               rcases hn with hn | hn
               · exact hdj.2.2 hn
               · exact hdj.2.1 hn.2
           have hrd : rdX (lk st2.s) (lk st2.h) o.op = rdX (lk st.s) (lk st.h) o.op := (zEn1 hsl' (fun n hn => (hroots n (.inr ⟨List.mem_append_left _ hn,List.mem_append_left _ (by rw [← zVf hsl']; exact hn)⟩)).symm)).symm
           have hH : resH n0 (isCallO o.op) (rdX (lk st.s) (lk st.h) o.op) (lk st2.h) = resH n0 (isCallO o.op) (rdX (lk st.s) (lk st.h) o.op) (lk st.h) := by
             funext n
             simp only [resH]
             split
             · rename_i hn
               rw [zEe] at hn
               exact hroots n (hn.imp id (fun h => ⟨h,by rw [hrd]; exact h⟩))
             · rfl
           rw [hrd,hF,hH] at hX2
           have hin : ∃ cnt,X2 ⟨e.val,e.wr,cnt⟩ := by
             rcases h1.run with ⟨_,_,_,_,X1,cnt,hX1,hx1⟩ | ⟨hg',_⟩
             · rw [hX1] at hX2; injection hX2 with hX2; subst hX2; exact ⟨cnt,hx1⟩
             · exact (zIw hg hg').elim
           obtain ⟨cnt,hin⟩ := hin
           obtain ⟨hok2,hnew2⟩ := hall2 _ hin
           rw [hrd,← hee] at hok2
           have hag2 := hag.same o e
           rw [show (⟨k,isCallO o.op,rdX (lk st2.s) (lk st2.h) o.op,e.wr.map (·.1)⟩ : DI) = ⟨k,e.old,e.rd,e.wr.map (·.1)⟩ by rw [hrd]; rw [hee]] at hnew2
           obtain ⟨es2,st2',q1,q2,q3,q4⟩ := par hs hd hxi hK r (k + 1) _ _ _ _ es st' tg hr (by omega) hrest hro hnew2 hag2
           refine ⟨e :: es2,st2',.cons hok2 q1,q2,by simp [q3],fun j e1 hxj hj => ?_⟩
           cases j with
           | zero => simpa using hj
           | succ j => exact q4 j e1 (by rw [show k + 1 + j = k + (j + 1) by omega]; exact hxj) hj
         · exact (zIw (zWo hsl hg) hg2).elim
       · rcases zHx hnew with ⟨hg2,_⟩ | ⟨hg2,hok2,hnew2⟩
         · exact (zIw hg2 (zWo hsl hg)).elim
         · subst hee
           obtain ⟨es2,st2',q1,q2,q3,q4⟩ := par hs hd hxi hK r (k + 1) _ _ _ _ es st' tg hr (by omega) hrest hro hnew2 (hag.same o ⟨some (.tup []),[],false,[]⟩)
           refine ⟨_ :: es2,st2',.cons hok2 q1,q2,by simp [q3],fun j e1 hxj hj => ?_⟩
           cases j with
           | zero => simpa using hj
           | succ j => exact q4 j e1 (by rw [show k + 1 + j = k + (j + 1) by omega]; exact hxj) hj
     · have hx' : X k = false := by simpa using hx
       have go : ∀ (e2 : EI),Ok1 P Φ N n0 ops o k st2 e2 → drX P Φ N n0 ops r (k + 1) (st2.eff o.dst e2.val e2.wr 0) (⟨k,e2.old,e2.rd,e2.wr.map (·.1)⟩ :: acc2) K tg →
           ∃ es2 st2',DRun P Φ N n0 ops (o :: r) k st2 es2 st2' ∧ K st2' (accL k es2 acc2) ∧ es2.length = (e :: es).length ∧ ∀ j e1,X (k + j) = true → (e :: es)[j]? = some e1 → es2[j]? = some e1 := fun e2 hok2 hnew2 => by
         obtain ⟨es2,st2',q1,q2,q3,q4⟩ := par hs hd hxi hK r (k + 1) _ _ _ _ es st' tg hr (by omega) hrest hro hnew2 (hag.other hok hx' (by omega) e e2)
         refine ⟨e2 :: es2,st2',.cons hok2 q1,q2,by simp [q3],fun j e1 hxj hj => ?_⟩
         cases j with
         | zero => rw [Nat.add_zero,hx'] at hxj; cases hxj
         | succ j => exact q4 j e1 (by rw [show k + 1 + j = k + (j + 1) by omega]; exact hxj) hj
       rcases zHx hnew with ⟨_,X2,_,⟨e0,he0⟩,hall2⟩ | ⟨_,hok2,hnew2⟩
       · obtain ⟨h4,h5⟩ := hall2 e0 he0
         exact go _ h4 h5
       · exact go _ hok2 hnew2
theorem pre {S0 : Nat → Option D} {H0 : Nat → Option Root} {es : List EI} (hi : i < ops.length) : ∀ (n : Nat) (l : List Oper) (k : Nat) (st : St) (acc : List DI) (es1 : List EI) (st' : St) (tg : Tag K),n = i - k → l = ops.drop k → es1 = es.drop k → k ≤ i → DRun P Φ N n0 ops l k st es1 st' → drX P Φ N n0 ops l k st acc K tg →
     lk st.s = Fg (Ws ops es) allT S0 k → lk st.h = Fg (Wh es) allT H0 k → (∀ y ∈ acc,y.i < k) →
     ∃ (o : Oper) (sti : St) (acci : List DI) (e : EI),ops[i]? = some o ∧ es[i]? = some e ∧ lk sti.s = Fg (Ws ops es) allT S0 i ∧ lk sti.h = Fg (Wh es) allT H0 i ∧ (∀ y ∈ acci,y.i < i) ∧ drX P Φ N n0 ops (ops.drop i) i sti acci K tg ∧ DRun P Φ N n0 ops (ops.drop i) i sti (es.drop i) st' ∧
       accL k es1 acc = accL i (es.drop i) acci ∧ ∀ es2 st2,DRun P Φ N n0 ops (ops.drop i) i sti es2 st2 → DRun P Φ N n0 ops l k st ((es.drop k).take (i - k) ++ es2) st2 ∧ accL k ((es.drop k).take (i - k) ++ es2) acc = accL i es2 acci
 | 0,l,k,st,acc,es1,st',tg,hn,hl,he1,hk,hrun,hx,hs,hh,hlt => by
   have : k = i := by omega
   subst this
   subst hl; subst he1
   have hoi : ops[k]? = some ops[k] := List.getElem?_eq_getElem hi
   obtain ⟨e,hee⟩ : ∃ e,es[k]? = some e := by
     rw [List.drop_eq_getElem_cons hi] at hrun
     generalize hdr : es.drop k = ed at hrun
     cases hrun with
     | cons h1 h2 =>
       rename_i e es'
       exact ⟨e,by have := congrArg (·[0]?) hdr; simpa using this⟩
   exact ⟨_,st,acc,e,hoi,hee,hs,hh,hlt,hx,hrun,rfl,fun es2 st2 h => by simp; exact h⟩
 | n + 1,l,k,st,acc,es1,st',tg,hn,hl,he1,hk,hrun,hx,hs,hh,hlt => by
   have hkl : k < ops.length := by omega
   have hki : k < i := by omega
   rw [List.drop_eq_getElem_cons hkl] at hl
   subst hl
   have hoi : ops[k]? = some ops[k] := List.getElem?_eq_getElem hkl
   generalize ops[k] = o at *
   cases hrun with
   | cons h1 h2 =>
     rename_i e es'
     have hei : es[k]? = some e := by
       have := congrArg (·[0]?) he1; simpa using this.symm
     have hed : es.getD k default = e := by simp [List.getD,hei]
     have hgs : gSlot ops k = o.dst := by simp [gSlot,hoi]
     have hs' : lk (st.eff o.dst e.val e.wr 0).s = Fg (Ws ops es) allT S0 (k + 1) := by
       funext t
       simp only [St.eff,zKr,Fg,yal,Ws,hgs,hed,hs]
       cases o.dst with
       | none => rfl
       | some d =>
         simp only [apS,upd]
         split <;> rfl
     have hh' : lk (st.eff o.dst e.val e.wr 0).h = Fg (Wh es) allT H0 (k + 1) := by
       funext t
       simp only [St.eff,zKs,Fg,yal,Wh,hed,hh,zLb]
       cases wlk e.wr t <;> rfl
     have hnew : drX P Φ N n0 ops (ops.drop (k + 1)) (k + 1) (st.eff o.dst e.val e.wr 0) (⟨k,e.old,e.rd,e.wr.map (·.1)⟩ :: acc) K tg := by
       rcases zHx hx with ⟨hg2,X2,hX2,_,hall2⟩ | ⟨hg2,hok2,hnew2⟩
       · rcases h1.run with ⟨_,e1,e2,_,X1,cnt,hX1,hx1⟩ | ⟨hg',_⟩
         · rw [hX1] at hX2; injection hX2 with hX2; subst hX2
           have := (hall2 _ hx1).2
           rw [e1,e2]; exact this
         · exact (zIw hg2 hg').elim
       · rcases h1.run with ⟨hg',_⟩ | ⟨_,he⟩
         · exact (zIw hg' hg2).elim
         · subst he; exact hnew2
     have hdrop : es' = es.drop (k + 1) := by
       have := congrArg List.tail he1
       simpa [List.tail_drop] using this
     obtain ⟨o',sti,acci,ei,q1,q2,q3,q4,q5,q6,q7,q8,q9⟩ := pre hi n _ (k + 1) _ _ es' st' tg (by omega) rfl hdrop (by omega) h2 hnew hs' hh' (fun y hy => by
       rcases List.mem_cons.1 hy with rfl | hy
       · simp
       · have := hlt y hy; omega)
     refine ⟨o',sti,acci,ei,q1,q2,q3,q4,q5,q6,q7,q8,fun es2 st2 hd2 => ?_⟩
     obtain ⟨r1,r2⟩ := q9 es2 st2 hd2
     have hsplit : (es.drop k).take (i - k) = e :: (es.drop (k + 1)).take (i - (k + 1)) := by
       rw [← he1,← hdrop,show i - k = (i - (k + 1)) + 1 by omega,List.take_succ_cons]
     rw [hsplit]
     exact ⟨.cons h1 r1,r2⟩
end again
theorem zIi1 {κ V : Type} {W W' : Nat → κ → Option V} {X : Nat → Bool} {init : κ → V} : ∀ (n : Nat),(∀ j,j < n → X j = true → W j = W' j) → Fg W X init n = Fg W' X init n
 | 0,_ => rfl
 | n + 1,h => by
   funext k
   simp only [Fg]
   rw [zIi1 n (fun j hj => h j (by omega))]
   split
   · rename_i hx; rw [h n (by omega) hx]
   · rfl
theorem DRun.len {l : List Oper} {k : Nat} {st st' : St} {es : List EI} (h : DRun P Φ N n0 ops l k st es st') : es.length = l.length := by
 induction h with
 | nil => rfl
 | cons _ _ ih => simp [ih]
theorem zEx1 (hΦ : Env P Φ) (hs : SlOk ops) {st0 : St} {Kf : St → Prop} {tg : Tag (fun st acc => rootsOk ops n0 acc = true ∧ Kf st)}
   (hX : drX P Φ N n0 ops ops 0 st0 [] (fun st acc => rootsOk ops n0 acc = true ∧ Kf st) tg)
   (hQ : ∀ st g a w,Kf st → (∀ m,g.used m → m < n0 + 8 * ops.length) → Rel en g (lk st.s) (lk st.h) a w → a.tmps.size = N → Q .normal a w) :
   ∀ (fuel : Nat) (listed : Array Bool) (es : List EI) (st' : St) (g : Gh) (a : Act) (w : World),listed.size = ops.length → Dc ops (Xof listed) → ((List.range ops.length).filter fun i => !Xof listed i).length ≤ fuel →
     DRun P Φ N n0 ops ops 0 st0 es st' → rootsOk ops n0 (accL 0 es []) = true → Kf st' →
     Rel en g (Fg (Ws ops es) (Xof listed) (lk st0.s) ops.length) (Fg (Wh es) (Xof listed) (lk st0.h) ops.length) a w → (∀ m,g.used m → m < n0 ∨ ∃ i,i < ops.length ∧ Xof listed i = true ∧ n0 + 8 * i ≤ m ∧ m < n0 + 8 * i + 8) → a.tmps.size = N →
     wpAny P .any ops.toArray Q fuel listed a w := by
 have hfull : ∀ (listed : Array Bool) (es : List EI) (st' : St) (g : Gh) (a : Act) (w : World),listed.size = ops.length → DRun P Φ N n0 ops ops 0 st0 es st' → Kf st' → Rel en g (Fg (Ws ops es) (Xof listed) (lk st0.s) ops.length) (Fg (Wh es) (Xof listed) (lk st0.h) ops.length) a w →
     (∀ m,g.used m → m < n0 ∨ ∃ i,i < ops.length ∧ Xof listed i = true ∧ n0 + 8 * i ≤ m ∧ m < n0 + 8 * i + 8) → a.tmps.size = N → Region.ready .any ops.toArray listed = [] → Q .normal a w := by
   intro listed es st' g a w hsz hrun hk h hu hN hr
   have hXf := zCj1 hs hsz hr
   obtain ⟨k1,k2,k3⟩ := DRun.all (es := es) (S0 := lk st0.s) (H0 := lk st0.h) hrun rfl rfl rfl rfl (Nat.zero_le _) (.inr trivial)
   refine hQ st' g a w hk (fun m hm => ?_) ?_ hN
   · rcases hu m hm with h1 | ⟨i,h1,_,_,h2⟩ <;> omega
   · rw [k2,k3]
     have e1 : ∀ t,Fg (Ws ops es) (Xof listed) (lk st0.s) ops.length t = Fg (Ws ops es) allT (lk st0.s) ops.length t := fun t => zLd _ (Nat.le_refl _) (fun j hj hj' => by omega) (fun j hj hne => absurd (hXf j hj) hne)
     have e2 : ∀ t,Fg (Wh es) (Xof listed) (lk st0.h) ops.length t = Fg (Wh es) allT (lk st0.h) ops.length t := fun t => zLd _ (Nat.le_refl _) (fun j hj hj' => by omega) (fun j hj hne => absurd (hXf j hj) hne)
     exact h.less (fun t d ht => by rw [e1]; exact ht) (fun t d ht => by rw [e2]; exact ht)
 intro fuel
 induction fuel with
 | zero =>
   intro listed es st' g a w hsz hd hc hrun hro hk h hu hN
   have hr : Region.ready .any ops.toArray listed = [] := by
     cases hr : Region.ready .any ops.toArray listed with
     | nil => rfl
     | cons i l =>
       exfalso
       have hm : i ∈ Region.ready .any ops.toArray listed := by rw [hr]; exact .head _
       obtain ⟨h1,o,ho,_⟩ := mem_ready.1 hm
       have hi : i < ops.length := by simpa using (Array.getElem?_eq_some_iff.1 ho).1
       have : i ∈ (List.range ops.length).filter fun i => !Xof listed i := by
         refine List.mem_filter.2 ⟨List.mem_range.2 hi,?_⟩
         have hlt : i < listed.size := by omega
         simp [hlt] at h1
         simp [Xof,hlt,h1]
       have hl := List.length_pos_of_mem this
       omega
   exact ⟨hr,hfull listed es st' g a w hsz hrun hk h hu hN hr⟩
 | succ fuel ih =>
   intro listed es st' g a w hsz hd hc hrun hro hk h hu hN
   refine ⟨fun hr => hfull listed es st' g a w hsz hrun hk h hu hN hr,fun i hi => ?_⟩
   obtain ⟨h1,o,ho',hpre⟩ := mem_ready.1 hi
   have ho : ops[i]? = some o := by simpa using ho'
   have hil : i < ops.length := (List.getElem?_eq_some_iff.1 ho).1
   have hxi : Xof listed i = false := by
     have hlt : i < listed.size := by omega
     simp [hlt] at h1
     simp [Xof,hlt,h1]
   have hafter : ∀ j oj,ops[j]? = some oj → i < j → Xof listed j = true → bfB (Region.before ops.toArray) i j = false := fun j oj hj hij hxj => by
     cases hb : bfB (Region.before ops.toArray) i j with
     | false => rfl
     | true => have := Dc.anc hs hd j i o oj ho hj hij hxj hb; rw [hxi] at this; cases this
   have hbefore : ∀ j oj,ops[j]? = some oj → j < i → Xof listed j = false → bfB (Region.before ops.toArray) j i = false := fun j oj hj hij hxj => by
     cases hb : bfB (Region.before ops.toArray) j i with
     | false => rfl
     | true =>
       obtain ⟨e,he,hbd,h2⟩ := hs.just j i oj o hj ho hij hb
       have hxe : Xof listed e.on = true := hpre e he hbd
       rcases h2 with h2 | ⟨h2,h3⟩
       · rw [h2] at hxe; rw [hxe] at hxj; cases hxj
       · have hlt := hs.lt i o ho e he hbd
         have := Dc.anc hs hd e.on j oj ops[e.on] hj (List.getElem?_eq_getElem (by omega)) h2 hxe h3
         rw [this] at hxj; cases hxj
   have hslot : ∀ (es : List EI) j t,j < ops.length → j ≠ i → ((i < j ∧ Xof listed j = true) ∨ (j < i ∧ Xof listed j = false)) → (t ∈ lookT ops o ∨ o.dst = some t) → Ws ops es j t = none := fun es j t hj hne hc' ht => by
     have hoj : ops[j]? = some ops[j] := List.getElem?_eq_getElem hj
     have key : ∀ d,ops[j].dst = some d → t ≠ d := fun d hdj htd => by
       subst htd
       rcases hc' with ⟨hlt,hx⟩ | ⟨hlt,hx⟩
       · obtain ⟨k1,k2,k3⟩ := zIz (hs.apart i j o _ ho hoj hlt (hafter j _ hoj hlt hx))
         rcases ht with ht | ht
         · exact k3 t hdj ht
         · exact k2 t ht hdj
       · obtain ⟨k1,k2,k3⟩ := zIz (hs.apart j i _ o hoj ho hlt (hbefore j _ hoj hlt hx))
         rcases ht with ht | ht
         · exact k1 t hdj ht
         · exact k2 t hdj ht
     have hg : gSlot ops j = ops[j].dst := by simp [gSlot,hoj]
     simp only [Ws,hg]
     cases hdj : ops[j].dst with
     | none => rfl
     | some d => simp only []; rw [if_neg (key d hdj)]
   have hroot : ∀ (es : List EI),es.length = ops.length → rootsOk ops n0 (accL 0 es []) = true → ∀ j,j < ops.length → j ≠ i → ((i < j ∧ Xof listed j = true) ∨ (j < i ∧ Xof listed j = false)) →
       (∀ n ∈ (es.getD j default).wr.map (·.1),n ∉ (es.getD i default).wr.map (·.1) ∧ n ∉ (es.getD i default).rd ∧ ¬ ((es.getD i default).old = true ∧ n < n0)) := fun es hle hro j hj hne hc' n hn => by
     have hdi : ∀ (k : Nat),k < ops.length → (⟨k,(es.getD k default).old,(es.getD k default).rd,(es.getD k default).wr.map (·.1)⟩ : DI) ∈ accL 0 es [] := fun k hk => by
       have hek : es[k]? = some es[k] := List.getElem?_eq_getElem (by omega)
       have := (zIb (es := es) (i := 0) (acc := [])).2 k _ hek
       simpa [List.getD,hek] using this
     have hoj : ops[j]? = some ops[j] := List.getElem?_eq_getElem hj
     rcases hc' with ⟨hlt,hx⟩ | ⟨hlt,hx⟩
     · exact (zHn1 (zJy (zFe hro (hdi i hil) (hdi j hj) hlt (hafter j _ hoj hlt hx)))).1 n hn
     · exact (zJy (zFe hro (hdi j hj) (hdi i hil) hlt (hbefore j _ hoj hlt hx))).1 n hn
   obtain ⟨o9,sti,acci,ei,ho9,hei,hss,hhh,hacci,hXi,hRi,hacc,hglue⟩ := pre (K := fun st acc => rootsOk ops n0 acc = true ∧ Kf st) (es := es) (S0 := lk st0.s) (H0 := lk st0.h) hil i ops 0 st0 [] es st' tg (by omega) rfl rfl (Nat.zero_le _) hrun hX rfl rfl (by simp)
   rw [ho] at ho9; injection ho9 with ho9; subst ho9
   have hlenes : es.length = ops.length := DRun.len hrun
   have hed : es.getD i default = ei := by simp [List.getD,hei]
   have h1' : ops.drop i = o :: ops.drop (i + 1) := by
     rw [List.drop_eq_getElem_cons hil]
     rw [List.getElem?_eq_getElem hil] at ho; injection ho with ho; rw [ho]
   have h2' : es.drop i = ei :: es.drop (i + 1) := by
     have hl' : i < es.length := by omega
     rw [List.drop_eq_getElem_cons hl']
     rw [List.getElem?_eq_getElem hl'] at hei; injection hei with hei; rw [hei]
   obtain ⟨hok,hRr⟩ : Ok1 P Φ N n0 ops o i sti ei ∧ DRun P Φ N n0 ops (ops.drop (i + 1)) (i + 1) (sti.eff o.dst ei.val ei.wr 0) (es.drop (i + 1)) st' := by
     rw [h1',h2'] at hRi
     cases hRi with
     | cons a b => exact ⟨a,b⟩
   rw [h1'] at hXi
   have hroi : rootsOk ops n0 (accL (i + 1) (es.drop (i + 1)) (⟨i,ei.old,ei.rd,ei.wr.map (·.1)⟩ :: acci)) = true := by
     rw [hacc,h2'] at hro; exact hro
   have hXY : ∀ j,j < i → Xof listed j ≠ allT j → Xof listed j = false := fun j _ hne => by
     cases hx : Xof listed j with
     | false => rfl
     | true => exact absurd hx hne
   have hSp : ∀ t d,resF (lookT ops o) (lk sti.s) t = some d → Fg (Ws ops es) (Xof listed) (lk st0.s) ops.length t = some d := fun t d ht => by
     simp only [resF] at ht
     split at ht
     · rename_i hm
       rw [zEe] at hm
       rw [hss] at ht
       rw [← ht]
       refine zLd _ (Nat.le_of_lt hil) (fun j hj hij hx => ?_) (fun j hj hne => ?_)
       · have hne : j ≠ i := fun e => by subst e; rw [hxi] at hx; cases hx
         exact hslot es j t hj hne (.inl ⟨by omega,hx⟩) (.inl hm)
       · exact hslot es j t (by omega) (by omega) (.inr ⟨hj,hXY j hj hne⟩) (.inl hm)
     · cases ht
   have hHp : ∀ n r,resH n0 (es.getD i default).old (es.getD i default).rd (lk sti.h) n = some r → Fg (Wh es) (Xof listed) (lk st0.h) ops.length n = some r := fun n r ht => by
     simp only [resH] at ht
     split at ht
     · rename_i hm
       rw [zEe] at hm
       rw [hhh] at ht
       rw [← ht]
       have hw : ∀ j,j < ops.length → j ≠ i → ((i < j ∧ Xof listed j = true) ∨ (j < i ∧ Xof listed j = false)) → Wh es j n = none := fun j hj hne hc' => zJa (fun hn => by
         obtain ⟨_,k2,k3⟩ := hroot es hlenes hro j hj hne hc' n hn
         rcases hm with hm | hm
         · exact k3 hm
         · exact k2 hm)
       refine zLd _ (Nat.le_of_lt hil) (fun j hj hij hx => ?_) (fun j hj hne => ?_)
       · have hne : j ≠ i := fun e => by subst e; rw [hxi] at hx; cases hx
         exact hw j hj hne (.inl ⟨by omega,hx⟩)
       · exact hw j (by omega) (by omega) (.inr ⟨hj,hXY j hj hne⟩)
     · cases ht
   have hX' : ∀ j,Xof (listed.setIfInBounds i true) j = if j = i then true else Xof listed j := fun j => by
     simp only [Xof,Array.getD_eq_getD_getElem?,Array.getElem?_setIfInBounds]
     by_cases e : i = j
     · subst e; simp [show i < listed.size by omega]
     · simp [e,Ne.symm e]
   have hbehind : ∀ (es2 : List EI),es2.length = ops.length → rootsOk ops n0 (accL 0 es2 []) = true → (∀ j,j < ops.length → Xof listed j = true → es2.getD j default = es.getD j default) →
       Fg (Ws ops es2) (Xof (listed.setIfInBounds i true)) (lk st0.s) ops.length = apS o.dst (es2.getD i default).val (Fg (Ws ops es) (Xof listed) (lk st0.s) ops.length) ∧
       Fg (Wh es2) (Xof (listed.setIfInBounds i true)) (lk st0.h) ops.length = apH (es2.getD i default).wr (Fg (Wh es) (Xof listed) (lk st0.h) ops.length) := fun es2 hl2 hro2 hsame => by
     have q1 : Fg (Ws ops es) (Xof listed) (lk st0.s) ops.length = Fg (Ws ops es2) (Xof listed) (lk st0.s) ops.length := zIi1 _ (fun j hj hx => by funext t; simp only [Ws,hsame j hj hx])
     have q2 : Fg (Wh es) (Xof listed) (lk st0.h) ops.length = Fg (Wh es2) (Xof listed) (lk st0.h) ops.length := zIi1 _ (fun j hj hx => by funext t; simp only [Wh,hsame j hj hx])
     rw [q1,q2]
     refine ⟨?_,?_⟩
     · funext t
       have hg : gSlot ops i = o.dst := by simp [gSlot,ho]
       rw [zIj1 hX' hxi ops.length (fun j hj hij hx => by
         by_cases hw : Ws ops es2 i t = none
         · exact .inl hw
         · refine .inr (hslot es2 j t hj (by omega) (.inl ⟨hij,hx⟩) (.inr ?_))
           simp only [Ws,hg] at hw
           cases hd : o.dst with
           | none => simp [hd] at hw
           | some d =>
             simp only [hd] at hw
             by_cases e : t = d
             · rw [e]
             · rw [if_neg e] at hw; exact absurd rfl hw),if_pos hil]
       simp only [Ws,hg]
       cases hd : o.dst with
       | none => rfl
       | some d =>
         simp only [apS,upd]
         by_cases e : t = d
         · rw [if_pos e,if_pos e]
         · rw [if_neg e,if_neg e]
     · funext n
       rw [zIj1 hX' hxi ops.length (fun j hj hij hx => by
         by_cases hw : n ∈ (es2.getD i default).wr.map (·.1)
         · exact .inr (zJa (fun hn => (hroot es2 hl2 hro2 j hj (by omega) (.inl ⟨hij,hx⟩) n hn).1 hw))
         · exact .inl (zJa hw)),if_pos hil,zLb]
       simp only [Wh]
       cases wlk (es2.getD i default).wr n <;> rfl
   have hsz' : (listed.setIfInBounds i true).size = ops.length := by simpa using hsz
   have hd' : Dc ops (Xof (listed.setIfInBounds i true)) := fun j oj hj hx e he hb => by
     rw [hX'] at hx ⊢
     by_cases e1 : e.on = i
     · rw [if_pos e1]
     · rw [if_neg e1]
       by_cases e2 : j = i
       · subst e2
         rw [ho] at hj; injection hj with hj; subst hj
         exact hpre e he hb
       · rw [if_neg e2] at hx; exact hd j oj hj hx e he hb
   have hc' : ((List.range ops.length).filter fun i_1 => !Xof (listed.setIfInBounds i true) i_1).length ≤ fuel := by
     have := zDj1 (p := fun j => !Xof listed j) (q := fun j => !Xof (listed.setIfInBounds i true) j) (i := i) (fun j hj => by
       simp only [hX'] at hj
       by_cases e : j = i
       · simp [e] at hj
       · simpa [e] using hj) (by simp [hxi]) (by simp [hX']) (l := List.range ops.length) (List.mem_range.2 hil)
     omega
   have hnext : ∀ {es2 : List EI} {st2 : St} {g' : Gh} {a' : Act} {w' : World},DRun P Φ N n0 ops ops 0 st0 es2 st2 → rootsOk ops n0 (accL 0 es2 []) = true → Kf st2 → (∀ j,j < ops.length → Xof listed j = true → es2.getD j default = es.getD j default) →
       (∀ m,g'.used m → g.used m ∨ (n0 + 8 * i ≤ m ∧ m < n0 + 8 * i + 8)) → Rel en g' (apS o.dst (es2.getD i default).val (Fg (Ws ops es) (Xof listed) (lk st0.s) ops.length)) (apH (es2.getD i default).wr (Fg (Wh es) (Xof listed) (lk st0.h) ops.length)) a' w' → a'.tmps.size = N →
       wpAny P .any ops.toArray Q fuel (listed.setIfInBounds i true) a' w' := fun {es2 st2 g' a' w'} r1 r2 r3 r4 k1 k2 k3 => by
     obtain ⟨b1,b2⟩ := hbehind es2 (DRun.len r1) r2 r4
     refine ih (listed.setIfInBounds i true) es2 st2 _ _ _ hsz' hd' hc' r1 r2 r3 (by rw [b1,b2]; exact k2) (fun m hm => ?_) k3
     rcases k1 m hm with hm | hm
     · rcases hu m hm with hm | ⟨j,h1,h2,h3⟩
       · exact .inl hm
       · exact .inr ⟨j,h1,by rw [hX']; split <;> simp [h2],h3⟩
     · exact .inr ⟨i,hil,by rw [hX']; simp,hm⟩
   have hdst : ∀ t,o.dst = some t → t < N := fun t ht => by have := hok.dst; rw [ht] at this; exact this
   have hgd : ∀ b,gOk ops sti.s o b → Region.wanted o (yielded ops.toArray a.tmps) = b := fun b hg => by
     unfold gOk at hg
     cases hgu : o.guard with
     | none => rw [hgu] at hg; simp only [] at hg; simp [Region.wanted,hgu,hg]
     | some jw =>
       obtain ⟨j,want⟩ := jw
       rw [hgu] at hg
       obtain ⟨t,ht,hg⟩ := hg
       have hlt : t ∈ lookT ops o := by simp [lookT,hgu,ht]
       rcases hg with ⟨b',hb',rfl⟩ | ⟨ds,hb',rfl⟩
       · have hv := hSp t _ (by simp only [resF]; rw [if_pos (zEe.2 hlt)]; exact hb')
         have hy := zLe h ht hv
         simp [Region.wanted,hgu,hy]
       · have hv := hSp t _ (by simp only [resF]; rw [if_pos (zEe.2 hlt)]; exact hb')
         have hy := zNb h ht hv
         simp [Region.wanted,hgu,hy]
   unfold wpOp
   simp only [ho']
   rcases hok.ei with ⟨hg,hee⟩ | ⟨hg,hee⟩
   · rw [if_pos (hgd true hg)]
     have hold : ei.old = isCallO o.op := by rw [hee]
     have hrd : ei.rd = rdX (lk sti.s) (lk sti.h) o.op := by rw [hee]
     rw [hed,hold,hrd] at hHp
     rcases hok.run with ⟨_,_,_,⟨K',tg',hopR,hle⟩,_⟩ | ⟨hg',_⟩
     · refine .inl (Oper.wp_mono (fun a' w' hq => ?_) (zOh hΦ h hN hSp hHp hopR (fun val wr cnt hk' m hm hc => ?_) hdst))
       · obtain ⟨e,hXe,hKe,g',k1,k2,k3⟩ := hq
         rcases zHx hXi with ⟨_,X2,hX2,_,hall2⟩ | ⟨hg2,_⟩
         · obtain ⟨hok2,hnew2⟩ := hall2 e (hXe X2 hX2)
           have hag : Ag ops (Xof listed) i i sti sti acci acci := ⟨fun _ _ => rfl,fun _ _ _ => rfl,hacci,hacci⟩
           obtain ⟨es2,st2,q1,⟨q2,q2'⟩,q3,q4⟩ := par hs hd hxi (fun st acc hk => hk.1) _ (i + 1) _ _ _ _ _ st' tg rfl (by omega) hRr hroi hnew2 (hag.other ho hxi (Nat.le_refl _) ei ⟨e.val,e.wr,isCallO o.op,rdX (lk sti.s) (lk sti.h) o.op⟩)
           obtain ⟨r1,r2⟩ := hglue (⟨e.val,e.wr,isCallO o.op,rdX (lk sti.s) (lk sti.h) o.op⟩ :: es2) st2 (by rw [h1']; exact .cons hok2 q1)
           simp only [ybb,Nat.sub_zero] at r1 r2
           have hti : (es.take i).length = i := by rw [List.length_take]; omega
           have hgi : (es.take i ++ (⟨e.val,e.wr,isCallO o.op,rdX (lk sti.s) (lk sti.h) o.op⟩ : EI) :: es2).getD i default = ⟨e.val,e.wr,isCallO o.op,rdX (lk sti.s) (lk sti.h) o.op⟩ := by
             simp [List.getD,List.getElem?_append_right (show (es.take i).length ≤ i by omega),hti]
           refine hnext r1 (by rw [r2]; exact q2) q2' (fun j hj hx => ?_) (fun m hm => (k1 m hm).imp id (fun h => ⟨h.1,by have := hle _ _ _ hKe; omega⟩)) (by rw [hgi]; exact k2) k3
           have hji : j ≠ i := fun e => by subst e; rw [hxi] at hx; cases hx
           by_cases hlt : j < i
           · simp only [List.getD]
             rw [List.getElem?_append_left (by omega),List.getElem?_take,if_pos hlt]
           · have hej : es[j]? = some es[j] := List.getElem?_eq_getElem (by omega)
             have h9 : (es.drop (i + 1))[j - (i + 1)]? = some es[j] := by rw [List.getElem?_drop,show i + 1 + (j - (i + 1)) = j by omega]; exact hej
             have h8 := q4 (j - (i + 1)) es[j] (by rw [show i + 1 + (j - (i + 1)) = j by omega]; exact hx) h9
             simp only [List.getD]
             rw [List.getElem?_append_right (by omega),hti,show j - i = (j - (i + 1)) + 1 by omega,List.getElem?_cons_succ,h8,hej]
         · exact (zIw hg hg2).elim
       · have := hle _ _ _ hk'
         rcases hu m hm with hm | ⟨j,h1,h2,h3,h4⟩
         · omega
         · have : j = i := by omega
           subst this; rw [hxi] at h2; cases h2
     · exact (zIw hg hg').elim
   · rw [if_neg (by rw [hgd false hg]; simp)]
     refine hnext hrun hro hk (fun j _ _ => rfl) (fun m hm => .inl hm) ?_ ((zCd _ _ _).trans hN)
     rw [hed,hee]
     exact h.putD (fun t ht => by rw [hN]; exact hdst t ht) DV.undef
end order
end Go.SX
namespace Go.SX
open Go Go.RowKit
variable {en : En} {g : Gh} {S : Nat → Option D} {H : Nat → Option Root} {a : Act} {w : World} {P : Program}
def mapC1 (f : Nat → Nat) : C → C
 | .view n sz lo len => .view (f n) sz lo len
 | .ptr n sz i off => .ptr (f n) sz i off
 | c => c
def mapC (f : Nat → Nat) : C → C
 | .view n sz lo len => .view (f n) sz lo len
 | .ptr n sz i off => .ptr (f n) sz i off
 | .fn k caps => .fn k (caps.map (mapC1 f))
 | c => c
def NmC1 (H : Nat → Option Root) : C → Prop
 | .view n _ _ _ => (H n).isSome = true
 | .ptr n _ _ _ => (H n).isSome = true
 | .fn _ caps => caps = []
 | _ => True
def NmC (H : Nat → Option Root) : C → Prop
 | .view n _ _ _ => (H n).isSome = true
 | .ptr n _ _ _ => (H n).isSome = true
 | .fn _ caps => ∀ c ∈ caps,NmC1 H c
 | _ => True
def mapD (f : Nat → Nat) : D → D
 | .c x => .c (mapC f x)
 | .agg xs => .agg (xs.map (mapC f))
 | d => d
def NmD (H : Nat → Option Root) : D → Prop
 | .c x => NmC H x
 | .agg xs => ∀ x ∈ xs,NmC H x
 | .tup _ => False
def mapTt (f : Nat → Nat) : T → T
 | .lent n sz len => .lent (f n) sz len
 | t => t
def NmT (H : Nat → Option Root) : T → Prop
 | .lent n _ _ => (H n).isSome = true
 | .own _ rows => ∀ r ∈ rows,∀ t ∈ r,Mv false t
 | _ => True
def mapB (f : Nat → Nat) : B → B
 | .t x => .t (mapTt f x)
 | .v x => .v (mapC f x)
def NmB (H : Nat → Option Root) : B → Prop
 | .t x => NmT H x
 | .v x => NmC H x
def mapR (f : Nat → Nat) : Root → Root
 | .box cells => .box (cells.map (mapB f))
 | .arr sz rows => .arr sz (rows.map (fun r => r.map (mapTt f)))
def NmR (H : Nat → Option Root) : Root → Prop
 | .box cells => ∀ x ∈ cells,NmB H x
 | .arr _ rows => ∀ r ∈ rows,∀ t ∈ r,NmT H t
theorem zKf1 {f : Nat → Nat} {r : Root} {i j : Nat} {x : B} (h : r.get i j = some x) : (mapR f r).get i j = some (mapB f x) := by
 cases r with
 | box cells => cases i <;> simp_all [Root.get,mapR]
 | arr sz rows =>
   simp only [Root.get] at h
   cases hr : rows[i]? with
   | none => simp [hr] at h
   | some row =>
     simp only [hr,Option.map_eq_some_iff] at h
     obtain ⟨y,hy,rfl⟩ := h
     simp [Root.get,mapR,hr,hy,mapB]
theorem zQi1 {r : Root} (hm : NmR H r) {i j : Nat} {x : B} (h : r.get i j = some x) : NmB H x := by
 cases r with
 | box cells =>
   cases i with
   | zero => exact hm x (List.mem_of_getElem? (by simpa [Root.get] using h))
   | succ i => simp [Root.get] at h
 | arr sz rows =>
   simp only [Root.get] at h
   cases hr : rows[i]? with
   | none => simp [hr] at h
   | some row =>
     simp only [hr,Option.map_eq_some_iff] at h
     obtain ⟨y,hy,rfl⟩ := h
     exact hm row (List.mem_of_getElem? hr) y (List.mem_of_getElem? hy)
open Classical in
noncomputable def Gh.rn (g : Gh) (U : Nat → Prop) (f : Nat → Nat) : Gh :=
 { used := U,rb := fun n => g.rb (f n),base := fun n => g.base (f n),rc := fun n => g.rc (f n),fz := g.fz
   own := fun b => match g.own b with
     | some (m,p) => if h : ∃ n,U n ∧ f n = m then some (Classical.choose h,p) else none
     | none => none }
theorem Gh.rn_own {U : Nat → Prop} {f : Nat → Nat} (hinj : ∀ n m,U n → U m → f n = f m → n = m) {b n : Nat} {p : Pth} (hn : U n) (h : g.own b = some (f n,p)) : (g.rn U f).own b = some (n,p) := by
 have hex : ∃ n',U n' ∧ f n' = f n := ⟨n,hn,rfl⟩
 simp only [Gh.rn,h]
 rw [dif_pos hex]
 have := Classical.choose_spec hex
 rw [hinj _ _ this.1 hn this.2]
theorem Gh.rn_none {U : Nat → Prop} {f : Nat → Nat} {b : Nat} (h : g.own b = none) : (g.rn U f).own b = none := by simp only [Gh.rn,h]
theorem CV.rn1 {U : Nat → Prop} {f : Nat → Nat} (hU : ∀ n,(H n).isSome = true → U n) {c : C} {v : Value} (hn : NmC1 H c) (h : CV g (mapC1 f c) v) : CV (g.rn U f) c v := by
 cases c with
 | im i => cases h with | im _ _ hi => exact .im _ _ hi
 | nil => cases h; exact .nil
 | view n sz lo len =>
   have hu := hU n hn
   simp only [mapC1] at h
   cases h with
   | view0 _ _ _ A _ => exact .view0 _ _ _ A hu
   | view _ _ _ _ cap _ hb hl hc => exact CV.view (g := g.rn U f) n sz lo len cap hu hb hl hc
 | ptr n sz i off =>
   simp only [mapC1] at h
   cases h with | ptr _ _ _ _ _ => exact CV.ptr (g := g.rn U f) n sz i off (hU n hn)
 | iptr row off => cases h with | iptr _ _ b o vs hx hr => exact .iptr row off b o vs hx hr
 | fn k caps =>
   simp only [NmC1] at hn
   subst hn
   cases h with | fn _ _ vs hs hr => exact .fn k [] vs hs (fun j x v hj => by simp at hj)
theorem CV.rn {U : Nat → Prop} {f : Nat → Nat} (hU : ∀ n,(H n).isSome = true → U n) {c : C} {v : Value} (hn : NmC H c) (h : CV g (mapC f c) v) : CV (g.rn U f) c v := by
 cases c with
 | fn k caps =>
   simp only [mapC] at h
   cases h with
   | fn _ _ vs hs hr =>
     refine .fn k caps vs (by simpa using hs) (fun j x v hj hv => ?_)
     exact CV.rn1 hU (hn x (List.mem_of_getElem? hj)) (hr j (mapC1 f x) v (by simp [hj]) hv)
 | im i => exact CV.rn1 (c := .im i) hU trivial h
 | nil => exact CV.rn1 (c := .nil) hU trivial h
 | view n sz lo len => exact CV.rn1 (c := .view n sz lo len) hU hn h
 | ptr n sz i off => exact CV.rn1 (c := .ptr n sz i off) hU hn h
 | iptr row off => exact CV.rn1 (c := .iptr row off) hU trivial h
theorem DV.rn {U : Nat → Prop} {f : Nat → Nat} (hU : ∀ n,(H n).isSome = true → U n) {d : D} {v : Value} (hn : NmD H d) (h : DV g (mapD f d) v) : DV (g.rn U f) d v := by
 cases d with
 | c x => cases h with | c _ _ hc => exact .c _ _ (hc.rn hU hn)
 | agg xs =>
   simp only [mapD] at h
   cases h with
   | agg _ vs hs hr => exact .agg _ _ (by simpa using hs) (fun j x v hj hv => (hr j (mapC f x) v (by simp [hj]) hv).rn hU (hn x (List.mem_of_getElem? hj)))
 | tup ds => exact hn.elim
theorem Rel.rename (h : Rel en g S H a w) (f : Nat → Nat) {S' : Nat → Option D} {H' : Nat → Option Root} (hp : ∀ k,en.g0.used k → f k = k)
   (hinj : ∀ n m r r',H' n = some r → H' m = some r' → f n = f m → n = m) (hinjp : ∀ n r k,H' n = some r → en.g0.used k → f n = k → n = k)
   (hs : ∀ t d,S' t = some d → S t = some (mapD f d) ∧ NmD H' d)
   (hh : ∀ n r,H' n = some r → (H (f n) = some r ∧ MvR false r) ∨ (H (f n) = some (mapR f r) ∧ NmR H' r)) :
   ∃ g',(∀ m,g'.used m → en.g0.used m ∨ ∃ r,H' m = some r) ∧ Rel en g' S' H' a w := by
 let U : Nat → Prop := fun m => en.g0.used m ∨ ∃ r,H' m = some r
 have hU : ∀ n,(H' n).isSome = true → U n := fun n hn => .inr (Option.isSome_iff_exists.1 hn)
 have hi : ∀ n m,U n → U m → f n = f m → n = m := by
   rintro n m (hn | ⟨r,hn⟩) (hm | ⟨r',hm⟩) e
   · rw [hp n hn,hp m hm] at e; exact e
   · rw [hp n hn] at e; exact (hinjp m r' n hm hn e.symm).symm
   · rw [hp m hm] at e; exact hinjp n r m hn hm e
   · exact hinj n m r r' hn hm e
 refine ⟨g.rn U f,fun m hm => hm,⟨⟨h.fr.laid,h.fr.os,h.fr.tape,h.fr.output,h.fr.size,⟨fun n hn => .inl hn,fun n hn => ?_,fun n hn => ?_,fun n hn => ?_,h.fr.gle.fz⟩,fun b hb ho => ?_,fun b k hb => ?_,h.fr.fzn⟩,h.df,fun b x hx => ?_,fun b o v hv => ?_,fun t d ht => ?_,fun n r hn => ?_,fun n r b hn hb => ?_⟩⟩
 · simp only [Gh.rn]; rw [hp n hn]; exact h.fr.gle.rb n hn
 · simp only [Gh.rn]; rw [hp n hn]; exact h.fr.gle.base n hn
 · simp only [Gh.rn]; rw [hp n hn]; exact h.fr.gle.rc n hn
 · obtain ⟨h1,h2⟩ := h.fr.old b hb ho; exact ⟨Gh.rn_none h1,h2⟩
 · obtain ⟨h0,h1,h2⟩ := h.fr.place b k hb
   exact ⟨h0,Gh.rn_own hi (.inl h0) (by rw [hp k h0]; exact h1),h2⟩
 · cases ho : g.own b with
   | none => rw [Gh.rn_none ho] at hx; cases hx
   | some y => exact h.lt b y ho
 · obtain ⟨h1,h2⟩ := h.fz b o v hv; exact ⟨h1,Gh.rn_none h2⟩
 · obtain ⟨h1,h2⟩ := hs t d ht
   obtain ⟨v,hv,hd⟩ := h.slots t _ h1
   exact ⟨v,hv,hd.rn hU h2⟩
 · have hUn : U n := .inr ⟨r,hn⟩
   refine ⟨hUn,?_⟩
   rcases hh n r hn with ⟨h1,h2⟩ | ⟨h1,h2⟩
   · exact RootR.mv (g := g) (n := f n) (g' := g.rn U f) h2 (fun _ _ _ _ h => h) rfl rfl rfl (h.roots _ _ h1).2 (fun ho => Gh.rn_own hi hUn ho) (fun b x p ho => Gh.rn_own hi hUn ho)
   · obtain ⟨hu,hR⟩ := h.roots _ _ h1
     generalize hr' : mapR f r = r' at hR
     cases hR with
     | mk _ cs e hh' ho hf hr =>
       subst hr'
       have hsz : (mapR f r).sz = r.sz := by cases r <;> rfl
       refine .mk r cs e hh' (Gh.rn_own hi hUn ho) ?_ (fun i j x hx => ?_)
       · cases r with
         | box cells => exact trivial
         | arr sz rows =>
           obtain ⟨f1,f2,f3,f4⟩ := hf
           refine ⟨f1,f2,by simp at f3; exact f3,fun i r hr2 => ?_⟩
           have := f4 i (r.map (mapTt f)) (by simp [hr2])
           simpa using this
       · obtain ⟨v,hv,hb⟩ := hr i j _ (zKf1 hx)
         rw [hsz] at hv
         refine ⟨v,hv,?_⟩
         have hnm := zQi1 h2 hx
         cases x with
         | t x =>
           simp only [mapB] at hb
           refine .t _ _ ?_
           cases hb with
           | t _ _ ht =>
             cases x with
             | im i => cases ht with | im _ _ _ hi' => exact .im _ _ _ hi'
             | nil => cases ht; exact .nil _
             | dead => exact .dead _ _
             | own sz rows =>
               simp only [mapTt] at ht
               exact TR.mv (g := g) (g' := g.rn U f) (n := f n) (.own sz rows hnm) (fun _ _ _ _ h => h) ht (fun b p hp' => Gh.rn_own hi hUn hp')
             | lent m sz len =>
               simp only [mapTt] at ht
               cases ht with | lent _ _ _ _ _ hc => exact .lent _ _ _ _ _ (CV.rn (c := .view m sz 0 len) hU hnm hc)
         | v x =>
           simp only [mapB] at hb
           cases hb with | v _ _ hc => exact .v _ _ (hc.rn hU hnm)
     | arr0 sz hs0 hc =>
       cases r with
       | box cells => simp [mapR] at hr'
       | arr sz' rows =>
         simp only [mapR,Root.arr.injEq,List.map_eq_nil_iff] at hr'
         obtain ⟨rfl,rfl⟩ := hr'
         exact .arr0 _ hs0 hc
 · have h0 := (h.fr.place b n hb).1
   have hfn := hp n h0
   rcases hh n r hn with ⟨h1,h2⟩ | ⟨h1,h2⟩
   · rw [hfn] at h1; exact h.wd n r b h1 hb
   · rw [hfn] at h1
     obtain ⟨c,hc,hl⟩ := h.wd n _ b h1 hb
     cases r with
     | box cells => simp only [mapR,Root.box.injEq] at hc; subst hc; exact ⟨cells,rfl,by simpa using hl⟩
     | arr sz rows => simp [mapR] at hc
end Go.SX
namespace Go.SX
open Go Go.RowKit
variable {en : En} {g : Gh} {S : Nat → Option D} {H : Nat → Option Root} {a : Act} {w : World} {P : Program}
def rho : List (Nat × Option Root) → List Nat → Nat → Nat
 | (k,_) :: h,m :: ρ,n => if n = k then m else rho h ρ n
 | _,_,n => n
def reF (pn : Nat) (h : List (Nat × Option Root)) (ρ : List Nat) : Nat → Nat := fun n => if n < pn then n else rho h ρ n
def sOk (S : Nat → Option D) (H' : Nat → Option Root) (f : Nat → Nat) : List (Nat × Option D) → Prop
 | [] => True
 | (_,none) :: r => sOk S H' f r
 | (t,some d) :: r => S t = some (mapD f d) ∧ NmD H' d ∧ sOk S H' f r
def hOk (H H' : Nat → Option Root) (f : Nat → Nat) : List (Nat × Option Root) → Prop
 | [] => True
 | (_,none) :: r => hOk H H' f r
 | (n,some x) :: r => ((H (f n) = some x ∧ MvR false x) ∨ (H (f n) = some (mapR f x) ∧ NmR H' x)) ∧ hOk H H' f r
def nms : List (Nat × Option Root) → List Nat
 | [] => []
 | (_,none) :: r => nms r
 | (n,some _) :: r => n :: nms r
def subOk (pn : Nat) (st st' : St) (ρ : List Nat) : Prop :=
 sOk (lk st.s) (lk st'.h) (reF pn st'.h ρ) st'.s ∧ hOk (lk st.h) (lk st'.h) (reF pn st'.h ρ) st'.h ∧ ((nms st'.h).map (reF pn st'.h ρ)).Nodup ∧ (∀ n ∈ nms st'.h,pn ≤ n → pn ≤ reF pn st'.h ρ n) ∧ pn ≤ st'.n ∧ (∀ n ∈ nms st'.h,n < st'.n)
inductive Fl where
 | s (t : Nat)
 | a (t j : Nat)
 | b (m i j : Nat)
def frC (o : Option Nat) (sz len : Nat) (is : List (List I)) : C → Option C
 | .view n' sz' lo l => match o with
   | some n => if n' = n ∧ sz' = sz ∧ lo = 0 ∧ l = len then some (.im (.sl sz is)) else none
   | none => none
 | .nil => match o with
   | none => some (.im (.sl sz []))
   | some _ => none
 | _ => none
def frT (o : Option Nat) (sz len : Nat) (is : List (List I)) : T → Option T
 | .lent n' sz' l => match o with
   | some n => if n' = n ∧ sz' = sz ∧ l = len then some (.im (.sl sz is)) else none
   | none => none
 | .nil => match o with
   | none => some (.im (.sl sz []))
   | some _ => none
 | _ => none
def frzLs (o : Option Nat) (sz len : Nat) (is : List (List I)) : List Fl → St → Option St
 | [],st => some st
 | .s t :: ls,st => match lk st.s t with
   | some (.c c) => match frC o sz len is c with
     | some c' => frzLs o sz len is ls ⟨(t,some (.c c')) :: st.s,st.h,st.n⟩
     | none => none
   | _ => none
 | .a t j :: ls,st => match lk st.s t with
   | some (.agg cs) => match cs[j]? with
     | some c => match frC o sz len is c with
       | some c' => frzLs o sz len is ls ⟨(t,some (.agg (cs.set j c'))) :: st.s,st.h,st.n⟩
       | none => none
     | none => none
   | _ => none
 | .b m i j :: ls,st => match lk st.h m with
   | some r => match r.get i j with
     | some (.t x) => match frT o sz len is x with
       | some x' => frzLs o sz len is ls ⟨st.s,ins m (some (r.setT i j x')) st.h,st.n⟩
       | none => none
     | _ => none
   | none => none
inductive Wk where
 | fold (n i j : Nat)
 | nilT (n i j sz : Nat)
 | nilS (t sz : Nat)
 | unf (n i j : Nat)
 | nilA (t j sz : Nat)
 | frz (n : Nat) (ls : List Fl)
 | nilI (sz : Nat) (ls : List Fl)
 | frzB (n : Nat) (ts : List Nat)
def frzPs (n : Nat) (row : List I) : List Nat → St → Option St
 | [],st => some st
 | t :: ts,st => match lk st.s t with
   | some (.c (.ptr n' _ i off)) => if n' = n ∧ i = 0 then frzPs n row ts ⟨(t,some (.c (.iptr row off))) :: st.s,st.h,st.n⟩ else none
   | _ => none
def wk1 (pn : Nat) (st : St) : Wk → Option St
 | .fold n i j => match lk st.h n with
   | some r => match r.get i j with
     | some (.t (.lent m sz len)) => match lk st.h m with
       | some (.arr sz' rows) => if sz' = sz ∧ rows.length = len ∧ m ≠ n ∧ pn ≤ m then some ⟨st.s,ins n (some (r.setT i j (.own sz rows))) (ins m none st.h),st.n⟩ else none
       | _ => none
     | _ => none
   | none => none
 | .nilT n i j sz => match lk st.h n with
   | some r => match r.get i j with
     | some (.t .nil) => some ⟨st.s,ins n (some (r.setT i j (.own sz []))) st.h,st.n⟩
     | _ => none
   | none => none
 | .nilS t sz => match lk st.s t with
   | some (.c .nil) => if 0 < sz ∧ pn ≤ st.n then some ⟨(t,some (.c (.view st.n sz 0 0))) :: st.s,ins st.n (some (.arr sz [])) st.h,st.n + 1⟩ else none
   | _ => none
 | .unf n i j => match lk st.h n with
   | some r => match r.get i j with
     | some (.t (.own sz rows)) => if 0 < sz then some ⟨st.s,ins st.n (some (.arr sz rows)) (ins n (some (r.setT i j (.lent st.n sz rows.length))) st.h),st.n + 1⟩ else none
     | _ => none
   | none => none
 | .nilA t j sz => match lk st.s t with
   | some (.agg cs) => match cs[j]? with
     | some .nil => if 0 < sz then some ⟨(t,some (.agg (cs.set j (.view st.n sz 0 0)))) :: st.s,ins st.n (some (.arr sz [])) st.h,st.n + 1⟩ else none
     | _ => none
   | _ => none
 | .frz n ls => match lk st.h n with
   | some (.arr sz rows) => match mapO (mapO imT) rows with
     | some is => frzLs (some n) sz rows.length is ls ⟨st.s,ins n none st.h,st.n⟩
     | none => none
   | _ => none
 | .nilI sz ls => frzLs none sz 0 [] ls st
 | .frzB n ts => match lk st.h n with
   | some (.box cells) => if pn ≤ n then match mapO boxI cells with
       | some row => frzPs n row ts ⟨st.s,ins n none st.h,st.n⟩
       | none => none
     else none
   | _ => none
def folds (pn : Nat) : List Wk → St → Option St
 | [],st => some st
 | f :: fs,st => match wk1 pn st f with
   | some st' => folds pn fs st'
   | none => none
def subF (pn : Nat) (st st' : St) (fs : List Wk) (ρ : List Nat) : Prop := match folds pn fs st with
 | some st1 => subOk pn st1 st' ρ
 | none => False
def Sub (pn : Nat) (st st' : St) : Prop := ∃ fs ρ,subF pn st st' fs ρ
theorem Rel.nilT (h : Rel en g S H a w) {n i j sz : Nat} {r : Root} (hn : H n = some r) (hc : r.get i j = some (.t .nil)) : Rel en g S (upd H n (some (r.setT i j (.own sz [])))) a w := by
 refine ⟨h.fr,h.df,h.lt,h.fz,h.slots,fun k r1 hk => ?_,fun k r1 b hk hb => ?_⟩
 · unfold upd at hk
   by_cases e : k = n
   · subst e
     rw [if_pos rfl] at hk
     injection hk with hk
     subst hk
     obtain ⟨hu,hR⟩ := h.roots k r hn
     refine ⟨hu,?_⟩
     cases hR with
     | mk r cs e hh ho hf hr =>
       refine .mk _ cs e hh ho (Root.setT_form i j _ hf) (fun i' j' x hx => ?_)
       rw [Root.setT_sz]
       rw [Root.setT_get _ hc] at hx
       split at hx
       · rename_i he
         obtain ⟨rfl,rfl⟩ := he
         injection hx with hx
         subst hx
         obtain ⟨v,hv,hb⟩ := hr i' j' _ hc
         refine ⟨v,hv,.t _ _ ?_⟩
         cases hb with
         | t _ _ ht => cases ht; exact .own0 _ _ _
       · exact hr i' j' x hx
     | arr0 sz hs hc0 => simp [Root.get] at hc
   · rw [if_neg e] at hk
     exact h.roots k r1 hk
 · unfold upd at hk
   by_cases e : k = n
   · subst e
     rw [if_pos rfl] at hk
     injection hk with hk
     subst hk
     obtain ⟨c0,rfl,hl⟩ := h.wd k r b hn hb
     obtain ⟨c1,h1,h2⟩ := Root.setT_box c0 i j (.own sz [])
     exact ⟨c1,h1,by rw [h2]; exact hl⟩
   · rw [if_neg e] at hk; exact h.wd k r1 b hk hb
theorem Rel.cellT (h : Rel en g S H a w) {n i j : Nat} {r : Root} {x x' : T} (hn : H n = some r) (hc : r.get i j = some (.t x)) (hx0 : ∀ v,TR w g n [(i,j)] x v → TR w g n [(i,j)] x' v) : Rel en g S (upd H n (some (r.setT i j x'))) a w := by
 refine ⟨h.fr,h.df,h.lt,h.fz,h.slots,fun k r1 hk => ?_,fun k r1 b hk hb => ?_⟩
 · unfold upd at hk
   by_cases e : k = n
   · subst e
     rw [if_pos rfl] at hk
     injection hk with hk
     subst hk
     obtain ⟨hu,hR⟩ := h.roots k r hn
     refine ⟨hu,?_⟩
     cases hR with
     | mk r cs e hh ho hf hr =>
       refine .mk _ cs e hh ho (Root.setT_form i j _ hf) (fun i' j' x hx => ?_)
       rw [Root.setT_sz]
       rw [Root.setT_get _ hc] at hx
       split at hx
       · rename_i he
         obtain ⟨rfl,rfl⟩ := he
         injection hx with hx
         subst hx
         obtain ⟨v,hv,hb⟩ := hr i' j' _ hc
         refine ⟨v,hv,.t _ _ ?_⟩
         cases hb with
         | t _ _ ht => exact hx0 v ht
       · exact hr i' j' x hx
     | arr0 sz hs hc0 => simp [Root.get] at hc
   · rw [if_neg e] at hk
     exact h.roots k r1 hk
 · unfold upd at hk
   by_cases e : k = n
   · subst e
     rw [if_pos rfl] at hk
     injection hk with hk
     subst hk
     obtain ⟨c0,rfl,hl⟩ := h.wd k r b hn hb
     obtain ⟨c1,h1,h2⟩ := Root.setT_box c0 i j x'
     exact ⟨c1,h1,by rw [h2]; exact hl⟩
   · rw [if_neg e] at hk; exact h.wd k r1 b hk hb
def frO (g : Gh) (o : Option Nat) (sz len : Nat) (is : List (List I)) : Prop := match o with
 | some n => ∀ v,CV g (.view n sz 0 len) v → CV g (.im (.sl sz is)) v
 | none => True
theorem zWp {o : Option Nat} {sz len : Nat} {is : List (List I)} (h : frO g o sz len is) {c c' : C} (hc : frC o sz len is c = some c') {v : Value} (hv : CV g c v) : CV g c' v := by
 cases c with
 | view n' sz' lo l =>
   cases o with
   | none => simp [frC] at hc
   | some n =>
     simp only [frC] at hc
     split at hc
     · rename_i e
       obtain ⟨rfl,rfl,rfl,rfl⟩ := e
       injection hc with hc
       subst hc
       exact h v hv
     · cases hc
 | nil =>
   cases o with
   | some n => simp [frC] at hc
   | none =>
     simp only [frC,yay] at hc
     subst hc
     cases hv
     exact .im _ _ (.sl0 _ _ _)
 | im i => simp [frC] at hc
 | ptr _ _ _ _ => simp [frC] at hc
 | iptr _ _ => simp [frC] at hc
 | fn _ _ => simp [frC] at hc
theorem zHe1 {o : Option Nat} {sz len : Nat} {is : List (List I)} (h : frO g o sz len is) {x x' : T} (hc : frT o sz len is x = some x') {n : Nat} {q : Pth} {v : Value} (hv : TR w g n q x v) : TR w g n q x' v := by
 cases x with
 | lent n' sz' l =>
   cases o with
   | none => simp [frT] at hc
   | some n0 =>
     simp only [frT] at hc
     split at hc
     · rename_i e
       obtain ⟨rfl,rfl,rfl⟩ := e
       injection hc with hc
       subst hc
       cases hv with
       | lent _ _ _ _ _ hv => cases h v hv with | im _ _ hi => exact .im _ _ _ hi
     · cases hc
 | nil =>
   cases o with
   | some n0 => simp [frT] at hc
   | none =>
     simp only [frT,yay] at hc
     subst hc
     cases hv
     exact .im _ _ _ (.sl0 _ _ _)
 | im i => simp [frT] at hc
 | dead => simp [frT] at hc
 | own _ _ => simp [frT] at hc
theorem zEy {o : Option Nat} {sz len : Nat} {is : List (List I)} (hO : frO g o sz len is) : ∀ {ls : List Fl} {st st' : St},Rel en g (lk st.s) (lk st.h) a w → frzLs o sz len is ls st = some st' → Rel en g (lk st'.s) (lk st'.h) a w ∧ st'.n = st.n
 | [],st,st',hR,hf => by simp only [frzLs,yay] at hf; subst hf; exact ⟨hR,rfl⟩
 | .s t :: ls,st,st',hR,hf => by
   simp only [frzLs] at hf
   split at hf
   · rename_i c ht
     split at hf
     · rename_i c' hc
       refine zEy hO (ls := ls) (st := ⟨(t,some (.c c')) :: st.s,st.h,st.n⟩) ?_ hf
       simp only []
       rw [zHe]
       refine hR.moreS (fun t' d hd => ?_)
       simp only [upd] at hd
       split at hd
       · rename_i e
         subst e
         injection hd with hd
         subst hd
         obtain ⟨v,hv,hdv⟩ := hR.slots t' _ ht
         refine ⟨v,hv,?_⟩
         cases hdv with | c _ _ h => exact .c _ _ (zWp hO hc h)
       · exact hR.slots t' d hd
     · cases hf
   · cases hf
 | .a t j :: ls,st,st',hR,hf => by
   simp only [frzLs] at hf
   split at hf
   · rename_i cs ht
     split at hf
     · rename_i c hj
       split at hf
       · rename_i c' hc
         refine zEy hO (ls := ls) (st := ⟨(t,some (.agg (cs.set j c'))) :: st.s,st.h,st.n⟩) ?_ hf
         simp only []
         rw [zHe]
         refine hR.moreS (fun t' d hd => ?_)
         simp only [upd] at hd
         split at hd
         · rename_i e
           subst e
           injection hd with hd
           subst hd
           obtain ⟨v,hv,hdv⟩ := hR.slots t' _ ht
           refine ⟨v,hv,?_⟩
           cases hdv with
           | agg _ vs hsz hr =>
             refine .agg _ vs (by simp [hsz]) (fun j' x v' hx hv' => ?_)
             by_cases e : j = j'
             · subst e
               have hlt : j < cs.length := (List.getElem?_eq_some_iff.1 hj).1
               rw [List.getElem?_set_self hlt] at hx
               injection hx with hx
               subst hx
               exact zWp hO hc (hr j _ v' hj hv')
             · rw [List.getElem?_set_ne e] at hx
               exact hr j' x v' hx hv'
         · exact hR.slots t' d hd
       · cases hf
     · cases hf
   · cases hf
 | .b m i j :: ls,st,st',hR,hf => by
   simp only [frzLs] at hf
   split at hf
   · rename_i r hm
     split at hf
     · rename_i x hx
       split at hf
       · rename_i x' hc
         refine zEy hO (ls := ls) (st := ⟨st.s,ins m (some (r.setT i j x')) st.h,st.n⟩) ?_ hf
         simp only []
         rw [zCg]
         exact hR.cellT hm hx (fun v hv => zHe1 hO hc hv)
       · cases hf
     · cases hf
   · cases hf
theorem zOu {n : Nat} {row : List I} (hP : ∀ sz off v,CV g (.ptr n sz 0 off) v → CV g (.iptr row off) v) : ∀ {ts : List Nat} {st st' : St},Rel en g (lk st.s) (lk st.h) a w → frzPs n row ts st = some st' → Rel en g (lk st'.s) (lk st'.h) a w ∧ st'.n = st.n
 | [],st,st',hR,hf => by simp only [frzPs,yay] at hf; subst hf; exact ⟨hR,rfl⟩
 | t :: ts,st,st',hR,hf => by
   simp only [frzPs] at hf
   split at hf
   · rename_i n' sz i off ht
     split at hf
     · rename_i hc
       obtain ⟨rfl,rfl⟩ := hc
       refine zOu hP (ts := ts) (st := ⟨(t,some (.c (.iptr row off))) :: st.s,st.h,st.n⟩) ?_ hf
       simp only []
       rw [zHe]
       obtain ⟨v0,hv0,hd0⟩ := hR.slots t _ ht
       refine ⟨hR.fr,hR.df,hR.lt,hR.fz,fun t' d hd => ?_,hR.roots,hR.wd⟩
       simp only [upd] at hd
       split at hd
       · rename_i e
         injection hd with hd
         subst hd; subst e
         exact ⟨v0,hv0,by cases hd0 with | c _ _ hc => exact .c _ _ (hP _ _ _ hc)⟩
       · exact hR.slots t' d hd
     · cases hf
   · cases hf
theorem zDo1 {N pn : Nat} (hpn : ∀ n,en.g0.used n → n < pn) {st st' : St} {f : Wk} (hR : RelS en N st a w) (hf : wk1 pn st f = some st') : RelS en N st' a w := by
 obtain ⟨g,hu,hR,hN⟩ := hR
 cases f with
 | fold n i j =>
   simp only [wk1] at hf
   split at hf
   · rename_i r hr
     split at hf
     · rename_i m sz len hc
       split at hf
       · rename_i sz' rows hm
         split at hf
         · rename_i hcc
           obtain ⟨rfl,rfl,hmn,hp⟩ := hcc
           injection hf with hf
           subst hf
           have := hR.fold hr hm hmn hc
           refine ⟨g.into m n [(i,j)],hu,?_,hN⟩
           simp only []
           rw [zCg,zCg]
           exact this
         · cases hf
       · cases hf
     · cases hf
   · cases hf
 | nilT n i j sz =>
   simp only [wk1] at hf
   split at hf
   · rename_i r hr
     split at hf
     · rename_i hc
       injection hf with hf
       subst hf
       refine ⟨g,hu,?_,hN⟩
       simp only []
       rw [zCg]
       exact hR.nilT hr hc
     · cases hf
   · cases hf
 | nilS t sz =>
   simp only [wk1] at hf
   split at hf
   · rename_i ht
     split at hf
     · rename_i hcc
       injection hf with hf
       subst hf
       have hnu : ¬ g.used st.n := fun hm => by have := hu _ hm; omega
       obtain ⟨g',k1,k2,k3,k4⟩ := hR.new0 hnu hcc.1 st.n
       refine ⟨g',fun m hm => ?_,?_,hN⟩
       · rcases k3 m hm with e | hm
         · simp only []; omega
         · have := hu m hm; simp only []; omega
       · simp only []
         rw [zCg,zHe]
         have e1 : upd (upd (lk st.h) st.n none) st.n (some (.arr sz [])) = upd (lk st.h) st.n (some (.arr sz [])) := by
           funext m; simp only [upd]; split <;> rfl
         rw [e1] at k4
         refine k4.moreS (fun t' d hd => ?_)
         simp only [upd] at hd
         split at hd
         · rename_i e
           subst e
           injection hd with hd
           subst hd
           obtain ⟨v,hv,hdv⟩ := k4.slots t' _ ht
           refine ⟨v,hv,.c _ _ ?_⟩
           cases hdv with | c _ _ hc => cases hc; exact .view0 _ _ _ _ k2
         · exact k4.slots t' d hd
     · cases hf
   · cases hf
 | unf n i j =>
   simp only [wk1] at hf
   split at hf
   · rename_i r hr
     split at hf
     · rename_i sz rows hc
       split at hf
       · rename_i hs
         injection hf with hf
         subst hf
         have hnu : ¬ g.used st.n := fun hm => by have := hu _ hm; omega
         obtain ⟨g',k1,k2,k3,k4⟩ := hR.hoist hr hnu hs hc
         refine ⟨g',fun m hm => ?_,?_,hN⟩
         · rcases k3 m hm with e | hm
           · simp only []; omega
           · have := hu m hm; simp only []; omega
         · simp only []
           rw [zCg,zCg]
           exact k4
       · cases hf
     · cases hf
   · cases hf
 | nilA t j sz =>
   simp only [wk1] at hf
   split at hf
   · rename_i cs ht
     split at hf
     · rename_i hj
       split at hf
       · rename_i hs
         injection hf with hf
         subst hf
         have hnu : ¬ g.used st.n := fun hm => by have := hu _ hm; omega
         obtain ⟨g',k1,k2,k3,k4⟩ := hR.new0 hnu hs st.n
         refine ⟨g',fun m hm => ?_,?_,hN⟩
         · rcases k3 m hm with e | hm
           · simp only []; omega
           · have := hu m hm; simp only []; omega
         · simp only []
           rw [zCg,zHe]
           have e1 : upd (upd (lk st.h) st.n none) st.n (some (.arr sz [])) = upd (lk st.h) st.n (some (.arr sz [])) := by
             funext m; simp only [upd]; split <;> rfl
           rw [e1] at k4
           refine k4.moreS (fun t' d hd => ?_)
           simp only [upd] at hd
           split at hd
           · rename_i e
             subst e
             injection hd with hd
             subst hd
             obtain ⟨v,hv,hdv⟩ := k4.slots t' _ ht
             refine ⟨v,hv,?_⟩
             cases hdv with
             | agg _ vs hsz hr =>
               refine .agg _ vs (by simp [hsz]) (fun j' x v' hx hv' => ?_)
               by_cases e : j = j'
               · subst e
                 have hlt : j < cs.length := (List.getElem?_eq_some_iff.1 hj).1
                 rw [List.getElem?_set_self hlt] at hx
                 injection hx with hx
                 subst hx
                 have hc := hr j _ v' hj hv'
                 cases hc
                 exact .view0 _ _ _ _ k2
               · rw [List.getElem?_set_ne e] at hx
                 exact hr j' x v' hx hv'
           · exact k4.slots t' d hd
       · cases hf
     · cases hf
   · cases hf
 | frz n ls =>
   simp only [wk1] at hf
   split at hf
   · rename_i sz rows hr
     split at hf
     · rename_i is his
       obtain ⟨g',k1,k2,k3,k4⟩ := hR.frz hr his
       generalize rows.length = L at k4 hf
       have hO : frO g' (some n) sz L is := fun v hv => by
         refine k4 v ?_
         cases hv with
         | view0 _ _ _ A hu' => exact .view0 _ _ _ A (by rw [← k2]; exact hu')
         | view _ _ _ _ cap hu' hb hl hc =>
           have hu0 : g.used n := by rw [← k2]; exact hu'
           rw [k1.base n hu0] at hb
           rw [k1.rc n hu0] at hc
           rw [k1.rb n hu0]
           exact .view _ _ _ _ cap hu0 hb hl hc
       have hR' : Rel en g' (lk st.s) (lk (ins n none st.h)) a w := by rw [zCg]; exact k3
       obtain ⟨q1,q2⟩ := zEy (st := ⟨st.s,ins n none st.h,st.n⟩) hO hR' hf
       exact ⟨g',fun m hm => by rw [q2]; exact hu m (by rw [← k2]; exact hm),q1,hN⟩
     · cases hf
   · cases hf
 | nilI sz ls =>
   simp only [wk1] at hf
   obtain ⟨q1,q2⟩ := zEy (o := none) (g := g) trivial hR hf
   exact ⟨g,fun m hm => by rw [q2]; exact hu m hm,q1,hN⟩
 | frzB n ts =>
   simp only [wk1] at hf
   split at hf
   · rename_i cells hr
     split at hf
     · rename_i hpn'
       split at hf
       · rename_i row hrow
         obtain ⟨g',k1,k2,k3,k4⟩ := hR.frzBox hr (fun b' hb' => by
           have := hpn _ (hR.fr.place b' n hb').1
           omega) hrow
         have hR' : Rel en g' (lk st.s) (lk (ins n none st.h)) a w := by rw [zCg]; exact k3
         have hP : ∀ sz off v,CV g' (.ptr n sz 0 off) v → CV g' (.iptr row off) v := fun sz off v hv => by
           refine k4 sz off v ?_
           cases hv with
           | ptr _ _ _ _ hu' =>
             have hu0 : g.used n := by rw [← k2]; exact hu'
             rw [k1.base n hu0,k1.rb n hu0]
             exact .ptr _ _ _ _ hu0
         obtain ⟨q1,q2⟩ := zOu hP hR' hf
         exact ⟨g',fun m hm => by rw [q2]; exact hu m (by rw [← k2]; exact hm),q1,hN⟩
       · cases hf
     · cases hf
   · cases hf
theorem zEz {N pn : Nat} (hpn : ∀ n,en.g0.used n → n < pn) : ∀ {fs : List Wk} {st st' : St},RelS en N st a w → folds pn fs st = some st' → RelS en N st' a w
 | [],st,st',hR,hf => by simp only [folds,yay] at hf; subst hf; exact hR
 | f :: fs,st,st',hR,hf => by
   simp only [folds] at hf
   split at hf
   · rename_i st1 hf1
     exact zEz hpn (zDo1 hpn hR hf1) hf
   · cases hf
theorem zJr {α : Type} : ∀ {l : List (Nat × Option α)} {t : Nat} {d : α},lk l t = some d → (t,some d) ∈ l
 | [],t,d,h => by cases h
 | (k,x) :: r,t,d,h => by
   simp only [lk] at h
   split at h
   · rename_i e; subst e; subst h; exact .head _
   · exact .tail _ (zJr h)
theorem zDy1 {H' : Nat → Option Root} {f : Nat → Nat} : ∀ {l : List (Nat × Option D)} {t : Nat} {d : D},sOk S H' f l → (t,some d) ∈ l → S t = some (mapD f d) ∧ NmD H' d
 | (k,none) :: r,t,d,h,hm => by
   rcases List.mem_cons.1 hm with e | hm
   · cases e
   · exact zDy1 (l := r) h hm
 | (k,some x) :: r,t,d,h,hm => by
   rcases List.mem_cons.1 hm with e | hm
   · cases e; exact ⟨h.1,h.2.1⟩
   · exact zDy1 (l := r) h.2.2 hm
theorem zHa1 {H' : Nat → Option Root} {f : Nat → Nat} : ∀ {l : List (Nat × Option Root)} {t : Nat} {d : Root},hOk H H' f l → (t,some d) ∈ l → (H (f t) = some d ∧ MvR false d) ∨ (H (f t) = some (mapR f d) ∧ NmR H' d)
 | (k,none) :: r,t,d,h,hm => by
   rcases List.mem_cons.1 hm with e | hm
   · cases e
   · exact zHa1 (l := r) h hm
 | (k,some x) :: r,t,d,h,hm => by
   rcases List.mem_cons.1 hm with e | hm
   · cases e; exact h.1
   · exact zHa1 (l := r) h.2 hm
theorem zQm : ∀ {l : List (Nat × Option Root)} {t : Nat} {d : Root},(t,some d) ∈ l → t ∈ nms l
 | (k,none) :: r,t,d,hm => by
   rcases List.mem_cons.1 hm with e | hm
   · cases e
   · exact zQm (l := r) hm
 | (k,some x) :: r,t,d,hm => by
   rcases List.mem_cons.1 hm with e | hm
   · cases e; exact .head _
   · exact .tail _ (zQm (l := r) hm)
theorem zVn {f : Nat → Nat} : ∀ {l : List Nat} {n m : Nat},(l.map f).Nodup → n ∈ l → m ∈ l → f n = f m → n = m
 | x :: l,n,m,hd,hn,hm,e => by
   simp only [List.map_cons,List.nodup_cons] at hd
   rcases List.mem_cons.1 hn with hn | hn
   · rcases List.mem_cons.1 hm with hm | hm
     · rw [hn,hm]
     · rw [hn] at e; exact absurd (List.mem_map.2 ⟨m,hm,e.symm⟩) hd.1
   · rcases List.mem_cons.1 hm with hm | hm
     · rw [hm] at e; exact absurd (List.mem_map.2 ⟨n,hn,e⟩) hd.1
     · exact zVn hd.2 hn hm e
theorem RelS.sub {N pn : Nat} {st st' : St} (hpn : ∀ n,en.g0.used n → n < pn) (h : RelS en N st a w) (hs : Sub pn st st') : RelS en N st' a w := by
 obtain ⟨fs,ρ,hs⟩ := hs
 unfold subF at hs
 split at hs
 rotate_left
 · exact hs.elim
 rename_i st1 hfo
 obtain ⟨g,hu,hR,hN⟩ := zEz hpn h hfo
 obtain ⟨h1,h2,h3,h4,h5,h6⟩ := hs
 have hfp : ∀ n,n < pn → reF pn st'.h ρ n = n := fun n hn => by simp only [reF]; rw [if_pos hn]
 obtain ⟨g',k1,k2⟩ := hR.rename (reF pn st'.h ρ) (S' := lk st'.s) (H' := lk st'.h) (fun k hk => hfp k (hpn k hk))
   (fun n m r r' hn hm e => zVn h3 (zQm (zJr hn)) (zQm (zJr hm)) e)
   (fun n r k hn hk e => by
     by_cases hlt : n < pn
     · rw [hfp n hlt] at e; exact e
     · have := h4 n (zQm (zJr hn)) (by omega)
       have := hpn k hk
       omega)
   (fun t d ht => zDy1 h1 (zJr ht)) (fun n r hn => zHa1 h2 (zJr hn))
 exact ⟨g',fun m hm => (k1 m hm).elim (fun h => by have := hpn m h; omega) (fun ⟨r,hr⟩ => h6 m (zQm (zJr hr))),k2,hN⟩
inductive Ex where
 | norm
 | exit (id : Nat)
 | ret
def loopP (pn : Nat) (body : (Ex → St → Prop) → St → Prop) (K : Ex → St → Prop) (_ : Tag body) (_ : Tag K) (st : St) : Prop :=
 ∃ (ι : Type) (F : ι → St) (μ : ι → Nat) (i0 : ι),Sub pn st (F i0) ∧ ∀ i,body (fun e st' => match e with
     | .norm => ∃ j,μ j < μ i ∧ Sub pn st' (F j)
     | e => K e st') (F i)
def sx (P : Program) (Φ : FuncId → Option Ct) (N pn : Nat) : Code → (K : Ex → St → Prop) → Tag K → St → Prop
 | .skip,K,_,st => K .norm st
 | .region _ ops draw,K,_,st => match draw with
   | false => regX P Φ N ops.toList ops.toList st (fun st' => K .norm st') .mk
   | true => slotsOk ops.toList = true ∧ drX P Φ N st.n ops.toList ops.toList 0 st [] (fun st' acc => rootsOk ops.toList st.n acc = true ∧ K .norm ⟨st'.s,st'.h,st.n + 8 * ops.toList.length⟩) .mk
 | .seq x y,K,t0,st => sx P Φ N pn x (fun e st' => match e with
     | .norm => sx P Φ N pn y K t0 st'
     | e => K e st') .mk st
 | .cond c x y,K,t0,st => match evI (lk st.s) c with
   | some (.bool b) => gS b true (sx P Φ N pn x K t0 st) (sx P Φ N pn y K t0 st) .mk .mk
   | _ => False
 | .block id c,K,_,st => sx P Φ N pn c (fun e st' => match e with
     | .exit id' => if id' = id then K .norm st' else K (.exit id') st'
     | e => K e st') .mk st
 | .loop c,K,_,st => loopP pn (fun K' st' => sx P Φ N pn c K' .mk st') K .mk .mk st
 | .scope c,K,t0,st => sx P Φ N pn c K t0 st
 | .exit id,K,_,st => K (.exit id) st
 | .ret,K,_,st => K .ret st
 | _,_,_,_ => False
def post (en : En) (N : Nat) (K : Ex → St → Prop) : Exit → Act → World → Prop
 | .normal,a,w => ∃ st,RelS en N st a w ∧ K .norm st
 | .exit id,a,w => ∃ st,RelS en N st a w ∧ K (.exit id) st
 | .ret,a,w => ∃ st,RelS en N st a w ∧ K .ret st
 | _,_,_ => False
theorem RelS.world {N : Nat} {st : St} (h : RelS en N st a w) {w' : World} (h1 : w'.heap = w.heap) (h2 : w'.os = w.os) (h3 : w'.tape = w.tape) (h4 : w'.output = w.output) : RelS en N st a w' := by
 obtain ⟨g,hu,hR,hN⟩ := h
 exact ⟨g,hu,hR.world h1 h2 h3 h4,hN⟩
theorem zEb {Φ : FuncId → Option Ct} (hΦ : Env P Φ) (hm : P.follows .mixedOrders = true) {N pn : Nat} (hpn : ∀ n,en.g0.used n → n < pn) :
   ∀ (c : Code) (K : Ex → St → Prop) (t0 : Tag K) (st : St) (a : Act) (w : World),RelS en N st a w → sx P Φ N pn c K t0 st → c.wp P (post en N K) a w
 | .skip,K,t0,st,a,w,h,hx => wp_skip ⟨st,h,hx⟩
 | .region id ops false,K,t0,st,a,w,h,hx => by
   refine wp_region_list (zHs hΦ (K := fun st' => K .norm st') (fun st a w h1 h2 => ⟨st,h1,h2⟩) ops.toList st .mk a w h ?_)
   simpa [sx] using hx
 | .region id ops true,K,t0,st,a,w,h,hx => by
   simp only [sx] at hx
   obtain ⟨hsl,hx⟩ := hx
   obtain ⟨es,st',hrun,hro,hk⟩ := zBb1 hx
   have hs := zUl hsl
   obtain ⟨g,hu,hR,hN⟩ := h
   have hops : ops = ops.toList.toArray := by simp
   have hdraw := (RelS.world (en := en) (N := N) ⟨g,hu,hR,hN⟩ (w' := { w with drawn := w.drawn + 1 }) rfl rfl rfl rfl)
   obtain ⟨g1,hu1,hR1,hN1⟩ := hdraw
   rw [hops]
   refine wp_region_any hm ?_
   have hrep : ∀ j,Xof (Array.replicate ops.toList.toArray.size false) j = false := fun j => by
     simp only [Xof,Array.getD_eq_getD_getElem?,Array.getElem?_replicate]
     split <;> rfl
   have e1 : ∀ {κ V : Type} (W : Nat → κ → Option V) (init : κ → V) (n : Nat),Fg W (Xof (Array.replicate ops.toList.toArray.size false)) init n = init := fun W init n => by
     funext k
     induction n with
     | zero => rfl
     | succ n ih => simp only [Fg,hrep n]; simp [ih]
   refine zEx1 (n0 := st.n) (N := N) (Kf := fun st' => K .norm ⟨st'.s,st'.h,st.n + 8 * ops.toList.length⟩) hΦ hs hx (fun st2 g a w hk hug hRg hNg => ⟨⟨st2.s,st2.h,st.n + 8 * ops.toList.length⟩,⟨g,hug,hRg,hNg⟩,hk⟩) _ _ es st' g1 a _ (by simp) (fun j o _ hx => by rw [hrep] at hx; cases hx) (Nat.le_trans (List.length_filter_le _ _) (by simp)) hrun hro hk (by rw [e1,e1]; exact hR1) (fun m hm => .inl (hu1 m hm)) hN1
 | .seq x y,K,t0,st,a,w,h,hx => by
   refine wp_seq (Code.wp_mono (fun e a w hq => ?_) (zEb hΦ hm hpn x _ .mk st a w h hx))
   cases e with
   | normal => obtain ⟨st',h1,h2⟩ := hq; exact zEb hΦ hm hpn y K t0 st' a w h1 h2
   | exit id => exact hq
   | ret => exact hq
   | _ => exact hq.elim
 | .cond c x y,K,t0,st,a,w,h,hx => by
   simp only [sx] at hx
   split at hx
   · rename_i b hb
     obtain ⟨g,hu,hR,hN⟩ := h
     have hv := (zBj hR hb).bool_inv
     exact wp_cond_split hv (fun ht => zEb hΦ hm hpn x K t0 st a w ⟨g,hu,hR,hN⟩ (hx.1 ht)) (fun ht => zEb hΦ hm hpn y K t0 st a w ⟨g,hu,hR,hN⟩ (hx.2 ht))
   · exact hx.elim
 | .block id c,K,t0,st,a,w,h,hx => by
   refine wp_block (Code.wp_mono (fun e a w hq => ?_) (zEb hΦ hm hpn c _ .mk st a w h hx))
   cases e with
   | normal => exact hq
   | exit id' =>
     obtain ⟨st',h1,h2⟩ := hq
     simp only [Exit.inBlock]
     split
     · rename_i e; simp only [e,yal] at h2; exact ⟨st',h1,h2⟩
     · rename_i e; simp only [e,yak] at h2; exact ⟨st',h1,h2⟩
   | ret => exact hq
   | _ => exact hq.elim
 | .loop c,K,t0,st,a,w,h,hx => by
   obtain ⟨ι,F,μ,i0,h0,hr⟩ := hx
   have key : ∀ (n : Nat) (i : ι) (a : Act) (w : World),μ i = n → RelS en N (F i) a w → ∀ (b : Frame) (k : List Item) (cs : List Frame),
       ∃ e a' w',post en N K e a' w' ∧ Arrives P (lone (b.at a (.code c :: .inLoop c :: k)) cs w) b k cs e a' w' := by
     intro n
     induction n using Nat.strongRecOn with
     | _ n ih =>
       intro i a w hn hi b k cs
       obtain ⟨e,a₁,w₁,hq,harr⟩ := zEb hΦ hm hpn c _ .mk (F i) a w hi (hr i) b (.inLoop c :: k) cs
       cases e with
       | normal =>
         obtain ⟨st',h1,j,hlt,hsub⟩ := hq
         obtain ⟨e₂,a₂,w₂,hq₂,harr₂⟩ := ih (μ j) (hn ▸ hlt) j a₁ w₁ rfl (h1.sub hpn hsub) b k cs
         exact ⟨e₂,a₂,w₂,hq₂,.of_steps (Steps.trans harr (.one step_inLoop)) harr₂⟩
       | exit id => exact ⟨.exit id,a₁,w₁,hq,.pass (x := .inLoop c) rfl (fun _ _ => .inl (by simp)) harr⟩
       | goto l => exact hq.elim
       | ret => exact ⟨.ret,a₁,w₁,hq,.pass (x := .inLoop c) rfl (fun _ _ => .inl (by simp)) harr⟩
       | panic ch => exact hq.elim
       | outgrown => exact hq.elim
   intro b k cs
   obtain ⟨e,a',w',hq,harr⟩ := key _ i0 a w rfl (h.sub hpn h0) b k cs
   exact ⟨e,a',w',hq,.of_steps (.one step_loop) harr⟩
 | .scope c,K,t0,st,a,w,h,hx => by
   refine wp_scope_straight (Code.wp_mono (fun e a w hq => ?_) (zEb hΦ hm hpn c K t0 st a w h hx))
   cases e <;> first | exact hq | exact hq.elim
 | .exit id,K,t0,st,a,w,h,hx => wp_exit ⟨st,h,hx⟩
 | .ret,K,t0,st,a,w,h,hx => wp_ret ⟨st,h,hx⟩
 | .rangeFunc _ _ _ _,K,t0,st,a,w,h,hx => by simp [sx] at hx
 | .label _,K,t0,st,a,w,h,hx => by simp [sx] at hx
 | .goto _,K,t0,st,a,w,h,hx => by simp [sx] at hx
 | .refuse _,K,t0,st,a,w,h,hx => by simp [sx] at hx
theorem zFw1 {t : TypeId} {v u : Value} {w' : World} (h : (Instr.loadAt t v).run P w = .ok u w') : (do loadVar t (← asAddr v)).run P w = .ok u w' := by
 cases v with
 | pointer o =>
   cases o with
   | some ad => simpa [Instr.loadAt,Instr.sureAddr,asAddr] using h
   | none => simp [Instr.loadAt,Instr.sureAddr] at h
 | _ => simp [Instr.loadAt,Instr.sureAddr] at h
def resD (P : Program) (S : Nat → Option D) (H : Nat → Option Root) : ResultVar → Option D
 | .tmp t => S t
 | .cell t ty => loadD P ty S H (.tmp t)
def resV : List D → D
 | [d] => d
 | ds => .tup ds
def resM (a : Act) (r : ResultVar) : Sem Value := match r with
 | .tmp t => pure (a.tmps.getD t undef)
 | .cell c t => do loadVar t (← asAddr (a.tmps.getD c undef))
theorem zQi (h : Rel en g S H a w) : ∀ {rs : List ResultVar} {ds : List D},mapO (resD P S H) rs = some ds →
   ∃ vs : List Value,(rs.mapM (resM a)).run P w = .ok vs w ∧ vs.length = ds.length ∧ ∀ (j : Nat) (d : D) (v : Value),ds[j]? = some d → vs[j]? = some v → DV g d v
 | [],ds,hd => by simp only [mapO,yay] at hd; subst hd; exact ⟨[],by simp,rfl,fun j d v h => by simp at h⟩
 | r :: rs,ds,hd => by
   simp only [mapO] at hd
   split at hd
   · rename_i d0 h0
     split at hd
     · rename_i ds' hds
       injection hd with hd
       subst hd
       obtain ⟨vs,h1,h2,h3⟩ := zQi h hds
       have hone : ∃ v,(resM a r).run P w = .ok v w ∧ DV g d0 v := by
         cases r with
         | tmp t =>
           obtain ⟨v,hv,hdv⟩ := h.slots t d0 h0
           exact ⟨v,by simp [resM,Array.getD_eq_getD_getElem?,hv],hdv⟩
         | cell c t =>
           obtain ⟨v,k1,k2⟩ := zOl h h0
           exact ⟨v,zFw1 k1,k2⟩
       obtain ⟨v,k1,k2⟩ := hone
       refine ⟨v :: vs,?_,by simp [h2],fun j d u hj hu => ?_⟩
       · rw [List.mapM_cons]
         simp only [Sem.run_bind,k1,Result.andThen_ok,h1]
         rfl
       · cases j with
         | zero => simp at hj hu; subst hj; subst hu; exact k2
         | succ j => simp at hj hu; exact h3 j d u hj hu
     · cases hd
   · cases hd
theorem zIq {fn : Func} (h : Rel en g S H a w) {ds : List D} (hd : mapO (resD P S H) fn.results.toList = some ds) : ∃ v,(results fn a.tmps).run P w = .ok v w ∧ DV g (resV ds) v := by
 obtain ⟨vs,h1,h2,h3⟩ := zQi h hd
 refine ⟨if h : vs.toArray.size = 1 then vs.toArray[0] else .tuple vs.toArray,?_,?_⟩
 · have hr : results fn a.tmps = (do
       let vs ← fn.results.mapM (resM a)
       pure (if h : vs.size = 1 then vs[0] else .tuple vs)) := by
     unfold results
     congr 1
   rw [hr,Array.mapM_eq_mapM_toList]
   simp only [Sem.run_bind,Sem.run_map,h1]
   rfl
 · by_cases e : vs.toArray.size = 1
   · rw [dif_pos e]
     have e1 : vs.length = 1 := by simpa using e
     obtain ⟨v,rfl⟩ := List.length_eq_one_iff.1 e1
     obtain ⟨d,rfl⟩ := List.length_eq_one_iff.1 (h2.symm.trans e1)
     exact h3 0 d v rfl rfl
   · rw [dif_neg e]
     have hne : ds.length ≠ 1 := by rw [← h2]; simpa using e
     have : resV ds = .tup ds := by
       match ds,hne with
       | [],_ => rfl
       | [d],h => simp at h
       | _ :: _ :: _,_ => rfl
     rw [this]
     exact .tup _ _ (by simp [h2]) (fun j x v hj hv => h3 j x v hj (by simpa using hv))
def rtOk (H : Nat → Option Root) : List Root → List Nat → Prop
 | [],[] => True
 | r :: rs,m :: ns => H m = some r ∧ rtOk H rs ns
 | _,_ => False
def plK (H : Nat → Option Root) : Nat → List (List B) → Prop
 | _,[] => True
 | k,c :: cs => H k = some (.box c) ∧ plK H (k + 1) cs
def finX (P : Program) (rs : List ResultVar) (pn : Nat) (res : Res) (st : St) : Prop :=
 mK (mapO (resD P (lk st.s) (lk st.h)) rs) (fun ds => plK (lk st.h) 0 res.places ∧ match res.roots with
   | [] => reD (fun n => ([] : List Nat).getD n 0) res.val = some (resV ds)
   | _ => ∃ ns : List Nat,ns.Nodup ∧ (∀ m ∈ ns,pn ≤ m) ∧ rtOk (lk st.h) res.roots ns ∧ reD (fun n => ns.getD n 0) res.val = some (resV ds)) .mk
theorem zYd : ∀ {rs : List Root} {ns : List Nat},rtOk H rs ns → ns.length = rs.length ∧ ∀ (k : Nat) (r : Root) (m : Nat),rs[k]? = some r → ns[k]? = some m → H m = some r
 | [],[],_ => ⟨rfl,fun k r m h => by simp at h⟩
 | r :: rs,m :: ns,h => by
   obtain ⟨h1,h2⟩ := zYd h.2
   refine ⟨by simp [h1],fun k r' m' hr hm => ?_⟩
   cases k with
   | zero => simp at hr hm; subst hr; subst hm; exact h.1
   | succ k => simp at hr hm; exact h2 k r' m' hr hm
 | [],_ :: _,h => h.elim
 | _ :: _,[],h => h.elim
theorem zVh : ∀ {cs : List (List B)} {k : Nat},plK H k cs → ∀ (j : Nat) (c : List B),cs[j]? = some c → H (k + j) = some (.box c)
 | [],k,_,j,c,h => by simp at h
 | c0 :: cs,k,h,j,c,hc => by
   cases j with
   | zero => simp at hc; subst hc; exact h.1
   | succ j => simp at hc; have := zVh h.2 j c hc; rw [show k + (j + 1) = k + 1 + j by omega]; exact this
def entS {α β : Type} (f : α → β) : Nat → List α → List (Nat × Option β)
 | _,[] => []
 | i,d :: ds => (i,some (f d)) :: entS f (i + 1) ds
theorem zKt {α β : Type} (f : α → β) : ∀ (l : List α) (i t : Nat),lk (entS f i l) t = if i ≤ t then (l[t - i]?).map f else none
 | [],i,t => by simp [entS,lk]
 | d :: l,i,t => by
   simp only [entS,lk]
   by_cases e : t = i
   · subst e; simp
   · rw [if_neg e,zKt f l (i + 1) t]
     by_cases h : i + 1 ≤ t
     · rw [if_pos h,if_pos (by omega),show t - i = (t - (i + 1)) + 1 by omega]; simp
     · rw [if_neg h,if_neg (by omega)]
def St.entry (ds : List D) (hs : List (List B)) : St := ⟨entS id 0 ds,entS Root.box 0 hs,hs.length⟩
def finO (P : Program) (rs : List ResultVar) (pn : Nat) (o : Outs) (st : St) : Prop := match o with
 | .one r => finX P rs pn r st
 | .any _ f => ∃ i,finX P rs pn (f i) st
def finF (P : Program) (rs : List ResultVar) (pn : Nat) (o : Outs) (st : St) : Prop := ∃ fs st1,folds pn fs st = some st1 ∧ finO P rs pn o st1
def finK (P : Program) (rs : List ResultVar) (pn : Nat) (o : Outs) : Ex → St → Prop
 | .norm,st => finO P rs pn o st
 | .ret,st => finO P rs pn o st
 | .exit _,_ => False
def finKF (P : Program) (rs : List ResultVar) (pn : Nat) (o : Outs) : Ex → St → Prop
 | .norm,st => finF P rs pn o st
 | .ret,st => finF P rs pn o st
 | .exit _,_ => False
theorem zAs1 {Φ : FuncId → Option Ct} (hΦ : Env P Φ) (hm : P.follows .mixedOrders = true) {f : FuncId} {fn : Func} {c : Code} (hf : P.funcs[f]? = some fn) (hb : fn.body = some c) (hnm : (fn.name == "runtime.NumGoroutine") = false) {ct : Ct}
   (KK : Nat → Outs → Ex → St → Prop) (hKK : ∀ pn o e st,KK pn o e st → finKF P fn.results.toList pn o e st)
   (h : ∀ ds hs o,ct.run ds hs = some o → (∀ res,o.mem res → OkR ct.sc res) ∧ ds.length ≤ fn.ntmps ∧ ∃ fs st0,folds hs.length fs (St.entry ds hs) = some st0 ∧ sx P Φ fn.ntmps hs.length c (KK hs.length o) .mk st0) :
   Good P f ct ∧ ∃ fn : Func, P.funcs[f]? = some fn ∧ (fn.name == "runtime.NumGoroutine") = false ∧ fn.body.isNone = false := by
 refine ⟨⟨fun ds hs o hr => (h ds hs o hr).1,fun ds hs o hr en args hal hpn hR => ?_⟩,fn,hf,hnm,by rw [hb]; rfl⟩
 obtain ⟨hok,hlen,fs0,st0,hf0,hx⟩ := h ds hs o hr
 have hN : args.toArray.size ≤ fn.ntmps := by simpa [hal] using hlen
 have hS : RelS en fn.ntmps (St.entry ds hs) { tmps := args.toArray ++ Array.replicate (fn.ntmps - args.toArray.size) undef,defers := [] } en.w0 := by
   refine ⟨en.g0,hpn,⟨hR.fr,rfl,hR.lt,hR.fz,fun t d ht => ?_,fun n r hn => ?_,fun n r b hn hb => ?_⟩,by simp; omega⟩
   · simp only [St.entry,zKt,yai,yal,Nat.sub_zero] at ht
     obtain ⟨v,hv,hd⟩ := hR.slots t d (by simpa using ht)
     refine ⟨v,?_,hd⟩
     simp only [] at hv
     have hlt : t < args.toArray.size := (Array.getElem?_eq_some_iff.1 hv).1
     rw [Array.getElem?_append_left hlt]; exact hv
   · simp only [St.entry,zKt,yai,yal,Nat.sub_zero] at hn
     exact hR.roots n r hn
   · simp only [St.entry,zKt,yai,yal,Nat.sub_zero] at hn
     exact hR.wd n r b hn hb
 refine calls_of_wp hf hb (Code.wp_mono (fun e a w hq => ?_) (zEb hΦ hm hpn c _ .mk _ _ _ (zEz hpn hS hf0) hx))
 have fin0 : ∀ st res,RelS en fn.ntmps st a w → finX P fn.results.toList hs.length res st → a.defers = [] ∧ ∃ v,(results fn a.tmps).run P w = .ok v w ∧ ∃ v',Ending.returned v = .returned v' ∧ Done en res v' w := by
   rintro st res ⟨g,hu,hRg,hNg⟩ hfin
   obtain ⟨dl,h1,h2,h3⟩ := mK_ex hfin
   obtain ⟨v,k1,k2⟩ := zIq hRg h1
   refine ⟨hRg.df,v,k1,v,rfl,?_⟩
   split at h3
   · rename_i hr0
     refine ⟨g,[],lk st.s,lk st.h,a,_,hRg,.nil,by simp [hr0],fun m hm => by simp at hm,fun k r m hr _ => ?_,fun k c hc => by have := zVh h2 k c hc; simpa using this,h3,k2⟩
     rw [hr0] at hr; simp at hr
   · obtain ⟨ns,q1,q2,q3,q4⟩ := h3
     obtain ⟨q5,q6⟩ := zYd q3
     refine ⟨g,ns,lk st.s,lk st.h,a,_,hRg,q1,q5,fun m hm hu' => ?_,q6,fun k c hc => by have := zVh h2 k c hc; simpa using this,q4,k2⟩
     have := q2 m hm; have := hpn m hu'; omega
 have fin : ∀ st,RelS en fn.ntmps st a w → finF P fn.results.toList hs.length o st → a.defers = [] ∧ ∃ v,(results fn a.tmps).run P w = .ok v w ∧ ∃ v',Ending.returned v = .returned v' ∧ ∃ res,o.mem res ∧ Done en res v' w := by
   rintro st hst ⟨fs,st1,hfo,hfin⟩
   have hst1 := zEz hpn hst hfo
   cases o with
   | one r =>
     obtain ⟨k1,v,k2,v',k3,k4⟩ := fin0 st1 r hst1 hfin
     exact ⟨k1,v,k2,v',k3,r,rfl,k4⟩
   | any ι f =>
     obtain ⟨i,hfin⟩ := hfin
     obtain ⟨k1,v,k2,v',k3,k4⟩ := fin0 st1 (f i) hst1 hfin
     exact ⟨k1,v,k2,v',k3,f i,⟨i,rfl⟩,k4⟩
 cases e with
 | normal => obtain ⟨st,h1,h2⟩ := hq; exact fin st h1 (hKK _ _ _ _ h2)
 | ret => obtain ⟨st,h1,h2⟩ := hq; exact fin st h1 (hKK _ _ _ _ h2)
 | exit id => obtain ⟨st,h1,h2⟩ := hq; exact (hKK _ _ _ _ h2).elim
 | _ => exact hq.elim
theorem zKy1 {Φ : FuncId → Option Ct} (hΦ : Env P Φ) (hm : P.follows .mixedOrders = true) {f : FuncId} {fn : Func} {c : Code} (hf : P.funcs[f]? = some fn) (hb : fn.body = some c) (hnm : (fn.name == "runtime.NumGoroutine") = false) {ct : Ct}
   (h : ∀ ds hs o,ct.run ds hs = some o → (∀ res,o.mem res → OkR ct.sc res) ∧ ds.length ≤ fn.ntmps ∧ sx P Φ fn.ntmps hs.length c (finKF P fn.results.toList hs.length o) .mk (St.entry ds hs)) :
   Good P f ct ∧ ∃ fn : Func, P.funcs[f]? = some fn ∧ (fn.name == "runtime.NumGoroutine") = false ∧ fn.body.isNone = false :=
 zAs1 hΦ hm hf hb hnm (fun pn o => finKF P fn.results.toList pn o) (fun _ _ _ _ h => h) (fun ds hs o hr => ⟨(h ds hs o hr).1,(h ds hs o hr).2.1,[],_,rfl,(h ds hs o hr).2.2⟩)
theorem zPs1 {Φ : FuncId → Option Ct} (hΦ : Env P Φ) (hm : P.follows .mixedOrders = true) {f : FuncId} {fn : Func} {c : Code} (hf : P.funcs[f]? = some fn) (hb : fn.body = some c) (hnm : (fn.name == "runtime.NumGoroutine") = false) {ct : Ct}
   (h : ∀ ds hs o,ct.run ds hs = some o → (∀ res,o.mem res → OkR ct.sc res) ∧ ds.length ≤ fn.ntmps ∧ sx P Φ fn.ntmps hs.length c (finK P fn.results.toList hs.length o) .mk (St.entry ds hs)) :
   Good P f ct ∧ ∃ fn : Func, P.funcs[f]? = some fn ∧ (fn.name == "runtime.NumGoroutine") = false ∧ fn.body.isNone = false :=
 zAs1 hΦ hm hf hb hnm (fun pn o => finK P fn.results.toList pn o) (fun pn o e st h => by
   cases e with
   | norm => exact ⟨[],st,rfl,h⟩
   | ret => exact ⟨[],st,rfl,h⟩
   | exit id => exact h.elim) (fun ds hs o hr => ⟨(h ds hs o hr).1,(h ds hs o hr).2.1,[],_,rfl,(h ds hs o hr).2.2⟩)
end Go.SX
