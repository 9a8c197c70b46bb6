/-
  SX: the engine, parts K to T, in one text. Plain definitions and theorems over any program.
  No condition.
-/
import Derived.Test.YtfmpjhjnpeheeaaGreatDoorPkB
set_option maxRecDepth 100000
set_option maxHeartbeats 16000000
set_option linter.unusedVariables false
set_option linter.unusedSimpArgs false
namespace Go.SX
open Go Go.RowKit
variable {en : En} {g : Gh} {S : Nat → Option D} {H : Nat → Option Root} {a : Act} {w : World} {P : Program}
def evDs (S : Nat → Option D) : List Operand → Option (List D)
 | [] => some []
 | x :: xs => match ev S x with
   | some d => match evDs S xs with
     | some ds => some (d :: ds)
     | none => none
   | none => none
theorem zKy (h : Rel en g S H a w) : ∀ {xs : List Operand} {ds : List D},evDs S xs = some ds → ds.length = xs.length ∧ ∀ (t : Nat) (d : D) (v : Value),ds[t]? = some d → (xs.map a.eval)[t]? = some v → DV g d v
 | [],ds,hd => by simp only [evDs,yay] at hd; subst hd; exact ⟨rfl,fun t d v h => by simp at h⟩
 | x :: xs,ds,hd => by
   simp only [evDs] at hd
   split at hd
   · rename_i d0 h0
     split at hd
     · rename_i ds' hds
       injection hd with hd; subst hd
       obtain ⟨h1,h2⟩ := zKy h hds
       refine ⟨by simp [h1],fun t d v ht hv => ?_⟩
       cases t with
       | zero => simp at ht hv; subst ht; subst hv; exact zBg h h0
       | succ t => simp only [List.getElem?_cons_succ,List.map_cons] at ht hv; exact h2 t d v ht hv
     · cases hd
   · cases hd
def exC1 : C → List Plc
 | .ptr n sz i _ => [⟨n,sz,i⟩]
 | _ => []
def exC : C → List Plc
 | .ptr n sz i _ => [⟨n,sz,i⟩]
 | .fn _ caps => caps.flatMap exC1
 | _ => []
def exD : D → List Plc
 | .c x => exC x
 | .agg xs => xs.flatMap exC
 | .tup _ => []
def dd : List Plc → List Plc
 | [] => []
 | x :: xs => if x.n ∈ exN xs then dd xs else x :: dd xs
def exDs (ds : List D) : List Plc := dd (ds.flatMap exD)
def apH : List (Nat × Option Root) → (Nat → Option Root) → Nat → Option Root
 | [],H => H
 | (n,r) :: l,H => upd (apH l H) n r
def apS (dst : Option Nat) (val : Option D) (S : Nat → Option D) : Nat → Option D := match dst with
 | some t => upd S t val
 | none => S
def addR : Nat → List Root → List (Nat × Option Root)
 | _,[] => []
 | nm,r :: rs => (nm,some r) :: addR (nm + 1) rs
def addP (H : Nat → Option Root) : List Plc → List (List B) → List (Nat × Option Root)
 | [],_ => []
 | p :: ex,c :: cs => (p.n,plBack (H p.n) p (some c)) :: addP H ex cs
 | p :: ex,[] => (p.n,none) :: addP H ex []
theorem zPn : ∀ (l k : List (Nat × Option Root)) (H : Nat → Option Root),apH (l ++ k) H = apH l (apH k H)
 | [],_,_ => rfl
 | (n,r) :: l,k,H => by simp only [yaB,apH]; rw [zPn l k H]
theorem zKj : ∀ (rs : List Root) (nm : Nat) (H : Nat → Option Root) (n : Nat),apH (addR nm rs) H n = if nm ≤ n ∧ n < nm + rs.length then rs[n - nm]? else H n
 | [],nm,H,n => by simp only [addR,apH,List.length_nil]; rw [if_neg (by omega)]
 | r :: rs,nm,H,n => by
   simp only [addR,apH,upd]
   by_cases e : n = nm
   · subst e; simp
   · rw [if_neg e,zKj rs (nm + 1) H n]
     simp only [yas]
     by_cases h : nm + 1 ≤ n ∧ n < nm + 1 + rs.length
     · rw [if_pos h,if_pos (by omega),show n - nm = (n - (nm + 1)) + 1 by omega]; simp
     · rw [if_neg h,if_neg (by omega)]
theorem zOe (r : Option Root) (p : Plc) : plBack r p none = none := by
 cases r with
 | none => rfl
 | some r => cases r <;> rfl
theorem zTv (H0 : Nat → Option Root) : ∀ (ex : List Plc) (cs : List (List B)) (H : Nat → Option Root) (n : Nat),apH (addP H0 ex cs) H n = match pos (exN ex) n with
   | some k => plBack (H0 n) (ex.getD k default) cs[k]?
   | none => H n
 | [],cs,H,n => by cases cs <;> rfl
 | p :: ex,[],H,n => by
   simp only [addP,apH,upd,exN,List.map_cons,pos]
   by_cases e : n = p.n
   · subst e; simp [zOe]
   · rw [if_neg e,if_neg (Ne.symm e),zTv H0 ex [] H n]
     simp only [exN]
     cases pos (ex.map Plc.n) n <;> simp [zOe]
 | p :: ex,c :: cs,H,n => by
   simp only [addP,apH,upd,exN,List.map_cons,pos]
   by_cases e : n = p.n
   · subst e; simp
   · rw [if_neg e,if_neg (Ne.symm e),zTv H0 ex cs H n]
     simp only [exN]
     cases pos (ex.map Plc.n) n <;> simp
theorem zLm1 (H : Nat → Option Root) (ex : List Plc) (nm : Nat) (res : Res) : backH H ex nm res = apH (addR nm res.roots ++ addP H ex res.places) H := by
 funext n
 rw [zPn,zKj,zTv]
 unfold backH
 rfl
theorem zPo {H H' : Nat → Option Root} : ∀ (ex : List Plc) (cs : List (List B)),(∀ p ∈ ex,H p.n = H' p.n) → addP H ex cs = addP H' ex cs
 | [],cs,_ => by cases cs <;> rfl
 | p :: ex,[],h => by simp only [addP]; rw [zPo ex [] (fun q hq => h q (.tail _ hq))]
 | p :: ex,c :: cs,h => by simp only [addP]; rw [zPo ex cs (fun q hq => h q (.tail _ hq)),h p (.head _)]
def dropN : Option Nat → List (Nat × Option Root)
 | some n => [(n,none)]
 | none => []
def hoistJ : Root → Nat → List Nat → Nat → Option (Root × List Root)
 | r,_,[],_ => some (r,[])
 | r,i,j :: js,nm => match r.get i j with
   | some (.t (.own sz rows)) => if 0 < sz then match hoistJ (r.setT i j (.lent nm sz rows.length)) i js (nm + 1) with
       | some (r',rs) => some (r',.arr sz rows :: rs)
       | none => none
     else none
   | _ => none
theorem zLt : ∀ (js : List Nat) (r r' : Root) (rs : List Root) (nm i n : Nat) (g : Gh) (H : Nat → Option Root),Rel en g S H a w → H n = some r → hoistJ r i js nm = some (r',rs) → (∀ m,g.used m → ¬ (nm ≤ m ∧ m < nm + rs.length)) →
   ∃ g',g.le g' ∧ (∀ m,g'.used m → g.used m ∨ (nm ≤ m ∧ m < nm + rs.length)) ∧ Rel en g' S (apH ((n,some r') :: addR nm rs) H) a w
 | [],r,r',rs,nm,i,n,g,H,h,hn,hh,hnm => by
   simp only [hoistJ,yay,Prod.mk.injEq] at hh
   obtain ⟨rfl,rfl⟩ := hh
   refine ⟨g,Gh.le.refl g,fun m hm => .inl hm,?_⟩
   have : apH ((n,some r) :: addR nm []) H = H := by
     funext m
     simp only [apH,addR,upd]
     split
     · rename_i e; rw [e,hn]
     · rfl
   rw [this]; exact h
 | j :: js,r,r',rs,nm,i,n,g,H,h,hn,hh,hnm => by
   simp only [hoistJ] at hh
   split at hh
   · rename_i sz rows hc
     split at hh
     · rename_i hs
       split at hh
       · rename_i r1 rs1 h1
         simp only [yay,Prod.mk.injEq] at hh
         obtain ⟨rfl,rfl⟩ := hh
         have hnu : ¬ g.used nm := fun hu => hnm nm hu ⟨Nat.le_refl _,by simp⟩
         obtain ⟨g1,k1,k2,k3,k4⟩ := h.hoist hn hnu hs hc
         have hne : n ≠ nm := fun e => hnu (e ▸ (h.roots n r hn).1)
         have hn1 : upd (upd H n (some (r.setT i j (.lent nm sz rows.length)))) nm (some (.arr sz rows)) n = some (r.setT i j (.lent nm sz rows.length)) := by
           rw [zBp _ _ hne,zBc]
         obtain ⟨g2,q1,q2,q3⟩ := zLt js _ r1 rs1 (nm + 1) i n g1 _ k4 hn1 h1 (fun m hm hc => by
           rcases k3 m hm with e | hm
           · omega
           · exact hnm m hm ⟨by omega,by simp only [yas]; omega⟩)
         refine ⟨g2,k1.trans q1,fun m hm => ?_,?_⟩
         · simp only [yas]
           rcases q2 m hm with hm | hm
           · rcases k3 m hm with e | hm
             · exact .inr (by omega)
             · exact .inl hm
           · exact .inr (by omega)
         · have : apH ((n,some r1) :: addR (nm + 1) rs1) (upd (upd H n (some (r.setT i j (.lent nm sz rows.length)))) nm (some (.arr sz rows))) = apH ((n,some r1) :: addR nm (.arr sz rows :: rs1)) H := by
             funext m
             simp only [apH,addR,upd]
             by_cases e : m = n
             · rw [if_pos e,if_pos e]
             · rw [if_neg e,if_neg e,zKj,zKj]
               by_cases e2 : m = nm
               · subst e2
                 rw [if_pos rfl,if_neg (by omega),zBc]
               · rw [if_neg e2]
                 split
                 · rfl
                 · rw [zBp _ _ e2,zBp _ _ e]
           rw [this] at q3
           exact q3
       · cases hh
     · cases hh
   · cases hh
inductive OpSem (P : Program) (S : Nat → Option D) (H : Nat → Option Root) (nm : Nat) : Op → Option D → List (Nat × Option Root) → Nat → Prop where
 | q {o : Op} {d : D} (h : qv P S H o = some d) : OpSem P S H nm o (some d) [] 0
 | mk {o : Op} {d : D} {r : Root} (h : mkOp P S o nm = some (d,r)) : OpSem P S H nm o (some d) [(nm,some r)] 1
 | ldh {t : TypeId} {x : Operand} {n sz i off : Nat} {js : List Nat} {r r' : Root} {rs : List Root} {d : D} (hx : evC S x = some (.ptr n sz i off)) (hr : H n = some r) (hj : hoistJ r i js nm = some (r',rs))
     (h : qv P S (apH ((n,some r') :: addR nm rs) H) (.load t x) = some d) : OpSem P S H nm (.load t x) (some d) ((n,some r') :: addR nm rs) rs.length
 | st {t : TypeId} {x y : Operand} {n : Nat} {r : Root} (h : storeH P t S H x y = some (n,r)) : OpSem P S H nm (.store t x y) none [(n,some r)] 0
 | app {t : TypeId} {s x : Operand} {sz bytes : Nat} {rows : List (List T)} {on : Option Nat} (h : appendH P t S H s x = some (sz,bytes,rows,on)) (hb : rows.length * bytes ≤ 140737488355328) :
     OpSem P S H nm (.call { callee := .builtin .append,args := #[s,x],argTypes := #[t,t] }) (some (.c (.view nm sz 0 rows.length))) ((nm,some (.arr sz rows)) :: dropN on) 1
 | clr {t : TypeId} {x : Operand} {n : Nat} {r : Root} (h : clearH P t S H x = some (n,r)) : OpSem P S H nm (.call { callee := .builtin .clear,args := #[x],argTypes := #[t] }) (some (.tup [])) [(n,some r)] 0
theorem zCz {α β : Type} {f f' : α → Option β} (h : ∀ x y,f x = some y → f' x = some y) : ∀ {xs : List α} {ys : List β},mapO f xs = some ys → mapO f' xs = some ys
 | [],ys,hd => hd
 | x :: xs,ys,hd => by
   simp only [mapO] at hd ⊢
   split at hd
   · rename_i y hy
     split at hd
     · rename_i ys' hys
       rw [h x y hy,zCz h hys]; exact hd
     · cases hd
   · cases hd
variable {H' : Nat → Option Root}
theorem zRg (hH : ∀ n r,H n = some r → H' n = some r) {ex : List Nat} : ∀ (k : Nat) (t : T) (i : I),toI ex H k t = some i → toI ex H' k t = some i
 | 0,t,i,h => by cases t <;> exact h
 | k + 1,t,i,h => by
   cases t with
   | im => exact h
   | nil => exact h
   | dead => exact h
   | own sz rows =>
     simp only [toI] at h ⊢
     split at h
     · rename_i r hr; rw [zCz (fun x y hx => zCz (zRg hH k) hx) hr]; exact h
     · cases h
   | lent n sz len =>
     simp only [toI] at h ⊢
     split at h
     · cases h
     · rename_i hn
       rw [if_neg hn]
       split at h
       · rename_i sz' rows hr
         rw [hH n _ hr]
         simp only []
         split at h
         · rename_i hc
           rw [if_pos hc]
           split at h
           · rename_i r hr'; rw [zCz (fun x y hx => zCz (zRg hH k) hx) hr']; exact h
           · cases h
         · cases h
       · cases h
theorem zAi1 (hH : ∀ n r,H n = some r → H' n = some r) {ex : List Plc} : ∀ (k : Nat) (c c' : C),loC ex H k c = some c' → loC ex H' k c = some c' := by
 have hview : ∀ (k n sz lo len : Nat) (c' : C),loC ex H k (.view n sz lo len) = some c' → loC ex H' k (.view n sz lo len) = some c' := by
   intro k n sz lo len c' h
   simp only [loC] at h ⊢
   split at h
   · cases h
   · rename_i hn
     rw [if_neg hn]
     split at h
     · rename_i sz' rows hr
       rw [hH n _ hr]
       simp only []
       split at h
       · rename_i hc
         rw [if_pos hc]
         split at h
         · rename_i r hr'; rw [zCz (fun x y hx => zCz (zRg hH 4) hx) hr']; exact h
         · cases h
       · cases h
     · cases h
 intro k
 induction k with
 | zero => intro c c' h; cases c <;> first | exact h | exact hview _ _ _ _ _ _ h
 | succ k ih =>
   intro c c' h
   cases c with
   | fn f caps =>
     simp only [loC] at h ⊢
     split at h
     · rename_i cs hcs; rw [zCz ih hcs]; exact h
     · cases h
   | view n sz lo len => exact hview _ _ _ _ _ _ h
   | _ => exact h
theorem zKi1 (hH : ∀ n r,H n = some r → H' n = some r) {ex : List Plc} (d d' : D) (h : loD ex H d = some d') : loD ex H' d = some d' := by
 cases d with
 | c x =>
   simp only [loD] at h ⊢
   split at h
   · rename_i y hy; rw [zAi1 hH 2 x y hy]; exact h
   · cases h
 | agg xs =>
   simp only [loD] at h ⊢
   split at h
   · rename_i ys hys; rw [zCz (zAi1 hH 2) hys]; exact h
   · cases h
 | tup => exact h
theorem zZj (hH : ∀ n r,H n = some r → H' n = some r) {t : TypeId} {x : Operand} {z : Nat × Root} (h : clearH P t S H x = some z) : clearH P t S H' x = some z := by
 unfold clearH at h ⊢
 split at h
 · split at h
   · split at h
     · split at h
       · split at h
         · rename_i hr
           simp only [hH _ _ hr]
           exact h
         · cases h
       · cases h
     · cases h
   · cases h
 · cases h
theorem zXt (hH : ∀ n r,H n = some r → H' n = some r) {t : TypeId} {x y : Operand} {z : Nat × Root} (h : storeH P t S H x y = some z) : storeH P t S H' x y = some z := by
 unfold storeH at h ⊢
 split at h
 · split at h
   · split at h
     · split at h
       · split at h
         · rename_i hc
           split at h
           · rename_i r hr
             simp only [*,yal] at h ⊢
             rw [hH _ _ hr]
             exact h
           · cases h
         · cases h
       · cases h
     · cases h
   · cases h
 · cases h
theorem zLf (hH : ∀ n r,H n = some r → H' n = some r) {x : Operand} {sz : Nat} {z : List (List T)} (h : srcRows S H x sz = some z) : srcRows S H' x sz = some z := by
 unfold srcRows at h ⊢
 split at h
 · rename_i m sz' lo k hx
   split at h
   · rename_i hc
     split at h
     · rename_i sz2 rows hr
       (try simp only [hx])
       rw [if_pos hc,hH _ _ hr]
       exact h
     · cases h
   · cases h
 · rename_i sz' rows hx; (try simp only [hx]); exact h
 · rename_i hx; (try simp only [hx]); exact h
 · cases h
theorem zXq (hH : ∀ n r,H n = some r → H' n = some r) {t : TypeId} {s x : Operand} {z : Nat × Nat × List (List T) × Option Nat} (h : appendH P t S H s x = some z) : appendH P t S H' s x = some z := by
 unfold appendH at h ⊢
 split at h
 · rename_i e ht
   (try simp only [ht])
   split at h
   · rename_i sz bytes zc h1 h2 h3
     (try simp only [h1,h2,h3])
     split at h
     · rename_i hc
       rw [if_pos hc]
       split at h
       · rename_i src hsrc
         rw [zLf hH hsrc]
         simp only []
         split at h
         · rename_i n sz' len hs
           (try simp only [hs])
           split at h
           · rename_i hz
             rw [if_pos hz]
             split at h
             · rename_i sz2 rows hr
               rw [hH _ _ hr]
               exact h
             · cases h
           · cases h
         · rename_i hs; (try simp only [hs]); exact h
         · cases h
       · cases h
     · cases h
   · cases h
 · cases h
theorem zLi {p : Plc} {c : List B} (h : plCells H p = some c) : ∃ r,H p.n = some r := by obtain ⟨r,hr,_⟩ := zDc h; exact ⟨r,hr⟩
theorem zVi (hH : ∀ n r,H n = some r → H' n = some r) {p : Plc} {c : List B} (h : plCells H p = some c) : plCells H' p = some c := by
 obtain ⟨r,hr⟩ := zLi h
 unfold plCells at h ⊢
 rw [hH _ _ hr]
 rw [hr] at h
 exact h
theorem zIf1 (hH : ∀ n r,H n = some r → H' n = some r) {ex : List Plc} {hs : List (List B)} (h : PlOk H ex hs) : PlOk H' ex hs :=
 ⟨h.1,h.2.1,fun k n c h1 h2 => ⟨zVi hH (h.2.2 k n c h1 h2).1,(h.2.2 k n c h1 h2).2⟩⟩
theorem Rel.moreS {S' : Nat → Option D} (h : Rel en g S H a w) (hs : ∀ t d,S' t = some d → ∃ v,a.tmps[t]? = some v ∧ DV g d v) : Rel en g S' H a w :=
 ⟨h.fr,h.df,h.lt,h.fz,hs,h.roots,h.wd⟩
theorem Rel.putD (h : Rel en g S H a w) {dst : Option Nat} (hdst : ∀ t,dst = some t → t < a.tmps.size) {d : D} {v : Value} (hv : DV g d v) : Rel en g (apS dst (some d) S) H (a.put dst v) w := by
 cases dst with
 | none => exact h
 | some t => exact h.put (hdst t rfl) hv
theorem Rel.putN (h : Rel en g S H a w) (dst : Option Nat) (v : Value) : Rel en g (apS dst none S) H (a.put dst v) w := by
 have := h.putU dst v
 cases dst <;> exact this
theorem zCd (a : Act) (dst : Option Nat) (v : Value) : (a.put dst v).tmps.size = a.tmps.size := by cases dst <;> simp [Act.put]
theorem zLc {f : FuncId} (hf : ∃ fn : Func, P.funcs[f]? = some fn ∧ (fn.name == "runtime.NumGoroutine") = false ∧ fn.body.isNone = false) (args : Array Value) (w : World) : (callFunc f args).run P w = .ok (.enter f args) w := by
 obtain ⟨fn,h1,h2,h3⟩ := hf
 have h2' : ¬ fn.name = "runtime.NumGoroutine" := by simpa using h2
 have h3' : fn.body ≠ none := by
   intro h; rw [h] at h3; cases h3
 simp [callFunc,h1,h2',h3',h3]
def ExtLaw (P : Program) (f : FuncId) (ct : Ct) : Prop := ∀ (ds : List D) (hs : List (List B)) (o : Outs),ct.run ds hs = some o → hs = [] ∧ (∀ d ∈ ds,∃ i,d = .c (.im i) ∧ scI i = true) ∧
   ∀ (fz : Nat → Nat → Option Value) (vs : List Value) (w : World),vs.length = ds.length → (∀ (t : Nat) (i : I) (v : Value),ds[t]? = some (.c (.im i)) → vs[t]? = some v → IR fz i v) →
     ∃ v z,(callFunc f vs.toArray).run P w = .ok (.value v) w ∧ o.mem { val := .c (.im z) } ∧ IR fz z v
theorem zRl1 {ex : List Plc} {H : Nat → Option Root} {d : D} {i : I} (h : loD ex H d = some (.c (.im i))) (hs : scI i = true) : d = .c (.im i) ∨ ∃ n sz lo,d = .c (.view n sz lo 0) ∧ i = .sl sz [] := by
 cases d with
 | c x =>
   simp only [loD] at h
   split at h
   · rename_i y hy
     simp only [yay,D.c.injEq] at h
     subst h
     cases x with
     | im j => simp only [loC,yay,C.im.injEq] at hy; rw [hy]; exact .inl rfl
     | view n sz lo len =>
       simp only [loC] at hy
       split at hy
       · cases hy
       · split at hy
         · split at hy
           · rename_i hcc
             split at hy
             · rename_i r hr
               simp only [yay,C.im.injEq] at hy
               subst hy
               have hr0 : r = [] := by simpa [scI] using hs
               subst hr0
               have hl := zBi hr
               simp only [List.length_nil,List.length_take,List.length_drop] at hl
               have : len = 0 := by have := hcc.2; omega
               subst this
               exact .inr ⟨n,sz,lo,rfl,rfl⟩
             · cases hy
           · cases hy
         · cases hy
     | ptr n sz i off =>
       simp only [loC] at hy
       split at hy
       · split at hy
         · split at hy
           · cases hy
           · cases hy
         · cases hy
       · cases hy
     | nil => simp [loC] at hy
     | iptr row off => simp [loC] at hy
     | fn f caps =>
       simp only [loC] at hy
       split at hy <;> cases hy
   · cases h
 | agg xs => simp only [loD] at h; split at h <;> cases h
 | tup ds => simp [loD] at h
theorem zPt {s k : FloatKind} {b b' : Nat} (h : FEq s b b') (hc : fconv s b k = none) : ∃ r w',(Conv.floatToFloat s b' k).run P w = .ok (.float k r) w' ∧ Qt w w' ∧ r < 4294967296 := by
 unfold fconv at hc
 by_cases hs : s = k
 · simp [hs] at hc
 · rw [if_neg hs] at hc
   have hb : b = b' := by
     rcases h with h | ⟨h1,h2⟩
     · exact h
     · obtain ⟨s1,t1,hr1⟩ := zFy h1
       have hd1 : s.decode b = .nan s1 t1 := hr1
       rw [hd1] at hc; cases hc
   subst hb
   cases hd : s.decode b with
   | nan a c => rw [hd] at hc; cases hc
   | infinity sg => rw [hd] at hc; cases hc
   | number sg m e =>
     rw [hd] at hc
     simp only at hc
     split at hc
     · rename_i hi
       exact ⟨_,w.drew,by simp [Conv.floatToFloat,hs,hd,hi,Question.forced]; rfl,⟨rfl,rfl,rfl,rfl⟩,Nat.mod_lt _ (by decide)⟩
     · cases hc
theorem OpSem.sound {S' : Nat → Option D} {N nm cnt : Nat}
   {val : Option D} {wr : List (Nat × Option Root)} {Q : Exit → Act → World → Prop} {o : Oper} (h : Rel en g S' H' a w) (hN : a.tmps.size = N) (hS : ∀ t d,S t = some d → S' t = some d) (hH : ∀ n r,H n = some r → H' n = some r)
   (ho : OpSem P S H nm o.op val wr cnt) (hnm : ∀ m,g.used m → ¬ (nm ≤ m ∧ m < nm + cnt)) (hdst : ∀ t,o.dst = some t → t < N) :
   o.wp P a w (fun a' w' => ∃ g',(∀ m,g'.used m → g.used m ∨ (nm ≤ m ∧ m < nm + cnt)) ∧ Rel en g' (apS o.dst val S') (apH wr H') a' w' ∧ a'.tmps.size = N) Q := by
 subst hN
 have hless : Rel en g S H a w := h.less hS hH
 have hlessS : Rel en g S H' a w := h.less hS (fun _ _ h => h)
 have back : ∀ {g' : Gh} {Hn : Nat → Option Root} {w' : World},g.le g' → Rel en g' S Hn a w' → Rel en g' S' Hn a w' := fun hle hr => hr.moreS (fun t d ht => by
   obtain ⟨v,hv,hd⟩ := h.slots t d ht; exact ⟨v,hv,hd.mono hle⟩)
 generalize hop : o.op = op at ho
 cases ho with
 | q hq =>
   rename_i d
   rw [← hop] at hq
   obtain ⟨v,w',h1,h2,h3⟩ := zZx (o := o) hless hq
   simp only [Oper.wp,h1,Oper.upon]
   exact ⟨g,fun m hm => .inl hm,(h.world h2.heap h2.os h2.tape h2.output).putD hdst h3,zCd _ _ _⟩
 | mk hq =>
   rename_i d r
   rw [← hop] at hq
   obtain ⟨v,w',g',h1,h2⟩ := zCl1 (o := o) hlessS (fun hu => hnm nm hu ⟨Nat.le_refl _,by omega⟩) hq
   simp only [Oper.wp,h1,Oper.upon]
   refine ⟨g',fun m hm => (h2.us m hm).elim (fun e => .inr (by omega)) .inl,(back h2.le h2.rel).putD hdst h2.val,zCd _ _ _⟩
 | ldh hx hr hj hq =>
   rename_i t x n sz i off js r r' rs d
   obtain ⟨g',k1,k2,k3⟩ := zLt js r r' rs nm i n g H' hlessS (hH n r hr) hj hnm
   have hmono : ∀ m rm,apH ((n,some r') :: addR nm rs) H m = some rm → apH ((n,some r') :: addR nm rs) H' m = some rm := fun m rm hm => by
     simp only [apH,upd] at hm ⊢
     split at hm
     · rename_i e; rw [if_pos e]; exact hm
     · rename_i e
       rw [if_neg e]
       rw [zKj] at hm ⊢
       split at hm
       · rename_i e2; rw [if_pos e2]; exact hm
       · rename_i e2; rw [if_neg e2]; exact hH m rm hm
   rw [← hop] at hq
   obtain ⟨v,w',h1,h2,h3⟩ := zZx (o := o) (k3.less (fun _ _ h => h) hmono) hq
   simp only [Oper.wp,h1,Oper.upon]
   exact ⟨g',k2,((back k1 k3).world h2.heap h2.os h2.tape h2.output).putD hdst h3,zCd _ _ _⟩
 | st hq =>
   rename_i t x y n r
   obtain ⟨w',h1,h2⟩ := zUj hlessS (zXt hH hq)
   have h1' : (execOp a.eval o).run P w = .ok .skip w' := by simp [execOp,hop,h1]
   simp only [Oper.wp,h1',Oper.upon]
   exact ⟨g,fun m hm => .inl hm,(back (Gh.le.refl g) h2).putN _ _,zCd _ _ _⟩
 | app hq hb =>
   rename_i t s x sz bytes rows on
   obtain ⟨v,w',h1,g',h2,h3,h4,h5⟩ := zTu (ty := o.type) hlessS (zXq hH hq) (fun hu => hnm nm hu ⟨Nat.le_refl _,by omega⟩) hb
   have h1' : (execOp a.eval o).run P w = .ok (.value v) w' := by simp [execOp,hop,resolve,invoke,builtin,h1]
   simp only [Oper.wp,h1',Oper.upon]
   refine ⟨g',fun m hm => (h3 m hm).elim (fun e => .inr (by omega)) .inl,?_,zCd _ _ _⟩
   have h4' := (back h2 h4).putD hdst (.c _ _ h5)
   cases on <;> exact h4'
 | clr hq =>
   rename_i t x n r
   obtain ⟨w',h1,h2⟩ := zXl (ty := o.type) hlessS (zZj hH hq)
   have h1' : (execOp a.eval o).run P w = .ok (.value (.tuple #[])) w' := by simp [execOp,hop,resolve,invoke,builtin,h1]
   simp only [Oper.wp,h1',Oper.upon]
   exact ⟨g,fun m hm => .inl hm,(back (Gh.le.refl g) h2).putD hdst (.tup _ _ rfl (fun j x v hx => by simp at hx)),zCd _ _ _⟩
def imT : T → Option I
 | .im i => some i
 | _ => none
def Gh.frz (g : Gh) (b : Nat) (cs : Array Value) : Gh := { g with own := upd g.own b none,fz := fun b' o => if b' = b then cs[o]? else g.fz b' o }
theorem Rel.frzF (h : Rel en g S H a w) {n sz : Nat} {rows : List (List T)} {is : List (List I)} {f : T → Option I} (hn : H n = some (.arr sz rows)) (hi : mapO (mapO f) rows = some is)
   (hfi : ∀ (i : Nat) (r : List T) (j : Nat) (t : T) (x : I) (q : Pth) (v : Value),rows[i]? = some r → r[j]? = some t → f t = some x → TR w g n q t v → IR g.fz x v) :
   ∃ g',g.le g' ∧ g'.used = g.used ∧ Rel en g' S (upd H n none) a w ∧ ∀ v,CV g (.view n sz 0 rows.length) v → CV g' (.im (.sl sz is)) v := by
 have hless : Rel en g S (upd H n none) a w := h.less (fun _ _ h => h) (fun m r hm => by
   unfold upd at hm
   split at hm
   · cases hm
   · exact hm)
 have hlen : is.length = rows.length := zBi hi
 rcases Nat.eq_zero_or_pos rows.length with h0 | h0
 · have hr : rows = [] := List.eq_nil_of_length_eq_zero h0
   subst hr
   have his : is = [] := List.eq_nil_of_length_eq_zero hlen
   subst his
   refine ⟨g,Gh.le.refl g,rfl,hless,fun v hv => ?_⟩
   cases hv with
   | view0 => exact .im _ _ (.sl0 _ _ _)
   | view => exact .im _ _ (.sl0 _ _ _)
 · obtain ⟨hu,hR⟩ := h.roots n _ hn
   cases hR with
   | arr0 => simp at h0
   | mk _ cs e hh ho hf hr =>
     obtain ⟨f1,f2,f3,f4⟩ := hf
     have hpl : ∀ b',en.g0.own b' ≠ some (n,[]) := fun b' hb' => by
       obtain ⟨c0,hc0,_⟩ := h.wd n _ b' hn hb'
       cases hc0
     have hfree : ∀ o,g.fz (g.rb n) o = none := fun o => by
       cases hz : g.fz (g.rb n) o with
       | none => rfl
       | some v => have := (h.fz _ _ _ hz).2; rw [ho] at this; cases this
     have hle : g.le (g.frz (g.rb n) cs) := ⟨fun _ h => h,fun _ _ => rfl,fun _ _ => rfl,fun _ _ => rfl,fun b o v hv => by
       simp only [Gh.frz]
       split
       · rename_i e; rw [e,hfree] at hv; cases hv
       · exact hv⟩
     have hcell : ∀ o v,cs[o]? = some v → w.cell? ⟨g.rb n,o,none⟩ = some v := fun o v hv => by simp [World.cell?,hh,hv]
     refine ⟨g.frz (g.rb n) cs,hle,rfl,⟨⟨h.fr.laid,h.fr.os,h.fr.tape,h.fr.output,h.fr.size,h.fr.gle.trans hle,fun b hb hb0 => ?_,fun b k hb => ?_,fun b o v hb hv => ?_⟩,h.df,fun b x hx => ?_,fun b o v hv => ?_,fun t d ht => ?_,fun k r1 hk => ?_,fun k r1 b hk hb => ?_⟩,fun v hv => ?_⟩
     · obtain ⟨h1,h2⟩ := h.fr.old b hb hb0
       refine ⟨?_,h2⟩
       simp only [Gh.frz,upd]
       split
       · rfl
       · exact h1
     · obtain ⟨k0,k1,c1,c2,e1,k2,k3,k4⟩ := h.fr.place b k hb
       refine ⟨k0,?_,c1,c2,e1,k2,k3,k4⟩
       simp only [Gh.frz,upd]
       split
       · rename_i e'
         rw [e',ho] at k1
         injection k1 with k1
         injection k1 with k1 _
         exact absurd (k1 ▸ hb) (hpl b)
       · exact k1
     · simp only [Gh.frz] at hv
       split at hv
       · rename_i e'
         cases ho0 : en.g0.own b with
         | none => have := (h.fr.old b hb ho0).1; rw [e',ho] at this; cases this
         | some x => exact .inr (by simp)
       · exact h.fr.fzn b o v hb hv
     · simp only [Gh.frz,upd] at hx
       split at hx
       · cases hx
       · exact h.lt b x hx
     · simp only [Gh.frz] at hv
       split at hv
       · rename_i e'
         subst e'
         exact ⟨hcell o v hv,by simp [Gh.frz,upd]⟩
       · rename_i e'
         obtain ⟨h1,h2⟩ := h.fz b o v hv
         exact ⟨h1,by simp only [Gh.frz,upd]; rw [if_neg e']; exact h2⟩
     · obtain ⟨v,hv,hd⟩ := h.slots t d ht; exact ⟨v,hv,hd.mono hle⟩
     · unfold upd at hk
       split at hk
       · cases hk
       · rename_i e'
         obtain ⟨hu1,hR1⟩ := h.roots k r1 hk
         refine ⟨hu1,hR1.keep hu1 hle (fun b p hb => ⟨?_,rfl⟩)⟩
         simp only [Gh.frz,upd]
         split
         · rename_i e2
           rw [e2,ho] at hb
           injection hb with hb
           injection hb with hb _
           exact absurd hb.symm e'
         · exact hb
     · unfold upd at hk
       split at hk
       · cases hk
       · exact h.wd k r1 b hk hb
     · generalize hL : rows.length = L at hv
       cases hv with
       | view0 => omega
       | view _ _ _ _ cap _ hbase hl hc =>
         subst hL
         rw [Nat.zero_mul]
         have key : ∀ (i : Nat) (r : List I) (j : Nat) (x : I),is[i]? = some r → r[j]? = some x → ∃ v,(g.frz (g.rb n) cs).fz (g.rb n) (0 + i * sz + j) = some v ∧ IR (g.frz (g.rb n) cs).fz x v := fun i r j x hir hjx => by
           obtain ⟨r0,k1,k2⟩ := zBl hi i r hir
           obtain ⟨t0,k3,k4⟩ := zBl k2 j x hjx
           have hget : (Root.arr sz rows).get i j = some (.t t0) := by simp [Root.get,k1,k3]
           obtain ⟨v,hv1,hv2⟩ := hr i j _ hget
           rw [f1] at hv1
           refine ⟨v,by simp only [Gh.frz,yal]; exact hv1,?_⟩
           cases hv2 with
           | t _ _ ht => exact (hfi i r0 j t0 x _ _ k1 k3 k4 ht).mono hle.fz
         obtain ⟨vs,hvs⟩ := zIp key
         have := IR.sl (fz := (g.frz (g.rb n) cs).fz) sz is (g.rb n) 0 cap vs (by rw [hlen]; exact hl) (fun i r hir => by
           obtain ⟨r0,k1,k2⟩ := zBl hi i r hir
           rw [zBi k2]; exact f4 i r0 k1) (fun i r j x h1 h2 => (hvs i r j x h1 h2).1) (fun i r j x h1 h2 => (hvs i r j x h1 h2).2)
         rw [hlen] at this
         exact .im _ _ this
def boxI : B → Option I
 | .t (.im i) => some i
 | _ => none
theorem Rel.frzBox (h : Rel en g S H a w) {n : Nat} {cells : List B} {row : List I} (hn : H n = some (.box cells)) (hpl : ∀ b',en.g0.own b' ≠ some (n,[])) (hi : mapO boxI cells = some row) :
   ∃ g',g.le g' ∧ g'.used = g.used ∧ Rel en g' S (upd H n none) a w ∧ ∀ sz off v,CV g (.ptr n sz 0 off) v → CV g' (.iptr row off) v := by
 obtain ⟨hu,hR⟩ := h.roots n _ hn
 cases hR with
 | mk _ cs e hh ho hf hr =>
   have hfree : ∀ o,g.fz (g.rb n) o = none := fun o => by
     cases hz : g.fz (g.rb n) o with
     | none => rfl
     | some v => have := (h.fz _ _ _ hz).2; rw [ho] at this; cases this
   have hle : g.le (g.frz (g.rb n) cs) := ⟨fun _ h => h,fun _ _ => rfl,fun _ _ => rfl,fun _ _ => rfl,fun b o v hv => by
     simp only [Gh.frz]
     split
     · rename_i e; rw [e,hfree] at hv; cases hv
     · exact hv⟩
   have hcell : ∀ o v,cs[o]? = some v → w.cell? ⟨g.rb n,o,none⟩ = some v := fun o v hv => by simp [World.cell?,hh,hv]
   refine ⟨g.frz (g.rb n) cs,hle,rfl,⟨⟨h.fr.laid,h.fr.os,h.fr.tape,h.fr.output,h.fr.size,h.fr.gle.trans hle,fun b hb hb0 => ?_,fun b k hb => ?_,fun b o v hb hv => ?_⟩,h.df,fun b x hx => ?_,fun b o v hv => ?_,fun t d ht => ?_,fun k r1 hk => ?_,fun k r1 b hk hb => ?_⟩,fun sz off v hv => ?_⟩
   · obtain ⟨h1,h2⟩ := h.fr.old b hb hb0
     refine ⟨?_,h2⟩
     simp only [Gh.frz,upd]
     split
     · rfl
     · exact h1
   · obtain ⟨k0,k1,c1,c2,e1,k2,k3,k4⟩ := h.fr.place b k hb
     refine ⟨k0,?_,c1,c2,e1,k2,k3,k4⟩
     simp only [Gh.frz,upd]
     split
     · rename_i e'
       rw [e',ho] at k1
       injection k1 with k1
       injection k1 with k1 _
       exact absurd (k1 ▸ hb) (hpl b)
     · exact k1
   · simp only [Gh.frz] at hv
     split at hv
     · rename_i e'
       cases ho0 : en.g0.own b with
       | none => have := (h.fr.old b hb ho0).1; rw [e',ho] at this; cases this
       | some x => exact .inr (by simp)
     · exact h.fr.fzn b o v hb hv
   · simp only [Gh.frz,upd] at hx
     split at hx
     · cases hx
     · exact h.lt b x hx
   · simp only [Gh.frz] at hv
     split at hv
     · rename_i e'
       subst e'
       exact ⟨hcell o v hv,by simp [Gh.frz,upd]⟩
     · rename_i e'
       obtain ⟨h1,h2⟩ := h.fz b o v hv
       exact ⟨h1,by simp only [Gh.frz,upd]; rw [if_neg e']; exact h2⟩
   · obtain ⟨v,hv,hd⟩ := h.slots t d ht; exact ⟨v,hv,hd.mono hle⟩
   · unfold upd at hk
     split at hk
     · cases hk
     · rename_i e'
       obtain ⟨hu1,hR1⟩ := h.roots k r1 hk
       refine ⟨hu1,hR1.keep hu1 hle (fun b p hb => ⟨?_,rfl⟩)⟩
       simp only [Gh.frz,upd]
       split
       · rename_i e2
         rw [e2,ho] at hb
         injection hb with hb
         injection hb with hb _
         exact absurd hb.symm e'
       · exact hb
   · unfold upd at hk
     split at hk
     · cases hk
     · exact h.wd k r1 b hk hb
   · cases hv with
     | ptr _ _ _ _ _ =>
       simp only [Nat.zero_mul,yaP]
       have key : ∀ (j : Nat) (x : I),row[j]? = some x → ∃ v,cs[g.base n + j]? = some v ∧ IR (g.frz (g.rb n) cs).fz x v := fun j x hj => by
         obtain ⟨y,k1,k2⟩ := zBl hi j x hj
         have ey : y = .t (.im x) := by
           unfold boxI at k2
           split at k2
           · injection k2 with k2; rw [k2]
           · cases k2
         subst ey
         obtain ⟨v,hv1,hv2⟩ := hr 0 j _ (by simpa [Root.get] using k1)
         simp only [Nat.zero_mul,yaP] at hv1
         refine ⟨v,hv1,?_⟩
         cases hv2 with
         | t _ _ ht => cases ht with | im _ _ _ hir => exact hir.mono hle.fz
       refine .iptr row off (g.rb n) (g.base n) (fun j => (cs[g.base n + j]?).getD (.bool false)) (fun j x hj => ?_) (fun j x hj => ?_)
       · obtain ⟨v,h1,_⟩ := key j x hj
         simp only [Gh.frz,yal,h1,yaF]
       · obtain ⟨v,h1,h2⟩ := key j x hj
         simp only [h1,yaF]
         exact h2
theorem Rel.frz (h : Rel en g S H a w) {n sz : Nat} {rows : List (List T)} {is : List (List I)} (hn : H n = some (.arr sz rows)) (hi : mapO (mapO imT) rows = some is) :
   ∃ g',g.le g' ∧ g'.used = g.used ∧ Rel en g' S (upd H n none) a w ∧ ∀ v,CV g (.view n sz 0 rows.length) v → CV g' (.im (.sl sz is)) v :=
 h.frzF hn hi (fun i r j t x q v _ _ ht hv => by
   cases t <;> simp [imT] at ht
   subst ht
   cases hv with | im _ _ _ hir => exact hir)
def imTN (H : Nat → Option Root) : T → Option I
 | .im i => some i
 | .lent m sz len => match H m with
   | some (.arr sz' rs) => if sz' = sz ∧ rs.length = len then match mapO (mapO imT) rs with
       | some is => some (.sl sz is)
       | none => none
     else none
   | _ => none
 | _ => none
def lentsT : List (List T) → List Nat := fun rows => rows.flatMap fun r => r.flatMap fun t => match t with
 | .lent n _ _ => [n]
 | _ => []
def nones (ms : List Nat) : List (Nat × Option Root) := ms.map fun m => (m,none)
theorem zKi {ms : List Nat} {H : Nat → Option Root} {n : Nat} : apH (nones ms) H n = if n ∈ ms then none else H n := by
 induction ms with
 | nil => rfl
 | cons m ms ih =>
   simp only [nones,List.map_cons,apH,upd] at ih ⊢
   by_cases e : n = m
   · subst e; simp
   · rw [if_neg e,ih]; simp [e]
theorem zHd1 {H' : Nat → Option Root} (hm : ∀ n r,H n = some r → H' n = some r) (h : Rel en g S H' a w) : ∀ (ms : List Nat),(∀ m ∈ ms,∃ sz rows is,H m = some (.arr sz rows) ∧ mapO (mapO imT) rows = some is) →
   ∃ g',g.le g' ∧ g'.used = g.used ∧ Rel en g' S (apH (nones ms) H') a w ∧ ∀ m ∈ ms,∀ sz rows is,H m = some (.arr sz rows) → mapO (mapO imT) rows = some is → ∀ v,CV g (.view m sz 0 rows.length) v → CV g' (.im (.sl sz is)) v
 | [],_ => ⟨g,Gh.le.refl g,rfl,h,fun m hm => by cases hm⟩
 | m :: ms,hall => by
   obtain ⟨g1,k1,k2,k3,k4⟩ := zHd1 hm h ms (fun x hx => hall x (.tail _ hx))
   by_cases hmem : m ∈ ms
   · refine ⟨g1,k1,k2,k3.less (fun _ _ h => h) (fun n r hn => ?_),fun x hx => ?_⟩
     · rw [zKi] at hn ⊢
       split at hn
       · cases hn
       · rename_i e; rw [if_neg (show ¬ n ∈ ms from fun e' => e (List.mem_cons_of_mem _ e'))]; exact hn
     · rcases List.mem_cons.1 hx with rfl | hx
       · exact k4 _ hmem
       · exact k4 _ hx
   · obtain ⟨sz,rows,is,q1,q2⟩ := hall m (.head _)
     have hmm : apH (nones ms) H' m = some (.arr sz rows) := by rw [zKi,if_neg hmem]; exact hm _ _ q1
     obtain ⟨g2,p1,p2,p3,p4⟩ := k3.frz hmm q2
     refine ⟨g2,k1.trans p1,p2.trans k2,?_,fun x hx sz' rows' is' e1 e2 v hv => ?_⟩
     · have : apH (nones (m :: ms)) H' = upd (apH (nones ms) H') m none := by simp only [nones,List.map_cons,apH]
       rw [this]; exact p3
     · rcases List.mem_cons.1 hx with rfl | hx
       · rw [q1] at e1
         injection e1 with e1
         injection e1 with e3 e4
         subst e3; subst e4
         rw [q2] at e2
         injection e2 with e2
         subst e2
         exact p4 v (hv.mono k1)
       · exact (k4 x hx sz' rows' is' e1 e2 v hv).mono p1
def frzD (sc : Bool) (H : Nat → Option Root) : D → D × List (Nat × Option Root)
 | .c (.view n sz lo len) => if sc = true then (.c (.view n sz lo len),[]) else match lo,H n with
   | 0,some (.arr sz' rows) => if sz' = sz ∧ rows.length = len then match mapO (mapO imT) rows with
       | some is => (.c (.im (.sl sz is)),[(n,none)])
       | none => match mapO (mapO (imTN H)) rows with
         | some is => if n ∈ lentsT rows then (.c (.view n sz 0 len),[]) else (.c (.im (.sl sz is)),(n,none) :: nones (lentsT rows))
         | none => (.c (.view n sz 0 len),[])
     else (.c (.view n sz 0 len),[])
   | lo',_ => (.c (.view n sz lo' len),[])
 | d => (d,[])
def frzL (sc : Bool) (H : Nat → Option Root) : List D → List (Nat × Option Root) → List D × List (Nat × Option Root)
 | [],ws => ([],ws)
 | d :: ds,ws => ((frzD sc (apH ws H) d).1 :: (frzL sc H ds ((frzD sc (apH ws H) d).2 ++ ws)).1,(frzL sc H ds ((frzD sc (apH ws H) d).2 ++ ws)).2)
theorem zDc1 (sc : Bool) {H' : Nat → Option Root} (hm : ∀ n r,H n = some r → H' n = some r) (h : Rel en g S H' a w) (d : D) :
   ∃ g',g.le g' ∧ g'.used = g.used ∧ (∀ n r,apH (frzD sc H d).2 H n = some r → apH (frzD sc H d).2 H' n = some r) ∧ Rel en g' S (apH (frzD sc H d).2 H') a w ∧ ∀ v,DV g d v → DV g' (frzD sc H d).1 v := by
 have same : ∃ g',g.le g' ∧ g'.used = g.used ∧ (∀ n r,apH [] H n = some r → apH [] H' n = some r) ∧ Rel en g' S (apH [] H') a w ∧ ∀ v,DV g d v → DV g' d v := ⟨g,Gh.le.refl g,rfl,hm,h,fun _ h => h⟩
 unfold frzD
 split
 · rename_i n sz lo len
   split
   · exact same
   · split
     · rename_i sz' rows hr
       split
       · rename_i hc
         obtain ⟨rfl,rfl⟩ := hc
         split
         · rename_i is his
           obtain ⟨g',k1,k2,k3,k4⟩ := h.frz (hm _ _ hr) his
           refine ⟨g',k1,k2,fun k r hk => ?_,k3,fun v hv => ?_⟩
           · simp only [apH,upd] at hk ⊢
             split at hk
             · cases hk
             · rename_i e; rw [if_neg e]; exact hm k r hk
           · cases hv with | c _ _ hc => exact .c _ _ (k4 v hc)
         · split
           · rename_i is his
             split
             · exact same
             · rename_i hnm
               have hall : ∀ m ∈ lentsT rows,∃ sz rows is,H m = some (.arr sz rows) ∧ mapO (mapO imT) rows = some is := fun m hmem => by
                 simp only [lentsT,List.mem_flatMap] at hmem
                 obtain ⟨r0,hr0,t,ht,hmt⟩ := hmem
                 obtain ⟨i,hi⟩ := List.getElem?_of_mem hr0
                 obtain ⟨j,hj⟩ := List.getElem?_of_mem ht
                 have hil : i < is.length := by rw [zBi his]; exact (List.getElem?_eq_some_iff.1 hi).1
                 obtain ⟨r1,e1,e2⟩ := zBl his i _ (List.getElem?_eq_getElem hil)
                 rw [hi] at e1; injection e1 with e1; subst e1
                 have hjl : j < is[i].length := by rw [zBi e2]; exact (List.getElem?_eq_some_iff.1 hj).1
                 obtain ⟨t1,e3,e4⟩ := zBl e2 j _ (List.getElem?_eq_getElem hjl)
                 rw [hj] at e3; injection e3 with e3; subst e3
                 cases t with
                 | lent m0 sz0 len0 =>
                   simp only [yaG] at hmt
                   subst hmt
                   simp only [imTN] at e4
                   split at e4
                   · rename_i sz1 rs1 hr1
                     split at e4
                     · split at e4
                       · rename_i is1 his1
                         exact ⟨sz1,rs1,is1,hr1,his1⟩
                       · cases e4
                     · cases e4
                   · cases e4
                 | _ => simp at hmt
               obtain ⟨g1,k1,k2,k3,k4⟩ := zHd1 hm h (lentsT rows) hall
               have hn1 : apH (nones (lentsT rows)) H' n = some (.arr sz' rows) := by rw [zKi,if_neg hnm]; exact hm _ _ hr
               obtain ⟨g2,p1,p2,p3,p4⟩ := k3.frzF hn1 his (fun i r j t x q v hir hjt htx hv => by
                 cases t with
                 | im y =>
                   simp only [imTN,yay] at htx
                   subst htx
                   cases hv with | im _ _ _ hir => exact hir
                 | lent m0 sz0 len0 =>
                   have hmem : m0 ∈ lentsT rows := by
                     simp only [lentsT,List.mem_flatMap]
                     exact ⟨r,List.mem_of_getElem? hir,_,List.mem_of_getElem? hjt,by simp⟩
                   simp only [imTN] at htx
                   split at htx
                   · rename_i sz1 rs1 hr1
                     split at htx
                     · rename_i hc1
                       obtain ⟨rfl,rfl⟩ := hc1
                       split at htx
                       · rename_i is1 his1
                         injection htx with htx
                         subst htx
                         cases hv with
                         | lent _ _ _ _ _ hv =>
                           generalize hL : rs1.length = L at hv
                           have hv0 : CV g (.view m0 sz1 0 L) v := by
                             cases hv with
                             | view0 _ _ _ A hu' => exact .view0 _ _ _ A (by rw [← k2]; exact hu')
                             | view _ _ _ _ cap hu' hb hl hc =>
                               have hu0 : g.used m0 := by rw [← k2]; exact hu'
                               rw [k1.base m0 hu0] at hb
                               rw [k1.rc m0 hu0] at hc
                               rw [k1.rb m0 hu0]
                               exact .view _ _ _ _ cap hu0 hb hl hc
                           subst hL
                           cases k4 m0 hmem sz1 rs1 is1 hr1 his1 v hv0 with | im _ _ hi => exact hi
                       · cases htx
                     · cases htx
                   · cases htx
                 | _ => simp [imTN] at htx)
               refine ⟨g2,k1.trans p1,p2.trans k2,fun k r hk => ?_,p3,fun v hv => ?_⟩
               · simp only [apH,upd] at hk ⊢
                 split at hk
                 · cases hk
                 · rename_i e
                   rw [if_neg e]
                   rw [zKi] at hk ⊢
                   split at hk
                   · cases hk
                   · rename_i e2; rw [if_neg e2]; exact hm k r hk
               · cases hv with | c _ _ hc => exact .c _ _ (p4 v (hc.mono k1))
           · exact same
       · exact same
     · exact same
 · exact same
theorem zQq (sc : Bool) {H' : Nat → Option Root} {vs : List Value} : ∀ (ds : List D) (ws : List (Nat × Option Root)) (g : Gh) (k : Nat),(∀ n r,apH ws H n = some r → apH ws H' n = some r) → Rel en g S (apH ws H') a w →
   (∀ (t : Nat) (d : D) (v : Value),ds[t]? = some d → vs[k + t]? = some v → DV g d v) →
   ∃ g',g.le g' ∧ g'.used = g.used ∧ (∀ n r,apH (frzL sc H ds ws).2 H n = some r → apH (frzL sc H ds ws).2 H' n = some r) ∧ Rel en g' S (apH (frzL sc H ds ws).2 H') a w ∧
     (frzL sc H ds ws).1.length = ds.length ∧ ∀ (t : Nat) (d : D) (v : Value),(frzL sc H ds ws).1[t]? = some d → vs[k + t]? = some v → DV g' d v
 | [],ws,g,k,hm,h,hd => ⟨g,Gh.le.refl g,rfl,hm,h,rfl,fun t d v h => by simp [frzL] at h⟩
 | d :: ds,ws,g,k,hm,h,hd => by
   obtain ⟨g1,a1,a2,a3,a4,a5⟩ := zDc1 (H := apH ws H) (H' := apH ws H') sc hm h d
   have e1 : apH (frzD sc (apH ws H) d).2 (apH ws H) = apH ((frzD sc (apH ws H) d).2 ++ ws) H := by rw [zPn]
   have e2 : apH (frzD sc (apH ws H) d).2 (apH ws H') = apH ((frzD sc (apH ws H) d).2 ++ ws) H' := by rw [zPn]
   rw [e1,e2] at a3
   rw [e2] at a4
   obtain ⟨g2,b1,b2,b3,b4,b5,b6⟩ := zQq sc (vs := vs) ds ((frzD sc (apH ws H) d).2 ++ ws) g1 (k + 1) a3 a4 (fun t d' v ht hv => (hd (t + 1) d' v (by simpa using ht) (by rw [show k + (t + 1) = k + 1 + t by omega]; exact hv)).mono a1)
   refine ⟨g2,a1.trans b1,b2.trans a2,b3,b4,by simp [frzL,b5],fun t d' v ht hv => ?_⟩
   cases t with
   | zero =>
     simp [frzL] at ht
     subst ht
     exact (a5 v (hd 0 d v rfl hv)).mono b1
   | succ t =>
     simp [frzL] at ht
     exact b6 t d' v ht (by rw [show k + 1 + t = k + (t + 1) by omega]; exact hv)
def lentCs (n i : Nat) : List B → Nat → List (Nat × Nat × Nat)
 | [],_ => []
 | .t (.lent _ _ _) :: cs,j => (n,i,j) :: lentCs n i cs (j + 1)
 | _ :: cs,j => lentCs n i cs (j + 1)
def lentPs (H : Nat → Option Root) : List Plc → List (Nat × Nat × Nat)
 | [] => []
 | p :: ex => match plCells H p with
   | some c => lentCs p.n p.i c 0 ++ lentPs H ex
   | none => lentPs H ex
def preW (H : Nat → Option Root) : List (Nat × Nat × Nat) → List (Nat × Option Root) → List (Nat × Option Root)
 | [],ws => ws
 | (n,i,j) :: l,ws => match apH ws H n with
   | some r => match r.get i j with
     | some (.t (.lent m sz len)) => match apH ws H m with
       | some (.arr sz' rows) => if sz' = sz ∧ rows.length = len ∧ m ≠ n then preW H l ((n,some (r.setT i j (.own sz rows))) :: (m,none) :: ws) else ws
       | _ => ws
     | _ => ws
   | none => ws
theorem zQk {H' : Nat → Option Root} : ∀ (l : List (Nat × Nat × Nat)) (ws : List (Nat × Option Root)) (g : Gh),(∀ n r,apH ws H n = some r → apH ws H' n = some r) → Rel en g S (apH ws H') a w →
   ∃ g',g.le g' ∧ g'.used = g.used ∧ (∀ n r,apH (preW H l ws) H n = some r → apH (preW H l ws) H' n = some r) ∧ Rel en g' S (apH (preW H l ws) H') a w
 | [],ws,g,hm,h => ⟨g,Gh.le.refl g,rfl,hm,h⟩
 | (n,i,j) :: l,ws,g,hm,h => by
   simp only [preW]
   split
   · rename_i r hr
     split
     · rename_i m sz len hc
       split
       · rename_i sz' rows hr2
         split
         · rename_i hcc
           obtain ⟨rfl,rfl,hmn⟩ := hcc
           have h1 := h.fold (hm n r hr) (hm m _ hr2) hmn hc
           obtain ⟨g',k1,k2,k3,k4⟩ := zQk l ((n,some (r.setT i j (.own sz' rows))) :: (m,none) :: ws) (g.into m n [(i,j)]) (fun k r hk => by
             simp only [apH,upd] at hk ⊢
             split at hk
             · rename_i e; rw [if_pos e]; exact hk
             · rename_i e
               rw [if_neg e]
               split at hk
               · cases hk
               · rename_i e2; rw [if_neg e2]; exact hm k r hk) h1
           exact ⟨g',(Gh.into_le g m n _).trans k1,k2,k3,k4⟩
         · exact ⟨g,Gh.le.refl g,rfl,hm,h⟩
       · exact ⟨g,Gh.le.refl g,rfl,hm,h⟩
     · exact ⟨g,Gh.le.refl g,rfl,hm,h⟩
   · exact ⟨g,Gh.le.refl g,rfl,hm,h⟩
def isTail (S : Nat → Option D) (s : Operand) : Bool := match evC S s with
 | some (.view _ _ 0 _) => false
 | some (.view _ _ _ _) => true
 | _ => false
structure ApT where
 sz : Nat
 bytes : Nat
 lo : Nat
 len : Nat
 ra : List (List T)
 rb : List (List T)
 n : Nat
def appendT (P : Program) (t : TypeId) (S : Nat → Option D) (H : Nat → Option Root) (s x : Operand) : Option ApT :=
 match tel P t with
 | some e => match tsz P e,tby P e,tzr P e with
   | some sz,some bytes,some zc => if zc.length = sz ∧ 0 < sz ∧ 0 < bytes then match srcRows S H x sz with
       | some src => match evC S s with
         | some (.view n sz' lo len) => if sz' = sz then match H n with
             | some (.arr sz2 rows) => if sz2 = sz ∧ rows.length = lo + len ∧ (mapO (mapO imT) rows).isSome = true then some ⟨sz,bytes,lo,len + src.length,rows.drop lo ++ src,rows ++ src,n⟩ else none
             | _ => none
           else none
         | _ => none
       | none => none
     else none
   | _,_,_ => none
 | none => none
theorem zKw1 {rows : List (List T)} (h : (mapO (mapO imT) rows).isSome = true) {i : Nat} {r : List T} {j : Nat} {x : T} (hr : rows[i]? = some r) (hx : r[j]? = some x) : ∃ y,x = .im y := by
 obtain ⟨is,his⟩ := Option.isSome_iff_exists.1 h
 have hil : i < is.length := by rw [zBi his]; exact (List.getElem?_eq_some_iff.1 hr).1
 obtain ⟨r1,e1,e2⟩ := zBl his i _ (List.getElem?_eq_getElem hil)
 rw [hr] at e1; injection e1 with e1; subst e1
 have hjl : j < is[i].length := by rw [zBi e2]; exact (List.getElem?_eq_some_iff.1 hx).1
 obtain ⟨t1,e3,e4⟩ := zBl e2 j _ (List.getElem?_eq_getElem hjl)
 rw [hx] at e3; injection e3 with e3; subst e3
 cases x with
 | im y => exact ⟨y,rfl⟩
 | _ => simp [imT] at e4
theorem zTt (h : Rel en g S H a w) {t ty : TypeId} {s x : Operand} {nm : Nat} {p : ApT} (hd : appendT P t S H s x = some p) (hnm : ¬ g.used nm) (hb : p.rb.length * p.bytes ≤ 140737488355328) :
   ∃ v w',(Builtin.append_ #[t,t] ty #[a.eval s,a.eval x]).run P w = .ok v w' ∧ ∃ g',g.le g' ∧ (∀ m,g'.used m → m = nm ∨ g.used m) ∧
     ((Rel en g' S (upd (upd H p.n none) nm (some (.arr p.sz p.ra))) a w' ∧ CV g' (.view nm p.sz 0 p.len) v) ∨ (Rel en g' S (upd (upd H p.n none) nm (some (.arr p.sz p.rb))) a w' ∧ CV g' (.view nm p.sz p.lo p.len) v)) := by
 unfold appendT at hd
 split at hd
 · rename_i e ht
   split at hd
   · rename_i sz1 bytes1 zc hsz hby hzr
     split at hd
     · rename_i hc
       obtain ⟨hzl,hs0,hb0⟩ := hc
       split at hd
       · rename_i src hsrc
         have he := elT ht hsz hby hzr hzl
         obtain ⟨A,c,news,hx,hS⟩ := zJd h hs0 hsrc
         have hz : ∀ k,(Builtin.zeroCells (((P.info? e).bind (·.zero)).getD undef).cells k).size = k * sz1 := fun k => by
           obtain ⟨i,z,hi,_,_,hzz,hzs⟩ := he.info
           simp [hi,hzz,size_zeroCells,hzs]
         split at hd
         · rename_i n sz' lo len hsv
           split at hd
           · rename_i hsz'
             rw [hsz'] at hsv
             clear hsz'
             split at hd
             · rename_i sz2 rows0 hn
               split at hd
               · rename_i hc2
                 obtain ⟨hc21,hc22,hc23⟩ := hc2
                 rw [hc21] at hn
                 clear hc21
                 injection hd with hd
                 subst hd
                 simp only at hb ⊢
                 have hpl : ∀ b',en.g0.own b' ≠ some (n,[]) := fun b' hb' => by
                   obtain ⟨c0,hc0,_⟩ := h.wd n _ b' hn hb'
                   cases hc0
                 have hv := zBn h hsv
                 obtain ⟨hu,hR⟩ := h.roots n _ hn
                 have hdl : (rows0.drop lo).length = len := by rw [List.length_drop]; omega
                 have hdr : (rows0.drop lo ++ src).length = len + src.length := by rw [List.length_append,hdl]
                 have hbb : (len + src.length) * bytes1 ≤ 140737488355328 := Nat.le_trans (Nat.mul_le_mul_right _ (by rw [List.length_append]; omega)) hb
                 have hNone : ∀ (A' : Option Addr),a.eval s = .slice A' 0 0 → len = 0 →
                     ∃ v w',(Builtin.append_ #[t,t] ty #[a.eval s,a.eval x]).run P w = .ok v w' ∧ ∃ g',g.le g' ∧ (∀ m,g'.used m → m = nm ∨ g.used m) ∧ (Rel en g' S (upd (upd H n none) nm (some (.arr sz1 (rows0.drop lo ++ src)))) a w' ∧ CV g' (.view nm sz1 0 (len + src.length)) v) := by
                   intro A' hev hl0
                   have hd0 : rows0.drop lo = [] := List.eq_nil_of_length_eq_zero (by omega)
                   rw [hd0,hl0,List.nil_append,Nat.zero_add]
                   rcases Nat.eq_zero_or_pos src.length with hk | hk
                   · have hr0 : src = [] := List.eq_nil_of_length_eq_zero hk
                     subst hr0
                     obtain ⟨g',h1,h2,h3,h4⟩ := h.new0 hnm hs0 n
                     exact ⟨_,w,by rw [hev,hx]; exact zGy he A' A 0 0 c (Nat.le_refl _) w,g',h1,h3,h4,.view0 nm sz1 0 A' h2⟩
                   · rcases hS.at_ with h0 | ⟨b,o,rfl,hat⟩
                     · omega
                     · obtain ⟨cap',hc1,hrun⟩ := zDn (ty := ty) (B := A') (len := 0) (cap := 0) (olds := []) he w (by simp) (.inl rfl) (fun _ => rfl) hk hS.len hat (by omega) hb0 (by rw [Nat.zero_add]; rw [hl0,Nat.zero_add] at hbb; exact hbb)
                       have hG := zMu (ty := ty) h he hs0 hnm hpl hS (rows := []) (olds := []) (fun i r hr => by simp at hr) (by simp) (fun i r j x hr => by simp at hr) (cap' := cap') (by simpa using hc1)
                         (Builtin.zeroCells (((P.info? e).bind (·.zero)).getD undef).cells (cap' - ([].length + src.length))) (by rw [hz])
                       simp only [List.length_nil,Nat.zero_add,yaC] at hG hrun
                       obtain ⟨g',q1,q2,q3,q4⟩ := hG
                       exact ⟨_,_,by rw [hev,hx]; exact hrun,g',q1,q2,q3,q4⟩
                 have wrapA : (∃ v w',(Builtin.append_ #[t,t] ty #[a.eval s,a.eval x]).run P w = .ok v w' ∧ ∃ g',g.le g' ∧ (∀ m,g'.used m → m = nm ∨ g.used m) ∧ (Rel en g' S (upd (upd H n none) nm (some (.arr sz1 (rows0.drop lo ++ src)))) a w' ∧ CV g' (.view nm sz1 0 (len + src.length)) v)) →
                     ∃ v w',(Builtin.append_ #[t,t] ty #[a.eval s,a.eval x]).run P w = .ok v w' ∧ ∃ g',g.le g' ∧ (∀ m,g'.used m → m = nm ∨ g.used m) ∧
                       ((Rel en g' S (upd (upd H n none) nm (some (.arr sz1 (rows0.drop lo ++ src)))) a w' ∧ CV g' (.view nm sz1 0 (len + src.length)) v) ∨ (Rel en g' S (upd (upd H n none) nm (some (.arr sz1 (rows0 ++ src)))) a w' ∧ CV g' (.view nm sz1 lo (len + src.length)) v)) :=
                   fun ⟨v,w',h1,g',h2,h3,h4⟩ => ⟨v,w',h1,g',h2,h3,.inl h4⟩
                 generalize hev : a.eval s = u at hv
                 cases hv with
                 | view0 _ _ _ A' hu' =>
                   have := wrapA (hNone A' hev rfl)
                   rw [hev] at this
                   exact this
                 | view _ _ _ _ cap hu' hbase hl hc' =>
                   cases hR with
                   | arr0 _ hs' h0 =>
                     have hl0 : len = 0 := by simp at hdl; omega
                     have hcap0 : cap = 0 := by
                       rcases Nat.eq_zero_or_pos cap with h1 | h1
                       · exact h1
                       · have := Nat.mul_pos (show 0 < lo + cap by omega) hs0; omega
                     subst hcap0; subst hl0
                     have := wrapA (hNone _ hev rfl)
                     rw [hev] at this
                     exact this
                   | mk _ cs e' hh hon hf hr =>
                     obtain ⟨hb9,hcs,hrl,hrows⟩ := hf
                     by_cases hroom : len + src.length ≤ cap
                     · have hfit : rows0.length * sz1 + 0 + news.length ≤ cs.size := by
                         rw [hS.len,Nat.add_zero,← Nat.add_mul,hcs]
                         exact Nat.le_trans (Nat.mul_le_mul_right _ (by omega)) hc'
                       have hone : ∀ v ∈ news,v.oneCell' = true := fun v hv => by
                         obtain ⟨p,hp,rfl⟩ := List.mem_iff_getElem.1 hv
                         rw [hS.len] at hp
                         have hi : p / sz1 < src.length := Nat.div_lt_of_lt_mul (by rw [Nat.mul_comm]; exact hp)
                         have hj : p % sz1 < sz1 := Nat.mod_lt _ hs0
                         have h1 := hS.row _ _ (List.getElem?_eq_getElem hi)
                         obtain ⟨v,hv,htf⟩ := hS.val (p / sz1) _ (p % sz1) _ (List.getElem?_eq_getElem hi) (List.getElem?_eq_getElem (show p % sz1 < (src[p / sz1]).length by omega))
                         rw [Nat.mul_comm,Nat.div_add_mod] at hv
                         rw [(List.getElem?_eq_some_iff.1 hv).2]
                         exact htf.one
                       have hst := zBx P (g.rb n) (rows0.length * sz1) e' news 0 cs w hh hfit hone
                       rw [Nat.add_zero] at hst
                       obtain ⟨i,z,hi,his,hib,hiz,hzs⟩ := he.info
                       have hfc : (Builtin.firstCells sz1 src.length (.slice A src.length c)).run P w = .ok news.toArray w := by
                         rcases hS.at_ with h0 | ⟨b,o,rfl,hat⟩
                         · have hn0 : news = [] := List.eq_nil_of_length_eq_zero (by rw [hS.len,h0,Nat.zero_mul])
                           subst hn0
                           rw [h0]
                           cases A <;> simp [Builtin.firstCells,loadCells,loadCellsFrom]
                         · exact run_firstCells_some (P := P) w sz1 src.length ⟨b,o,none⟩ src.length c news hS.len (fun j v hv => by rw [zCk]; exact hat j v hv)
                       have hoff : lo * sz1 + len * sz1 = rows0.length * sz1 := by rw [← Nat.add_mul,hc22]
                       obtain ⟨g',q1,q2,q3,q4⟩ := zZu h hs0 hnm hpl hS hh hon ⟨hb9,hcs,hrl,hrows⟩ hr (cap := lo + cap) (by omega) hc'
                       refine ⟨.slice (some ⟨g.rb n,lo * sz1,none⟩) (len + src.length) cap,w.setRow (g.rb n) (setsA cs (rows0.length * sz1) news),?_,g',q1,q2,.inr ⟨q3,?_⟩⟩
                       · rw [hx]
                         simp [Builtin.append_,run_underlying he.under,sizeOf,typeInfo,hi,his,Builtin.lenOf,hroom,hfc,zCk,hoff,hst]
                       · generalize hL : (rows0 ++ src).length = L at q4
                         generalize hE : (Value.slice (some ⟨g.rb n,0,none⟩) (rows0.length + src.length) (lo + cap)) = E at q4
                         cases q4 with
                         | view0 _ _ _ A9 hu9 =>
                           injection hE with hE1 hE2 hE3
                           have hl9 : len + src.length = 0 := by omega
                           have hc9 : cap = 0 := by omega
                           rw [hl9,hc9]
                           exact .view0 _ _ _ _ hu9
                         | view _ _ _ _ cap9 hu9 hb99 hl9 hc9 =>
                           injection hE with hE1 hE2 hE3
                           injection hE1 with hE1
                           injection hE1 with hE1 _ _
                           rw [hE1]
                           refine .view _ _ _ _ _ hu9 hb99 hroom ?_
                           rw [Nat.zero_add,← hE3] at hc9
                           exact hc9
                     · have hcell : ∀ p,p < rows0.length * sz1 → ∃ v,cs[p]? = some v := fun p hp => ⟨_,Array.getElem?_eq_getElem (by omega)⟩
                       obtain ⟨olds0,ho10,ho20⟩ := zTs hcell
                       have hk : 0 < src.length := by omega
                       rcases hS.at_ with h0 | ⟨b,o,rfl,hat⟩
                       · omega
                       · have hlen0 : rows0.length * sz1 = lo * sz1 + len * sz1 := by rw [← Nat.add_mul,hc22]
                         have ho1 : (olds0.drop (lo * sz1)).length = len * sz1 := by rw [List.length_drop,ho10]; omega
                         have ho2 : ∀ p,p < len * sz1 → (olds0.drop (lo * sz1))[p]? = cs[lo * sz1 + p]? := fun p hp => by rw [List.getElem?_drop]; exact ho20 _ (by omega)
                         have hAt : At w (g.rb n) (lo * sz1) (olds0.drop (lo * sz1)) := fun j v hv => by
                           have hj : j < len * sz1 := by rw [← ho1]; exact (List.getElem?_eq_some_iff.1 hv).1
                           rw [ho2 j hj] at hv
                           rw [cell_of_row w _ _ cs e' _ hh]; exact hv
                         obtain ⟨cap',hc1,hrun⟩ := zDn (ty := ty) (B := some ⟨g.rb n,lo * sz1,none⟩) (len := len) (cap := cap) (olds := olds0.drop (lo * sz1)) he w ho1 (.inr ⟨_,_,rfl,hAt⟩) (fun h9 => by cases h9) hk hS.len hat (by omega) hb0 hbb
                         have hG := zMu (ty := ty) h he hs0 hnm hpl hS (rows := rows0.drop lo) (olds := olds0.drop (lo * sz1)) (fun i r hr' => by rw [List.getElem?_drop] at hr'; exact hrows _ r hr') (by rw [hdl]; exact ho1) (fun i r j y hr' hy => by
                             rw [List.getElem?_drop] at hr'
                             obtain ⟨z9,rfl⟩ := zKw1 hc23 hr' hy
                             obtain ⟨v,hv,hbr⟩ := hr (lo + i) j (.t (.im z9)) (by simp [Root.get,hr',hy])
                             rw [hb9,Nat.zero_add] at hv
                             simp only [Root.sz] at hv
                             have hjs : j < sz1 := by rw [← hrows _ r hr']; exact (List.getElem?_eq_some_iff.1 hy).1
                             have hil : lo + i < rows0.length := (List.getElem?_eq_some_iff.1 hr').1
                             have hlt : i * sz1 + j < len * sz1 := by
                               have h2 := Nat.mul_le_mul_right sz1 (show i + 1 ≤ len by omega)
                               rw [Nat.add_mul] at h2; omega
                             refine ⟨v,by rw [ho2 _ hlt,← hv]; congr 1; rw [Nat.add_mul]; omega,?_⟩
                             cases hbr with | t _ _ h => cases h with | im _ _ _ hi => exact .im _ _ _ hi) (cap' := cap') (by rw [hdl]; exact hc1)
                           (Builtin.zeroCells (((P.info? e).bind (·.zero)).getD undef).cells (cap' - (len + src.length))) (by rw [hdl]; exact hz _)
                         rw [hdl] at hG
                         obtain ⟨g',q1,q2,q3,q4⟩ := hG
                         rw [hdr] at q4
                         exact ⟨_,_,by rw [hx]; exact hrun,g',q1,q2,.inl ⟨q3,q4⟩⟩
               · cases hd
             · cases hd
           · cases hd
         · cases hd
       · cases hd
     · cases hd
   · cases hd
 · cases hd
theorem zXp {H' : Nat → Option Root} (hH : ∀ n r,H n = some r → H' n = some r) {t : TypeId} {s x : Operand} {z : ApT} (h : appendT P t S H s x = some z) : appendT P t S H' s x = some z := by
 unfold appendT at h ⊢
 split at h
 · split at h
   · split at h
     · rename_i hc
       split at h
       · rename_i src hsrc
         have h1 := zLf hH hsrc
         split at h
         · split at h
           · rename_i hsz
             split at h
             · rename_i hr
               simp only [hc,h1,hsz,hH _ _ hr,yal,and_self]
               exact h
             · cases h
           · cases h
         · cases h
       · cases h
     · cases h
   · cases h
 · cases h
theorem zIc1 {S' : Nat → Option D} {H' : Nat → Option Root} {N nm : Nat} {Q : Exit → Act → World → Prop} {o : Oper} (h : Rel en g S' H' a w) (hN : a.tmps.size = N) (hS : ∀ t d,S t = some d → S' t = some d) (hH : ∀ n r,H n = some r → H' n = some r)
   {s x : Operand} {t : TypeId} (hop : o.op = .call { callee := .builtin .append,args := #[s,x],argTypes := #[t,t] }) {p : ApT} (hp : appendT P t S H s x = some p) (hb : p.rb.length * p.bytes ≤ 140737488355328)
   (hnm : ∀ m,g.used m → ¬ (nm ≤ m ∧ m < nm + 1)) (hdst : ∀ t,o.dst = some t → t < N) :
   o.wp P a w (fun a' w' => ∃ g',(∀ m,g'.used m → g.used m ∨ (nm ≤ m ∧ m < nm + 1)) ∧
     ((Rel en g' (apS o.dst (some (.c (.view nm p.sz 0 p.len))) S') (apH [(nm,some (.arr p.sz p.ra)),(p.n,none)] H') a' w' ∧ a'.tmps.size = N) ∨ (Rel en g' (apS o.dst (some (.c (.view nm p.sz p.lo p.len))) S') (apH [(nm,some (.arr p.sz p.rb)),(p.n,none)] H') a' w' ∧ a'.tmps.size = N))) Q := by
 subst hN
 have hlessS : Rel en g S H' a w := h.less hS (fun _ _ h => h)
 have back : ∀ {g' : Gh} {Hn : Nat → Option Root} {w' : World},g.le g' → Rel en g' S Hn a w' → Rel en g' S' Hn a w' := fun hle hr => hr.moreS (fun t d ht => by
   obtain ⟨v,hv,hd⟩ := h.slots t d ht; exact ⟨v,hv,hd.mono hle⟩)
 obtain ⟨v,w',h1,g',h2,h3,h4⟩ := zTt (ty := o.type) hlessS (zXp hH hp) (fun hu => hnm nm hu ⟨Nat.le_refl _,by omega⟩) hb
 have h1' : (execOp a.eval o).run P w = .ok (.value v) w' := by simp [execOp,hop,resolve,invoke,builtin,h1]
 simp only [Oper.wp,h1',Oper.upon]
 refine ⟨g',fun m hm => (h3 m hm).elim (fun e => .inr (by omega)) .inl,?_⟩
 rcases h4 with ⟨h4,h5⟩ | ⟨h4,h5⟩
 · exact .inl ⟨(back h2 h4).putD hdst (.c _ _ h5),zCd _ _ _⟩
 · exact .inr ⟨(back h2 h4).putD hdst (.c _ _ h5),zCd _ _ _⟩
def srtZ (zs : List Int) : List Int := zs.mergeSort fun x y => decide (x ≤ y)
def SortLaw (P : Program) (f : FuncId) : Prop :=
 (∃ fn : Func, P.funcs[f]? = some fn ∧ (fn.name == "runtime.NumGoroutine") = false ∧ fn.body.isNone = false) ∧
 (∀ (p : Option Addr) (cap : Nat) (w : World),Calls P f #[.slice p 0 cap] w fun e w' => e = .returned (.tuple #[]) ∧ w' = w) ∧
 ∀ (b : Nat) (cs : Array Value) (e : TypeId) (cap : Nat) (zs : List Int) (w : World),w.heap[b]? = some (.cells cs e (0,0)) → zs.length ≤ cs.size → zs.length ≤ 16777216 → (∀ (i : Nat) (z : Int),zs[i]? = some z → cs[i]? = some (Value.int .i64 z)) →
   Calls P f #[.slice (some ⟨b,0,none⟩) zs.length cap] w fun e w' => e = .returned (.tuple #[]) ∧
     w'.os = w.os ∧ w'.tape = w.tape ∧ w'.output = w.output ∧ ∃ os,w'.heap = (w.setRow b (setsA cs 0 ((srtZ zs).map (Value.int .i64)))).heap ++ os
def intT : List T → Option Int
 | [.im (.int .i64 z)] => some z
 | _ => none
def intsT (rows : List (List T)) : Option (List Int) := mapO intT rows
def srtR (rows : List (List T)) : Option (List (List T)) := match intsT rows with
 | some zs => some ((srtZ zs).map fun z => [T.im (.int .i64 z)])
 | none => none
def sortH (S : Nat → Option D) (H : Nat → Option Root) (caps : List C) (args : List Operand) : Option (Nat × Root) :=
 match caps,args with
 | [],[x] => match evC S x with
   | some (.view n sz lo len) => match H n with
     | some (.arr sz' rows) => if sz = 1 ∧ sz' = 1 ∧ lo = 0 ∧ rows.length = len ∧ len ≤ 16777216 then match srtR rows with
         | some rows' => some (n,.arr 1 rows')
         | none => none
       else none
     | _ => none
   | _ => none
 | _,_ => none
theorem zKs1 {rows : List (List T)} {zs : List Int} (h : intsT rows = some zs) (i : Nat) (z : Int) (hz : zs[i]? = some z) : rows[i]? = some [.im (.int .i64 z)] := by
 obtain ⟨x,h1,h2⟩ := zBl h i z hz
 unfold intT at h2
 split at h2
 · injection h2 with h2; subst h2; exact h1
 · cases h2
theorem zRi (zs : List Int) : (srtZ zs).length = zs.length := List.length_mergeSort ..
theorem Rel.grow (h : Rel en g S H a w) {w' : World} {os : Array Obj} (h1 : w'.heap = w.heap ++ os) (h2 : w'.os = w.os) (h3 : w'.tape = w.tape) (h4 : w'.output = w.output) : Rel en g S H a w' := by
 have hlt : ∀ b,b < w.heap.size → w'.heap[b]? = w.heap[b]? := fun b hb => by rw [h1,Array.getElem?_append_left hb]
 have hsm : ∀ b x,w.heap[b]? = some x → b < w.heap.size := fun b x hx => (Array.getElem?_eq_some_iff.1 hx).1
 refine ⟨⟨h.fr.laid,h2.trans h.fr.os,h3.trans h.fr.tape,h4.trans h.fr.output,by rw [h1]; simp; have := h.fr.size; omega,h.fr.gle,fun b hb ho => ?_,fun b n ho => ?_,h.fr.fzn⟩,h.df,fun b x hx => by rw [h1]; simp; have := h.lt b x hx; omega,fun b o v hv => ?_,h.slots,fun n r hn => ?_,h.wd⟩
 · obtain ⟨k1,k2⟩ := h.fr.old b hb ho
   exact ⟨k1,by rw [hlt b (by have := h.fr.size; omega)]; exact k2⟩
 · obtain ⟨k0,k1,c1,c2,e1,k2,k3,k4⟩ := h.fr.place b n ho
   exact ⟨k0,k1,c1,c2,e1,k2,by rw [hlt b (hsm _ _ k3)]; exact k3,k4⟩
 · obtain ⟨k1,k2⟩ := h.fz b o v hv
   refine ⟨?_,k2⟩
   cases hb : w.heap[b]? with
   | none => simp [World.cell?,hb] at k1
   | some x =>
     have : w'.heap[b]? = w.heap[b]? := hlt b (hsm _ _ hb)
     simp only [World.cell?,this] at k1 ⊢
     exact k1
 · obtain ⟨hu,hr⟩ := h.roots n r hn
   exact ⟨hu,hr.keep hu (Gh.le.refl g) (fun b p hp => ⟨hp,hlt b (h.lt b _ hp)⟩)⟩
theorem zBw1 {S' : Nat → Option D} {H' : Nat → Option Root} {N : Nat} {Q : Exit → Act → World → Prop} {o : Oper} (h : Rel en g S' H' a w) (hN : a.tmps.size = N) (hS : ∀ t d,S t = some d → S' t = some d) (hH : ∀ n r,H n = some r → H' n = some r)
   {f : Operand} {args : Array Operand} {ts : Array TypeId} {k : FuncId} {caps : List C} (hop : o.op = .call { callee := .value f,args := args,argTypes := ts }) (hf : evC S f = some (.fn (.func k) caps)) (hL : SortLaw P k)
   {n : Nat} {r : Root} (hs : sortH S H caps args.toList = some (n,r)) (hdst : ∀ t,o.dst = some t → t < N) :
   o.wp P a w (fun a' w' => Rel en g (apS o.dst (some (.tup [])) S') (apH [(n,some r)] H') a' w' ∧ a'.tmps.size = N) Q := by
 subst hN
 have hless : Rel en g S H a w := h.less hS hH
 unfold sortH at hs
 split at hs
 · rename_i x hargs
   split at hs
   · rename_i m sz lo len hx
     split at hs
     · rename_i sz' rows hr
       split at hs
       · rename_i hc
         obtain ⟨rfl,rfl,rfl,hlen,hsm⟩ := hc
         split at hs
         · rename_i rows' hrs
           simp only [yay,Prod.mk.injEq] at hs
           obtain ⟨rfl,rfl⟩ := hs
           have ha : args = #[x] := by rw [← Array.toList_inj]; simpa using hargs
           subst ha
           have hfv := zBn hless hf
           generalize hfe : a.eval f = u at hfv
           cases hfv with
           | fn _ _ vs hvs hvr =>
             have hv0 : vs = #[] := Array.eq_empty_of_size_eq_zero hvs
             subst hv0
             have h1' : (execOp a.eval o).run P w = .ok (.enter k #[a.eval x]) w := by
               simp [execOp,hop,resolve,hfe,Deferred.ofValue,invoke]
               exact zLc hL.1 _ w
             simp only [Oper.wp,h1',Oper.upon]
             unfold srtR at hrs
             split at hrs
             · rename_i zs hz
               injection hrs with hrs
               subst hrs
               have hzl : zs.length = rows.length := zBi hz
               have hxv := zBn hless hx
               generalize a.eval x = u at hxv
               have hsame : rows.length = 0 → Rel en g S' (upd H' m (some (.arr 1 ((srtZ zs).map fun z => [T.im (.int .i64 z)])))) a w := fun h0 => by
                 have e1 : rows = [] := List.eq_nil_of_length_eq_zero h0
                 have e0 : zs = [] := List.eq_nil_of_length_eq_zero (by omega)
                 have e2 : upd H' m (some (.arr 1 ((srtZ zs).map fun z => [T.im (.int .i64 z)]))) = H' := by
                   funext k
                   unfold upd
                   split
                   · rename_i e; subst e; rw [hH _ _ hr,e1,e0]; simp [srtZ]
                   · rfl
                 rw [e2]; exact h
               have fin : ∀ {w' : World},Rel en g S' (upd H' m (some (.arr 1 ((srtZ zs).map fun z => [T.im (.int .i64 z)])))) a w' → Rel en g (apS o.dst (some (.tup [])) S') (apH [(m,some (.arr 1 ((srtZ zs).map fun z => [T.im (.int .i64 z)])))] H') (a.put o.dst (.tuple #[])) w' ∧ (a.put o.dst (.tuple #[])).tmps.size = a.tmps.size := fun hR =>
                 ⟨hR.putD hdst (.tup _ _ rfl (fun j x v hx => by simp at hx)),zCd _ _ _⟩
               by_cases h0 : len = 0
               · subst h0
                 have key : ∀ (p : Option Addr) (c : Nat),Calls P k #[.slice p 0 c] w (fun x x_1 => match x,x_1 with
                     | .returned v,w'' => Rel en g (apS o.dst (some (.tup [])) S') (apH [(m,some (.arr 1 ((srtZ zs).map fun z => [T.im (.int .i64 z)])))] H') (a.put o.dst v) w'' ∧ (a.put o.dst v).tmps.size = a.tmps.size
                     | .panicked chain,w'' => Q (Exit.panic chain) a w''
                     | .outgrown,x => LetsOut Q) := fun p c =>
                   (hL.2.1 p c w).mono (fun e w' ⟨he,hw⟩ => by subst he; subst hw; exact fin (hsame hlen))
                 cases hxv with
                 | view0 => exact key _ _
                 | view => exact key _ _
               · obtain ⟨hu,hR⟩ := h.roots m _ (hH _ _ hr)
                 cases hR with
                 | arr0 => simp at hlen; omega
                 | mk _ A e' hh ho hfm hrr =>
                   obtain ⟨f1,f2,f3,f4⟩ := hfm
                   cases hxv with
                   | view0 => omega
                   | view _ _ _ _ cap _ hbase hl hc =>
                     have hcells : ∀ (i : Nat) (z : Int),zs[i]? = some z → A[i]? = some (Value.int .i64 z) := fun i z hz' => by
                       have h1 := zKs1 hz i z hz'
                       obtain ⟨v,hv1,hv2⟩ := hrr i 0 (.t (.im (.int .i64 z))) (by simp [Root.get,h1])
                       rw [hbase] at hv1
                       simp only [Root.sz,Nat.zero_add,Nat.mul_one,yaP] at hv1
                       cases hv2 with
                       | t _ _ ht => cases ht with | im _ _ _ hi => cases hi; exact hv1
                     have hfit : zs.length ≤ A.size := by rw [f2,hzl]; omega
                     have hcall := hL.2.2 (g.rb m) A e' cap zs w hh hfit (by omega) hcells
                     rw [hzl,hlen] at hcall
                     rw [Nat.zero_mul]
                     refine hcall.mono (fun e w' ⟨he,k1,k2,k3,os,k4⟩ => ?_)
                     subst he
                     have hlenS : ((srtZ zs).map (Value.int .i64)).length = rows.length := by simp [zRi,hzl]
                     have hR1 : Rel en g S' (upd H' m (some (.arr 1 ((srtZ zs).map fun z => [T.im (.int .i64 z)])))) a (w.setRow (g.rb m) (setsA A 0 ((srtZ zs).map (Value.int .i64)))) := by
                       refine h.store (hH _ _ hr) hh ho (zDv _ _ _) (fun b hb o ho' => ?_) ?_ (fun b hb => ?_)
                       · obtain ⟨c0,hc0,_⟩ := h.wd m _ b (hH _ _ hr) hb
                         cases hc0
                       · refine .mk _ (setsA A 0 ((srtZ zs).map (Value.int .i64))) e' (setRow_heap w _ A _ e' _ hh) ho ⟨f1,by rw [zDv]; exact f2,by simp only [List.length_map,zRi,hzl]; exact f3,fun i r hr' => ?_⟩ (fun i' j' x' hx' => ?_)
                         · rw [List.getElem?_map,Option.map_eq_some_iff] at hr'
                           obtain ⟨z,_,rfl⟩ := hr'
                           rfl
                         · simp only [Root.get,List.getElem?_map] at hx'
                           cases hz9 : (srtZ zs)[i']? with
                           | none => simp [hz9] at hx'
                           | some z =>
                             simp only [hz9,yaK] at hx'
                             cases j' with
                             | succ j => simp at hx'
                             | zero =>
                               simp only [List.getElem?_cons_zero,yaK,yay] at hx'
                               subst hx'
                               have hlt : i' < ((srtZ zs).map (Value.int .i64)).length := by rw [List.length_map]; exact (List.getElem?_eq_some_iff.1 hz9).1
                               refine ⟨.int .i64 z,?_,.t _ _ (.im _ _ _ (.int _ _))⟩
                               rw [hbase]
                               simp only [Root.sz,Nat.zero_add,Nat.mul_one,yaP]
                               have := zMm ((srtZ zs).map (Value.int .i64)) A 0 i' (by rw [List.length_map,zRi]; omega) hlt
                               rw [Nat.zero_add] at this
                               rw [this,List.getElem?_map,hz9]; rfl
                       · obtain ⟨c0,hc0,_⟩ := h.wd m _ b (hH _ _ hr) hb
                         cases hc0
                     exact fin (hR1.grow k4 k1 k2 k3)
             · cases hrs
         · cases hs
       · cases hs
     · cases hs
   · cases hs
 · cases hs
def Env (P : Program) (Φ : FuncId → Option Ct) : Prop := ∀ f ct, Φ f = some ct → (Good P f ct ∧ ∃ fn : Func, P.funcs[f]? = some fn ∧ (fn.name == "runtime.NumGoroutine") = false ∧ fn.body.isNone = false) ∨ ExtLaw P f ct
theorem zDl1 {Φ : FuncId → Option Ct} (hΦ : Env P Φ) {S' : Nat → Option D} {N nm : Nat} {Q : Exit → Act → World → Prop} {o : Oper} (h : Rel en g S' H' a w) (hN : a.tmps.size = N) (hS : ∀ t d,S t = some d → S' t = some d) (hH : ∀ n r,H n = some r → H' n = some r)
   {f : Operand} {args : Array Operand} {ts : Array TypeId} {k : FuncId} {caps : List C} {ct : Ct} {ds ds' : List D} {hs : List (List B)} {os : Outs} (hop : o.op = .call { callee := .value f,args := args,argTypes := ts }) (hf : evC S f = some (.fn (.func k) caps)) (hk : Φ k = some ct)
   {ds0 : List D} {fw : List (Nat × Option Root)} (hd : evDs S args.toList = some ds0) (hfz : frzL ct.sc H ds0 [] = (ds,fw)) {ws : List (Nat × Option Root)} (hws : ws = preW H (lentPs H (exDs (ds ++ caps.map D.c))) fw) (hpl : PlOk (apH ws H) (exDs (ds ++ caps.map D.c)) hs) (hlo : mapO (loD (exDs (ds ++ caps.map D.c)) (if ct.sc then apH ws H else fun _ => none)) (ds ++ caps.map D.c) = some ds') (hrun : ct.run ds' hs = some os) (hdst : ∀ t,o.dst = some t → t < N) :
   o.wp P a w (fun a' w' => ∃ res,os.mem res ∧ ∀ d,reD (fun n => nm + n) res.val = some d → (∀ m,g.used m → ¬ (nm ≤ m ∧ m < nm + res.roots.length)) →
     ∃ g',(∀ m,g'.used m → g.used m ∨ (nm ≤ m ∧ m < nm + res.roots.length)) ∧ Rel en g' (apS o.dst (some d) S') (apH (addR nm res.roots ++ (addP (apH ws H) (exDs (ds ++ caps.map D.c)) res.places ++ ws)) H') a' w' ∧ a'.tmps.size = N) Q := by
 subst hN
 have hev0 := zKy (h.less hS hH) hd
 obtain ⟨g8,hle8,hu8,hm8,h8,hl8,hd8⟩ := zQq (H := H) (H' := H') ct.sc (vs := args.toList.map a.eval) ds0 [] g 0 hH h (fun t d v ht hv => hev0.2 t d v ht (by rw [Nat.zero_add] at hv; exact hv))
 rw [hfz] at hm8 h8 hl8 hd8
 obtain ⟨g9,hle98,hu98,hH9,h9⟩ := zQk (H := H) (H' := H') (lentPs H (exDs (ds ++ caps.map D.c))) fw g8 hm8 h8
 have hle9 : g.le g9 := hle8.trans hle98
 have hu9 : g9.used = g.used := hu98.trans hu8
 have hl1 : ds.length = args.toList.length := hl8.trans hev0.1
 have hl2 : ∀ (t : Nat) (d : D) (v : Value),ds[t]? = some d → (args.toList.map a.eval)[t]? = some v → DV g9 d v := fun t d v ht hv => (hd8 t d v ht (by rw [Nat.zero_add]; exact hv)).mono hle98
 rw [← hws] at hH9 h9
 have hless0 : Rel en g S H a w := h.less hS hH
 have hgoal : ∀ {g' : Gh} {res : Res},(∀ m,g'.used m → g9.used m ∨ (nm ≤ m ∧ m < nm + res.roots.length)) → (∀ m,g'.used m → g.used m ∨ (nm ≤ m ∧ m < nm + res.roots.length)) := fun h m hm => by rw [← hu9]; exact h m hm
 have hless : Rel en g9 S (apH ws H) a w := h9.less hS hH9
 have hlessS : Rel en g9 S (apH ws H') a w := h9.less hS (fun _ _ h => h)
 have back : ∀ {g' : Gh} {Hn : Nat → Option Root} {w' : World},g9.le g' → Rel en g' S Hn a w' → Rel en g' S' Hn a w' := fun hle hr => hr.moreS (fun t d ht => by
   obtain ⟨v,hv,hd⟩ := h9.slots t d ht; exact ⟨v,hv,hd.mono hle⟩)
 have hfv := zBn hless hf
 generalize hfe : a.eval f = u at hfv
 cases hfv with
 | fn _ _ vs hvs hvr =>
   have hargsR : ∀ (t : Nat) (d : D) (v : Value),(ds ++ caps.map D.c)[t]? = some d → (args.toList.map a.eval ++ vs.toList)[t]? = some v → DV g9 d v := fun t d v ht hv => by
     by_cases hlt : t < ds.length
     · rw [List.getElem?_append_left hlt] at ht
       rw [List.getElem?_append_left (by simp [← hl1]; exact hlt)] at hv
       exact hl2 t d v ht hv
     · rw [List.getElem?_append_right (by omega)] at ht
       rw [List.getElem?_append_right (by simp [← hl1]; omega)] at hv
       rw [List.getElem?_map,Option.map_eq_some_iff] at ht
       obtain ⟨c,hc,rfl⟩ := ht
       rw [show (List.map a.eval args.toList).length = ds.length by simp [hl1]] at hv
       exact .c _ _ (hvr _ c v hc (by simpa using hv))
   have hargs : (args.toList.map a.eval ++ vs.toList).toArray = args.map a.eval ++ vs := by
     rw [← Array.toList_inj]; simp
   rcases hΦ k ct hk with ⟨hG,hent⟩ | hX
   · have hcr := zLi1 hlessS (nm := nm) hG (zIf1 hH9 hpl) (br := ct.sc) (fun h => h) (ds := ds ++ caps.map D.c) (args := args.toList.map a.eval ++ vs.toList) (by simp [hl1,hvs]) hargsR
       (by
         cases hsc : ct.sc with
         | true => rw [hsc] at hlo; simp only [yal] at hlo ⊢; exact zCz (fun x y => zKi1 hH9 x y) hlo
         | false => rw [hsc] at hlo; simpa using hlo) hrun
     rw [hargs] at hcr
     have h1' : (execOp a.eval o).run P w = .ok (.enter k (args.map a.eval ++ vs)) w := by
       simp [execOp,hop,resolve,hfe,Deferred.ofValue,invoke,zLc hent]
     simp only [Oper.wp,h1',Oper.upon]
     refine hcr.mono fun e w' ⟨v,he,res,hm,hcont⟩ => ?_
     subst he
     refine ⟨res,hm,fun d hre hnm => ?_⟩
     obtain ⟨g',k1,k2,k3,k4⟩ := hcont d hre (by rw [hu9]; exact hnm)
     refine ⟨g',hgoal k2,?_,zCd _ _ _⟩
     have hadd : addP (apH ws H) (exDs (ds ++ caps.map D.c)) res.places = addP (apH ws H') (exDs (ds ++ caps.map D.c)) res.places := zPo _ _ (fun q hq => by
       obtain ⟨k9,hk9,rfl⟩ := List.mem_iff_getElem.1 hq
       have h9 : (exDs (ds ++ caps.map D.c))[k9]? = some (exDs (ds ++ caps.map D.c))[k9] := List.getElem?_eq_getElem hk9
       have hl9 : k9 < hs.length := by rw [hpl.2.1]; exact hk9
       obtain ⟨r9,hr9⟩ := zLi (hpl.2.2 k9 _ _ h9 (List.getElem?_eq_getElem hl9)).1
       rw [hr9,hH9 _ _ hr9])
     rw [hadd,← List.append_assoc,zPn,← zLm1]
     exact (back k1 k3).putD hdst k4
   · obtain ⟨rfl,hsc,hcall⟩ := hX ds' hs os hrun
     have hex0 : exDs (ds ++ caps.map D.c) = [] := List.eq_nil_of_length_eq_zero hpl.2.1.symm
     have hlen : (args.toList.map a.eval ++ vs.toList).length = ds'.length := by rw [zBi hlo]; simp [hl1,hvs]
     obtain ⟨v,z,hrunv,hmem,hir⟩ := hcall g9.fz (args.toList.map a.eval ++ vs.toList) w hlen (fun t i v ht hv => by
       obtain ⟨i',hi',hs'⟩ := hsc _ (List.mem_of_getElem? ht)
       cases hi'
       obtain ⟨d0,h1,h2⟩ := zBl hlo t _ ht
       have := zRl1 h2 hs'
       rcases this with this | this
       · subst this
         have hdv := hargsR t _ v h1 hv
         cases hdv with | c _ _ hc => cases hc with | im _ _ hh => exact hh
       · obtain ⟨n,sz,lo,rfl,rfl⟩ := this
         have hdv := hargsR t _ v h1 hv
         cases hdv with
         | c _ _ hc =>
           cases hc with
           | view0 _ _ _ A _ => exact .sl0 _ _ _
           | view _ _ _ _ cap _ _ _ _ => exact .sl0 _ _ _)
     rw [hargs] at hrunv
     have h1' : (execOp a.eval o).run P w = .ok (.value v) w := by
       simp [execOp,hop,resolve,hfe,Deferred.ofValue,invoke,hrunv]
     simp only [Oper.wp,h1',Oper.upon]
     refine ⟨_,hmem,fun d hre hnm => ?_⟩
     simp only [reD,reC,yay] at hre
     subst hre
     rw [hex0]
     exact ⟨g9,fun m hm => .inl (by rw [← hu9]; exact hm),h9.putD hdst (.c _ _ (.im _ _ hir)),zCd _ _ _⟩
theorem zDk1 {S' : Nat → Option D} {N : Nat} {Q : Exit → Act → World → Prop} {o : Oper} (h : Rel en g S' H' a w) (hN : a.tmps.size = N) (hS : ∀ t d,S t = some d → S' t = some d) (hH : ∀ n r,H n = some r → H' n = some r)
   {s d : TypeId} {x : Operand} {b : Nat} {dd : TypeDesc} (hop : o.op = .convert s d x) (hx : evI S x = some (.flt .f64 b)) (hs : P.underlying s = some dd) (hd : P.underlying d = some (.float .f32)) (hc : fconv .f64 b .f32 = none) (hdst : ∀ t,o.dst = some t → t < N) :
   o.wp P a w (fun a' w' => ∃ n : Nat,n < 4294967296 ∧ Rel en g (apS o.dst (some (.c (.im (.flt .f32 n)))) S') H' a' w' ∧ a'.tmps.size = N) Q := by
 subst hN
 obtain ⟨y,hy,hf⟩ := (zBj (h.less hS hH) hx).flt_inv
 obtain ⟨r,w',h1,h2,h3⟩ := zPt (P := P) (w := w) hf hc
 have h1' : (execOp a.eval o).run P w = .ok (.value (.float .f32 r)) w' := by
   simp [execOp,hop,hy,convert,run_underlying hs,run_underlying hd,h1]
 simp only [Oper.wp,h1',Oper.upon]
 exact ⟨r,h3,(h.world h2.heap h2.os h2.tape h2.output).putD hdst (.c _ _ (.im _ _ (.flt _ _ _ (.inl rfl)))),zCd _ _ _⟩
end Go.SX
namespace Go.SX
open Go Go.RowKit
variable {en : En} {g : Gh} {S : Nat → Option D} {H : Nat → Option Root} {a : Act} {w : World} {P : Program}
def lk {α : Type} : List (Nat × Option α) → Nat → Option α
 | [],_ => none
 | (k,x) :: r,t => if t = k then x else lk r t
theorem zHe {α : Type} (k : Nat) (x : Option α) (r : List (Nat × Option α)) : lk ((k,x) :: r) = upd (lk r) k x := by funext t; simp [lk,upd]
def ins {α : Type} (n : Nat) (x : Option α) : List (Nat × Option α) → List (Nat × Option α)
 | [] => [(n,x)]
 | (k,y) :: r => if k = n then (n,x) :: r else (k,y) :: ins n x r
theorem zCg {α : Type} (n : Nat) (x : Option α) : ∀ l : List (Nat × Option α),lk (ins n x l) = upd (lk l) n x
 | [] => by funext t; simp [ins,lk,upd]
 | (k,y) :: r => by
   simp only [ins]
   split
   · rename_i e; subst e; funext t; simp only [lk,upd]; split <;> rfl
   · rename_i e
     rw [zHe,zCg n x r,zHe]
     funext t
     simp only [upd]
     by_cases h1 : t = k
     · subst h1; simp [e]
     · simp [h1]
def insW : List (Nat × Option Root) → List (Nat × Option Root) → List (Nat × Option Root)
 | [],h => h
 | (n,r) :: l,h => ins n r (insW l h)
theorem zKs : ∀ (l h : List (Nat × Option Root)),lk (insW l h) = apH l (lk h)
 | [],h => rfl
 | (n,r) :: l,h => by simp only [insW,apH]; rw [zCg,zKs l h]
structure St where
 s : List (Nat × Option D)
 h : List (Nat × Option Root)
 n : Nat
 deriving Inhabited
def putS (dst : Option Nat) (val : Option D) (s : List (Nat × Option D)) : List (Nat × Option D) := match dst with
 | some t => (t,val) :: s
 | none => s
theorem zKr (dst : Option Nat) (val : Option D) (s : List (Nat × Option D)) : lk (putS dst val s) = apS dst val (lk s) := by
 cases dst with
 | none => rfl
 | some t => exact zHe t val s
inductive Tag.{u} {α : Sort u} (K : α) : Type where
 | mk : Tag K
def mC (o : Option Ct) (K : Ct → Prop) (A : Unit → Prop) (t : Tag K) (u : Tag A) : Prop := match o with
 | some c => K c
 | none => A ()
theorem zRk1 {o : Option Ct} {K : Ct → Prop} {A : Unit → Prop} {t : Tag K} {u : Tag A} (h : mC o K A t u) : (∃ c,o = some c ∧ K c) ∨ (o = none ∧ A ()) := by
 cases o with
 | none => exact .inr ⟨rfl,h⟩
 | some c => exact .inl ⟨c,rfl,h⟩
def mK.{u} {α : Type u} (o : Option α) (K : α → Prop) (t : Tag K) : Prop := match o with
 | some x => K x
 | none => False
theorem mK_ite.{u} {α : Type u} (c : Prop) [Decidable c] (x : Option α) (K : α → Prop) (t : Tag K) : mK (if c then x else none) K t = (c ∧ mK x K t) := by
 by_cases h : c
 · simp [h]
 · simp [h,mK]
theorem mK_ex.{u} {α : Type u} {o : Option α} {K : α → Prop} {t : Tag K} (h : mK o K t) : ∃ x,o = some x ∧ K x := by
 cases o with
 | none => exact h.elim
 | some x => exact ⟨x,rfl,h⟩
def gS (b want : Bool) (A B : Prop) (tA : Tag A) (tB : Tag B) : Prop := (b = want → A) ∧ (b = (!want) → B)
def plX (H : Nat → Option Root) : List Plc → (K : List (List B) → Prop) → Tag K → Prop
 | [],K,_ => K []
 | p :: ex,K,_ => match plCells H p with
   | some c => (∀ x ∈ c,MvB false x) ∧ plX H ex (fun hs => K (c :: hs)) .mk
   | _ => False
theorem zHq1 : ∀ {l : List Plc} {x : Nat},x ∈ exN (dd l) → x ∈ exN l
 | [],x,h => h
 | y :: l,x,h => by
   simp only [dd] at h
   split at h
   · exact .tail _ (zHq1 h)
   · simp only [exN,List.map_cons,yae] at h ⊢
     rcases h with h | h
     · exact .inl h
     · exact .inr (zHq1 h)
theorem zTk : ∀ l : List Plc,(exN (dd l)).Nodup
 | [] => .nil
 | y :: l => by
   simp only [dd]
   split
   · exact zTk l
   · rename_i h; exact List.nodup_cons.2 ⟨fun hm => h (zHq1 hm),zTk l⟩
def ownJs (r : Root) (i : Nat) : Nat → Nat → List Nat
 | _,0 => []
 | off,k + 1 => match r.get i off with
   | some (.t (.own _ _)) => off :: ownJs r i (off + 1) k
   | _ => ownJs r i (off + 1) k
def ldJs (P : Program) (S : Nat → Option D) (H : Nat → Option Root) (t : TypeId) (x : Operand) : Option (Nat × Nat × Root × List Nat) := match evC S x,tsz P t with
 | some (.ptr n _ i off),some k => match H n with
   | some r => match ownJs r i off k with
     | [] => none
     | js => some (n,i,r,js)
   | none => none
 | _,_ => none
def nilOp : BinOp → Bool → Option Bool
 | .eql,b => some b
 | .neq,b => some (!b)
 | _,_ => none
def nilF (c : C) (b : Bool) : Prop := match c with
 | .nil => b = true
 | .view _ _ _ len => b = true → len = 0
 | .im (.sl _ rows) => b = true → rows = []
 | _ => False
def nilC : C → Prop
 | .nil => True
 | .view _ _ _ _ => True
 | .im (.sl _ _) => True
 | _ => False
theorem zRp {t e : TypeId} (hu : P.underlying t = some (.slice e)) (A : Option Addr) (l c : Nat) (w : World) : (Op.equal t (.slice A l c) (.slice none 0 0)).run P w = .ok A.isNone w := by
 have h : ∀ d : Nat,(Op.equalIn (d + 1) t (.slice A l c) (.slice none 0 0)).run P w = .ok A.isNone w := fun d => by
   cases A <;> simp [Op.equalIn,run_underlying hu]
 unfold Op.equal Op.maxDepth
 exact h 9999
theorem zFf1 {S' : Nat → Option D} {H' : Nat → Option Root} {N : Nat} {Q : Exit → Act → World → Prop} {o : Oper} (h : Rel en g S' H' a w) (hN : a.tmps.size = N) (hS : ∀ t d,S t = some d → S' t = some d) (hH : ∀ n r,H n = some r → H' n = some r)
   {op : BinOp} {t ty : TypeId} {x : Operand} {c : C} (hop : o.op = .binOp op t x (.const (.slice none 0 0)) ty) (hx : evC S x = some c) (ht : isSlT P t = true) (hdst : ∀ t,o.dst = some t → t < N) (hq : (∃ b b',nilOp op b = some b') ∧ nilC c) :
   o.wp P a w (fun a' w' => ∃ b b',nilF c b ∧ nilOp op b = some b' ∧ Rel en g (apS o.dst (some (.c (.im (.bool b')))) S') H' a' w' ∧ a'.tmps.size = N) Q := by
 subst hN
 have hcv := zBn (h.less hS hH) hx
 obtain ⟨e,hu⟩ : ∃ e,P.underlying t = some (.slice e) := by
   unfold isSlT at ht
   split at ht
   · exact ⟨_,by assumption⟩
   · cases ht
 obtain ⟨A,l,k,hv,hb⟩ : ∃ A l k,a.eval x = .slice A l k ∧ nilF c A.isNone := by
   obtain ⟨_,hc⟩ := hq
   generalize a.eval x = v at hcv
   cases hcv with
   | nil => exact ⟨none,0,0,rfl,rfl⟩
   | view0 n sz lo A hu => exact ⟨A,0,0,rfl,fun _ => rfl⟩
   | view => exact ⟨_,_,_,rfl,fun h => by simp at h⟩
   | im i v hi =>
     cases i with
     | sl sz rows =>
       rcases hi.sl_inv with ⟨h9,A,c,rfl⟩ | ⟨B,off,c,vs,rfl,_⟩
       · exact ⟨A,0,c,rfl,fun _ => h9⟩
       · exact ⟨_,_,_,rfl,fun h => by simp at h⟩
     | _ => exact hc.elim
   | _ => exact hc.elim
 obtain ⟨⟨b0,b1,hn⟩,_⟩ := hq
 have he2 : a.eval (.const (.slice none 0 0)) = .slice none 0 0 := rfl
 have key : ∃ b',nilOp op A.isNone = some b' ∧ (execOp a.eval o).run P w = .ok (.value (.bool b')) w := by
   cases op <;> simp only [nilOp] at hn <;> first
     | (cases hn; done)
     | (refine ⟨_,rfl,?_⟩
        simp [execOp,hop,hv,he2,eqGuard,binOp,zRp hu])
 obtain ⟨b',k1,k2⟩ := key
 simp only [Oper.wp,k2,Oper.upon]
 exact ⟨_,b',hb,k1,h.putD hdst (.c _ _ (.im _ _ (.bool _))),zCd _ _ _⟩
def oK (o : Outs) (K : Res → Prop) (_ : Tag K) : Prop := match o with
 | .one r => K r
 | .any ι f => Nonempty ι ∧ ∀ i,K (f i)
theorem zRg1 {o : Outs} {K : Res → Prop} {t : Tag K} (h : oK o K t) : (∃ r,o.mem r) ∧ ∀ r,o.mem r → K r := by
 cases o with
 | one r => exact ⟨⟨r,rfl⟩,fun r' h' => by cases h'; exact h⟩
 | any ι f => obtain ⟨⟨i⟩,h⟩ := h; exact ⟨⟨f i,i,rfl⟩,fun r ⟨j,hj⟩ => hj ▸ h j⟩
def cK (o : Option Nat) (K : Nat → Prop) (_ : Tag K) : Prop := match o with
 | some r => K r
 | none => ∀ r,r < 4294967296 → K r
def nK (c : C) (K : Bool → Prop) (_ : Tag K) : Prop := match c with
 | .nil => K true
 | .view _ _ _ len => K false ∧ (len = 0 → K true)
 | .im (.sl _ rows) => K false ∧ (rows = [] → K true)
 | _ => False
def opR (P : Program) (Φ : FuncId → Option Ct) (nm : Nat) (S : Nat → Option D) (H : Nat → Option Root) (o : Op) (K : Option D → List (Nat × Option Root) → Nat → Prop) (_ : Tag K) : Prop :=
 match o with
 | .load t x => match ldJs P S H t x with
   | some (n,i,r,js) => mK (hoistJ r i js nm) (fun p => mK (qv P S (apH ((n,some p.1) :: addR nm p.2) H) (.load t x)) (fun d => K (some d) ((n,some p.1) :: addR nm p.2) p.2.length) .mk) .mk
   | none => mK (qv P S H (.load t x)) (fun d => K (some d) [] 0) .mk
 | .store t x y => mK (storeH P t S H x y) (fun p => K none [(p.1,some p.2)] 0) .mk
 | .alloc t => mK (mkOp P S (.alloc t) nm) (fun p => K (some p.1) [(nm,some p.2)] 1) .mk
 | .box t x => mK (mkOp P S (.box t x) nm) (fun p => K (some p.1) [(nm,some p.2)] 1) .mk
 | .buildSlice t l ps => mK (mkOp P S (.buildSlice t l ps) nm) (fun p => K (some p.1) [(nm,some p.2)] 1) .mk
 | .makeSlice t l c => mK (mkOp P S (.makeSlice t l c) nm) (fun p => K (some p.1) [(nm,some p.2)] 1) .mk
 | .call { callee := .builtin .append,args := args,argTypes := ts } => match args.toList,ts.toList with
   | [s,x],[t,t'] => t = t' ∧ if isTail S s = true then mK (appendT P t S H s x) (fun p => p.rb.length * p.bytes ≤ 140737488355328 ∧
         K (some (.c (.view nm p.sz 0 p.len))) [(nm,some (.arr p.sz p.ra)),(p.n,none)] 1 ∧ K (some (.c (.view nm p.sz p.lo p.len))) [(nm,some (.arr p.sz p.rb)),(p.n,none)] 1) .mk
       else mK (appendH P t S H s x) (fun p => p.2.2.1.length * p.2.1 ≤ 140737488355328 ∧
       K (some (.c (.view nm p.1 0 p.2.2.1.length))) ((nm,some (.arr p.1 p.2.2.1)) :: dropN p.2.2.2) 1) .mk
   | _,_ => False
 | .call { callee := .builtin .clear,args := args,argTypes := ts } => match args.toList,ts.toList with
   | [x],[t] => mK (clearH P t S H x) (fun p => K (some (.tup [])) [(p.1,some p.2)] 0) .mk
   | _,_ => False
 | .call { callee := .value f,args := args,argTypes := _ } => match evC S f with
   | some (.fn (.func k) caps) => mC (Φ k) (fun ct => mK (evDs S args.toList) (fun ds0 => mK (some (frzL ct.sc H ds0 [])) (fun fz => mK (some (preW H (lentPs H (exDs (fz.1 ++ caps.map D.c))) fz.2)) (fun ws => plX (apH ws H) (exDs (fz.1 ++ caps.map D.c)) (fun hs =>
       mK (mapO (loD (exDs (fz.1 ++ caps.map D.c)) (if ct.sc then apH ws H else fun _ => none)) (fz.1 ++ caps.map D.c)) (fun ds' => mK (ct.run ds' hs) (fun os => oK os (fun res => mK (reD (fun n => nm + n) res.val) (fun d =>
         K (some d) (addR nm res.roots ++ (addP (apH ws H) (exDs (fz.1 ++ caps.map D.c)) res.places ++ ws)) res.roots.length) .mk) .mk) .mk) .mk) .mk) .mk) .mk) .mk) (fun _ => SortLaw P k ∧ mK (sortH S H caps args.toList) (fun p => K (some (.tup [])) [(p.1,some p.2)] 0) .mk) .mk .mk
   | _ => False
 | .convert s d x => match P.underlying d,evI S x with
   | some (.float .f32),some (.flt .f64 b) => (P.underlying s).isSome = true ∧ cK (fconv .f64 b .f32) (fun n => K (some (.c (.im (.flt .f32 n)))) [] 0) .mk
   | _,_ => mK (qv P S H (.convert s d x)) (fun d => K (some d) [] 0) .mk
 | .binOp op t x (.const (.slice none 0 0)) ty => isSlT P t = true ∧ mK (evC S x) (fun c => nK c (fun b => mK (nilOp op b) (fun b => K (some (.c (.im (.bool b)))) [] 0) .mk) .mk) .mk
 | o => mK (qv P S H o) (fun d => K (some d) [] 0) .mk
structure Oc where
 val : Option D
 wr : List (Nat × Option Root)
 cnt : Nat
def opc (o : Option Ct) (k : Ct → Option (Oc → Prop)) (a : Option (Oc → Prop)) : Option (Oc → Prop) := match o with
 | some x => k x
 | none => a
def opd.{u} {α : Type u} (o : Option α) (k : α → Option (Oc → Prop)) : Option (Oc → Prop) := match o with
 | some x => k x
 | none => none
def opS (P : Program) (Φ : FuncId → Option Ct) (nm : Nat) (S : Nat → Option D) (H : Nat → Option Root) (o : Op) : Option (Oc → Prop) :=
 match o with
 | .load t x => match ldJs P S H t x with
   | some (n,i,r,js) => opd (hoistJ r i js nm) (fun p => opd (qv P S (apH ((n,some p.1) :: addR nm p.2) H) (.load t x)) (fun d => some (fun e => e = ⟨some d,(n,some p.1) :: addR nm p.2,p.2.length⟩)))
   | none => opd (qv P S H (.load t x)) (fun d => some (fun e => e = ⟨some d,[],0⟩))
 | .store t x y => opd (storeH P t S H x y) (fun p => some (fun e => e = ⟨none,[(p.1,some p.2)],0⟩))
 | .alloc t => opd (mkOp P S (.alloc t) nm) (fun p => some (fun e => e = ⟨some p.1,[(nm,some p.2)],1⟩))
 | .box t x => opd (mkOp P S (.box t x) nm) (fun p => some (fun e => e = ⟨some p.1,[(nm,some p.2)],1⟩))
 | .buildSlice t l ps => opd (mkOp P S (.buildSlice t l ps) nm) (fun p => some (fun e => e = ⟨some p.1,[(nm,some p.2)],1⟩))
 | .makeSlice t l c => opd (mkOp P S (.makeSlice t l c) nm) (fun p => some (fun e => e = ⟨some p.1,[(nm,some p.2)],1⟩))
 | .call { callee := .builtin .append,args := args,argTypes := ts } => match args.toList,ts.toList with
   | [s,x],[t,t'] => if isTail S s = true then opd (appendT P t S H s x) (fun p => some (fun e => e = ⟨some (.c (.view nm p.sz 0 p.len)),[(nm,some (.arr p.sz p.ra)),(p.n,none)],1⟩ ∨ e = ⟨some (.c (.view nm p.sz p.lo p.len)),[(nm,some (.arr p.sz p.rb)),(p.n,none)],1⟩))
     else opd (appendH P t S H s x) (fun p => some (fun e => e = ⟨some (.c (.view nm p.1 0 p.2.2.1.length)),(nm,some (.arr p.1 p.2.2.1)) :: dropN p.2.2.2,1⟩))
   | _,_ => none
 | .call { callee := .builtin .clear,args := args,argTypes := ts } => match args.toList,ts.toList with
   | [x],[t] => opd (clearH P t S H x) (fun p => some (fun e => e = ⟨some (.tup []),[(p.1,some p.2)],0⟩))
   | _,_ => none
 | .call { callee := .value f,args := args,argTypes := _ } => match evC S f with
   | some (.fn (.func k) caps) => opc (Φ k) (fun (ct : Ct) => opd (evDs S args.toList) (fun (ds0 : List D) => opd (some (frzL ct.sc H ds0 [])) (fun (fz : List D × List (Nat × Option Root)) => opd (some (preW H (lentPs H (exDs (fz.1 ++ caps.map D.c))) fz.2)) (fun (ws : List (Nat × Option Root)) => opd (mapO (plCells (apH ws H)) (exDs (fz.1 ++ caps.map D.c))) (fun (hs : List (List B)) =>
       opd (mapO (loD (exDs (fz.1 ++ caps.map D.c)) (if ct.sc then apH ws H else fun _ => none)) (fz.1 ++ caps.map D.c)) (fun (ds' : List D) => opd (ct.run ds' hs) (fun (os : Outs) => some (fun e => ∃ res,os.mem res ∧ ∃ d,reD (fun n => nm + n) res.val = some d ∧
         e = ⟨some d,addR nm res.roots ++ (addP (apH ws H) (exDs (fz.1 ++ caps.map D.c)) res.places ++ ws),res.roots.length⟩)))))))) (opd (sortH S H caps args.toList) (fun p => some (fun e => e = ⟨some (.tup []),[(p.1,some p.2)],0⟩)))
   | _ => none
 | .convert s d x => match P.underlying d,evI S x with
   | some (.float .f32),some (.flt .f64 b) => some (fun e => ∃ n,(fconv .f64 b .f32 = some n ∨ (fconv .f64 b .f32 = none ∧ n < 4294967296)) ∧ e = ⟨some (.c (.im (.flt .f32 n))),[],0⟩)
   | _,_ => opd (qv P S H (.convert s d x)) (fun d => some (fun e => e = ⟨some d,[],0⟩))
 | .binOp op t x (.const (.slice none 0 0)) ty => opd (evC S x) (fun c => some (fun e => ∃ b b',nilF c b ∧ nilOp op b = some b' ∧ e = ⟨some (.c (.im (.bool b'))),[],0⟩))
 | o => opd (qv P S H o) (fun d => some (fun e => e = ⟨some d,[],0⟩))
theorem zOo1 : ∀ {ex : List Plc} {K : List (List B) → Prop} {t : Tag K},plX H ex K t → ∃ hs,mapO (plCells H) ex = some hs ∧ (hs.length = ex.length ∧ ∀ (k : Nat) (p : Plc) (c : List B),ex[k]? = some p → hs[k]? = some c → plCells H p = some c ∧ ∀ x ∈ c,MvB false x) ∧ K hs
 | [],K,_,h => ⟨[],rfl,⟨rfl,fun k n c hk => by simp at hk⟩,h⟩
 | n :: ex,K,_,h => by
   simp only [plX] at h
   split at h
   · rename_i c hc
     obtain ⟨h1,h2⟩ := h
     obtain ⟨hs,h0,⟨h3,h4⟩,h5⟩ := zOo1 h2
     refine ⟨c :: hs,by simp [mapO,hc,h0],⟨by simp [h3],fun k m c' hk hc' => ?_⟩,h5⟩
     cases k with
     | zero => simp at hk hc'; subst hk; subst hc'; exact ⟨hc,h1⟩
     | succ k => simp at hk hc'; exact h4 k m c' hk hc'
   · exact h.elim
theorem zQx1 {Φ : FuncId → Option Ct} {nm : Nat} {o : Op} {K : Option D → List (Nat × Option Root) → Nat → Prop} {tg : Tag K} (h : opR P Φ nm S H o K tg) :
   ∃ X,opS P Φ nm S H o = some X ∧ (∃ e,X e) ∧ ∀ e,X e → K e.val e.wr e.cnt := by
 have one : ∀ {o : Option (Oc → Prop)} (e : Oc),o = some (fun e' => e' = e) → K e.val e.wr e.cnt → ∃ X,o = some X ∧ (∃ e,X e) ∧ ∀ e,X e → K e.val e.wr e.cnt := fun e h1 h2 => ⟨_,h1,⟨e,rfl⟩,fun e' he => by cases he; exact h2⟩
 unfold opR at h
 split at h
 · rename_i t x
   split at h
   · rename_i n i r js hl
     obtain ⟨⟨r',rs⟩,h1,h⟩ := mK_ex h
     obtain ⟨d,h2,h3⟩ := mK_ex h
     exact one ⟨_,_,_⟩ (by simp only [opS,hl,h1,opd,h2]) h3
   · rename_i hl
     obtain ⟨d,h1,h2⟩ := mK_ex h
     exact one ⟨_,_,_⟩ (by simp only [opS,hl,h1,opd]) h2
 · obtain ⟨p,h1,h2⟩ := mK_ex h; exact one ⟨_,_,_⟩ (by simp only [opS,h1,opd]) h2
 · obtain ⟨p,h1,h2⟩ := mK_ex h; exact one ⟨_,_,_⟩ (by simp only [opS,h1,opd]) h2
 · obtain ⟨p,h1,h2⟩ := mK_ex h; exact one ⟨_,_,_⟩ (by simp only [opS,h1,opd]) h2
 · obtain ⟨p,h1,h2⟩ := mK_ex h; exact one ⟨_,_,_⟩ (by simp only [opS,h1,opd]) h2
 · obtain ⟨p,h1,h2⟩ := mK_ex h; exact one ⟨_,_,_⟩ (by simp only [opS,h1,opd]) h2
 · rename_i args ts
   split at h
   · rename_i s x t t' ha ht
     obtain ⟨rfl,h⟩ := h
     split at h
     · rename_i htl
       obtain ⟨p,h1,h2,h3,h4⟩ := mK_ex h
       refine ⟨fun e => e = ⟨some (.c (.view nm p.sz 0 p.len)),[(nm,some (.arr p.sz p.ra)),(p.n,none)],1⟩ ∨ e = ⟨some (.c (.view nm p.sz p.lo p.len)),[(nm,some (.arr p.sz p.rb)),(p.n,none)],1⟩,by simp only [opS,ha,ht,htl,yal,h1,opd],⟨_,Or.inl rfl⟩,?_⟩
       rintro e (rfl | rfl)
       · exact h3
       · exact h4
     · rename_i htl
       obtain ⟨⟨sz,bytes,rows,on⟩,h1,h2,h3⟩ := mK_ex h
       exact one ⟨_,_,_⟩ (by simp only [opS,ha,ht,htl,yaj,yak,h1,opd]) h3
   · exact h.elim
 · rename_i args ts
   split at h
   · rename_i x t ha ht
     obtain ⟨p,h1,h2⟩ := mK_ex h
     exact one ⟨_,_,_⟩ (by simp only [opS,ha,ht,h1,opd]) h2
   · exact h.elim
 · rename_i f args ts
   split at h
   · rename_i k caps hf
     rcases zRk1 h with ⟨ct,h1,h⟩ | ⟨h1,_,h⟩
     rotate_left
     · obtain ⟨p,h2,h3⟩ := mK_ex h
       exact one ⟨_,_,_⟩ (by simp only [opS,hf,h1,opc,opd,h2]) h3
     obtain ⟨ds,h2,h⟩ := mK_ex h
     obtain ⟨ws,h9,h⟩ := mK_ex h
     simp only [yay] at h9
     subst h9
     obtain ⟨hs,h3,_,h⟩ := zOo1 h
     obtain ⟨ds',h4,h⟩ := mK_ex h
     obtain ⟨os,h5,h⟩ := mK_ex h
     obtain ⟨⟨r0,hr0⟩,h6⟩ := zRg1 h
     refine ⟨_,by simp only [opS,hf,h1,opc,opd,h2,h3,h4,h5]; rfl,?_,?_⟩
     · obtain ⟨d,h7,h8⟩ := mK_ex (h6 r0 hr0)
       exact ⟨_,r0,hr0,d,h7,rfl⟩
     · rintro e ⟨res,hm,d,hd,rfl⟩
       obtain ⟨d',h7,h8⟩ := mK_ex (h6 res hm)
       rw [hd] at h7; injection h7 with h7; subst h7
       exact h8
   · exact h.elim
 · rename_i s d x
   split at h
   · rename_i b hd hx
     obtain ⟨_,h⟩ := h
     refine ⟨_,by simp only [opS,hd,hx]; rfl,?_,?_⟩
     · cases hc : fconv .f64 b .f32 with
       | some n => exact ⟨_,n,.inl rfl,rfl⟩
       | none => exact ⟨_,0,.inr ⟨rfl,by omega⟩,rfl⟩
     · rintro e ⟨n,hn,rfl⟩
       rcases hn with hn | ⟨hn,hlt⟩
       · simp only [cK,hn] at h; exact h
       · simp only [cK,hn] at h; exact h n hlt
   · rename_i hne
     obtain ⟨d,h1,h2⟩ := mK_ex h
     exact one ⟨_,_,_⟩ (by simp only [opS,h1,opd]) h2
 · rename_i op t x ty
   obtain ⟨_,h⟩ := h
   obtain ⟨c,h1,h⟩ := mK_ex h
   refine ⟨_,by simp only [opS,h1,opd]; rfl,?_,?_⟩
   · cases c with
     | nil => obtain ⟨b',h2,h3⟩ := mK_ex (t := .mk) h; exact ⟨_,true,b',rfl,h2,rfl⟩
     | view n sz lo len => obtain ⟨b',h2,h3⟩ := mK_ex (t := .mk) h.1; exact ⟨_,false,b',(fun h => by cases h),h2,rfl⟩
     | im i =>
       cases i with
       | sl sz rows => obtain ⟨b',h2,h3⟩ := mK_ex (t := .mk) h.1; exact ⟨_,false,b',(fun h => by cases h),h2,rfl⟩
       | _ => exact h.elim
     | _ => exact h.elim
   · rintro e ⟨b,b',hb,hn,rfl⟩
     have fin : mK (nilOp op b) (fun b => K (some (.c (.im (.bool b)))) [] 0) .mk → K (some (.c (.im (.bool b')))) [] 0 := fun h => by
       obtain ⟨b2,h2,h3⟩ := mK_ex h
       rw [hn] at h2; injection h2 with h2; subst h2; exact h3
     cases c with
     | nil => have hb : b = true := hb; subst hb; exact fin h
     | view n sz lo len =>
       cases b with
       | false => exact fin h.1
       | true => exact fin (h.2 (hb rfl))
     | im i =>
       cases i with
       | sl sz rows =>
         cases b with
         | false => exact fin h.1
         | true => exact fin (h.2 (hb rfl))
       | _ => exact h.elim
     | _ => exact h.elim
 · rename_i o h1 h2 h3 h4 h5 h6 h7 h8 h9 h10 h11
   obtain ⟨d,k1,k2⟩ := mK_ex h
   refine one ⟨_,_,_⟩ ?_ k2
   unfold opS
   split <;> first
     | (exfalso; first | exact h1 _ _ rfl | exact h2 _ _ _ rfl | exact h3 _ rfl | exact h4 _ _ rfl | exact h5 _ _ _ rfl | exact h6 _ _ _ rfl | exact h7 _ _ rfl | exact h8 _ _ _ rfl | exact h8 _ _ rfl | exact h9 _ _ _ rfl | exact h10 _ _ _ rfl | exact h10 _ _ _ _ rfl | exact h11 _ _ _ _ rfl)
     | simp only [k1,opd]
theorem zOh {Φ : FuncId → Option Ct} (hΦ : Env P Φ) {S' : Nat → Option D} {H' : Nat → Option Root} {N nm : Nat} {Q : Exit → Act → World → Prop} {o : Oper} {K : Option D → List (Nat × Option Root) → Nat → Prop} {tg : Tag K}
   (h : Rel en g S' H' a w) (hN : a.tmps.size = N) (hS : ∀ t d,S t = some d → S' t = some d) (hH : ∀ n r,H n = some r → H' n = some r)
   (ho : opR P Φ nm S H o.op K tg) (hnm : ∀ val wr cnt,K val wr cnt → ∀ m,g.used m → ¬ (nm ≤ m ∧ m < nm + cnt)) (hdst : ∀ t,o.dst = some t → t < N) :
   o.wp P a w (fun a' w' => ∃ e : Oc,(∀ X,opS P Φ nm S H o.op = some X → X e) ∧ K e.val e.wr e.cnt ∧ ∃ g',(∀ m,g'.used m → g.used m ∨ (nm ≤ m ∧ m < nm + e.cnt)) ∧ Rel en g' (apS o.dst e.val S') (apH e.wr H') a' w' ∧ a'.tmps.size = N) Q := by
 obtain ⟨X0,hX0,_,hX⟩ := zQx1 ho
 have det : ∀ (e : Oc),X0 = (fun e' => e' = e) → OpSem P S H nm o.op e.val e.wr e.cnt →
     o.wp P a w (fun a' w' => ∃ e : Oc,(∀ X,opS P Φ nm S H o.op = some X → X e) ∧ K e.val e.wr e.cnt ∧ ∃ g',(∀ m,g'.used m → g.used m ∨ (nm ≤ m ∧ m < nm + e.cnt)) ∧ Rel en g' (apS o.dst e.val S') (apH e.wr H') a' w' ∧ a'.tmps.size = N) Q := by
   intro e he hsem
   have hke : K e.val e.wr e.cnt := hX e (by rw [he])
   refine Oper.wp_mono (fun a' w' hq => ⟨e,fun X hx => ?_,hke,hq⟩) (OpSem.sound h hN hS hH hsem (hnm _ _ _ hke) hdst)
   rw [hX0] at hx; injection hx with hx; subst hx; rw [he]
 have fin : ∀ {o1 : Option (Oc → Prop)} (e : Oc),opS P Φ nm S H o.op = o1 → o1 = some (fun e' => e' = e) → X0 = (fun e' => e' = e) := fun e h1 h2 => by
   rw [hX0,h2] at h1; injection h1
 generalize hop : o.op = op at *
 unfold opR at ho
 split at ho
 · rename_i t x
   split at ho
   · rename_i n i r js hl
     obtain ⟨⟨r',rs⟩,h1,ho⟩ := mK_ex ho
     obtain ⟨d,h2,h3⟩ := mK_ex ho
     refine det ⟨some d,(n,some r') :: addR nm rs,rs.length⟩ (fin _ rfl (by simp only [opS,hl,h1,opd,h2])) ?_
     unfold ldJs at hl
     split at hl
     · rename_i n' sz' i' off' k' hx hk
       split at hl
       · rename_i r0 hr
         split at hl
         · cases hl
         · simp only [yay,Prod.mk.injEq] at hl
           obtain ⟨rfl,rfl,rfl,rfl⟩ := hl
           exact .ldh hx hr h1 h2
       · cases hl
     · cases hl
   · rename_i hl
     obtain ⟨d,h1,h2⟩ := mK_ex ho
     exact det ⟨_,_,_⟩ (fin _ rfl (by simp only [opS,hl,h1,opd])) (.q h1)
 · obtain ⟨p,h1,h2⟩ := mK_ex ho; exact det ⟨_,_,_⟩ (fin _ rfl (by simp only [opS,h1,opd])) (.st h1)
 · obtain ⟨p,h1,h2⟩ := mK_ex ho; exact det ⟨_,_,_⟩ (fin _ rfl (by simp only [opS,h1,opd])) (.mk h1)
 · obtain ⟨p,h1,h2⟩ := mK_ex ho; exact det ⟨_,_,_⟩ (fin _ rfl (by simp only [opS,h1,opd])) (.mk h1)
 · obtain ⟨p,h1,h2⟩ := mK_ex ho; exact det ⟨_,_,_⟩ (fin _ rfl (by simp only [opS,h1,opd])) (.mk h1)
 · obtain ⟨p,h1,h2⟩ := mK_ex ho; exact det ⟨_,_,_⟩ (fin _ rfl (by simp only [opS,h1,opd])) (.mk h1)
 · rename_i args ts
   split at ho
   · rename_i s x t t' ha ht
     obtain ⟨rfl,ho⟩ := ho
     have ha' : args = #[s,x] := by rw [← Array.toList_inj]; simpa using ha
     have ht' : ts = #[t,t] := by rw [← Array.toList_inj]; simpa using ht
     subst ha'; subst ht'
     split at ho
     · rename_i htl
       obtain ⟨p,h1,h2,h3,h4⟩ := mK_ex ho
       refine Oper.wp_mono (fun a' w' hq => ?_) (zIc1 h hN hS hH hop h1 h2 (hnm _ _ _ h3) hdst)
       obtain ⟨g',q1,q2⟩ := hq
       rcases q2 with ⟨q2,q3⟩ | ⟨q2,q3⟩
       · refine ⟨⟨_,_,_⟩,fun X hx => ?_,h3,g',q1,q2,q3⟩
         simp only [opS,htl,yal,h1,opd] at hx
         injection hx with hx; subst hx
         exact .inl rfl
       · refine ⟨⟨_,_,_⟩,fun X hx => ?_,h4,g',q1,q2,q3⟩
         simp only [opS,htl,yal,h1,opd] at hx
         injection hx with hx; subst hx
         exact .inr rfl
     · rename_i htl
       obtain ⟨⟨sz,bytes,rows,on⟩,h1,h2,h3⟩ := mK_ex ho
       exact det ⟨_,_,_⟩ (fin _ rfl (by simp only [opS,htl,yaj,yak,h1,opd])) (.app h1 h2)
   · exact ho.elim
 · rename_i args ts
   split at ho
   · rename_i x t ha ht
     obtain ⟨p,h1,h2⟩ := mK_ex ho
     have ha' : args = #[x] := by rw [← Array.toList_inj]; simpa using ha
     have ht' : ts = #[t] := by rw [← Array.toList_inj]; simpa using ht
     subst ha'; subst ht'
     exact det ⟨_,_,_⟩ (fin _ rfl (by simp only [opS,h1,opd])) (.clr h1)
   · exact ho.elim
 · rename_i f args ts
   split at ho
   · rename_i k caps hf
     rcases zRk1 ho with ⟨ct,h1,ho⟩ | ⟨h1,hL,ho⟩
     rotate_left
     · obtain ⟨⟨n9,r9⟩,h2,h3⟩ := mK_ex ho
       refine Oper.wp_mono (fun a' w' hq => ?_) (zBw1 h hN hS hH hop hf hL h2 hdst)
       refine ⟨⟨some (.tup []),[(n9,some r9)],0⟩,fun X hx => ?_,h3,g,fun m hm => .inl hm,hq.1,hq.2⟩
       simp only [opS,hf,h1,opc,opd,h2] at hx
       injection hx with hx; subst hx
       rfl
     obtain ⟨ds0,h2,ho⟩ := mK_ex ho
     obtain ⟨⟨ds,fw⟩,h29,ho⟩ := mK_ex ho
     obtain ⟨ws,h9,ho⟩ := mK_ex ho
     simp only [yay] at h9 h29
     subst h9
     obtain ⟨hs,h3,h3',ho⟩ := zOo1 ho
     obtain ⟨ds',h4,ho⟩ := mK_ex ho
     obtain ⟨os,h5,ho⟩ := mK_ex ho
     obtain ⟨_,h6⟩ := zRg1 ho
     refine Oper.wp_mono (fun a' w' hq => ?_) (zDl1 hΦ (nm := nm) h hN hS hH hop hf h1 h2 h29 rfl ⟨zTk _,h3'.1,h3'.2⟩ h4 h5 hdst)
     obtain ⟨res,hm,hq⟩ := hq
     obtain ⟨d,h7,h8⟩ := mK_ex (h6 res hm)
     obtain ⟨g',q1,q2,q3⟩ := hq d h7 (hnm _ _ _ h8)
     refine ⟨⟨_,_,_⟩,fun X hx => ?_,h8,g',q1,q2,q3⟩
     simp only [opS,hf,h1,opc,opd,h2,h29,h3,h4,h5] at hx
     injection hx with hx; subst hx
     exact ⟨res,hm,d,h7,rfl⟩
   · exact ho.elim
 · rename_i s d x
   split at ho
   · rename_i b hd hx
     obtain ⟨hs,ho⟩ := ho
     cases hc : fconv .f64 b .f32 with
     | some n =>
       simp only [cK,hc] at ho
       have hsem : OpSem P S H nm o.op (some (.c (.im (.flt .f32 n)))) [] 0 := by
         obtain ⟨ss,hss⟩ := Option.isSome_iff_exists.1 hs
         rw [hop]
         exact .q (by simp only [qv,hss,hd,hx,convI,hc])
       refine Oper.wp_mono (fun a' w' hq => ⟨⟨_,_,_⟩,fun X hx' => ?_,ho,hq⟩) (OpSem.sound h hN hS hH hsem (hnm _ _ _ ho) hdst)
       simp only [opS,hd,hx] at hx'
       injection hx' with hx'; subst hx'
       exact ⟨n,.inl hc,rfl⟩
     | none =>
       simp only [cK,hc] at ho
       obtain ⟨ss,hss⟩ := Option.isSome_iff_exists.1 hs
       refine Oper.wp_mono (fun a' w' hq => ?_) (zDk1 h hN hS hH hop hx hss hd hc hdst)
       obtain ⟨n,q0,q1,q2⟩ := hq
       refine ⟨⟨some (.c (.im (.flt .f32 n))),[],0⟩,fun X hx' => ?_,ho n q0,g,fun m hm => .inl hm,q1,q2⟩
       simp only [opS,hd,hx] at hx'
       injection hx' with hx'; subst hx'
       exact ⟨n,.inr ⟨hc,q0⟩,rfl⟩
   · rename_i hne
     obtain ⟨d,h1,h2⟩ := mK_ex ho
     exact det ⟨_,_,_⟩ (fin ⟨_,_,_⟩ rfl (by simp only [opS,h1,opd])) (.q h1)
 · rename_i op t x ty
   obtain ⟨ht,ho⟩ := ho
   obtain ⟨c,h1,ho⟩ := mK_ex ho
   refine Oper.wp_mono (fun a' w' hq => ?_) (zFf1 h hN hS hH hop h1 ht hdst ?_)
   · obtain ⟨b,b',hb,hn,q1,q2⟩ := hq
     refine ⟨⟨some (.c (.im (.bool b'))),[],0⟩,fun X hx' => ?_,?_,g,fun m hm => .inl hm,q1,q2⟩
     · simp only [opS,h1,opd] at hx'
       injection hx' with hx'; subst hx'
       exact ⟨b,b',hb,hn,rfl⟩
     · refine hX ⟨_,_,_⟩ ?_
       simp only [opS,h1,opd] at hX0
       injection hX0 with hX0
       subst hX0
       exact ⟨b,b',hb,hn,rfl⟩
   · cases c with
     | nil => obtain ⟨b',h2,_⟩ := mK_ex (t := .mk) ho; exact ⟨⟨_,_,h2⟩,trivial⟩
     | view n sz lo len => obtain ⟨b',h2,_⟩ := mK_ex (t := .mk) ho.1; exact ⟨⟨_,_,h2⟩,trivial⟩
     | im i =>
       cases i with
       | sl sz rows => obtain ⟨b',h2,_⟩ := mK_ex (t := .mk) ho.1; exact ⟨⟨_,_,h2⟩,trivial⟩
       | _ => exact ho.elim
     | _ => exact ho.elim
 · rename_i o' h1 h2 h3 h4 h5 h6 h7 h8 h9 h10 h11
   obtain ⟨d,k1,k2⟩ := mK_ex ho
   refine det ⟨_,_,_⟩ (fin _ rfl ?_) (.q k1)
   unfold opS
   split <;> first
     | (exfalso; first | exact h1 _ _ rfl | exact h2 _ _ _ rfl | exact h3 _ rfl | exact h4 _ _ rfl | exact h5 _ _ _ rfl | exact h6 _ _ _ rfl | exact h7 _ _ rfl | exact h8 _ _ _ rfl | exact h8 _ _ rfl | exact h9 _ _ _ rfl | exact h10 _ _ _ rfl | exact h10 _ _ _ _ rfl | exact h11 _ _ _ _ rfl)
     | simp only [k1,opd]
def St.eff (st : St) (dst : Option Nat) (val : Option D) (wr : List (Nat × Option Root)) (cnt : Nat) : St := ⟨putS dst val st.s,insW wr st.h,st.n + cnt⟩
def dOk (N : Nat) : Option Nat → Prop
 | some t => t < N
 | none => True
def gSlot (ops : List Oper) (j : Nat) : Option Nat := match ops[j]? with
 | some o => o.dst
 | none => none
def regX (P : Program) (Φ : FuncId → Option Ct) (N : Nat) (ops : List Oper) : List Oper → St → (K : St → Prop) → Tag K → Prop
 | [],st,K,_ => K st
 | o :: r,st,K,t0 => dOk N o.dst ∧ match o.guard with
   | none => opR P Φ st.n (lk st.s) (lk st.h) o.op (fun val wr cnt => regX P Φ N ops r (st.eff o.dst val wr cnt) K t0) .mk
   | some (j,want) => match gSlot ops j with
     | some t => match lk st.s t with
       | some (.c (.im (.bool b))) => gS b want (opR P Φ st.n (lk st.s) (lk st.h) o.op (fun val wr cnt => regX P Φ N ops r (st.eff o.dst val wr cnt) K t0) .mk)
           (regX P Φ N ops r (st.eff o.dst (some (.tup [])) [] 0) K t0) .mk .mk
       | some (.tup _) => regX P Φ N ops r (st.eff o.dst (some (.tup [])) [] 0) K t0
       | _ => False
     | none => False
def RelS (en : En) (N : Nat) (st : St) (a : Act) (w : World) : Prop := ∃ g,(∀ m,g.used m → m < st.n) ∧ Rel en g (lk st.s) (lk st.h) a w ∧ a.tmps.size = N
theorem RelS.eff {N : Nat} {st : St} {dst : Option Nat} {val : Option D} {wr : List (Nat × Option Root)} {cnt : Nat} (hu : ∀ m,g.used m → m < st.n + cnt) (h : Rel en g (apS dst val (lk st.s)) (apH wr (lk st.h)) a w) {N : Nat} (hN : a.tmps.size = N) :
   RelS en N (st.eff dst val wr cnt) a w := by
 refine ⟨g,hu,?_,hN⟩
 simp only [St.eff]
 rw [zKr,zKs]; exact h
theorem zLe {ops : List Oper} {j t : Nat} {b : Bool} (h : Rel en g S H a w) (hg : gSlot ops j = some t) (hs : S t = some (.c (.im (.bool b)))) : yielded ops.toArray a.tmps j = some b := by
 unfold gSlot at hg
 split at hg
 · rename_i o ho
   obtain ⟨v,hv,hd⟩ := h.slots t _ hs
   have hvb : v = .bool b := by
     cases hd with | c _ _ hc => cases hc with | im _ _ hi => exact hi.bool_inv
   subst hvb
   simp [yielded,ho,hg,hv]
 · cases hg
theorem DV.undef : DV g (.tup []) Go.undef := .tup [] #[] rfl (fun j x v h => by simp at h)
theorem zNb {ops : List Oper} {j t : Nat} {ds : List D} (h : Rel en g S H a w) (hg : gSlot ops j = some t) (hs : S t = some (.tup ds)) : yielded ops.toArray a.tmps j = none := by
 unfold gSlot at hg
 split at hg
 · rename_i o ho
   obtain ⟨v,hv,hd⟩ := h.slots t _ hs
   obtain ⟨vs,rfl⟩ : ∃ vs,v = .tuple vs := by cases hd with | tup _ vs _ _ => exact ⟨vs,rfl⟩
   simp [yielded,ho,hg,hv]
 · cases hg
theorem zHs {Φ : FuncId → Option Ct} (hΦ : Env P Φ) {N : Nat} {ops : List Oper} {Q : Exit → Act → World → Prop} {K : St → Prop} (hK : ∀ st a w,RelS en N st a w → K st → Q .normal a w) :
   ∀ (l : List Oper) (st : St) (tg : Tag K) (a : Act) (w : World),RelS en N st a w → regX P Φ N ops l st K tg → wpList P ops.toArray Q l a w
 | [],st,_,a,w,h,hx => hK st a w h hx
 | o :: r,st,tg,a,w,⟨g,hu,h,hN⟩,hx => by
   obtain ⟨hd,hx⟩ := hx
   have hdst : ∀ t,o.dst = some t → t < N := fun t ht => by rw [ht] at hd; exact hd
   have run : opR P Φ st.n (lk st.s) (lk st.h) o.op (fun val wr cnt => regX P Φ N ops r (st.eff o.dst val wr cnt) K tg) .mk → o.wp P a w (wpList P ops.toArray Q r) Q := by
     intro hr
     refine Oper.wp_mono (fun a' w' ⟨e,_,hk,g',k1,k2,k3⟩ => ?_) (zOh hΦ h hN (fun _ _ h => h) (fun _ _ h => h) hr (fun val wr cnt _ m hm hc => by have := hu m hm; omega) hdst)
     exact zHs hΦ hK r _ tg a' w' (RelS.eff (N := N) (fun m hm => (k1 m hm).elim (fun h => by have := hu m h; omega) (fun h => h.2)) k2 k3) hk
   unfold wpList
   cases hg : o.guard with
   | none =>
     simp only [hg] at hx
     rw [if_pos (by simp [Region.wanted,hg])]
     exact .inl (run hx)
   | some jw =>
     obtain ⟨j,want⟩ := jw
     simp only [hg] at hx
     split at hx
     · rename_i t ht
       split at hx
       · rename_i b hb
         have hy := zLe h ht hb
         by_cases e : b = want
         · rw [if_pos (by simp [Region.wanted,hg,hy,e])]
           exact .inl (run (hx.1 e))
         · rw [if_neg (by simp [Region.wanted,hg,hy,e])]
           have e' : b = (!want) := by cases b <;> cases want <;> simp_all
           exact zHs hΦ hK r _ tg _ w (RelS.eff (N := N) (cnt := 0) (fun m hm => hu m hm) (h.putD (fun t ht => by rw [hN]; exact hdst t ht) DV.undef) ((zCd _ _ _).trans hN)) (hx.2 e')
       · rename_i ds hb
         have hy := zNb h ht hb
         rw [if_neg (by simp [Region.wanted,hg,hy])]
         exact zHs hΦ hK r _ tg _ w (RelS.eff (N := N) (cnt := 0) (fun m hm => hu m hm) (h.putD (fun t ht => by rw [hN]; exact hdst t ht) DV.undef) ((zCd _ _ _).trans hN)) hx
       · exact hx.elim
     · exact hx.elim
end Go.SX
namespace Go.SX
open Go Go.RowKit
variable {en : En} {g : Gh} {S : Nat → Option D} {H : Nat → Option Root} {a : Act} {w : World} {P : Program}
def Fg {κ V : Type} (W : Nat → κ → Option V) (X : Nat → Bool) (init : κ → V) : Nat → κ → V
 | 0,k => init k
 | n + 1,k => if X n = true then (match W n k with
     | some v => v
     | none => Fg W X init n k) else Fg W X init n k
theorem zLd {κ V : Type} {W : Nat → κ → Option V} {X Y : Nat → Bool} {init : κ → V} {k : κ} {i : Nat} : ∀ (n : Nat),i ≤ n → (∀ j,j < n → i ≤ j → X j = true → W j k = none) → (∀ j,j < i → X j ≠ Y j → W j k = none) →
   Fg W X init n k = Fg W Y init i k
 | 0,hi,h1,h2 => by
   have : i = 0 := by omega
   subst this; rfl
 | n + 1,hi,h1,h2 => by
   by_cases e : i = n + 1
   · subst e
     simp only [Fg]
     have ih := zLd (W := W) (X := X) (Y := Y) (init := init) (k := k) (i := n) n (Nat.le_refl _) (fun j hj hj' => by omega) (fun j hj => h2 j (by omega))
     rw [ih]
     by_cases hxy : X n = Y n
     · rw [hxy]
     · have := h2 n (by omega) hxy
       rw [this]
       simp
   · have ih := zLd (W := W) (X := X) (Y := Y) (init := init) (k := k) (i := i) n (by omega) (fun j hj => h1 j (by omega)) h2
     simp only [Fg]
     split
     · rename_i hx
       rw [h1 n (by omega) (by omega) hx]; exact ih
     · exact ih
theorem zIj1 {κ V : Type} {W : Nat → κ → Option V} {X X' : Nat → Bool} {init : κ → V} {k : κ} {i : Nat} (hX' : ∀ j,X' j = if j = i then true else X j) (hi : X i = false) : ∀ (n : Nat),(∀ j,j < n → i < j → X j = true → W i k = none ∨ W j k = none) →
   Fg W X' init n k = if i < n then (match W i k with
     | some v => v
     | none => Fg W X init n k) else Fg W X init n k
 | 0,h => by simp [Fg]
 | n + 1,h => by
   have ih := zIj1 (W := W) (init := init) (k := k) hX' hi n (fun j hj => h j (by omega))
   simp only [Fg]
   by_cases e : n = i
   · subst e
     have h1 : X' n = true := by rw [hX']; simp
     rw [if_neg (Nat.lt_irrefl _)] at ih
     rw [h1,hi,ih,if_pos (Nat.lt_succ_self _)]
     simp
   · have h1 : X' n = X n := by rw [hX',if_neg e]
     rw [h1]
     by_cases hx : X n = true
     · rw [if_pos hx,if_pos hx,ih]
       by_cases hin : i < n
       · rw [if_pos hin,if_pos (by omega)]
         rcases h n (by omega) hin hx with h2 | h2
         · rw [h2]
         · rw [h2]
       · rw [if_neg hin,if_neg (by omega)]
     · rw [if_neg hx,if_neg hx,ih]
       by_cases hin : i < n
       · rw [if_pos hin,if_pos (by omega)]
       · rw [if_neg hin,if_neg (by omega)]
def memb (t : Nat) : List Nat → Bool
 | [] => false
 | x :: xs => if t = x then true else memb t xs
theorem zEe {t : Nat} : ∀ {l : List Nat},memb t l = true ↔ t ∈ l
 | [] => by simp [memb]
 | x :: xs => by
   simp only [memb]
   split
   · rename_i e; simp [e]
   · rename_i e; rw [zEe]; simp [e]
def oT : Operand → List Nat
 | .tmp t => [t]
 | _ => []
def opTm : Op → List Nat
 | .build _ ps => ps.toList.flatMap (fun p => oT p.2)
 | .buildSlice _ _ ps => ps.toList.flatMap (fun p => oT p.2)
 | .call { callee := .value f,args := args,argTypes := _ } => oT f ++ args.toList.flatMap oT
 | .call { callee := .builtin _,args := args,argTypes := _ } => args.toList.flatMap oT
 | .move x | .assign x | .box _ x | .load _ x | .nilCheck x | .unOp _ _ x | .convert _ _ x | .fieldAddr _ x _ | .field _ x _ | .extract x _ => oT x
 | .pick c x y => oT c ++ (oT x ++ oT y)
 | .store _ x y | .binOp _ _ x y _ | .makeSlice _ x y | .indexAddr _ x y | .index _ x y => oT x ++ oT y
 | .slice _ x lo hi _ => oT x ++ ((match lo with | some y => oT y | none => []) ++ (match hi with | some y => oT y | none => []))
 | .makeFunc _ _ caps => caps.toList.flatMap oT
 | _ => []
def lookT (ops : List Oper) (o : Oper) : List Nat := opTm o.op ++ (match o.guard with
 | some (j,_) => (match gSlot ops j with | some t => [t] | none => [])
 | none => [])
def vwC1 : C → List Nat
 | .view n _ _ _ => [n]
 | .ptr n _ _ _ => [n]
 | _ => []
def vwC : C → List Nat
 | .view n _ _ _ => [n]
 | .ptr n _ _ _ => [n]
 | .fn _ caps => caps.flatMap vwC1
 | _ => []
def vwO (S : Nat → Option D) (x : Operand) : List Nat := match ev S x with
 | some (.c c) => vwC c
 | some (.agg cs) => cs.flatMap vwC
 | _ => []
def rdN (S : Nat → Option D) : Op → List Nat
 | .load _ x => vwO S x
 | .store _ x _ => vwO S x
 | .call { callee := .value f,args := args,argTypes := _ } => vwO S f ++ args.toList.flatMap (vwO S)
 | .call { callee := .builtin _,args := args,argTypes := _ } => args.toList.flatMap (vwO S)
 | _ => []
def isCallO : Op → Bool
 | .call { callee := .value _,args := _,argTypes := _ } => true
 | _ => false
def lentT : T → List Nat
 | .lent n _ _ => [n]
 | _ => []
def lentR : Root → List Nat
 | .arr _ rows => rows.flatMap fun r => r.flatMap lentT
 | .box _ => []
def nestH (H : Nat → Option Root) (L : List Nat) : List Nat := L.flatMap fun n => match H n with
 | some r => lentR r
 | none => []
def rdX (S : Nat → Option D) (H : Nat → Option Root) (o : Op) : List Nat := rdN S o ++ (if isCallO o = true then nestH H (rdN S o) else [])
def resF {α : Type} (L : List Nat) (S : Nat → Option α) : Nat → Option α := fun t => if memb t L = true then S t else none
def resH (n0 : Nat) (old : Bool) (L : List Nat) (H : Nat → Option Root) : Nat → Option Root := fun n => if (old = true ∧ n < n0) ∨ memb n L = true then H n else none
structure DI where
 i : Nat
 old : Bool
 rd : List Nat
 wr : List Nat
 deriving Inhabited
def disj (n0 : Nat) (x y : DI) : Bool :=
 x.wr.all (fun n => !(memb n y.wr) && (!(memb n y.rd) && !(y.old && decide (n < n0)))) && y.wr.all (fun n => !(memb n x.rd) && !(x.old && decide (n < n0)))
def bfB (bf : Array Nat) (i j : Nat) : Bool := (bf.getD j 0).testBit i
def rootsOk (ops : List Oper) (n0 : Nat) (acc : List DI) : Bool :=
 let bf := Region.before ops.toArray
 acc.all fun y => acc.all fun x => decide (y.i ≤ x.i) || (bfB bf x.i y.i || disj n0 x y)
def apartT (ops : List Oper) (x y : Oper) : Bool :=
 (match x.dst with
   | some d => !(memb d (lookT ops y)) && (match y.dst with | some d' => decide (d ≠ d') | none => true)
   | none => true) &&
 (match y.dst with
   | some d => !(memb d (lookT ops x))
   | none => true)
def slotsOk (ops : List Oper) : Bool :=
 let bf := Region.before ops.toArray
 ops.zipIdx.all fun (oj,j) =>
   (oj.after.toList.all fun e => !(Region.binds .any e) || decide (e.on < j)) &&
   ops.zipIdx.all fun (oi,i) => decide (j ≤ i) ||
     (if bfB bf i j then oj.after.toList.any fun e => Region.binds .any e && (decide (e.on = i) || (decide (i < e.on) && bfB bf i e.on)) else apartT ops oi oj)
def drX (P : Program) (Φ : FuncId → Option Ct) (N n0 : Nat) (ops : List Oper) : List Oper → Nat → St → List DI → (K : St → List DI → Prop) → Tag K → Prop
 | [],_,st,acc,K,_ => K st acc
 | o :: r,i,st,acc,K,t0 => dOk N o.dst ∧ match o.guard with
   | none => opR P Φ (n0 + 8 * i) (resF (lookT ops o) (lk st.s)) (resH n0 (isCallO o.op) (rdX (lk st.s) (lk st.h) o.op) (lk st.h)) o.op (fun val wr cnt => cnt ≤ 8 ∧ drX P Φ N n0 ops r (i + 1) (st.eff o.dst val wr 0) (⟨i,isCallO o.op,rdX (lk st.s) (lk st.h) o.op,wr.map (·.1)⟩ :: acc) K t0) .mk
   | some (j,want) => match gSlot ops j with
     | some t => match lk st.s t with
       | some (.c (.im (.bool b))) => gS b want (opR P Φ (n0 + 8 * i) (resF (lookT ops o) (lk st.s)) (resH n0 (isCallO o.op) (rdX (lk st.s) (lk st.h) o.op) (lk st.h)) o.op (fun val wr cnt => cnt ≤ 8 ∧ drX P Φ N n0 ops r (i + 1) (st.eff o.dst val wr 0) (⟨i,isCallO o.op,rdX (lk st.s) (lk st.h) o.op,wr.map (·.1)⟩ :: acc) K t0) .mk)
           (drX P Φ N n0 ops r (i + 1) (st.eff o.dst (some (.tup [])) [] 0) (⟨i,false,[],[]⟩ :: acc) K t0) .mk .mk
       | some (.tup _) => drX P Φ N n0 ops r (i + 1) (st.eff o.dst (some (.tup [])) [] 0) (⟨i,false,[],[]⟩ :: acc) K t0
       | _ => False
     | none => False
structure EI where
 val : Option D
 wr : List (Nat × Option Root)
 old : Bool
 rd : List Nat
 deriving Inhabited
def gOk (ops : List Oper) (s : List (Nat × Option D)) (o : Oper) (b : Bool) : Prop := match o.guard with
 | none => b = true
 | some (j,want) => ∃ t,gSlot ops j = some t ∧ ((∃ b',lk s t = some (.c (.im (.bool b'))) ∧ b = (b' == want)) ∨ (∃ ds,lk s t = some (.tup ds) ∧ b = false))
structure Ok1 (P : Program) (Φ : FuncId → Option Ct) (N n0 : Nat) (ops : List Oper) (o : Oper) (i : Nat) (st : St) (e : EI) : Prop where
 dst : dOk N o.dst
 run : (gOk ops st.s o true ∧ e.old = isCallO o.op ∧ e.rd = rdX (lk st.s) (lk st.h) o.op ∧
     (∃ (K : Option D → List (Nat × Option Root) → Nat → Prop) (tg : Tag K),opR P Φ (n0 + 8 * i) (resF (lookT ops o) (lk st.s)) (resH n0 (isCallO o.op) (rdX (lk st.s) (lk st.h) o.op) (lk st.h)) o.op K tg ∧ ∀ val wr cnt,K val wr cnt → cnt ≤ 8) ∧
     ∃ X cnt,opS P Φ (n0 + 8 * i) (resF (lookT ops o) (lk st.s)) (resH n0 (isCallO o.op) (rdX (lk st.s) (lk st.h) o.op) (lk st.h)) o.op = some X ∧ X ⟨e.val,e.wr,cnt⟩) ∨ (gOk ops st.s o false ∧ e = ⟨some (.tup []),[],false,[]⟩)
inductive DRun (P : Program) (Φ : FuncId → Option Ct) (N n0 : Nat) (ops : List Oper) : List Oper → Nat → St → List EI → St → Prop where
 | nil (i : Nat) (st : St) : DRun P Φ N n0 ops [] i st [] st
 | cons {o : Oper} {r : List Oper} {i : Nat} {st st' : St} {e : EI} {es : List EI} (h : Ok1 P Φ N n0 ops o i st e) (hr : DRun P Φ N n0 ops r (i + 1) (st.eff o.dst e.val e.wr 0) es st') : DRun P Φ N n0 ops (o :: r) i st (e :: es) st'
def accL : Nat → List EI → List DI → List DI
 | _,[],acc => acc
 | i,e :: es,acc => accL (i + 1) es (⟨i,e.old,e.rd,e.wr.map (·.1)⟩ :: acc)
theorem zHx {Φ : FuncId → Option Ct} {N n0 : Nat} {ops : List Oper} {K : St → List DI → Prop} {o : Oper} {r : List Oper} {i : Nat} {st : St} {acc : List DI} {t0 : Tag K} (h : drX P Φ N n0 ops (o :: r) i st acc K t0) :
   (gOk ops st.s o true ∧ ∃ X,opS P Φ (n0 + 8 * i) (resF (lookT ops o) (lk st.s)) (resH n0 (isCallO o.op) (rdX (lk st.s) (lk st.h) o.op) (lk st.h)) o.op = some X ∧ (∃ e,X e) ∧
     ∀ e,X e → Ok1 P Φ N n0 ops o i st ⟨e.val,e.wr,isCallO o.op,rdX (lk st.s) (lk st.h) o.op⟩ ∧ drX P Φ N n0 ops r (i + 1) (st.eff o.dst e.val e.wr 0) (⟨i,isCallO o.op,rdX (lk st.s) (lk st.h) o.op,e.wr.map (·.1)⟩ :: acc) K t0) ∨
   (gOk ops st.s o false ∧ Ok1 P Φ N n0 ops o i st ⟨some (.tup []),[],false,[]⟩ ∧ drX P Φ N n0 ops r (i + 1) (st.eff o.dst (some (.tup [])) [] 0) (⟨i,false,[],[]⟩ :: acc) K t0) := by
 obtain ⟨hd,h⟩ := h
 have run : gOk ops st.s o true → opR P Φ (n0 + 8 * i) (resF (lookT ops o) (lk st.s)) (resH n0 (isCallO o.op) (rdX (lk st.s) (lk st.h) o.op) (lk st.h)) o.op (fun val wr cnt => cnt ≤ 8 ∧ drX P Φ N n0 ops r (i + 1) (st.eff o.dst val wr 0) (⟨i,isCallO o.op,rdX (lk st.s) (lk st.h) o.op,wr.map (·.1)⟩ :: acc) K t0) .mk →
     ∃ X,opS P Φ (n0 + 8 * i) (resF (lookT ops o) (lk st.s)) (resH n0 (isCallO o.op) (rdX (lk st.s) (lk st.h) o.op) (lk st.h)) o.op = some X ∧ (∃ e,X e) ∧
     ∀ e,X e → Ok1 P Φ N n0 ops o i st ⟨e.val,e.wr,isCallO o.op,rdX (lk st.s) (lk st.h) o.op⟩ ∧ drX P Φ N n0 ops r (i + 1) (st.eff o.dst e.val e.wr 0) (⟨i,isCallO o.op,rdX (lk st.s) (lk st.h) o.op,e.wr.map (·.1)⟩ :: acc) K t0 := by
   intro hg hr
   obtain ⟨X,h1,h2,h3⟩ := zQx1 hr
   exact ⟨X,h1,h2,fun e he => ⟨⟨hd,.inl ⟨hg,rfl,rfl,⟨_,_,hr,fun _ _ _ hk => hk.1⟩,X,e.cnt,h1,he⟩⟩,(h3 e he).2⟩⟩
 split at h
 · rename_i hg
   have hgo : gOk ops st.s o true := by simp [gOk,hg]
   exact .inl ⟨hgo,run hgo h⟩
 · rename_i j want hg
   split at h
   · rename_i t ht
     split at h
     · rename_i b hb
       by_cases e : b = want
       · have hgo : gOk ops st.s o true := by simp only [gOk,hg]; exact ⟨t,ht,.inl ⟨b,hb,by simp [e]⟩⟩
         exact .inl ⟨hgo,run hgo (h.1 e)⟩
       · have e' : b = (!want) := by cases b <;> cases want <;> simp_all
         have hgo : gOk ops st.s o false := by simp only [gOk,hg]; exact ⟨t,ht,.inl ⟨b,hb,by simp [e]⟩⟩
         exact .inr ⟨hgo,⟨hd,.inr ⟨hgo,rfl⟩⟩,h.2 e'⟩
     · rename_i ds hb
       have hgo : gOk ops st.s o false := by simp only [gOk,hg]; exact ⟨t,ht,.inr ⟨ds,hb,trivial⟩⟩
       exact .inr ⟨hgo,⟨hd,.inr ⟨hgo,rfl⟩⟩,h⟩
     · exact h.elim
   · exact h.elim
theorem zBb1 {Φ : FuncId → Option Ct} {N n0 : Nat} {ops : List Oper} {K : St → List DI → Prop} : ∀ {l : List Oper} {i : Nat} {st : St} {acc : List DI} {t0 : Tag K},drX P Φ N n0 ops l i st acc K t0 →
   ∃ es st',DRun P Φ N n0 ops l i st es st' ∧ K st' (accL i es acc)
 | [],i,st,acc,_,h => ⟨[],st,.nil i st,h⟩
 | o :: r,i,st,acc,t0,h => by
   rcases zHx h with ⟨_,X,_,⟨e,he⟩,h3⟩ | ⟨_,h2,h3⟩
   · obtain ⟨h4,h5⟩ := h3 e he
     obtain ⟨es,st',h6,h7⟩ := zBb1 h5
     exact ⟨_,st',.cons h4 h6,h7⟩
   · obtain ⟨es,st',h6,h7⟩ := zBb1 h3
     exact ⟨_,st',.cons h2 h6,h7⟩
def wlk : List (Nat × Option Root) → Nat → Option (Option Root)
 | [],_ => none
 | (n,r) :: l,m => if m = n then some r else wlk l m
theorem zLb : ∀ (l : List (Nat × Option Root)) (H : Nat → Option Root) (m : Nat),apH l H m = match wlk l m with
   | some r => r
   | none => H m
 | [],H,m => rfl
 | (n,r) :: l,H,m => by
   simp only [apH,upd,wlk]
   split
   · rfl
   · exact zLb l H m
theorem zJa : ∀ {l : List (Nat × Option Root)} {m : Nat},m ∉ l.map (·.1) → wlk l m = none
 | [],m,h => rfl
 | (n,r) :: l,m,h => by
   simp only [List.map_cons,yae,not_or] at h
   simp only [wlk]
   rw [if_neg h.1]
   exact zJa h.2
def Ws (ops : List Oper) (es : List EI) (k : Nat) (t : Nat) : Option (Option D) := match gSlot ops k with
 | some d => if t = d then some (es.getD k default).val else none
 | none => none
def Wh (es : List EI) (k : Nat) (n : Nat) : Option (Option Root) := wlk (es.getD k default).wr n
abbrev allT : Nat → Bool := fun _ => true
theorem DRun.all {Φ : FuncId → Option Ct} {N n0 : Nat} {ops : List Oper} {es : List EI} {S0 : Nat → Option D} {H0 : Nat → Option Root} {l : List Oper} {k : Nat} {st st' : St} {es' : List EI} (h : DRun P Φ N n0 ops l k st es' st') :
   l = ops.drop k → es' = es.drop k → lk st.s = Fg (Ws ops es) allT S0 k → lk st.h = Fg (Wh es) allT H0 k → k ≤ ops.length → es.length = ops.length ∨ True →
   (∀ j o,k ≤ j → ops[j]? = some o → ∃ stj,Ok1 P Φ N n0 ops o j stj (es.getD j default) ∧ lk stj.s = Fg (Ws ops es) allT S0 j ∧ lk stj.h = Fg (Wh es) allT H0 j) ∧
   lk st'.s = Fg (Ws ops es) allT S0 ops.length ∧ lk st'.h = Fg (Wh es) allT H0 ops.length := by
 induction h with
 | nil i st =>
   intro hl he hs hh hk _
   have : ops.length ≤ i := by
     have := congrArg List.length hl; simp at this; omega
   have hi : i = ops.length := by omega
   subst hi
   exact ⟨fun j o hj ho => by have := (List.getElem?_eq_some_iff.1 ho).1; omega,hs,hh⟩
 | @cons o r i st st' e es'' h hr ih =>
   intro hl he hs hh hk _
   have hoi : ops[i]? = some o := by
     have := congrArg (·[0]?) hl; simpa using this.symm
   have hei : es[i]? = some e := by
     have := congrArg (·[0]?) he; simpa using this.symm
   have hed : es.getD i default = e := by simp [List.getD,hei]
   have hgs : gSlot ops i = o.dst := by simp [gSlot,hoi]
   have hs' : lk (st.eff o.dst e.val e.wr 0).s = Fg (Ws ops es) allT S0 (i + 1) := by
     funext t
     simp only [St.eff,zKr,Fg,yal,Ws,hgs,hed,hs]
     cases o.dst with
     | none => rfl
     | some d =>
       simp only [apS,upd]
       split <;> rfl
   have hh' : lk (st.eff o.dst e.val e.wr 0).h = Fg (Wh es) allT H0 (i + 1) := by
     funext t
     simp only [St.eff,zKs,Fg,yal,Wh,hed,hh,zLb]
     cases wlk e.wr t <;> rfl
   have hlt : i < ops.length := (List.getElem?_eq_some_iff.1 hoi).1
   obtain ⟨h1,h2⟩ := ih (by rw [← List.drop_drop,← hl]; rfl) (by rw [← List.drop_drop,← he]; rfl) hs' hh' (by omega) (.inr trivial)
   refine ⟨fun j o' hj ho' => ?_,h2⟩
   by_cases e1 : j = i
   · subst e1
     rw [hoi] at ho'; injection ho' with ho'; subst ho'
     exact ⟨st,by rw [hed]; exact h,hs,hh⟩
   · exact h1 j o' (by omega) ho'
theorem zIb : ∀ {es : List EI} {i : Nat} {acc : List DI},(∀ x ∈ acc,x ∈ accL i es acc) ∧ ∀ (k : Nat) (e : EI),es[k]? = some e → (⟨i + k,e.old,e.rd,e.wr.map (·.1)⟩ : DI) ∈ accL i es acc
 | [],i,acc => ⟨fun x h => h,fun k e h => by simp at h⟩
 | e0 :: es,i,acc => by
   obtain ⟨h1,h2⟩ := zIb (es := es) (i := i + 1) (acc := ⟨i,e0.old,e0.rd,e0.wr.map (·.1)⟩ :: acc)
   refine ⟨fun x hx => h1 x (.tail _ hx),fun k e he => ?_⟩
   cases k with
   | zero => simp at he; subst he; exact h1 _ (.head _)
   | succ k => simp at he; have := h2 k e he; rw [show i + (k + 1) = i + 1 + k by omega]; exact this
end Go.SX
