/-
  SX: the engine, parts U to Z, in one text. Plain definitions and theorems over any program.
  SX, part AA: a function whose contract was proved by other means, for arguments and results that hold no memory of the call's own. Plain definitions and theorems over any program.
  Whole numbers as numbers of single precision: below 2^24 their sums and products are exact.
  Binary floating point: what is exact stays exact; a word and the number that it stands for.
  Decimal numerals, and the text of a number of single precision: plain words.
  Numbers m * 2 ^ e of double precision; the text of a number of single precision.
  The text of a number of single precision tells the number.
  Texts cut at a byte.
  The types' sizes, fields, zero values. Printed by wip/tools/types.py.
  The types' sizes, fields, zero values. Printed by wip/tools/types.py.
  The contract of a law over one string.
  Numbers and points of single precision: the small functions.
  A number of single precision is one of double precision.
  Points: isNoughts, EqualPoints, add, scaled, DistanceOf, size, MultiplyPoints.
  No condition.
-/
import Derived.KernelRfl
import Derived.Below
import Derived.Attr
import Derived.Lib.ItoaNum
import Derived.Lib.AtoiAll
import Derived.Lib.AtoiAllCases
import Derived.Lib.IndexMore
import Derived.Lib.Split
import Derived.Test.YtfmpjhjnpeheeaaGreatDoorProg
import Derived.Laws.Externs
import Derived.Test.YtfmpjhjnpeheeaaGreatDoorPkD
set_option maxRecDepth 100000
set_option maxHeartbeats 16000000
set_option linter.unusedVariables false
set_option linter.unusedSimpArgs false
namespace Go.SX
open Go Go.RowKit
variable {P : Program}
def Law (P : Program) (f : FuncId) (ct : Ct) : Prop := Good P f ct ∧ ∃ fn : Func, P.funcs[f]? = some fn ∧ (fn.name == "runtime.NumGoroutine") = false ∧ fn.body.isNone = false
def phi : List (FuncId × Ct) → FuncId → Option Ct
 | [],_ => none
 | (f,ct) :: l,k => if k = f then some ct else phi l k
theorem zAf : Env P (phi []) := fun f ct h => by cases h
theorem zAc {f : FuncId} {ct : Ct} {l : List (FuncId × Ct)} (h : Law P f ct) (hl : Env P (phi l)) : Env P (phi ((f,ct) :: l)) := fun k c hk => by
 simp only [phi] at hk
 split at hk
 · rename_i e; subst e; injection hk with hk; subst hk; exact .inl h
 · exact hl k c hk
theorem zDa {f : FuncId} {ct : Ct} {l : List (FuncId × Ct)} (h : ExtLaw P f ct) (hl : Env P (phi l)) : Env P (phi ((f,ct) :: l)) := fun k c hk => by
 simp only [phi] at hk
 split at hk
 · rename_i e; subst e; injection hk with hk; subst hk; exact .inr h
 · exact hl k c hk
theorem zQl {sc : Bool} {k : Nat} {i : I} (h : scI i = true) : OkD sc k (.c (.im i)) := .c _ (.im _ (.inr h))
theorem zRc1 {sc : Bool} {i : I} (h : scI i = true) : OkR sc { val := .c (.im i) } := ⟨zQl h,by simp,by simp⟩
theorem okO {sc : Bool} {r : Res} (h : OkR sc r) : ∀ res,Outs.mem (.one r) res → OkR sc res := fun res hm => by cases hm; exact h
theorem zAv {sc : Bool} {i : I} (h : scI i = true) : ∀ res,Outs.mem (.one { val := .c (.im i) }) res → OkR sc res := okO (zRc1 h)
theorem zFn {sc : Bool} {k : Nat} {i : I} (h : scI i = true) : OkC sc k (.im i) := .im _ (.inr h)
theorem zAy (i : I) : MvB false (.t (.im i)) = True := eq_true (.t _ (.im _ (.inl rfl)))
theorem zGk : MvB false (.t .nil) = True := eq_true (.t _ .nil)
theorem zTc1 (i : I) : Mv false (.im i) = True := eq_true (.im _ (.inl rfl))
theorem zRr1 (A B : Prop) (tA : Tag A) (tB : Tag B) : gS true true A B tA tB = A := by simp [gS]
theorem zRu1 (A B : Prop) (tA : Tag A) (tB : Tag B) : gS false false A B tA tB = A := by simp [gS]
theorem zRs1 (A B : Prop) (tA : Tag A) (tB : Tag B) : gS true false A B tA tB = B := by simp [gS]
theorem zRt1 (A B : Prop) (tA : Tag A) (tB : Tag B) : gS false true A B tA tB = B := by simp [gS]
theorem gS_i {b want : Bool} {A B : Prop} {tA : Tag A} {tB : Tag B} (h1 : b = want → A) (h2 : b = (!want) → B) : gS b want A B tA tB := ⟨h1,h2⟩
theorem gS_d {p : Prop} [Decidable p] {A B : Prop} {tA : Tag A} {tB : Tag B} (h1 : p → A) (h2 : ¬ p → B) : gS (decide p) true A B tA tB := ⟨fun h => h1 (by simpa using h),fun h => h2 (by simpa using h)⟩
theorem zLa1 {p : Prop} [Decidable p] {A B : Prop} {tA : Tag A} {tB : Tag B} (h1 : p → B) (h2 : ¬ p → A) : gS (decide p) false A B tA tB := ⟨fun h => h2 (by simpa using h),fun h => h1 (by simpa using h)⟩
theorem zBa {pn : Nat} {body : (Ex → St → Prop) → St → Prop} {K : Ex → St → Prop} {tb : Tag body} {tK : Tag K} {st : St} {ι : Type} (F : ι → St) (μ : ι → Nat) (i0 : ι) (h0 : Sub pn st (F i0))
   (h : ∀ i,body (fun e st' => match e with
     | .norm => ∃ j,μ j < μ i ∧ Sub pn st' (F j)
     | e => K e st') (F i)) : loopP pn body K tb tK st := ⟨ι,F,μ,i0,h0,h⟩
theorem zAg {n : Int} (h1 : -9223372036854775808 ≤ n) (h2 : n ≤ 9223372036854775807) : IntKind.i64.wrap n = n := by rw [IntKind.wrap_i64]; omega
end Go.SX
namespace Go.SX
open Go Go.RowKit
variable {P : Program}
def stayG (w : World) : Gh := { used := fun _ => False,rb := fun _ => 0,base := fun _ => 0,rc := fun _ => 0,own := fun _ => none,fz := fun b o => w.cell? ⟨b,o,none⟩ }
theorem zGn1 {f : FuncId} {ct : Ct} (hL : Law P f ct) {ds : List D} {args : List Value} {i : I} (hi : scI i = true) (w : World) (hlaid : Laid (fun _ => none) w) (hrun : ct.run ds [] = some (.one { val := .c (.im i) })) (hl : args.length = ds.length)
   (hv : ∀ (t : Nat) (d : D) (v : Value),ds[t]? = some d → args[t]? = some v → DV (stayG w) d v) :
   Calls P f args.toArray w (fun e w' => ∃ v,e = .returned v ∧ IR (fun _ _ => none) i v ∧ Below w.heap.size w w') := by
 refine (hL.1.at_ ds [] _ hrun ⟨stayG w,w,fun _ => 0⟩ args hl (fun n hn => hn.elim) ?_).mono fun e w' ⟨v,he,res,hm,hd⟩ => ⟨v,he,?_⟩
 · refine ⟨⟨hlaid,rfl,rfl,rfl,Nat.le_refl _,Gh.le.refl _,fun b _ h => ⟨h,rfl⟩,fun b n h => (by cases h),fun b o v _ h => .inl h⟩,rfl,fun b x h => (by cases h),fun b o v h => ⟨h,rfl⟩,fun t d ht => ?_,fun n r h => (by simp at h),fun n r b h => (by simp at h)⟩
   have hlt : t < args.length := by rw [hl]; exact (List.getElem?_eq_some_iff.1 ht).1
   exact ⟨args[t],by simp [hlt],hv t d _ ht (List.getElem?_eq_getElem hlt)⟩
 · cases hm
   obtain ⟨g,ns,S,H,a,d,hR,_,_,_,_,_,hre,hdv⟩ := hd
   simp only [reD,reC,yay] at hre
   subst hre
   refine ⟨?_,hR.fr.os,hR.fr.tape,hR.fr.output,hR.fr.size,fun k hk => (hR.fr.old k hk rfl).2⟩
   cases hdv with | c _ _ hc => cases hc with | im _ _ hir => exact hir.sc hi
end Go.SX
namespace Go.SX
open Go Go.RowKit
variable {P : Program}
open Classical in
noncomputable def fam {α : Type} (sc : Bool) (args : α → List D × List (List B)) (out : α → Outs) : Ct :=
 ⟨sc,fun ds hs => if h : ∃ a,args a = (ds,hs) then some (out (Classical.choose h)) else none⟩
theorem zFj {α : Type} {sc : Bool} {args : α → List D × List (List B)} {out : α → Outs} (hinj : ∀ a b,args a = args b → out a = out b) (a : α) : (fam sc args out).run (args a).1 (args a).2 = some (out a) := by
 have h : ∃ b,args b = ((args a).1,(args a).2) := ⟨a,rfl⟩
 simp only [fam]
 rw [dif_pos h]
 congr 1
 exact hinj _ _ (Classical.choose_spec h)
theorem zAd {α : Type} {sc : Bool} {args : α → List D × List (List B)} {out : α → Outs} (hinj : ∀ a b,args a = args b → a = b) (a : α) : (fam sc args out).run (args a).1 (args a).2 = some (out a) :=
 zFj (fun a b h => by rw [hinj a b h]) a
theorem zAi {Φ : FuncId → Option Ct} (hΦ : Env P Φ) (hm : P.follows .mixedOrders = true) {f : FuncId} {fn : Func} {c : Code} (hf : P.funcs[f]? = some fn) (hb : fn.body = some c) (hnm : (fn.name == "runtime.NumGoroutine") = false)
   {α : Type} {sc : Bool} {args : α → List D × List (List B)} {out : α → Outs}
   (h : ∀ a,(∀ res,(out a).mem res → OkR sc res) ∧ (args a).1.length ≤ fn.ntmps ∧ sx P Φ fn.ntmps (args a).2.length c (finK P fn.results.toList (args a).2.length (out a)) .mk (St.entry (args a).1 (args a).2)) : Law P f (fam sc args out) := by
 refine zPs1 hΦ hm hf hb hnm (fun ds hs o hr => ?_)
 simp only [fam] at hr
 split at hr
 · rename_i hex
   injection hr with hr
   subst hr
   have hc := Classical.choose_spec hex
   have := h (Classical.choose hex)
   rw [hc] at this
   exact this
 · cases hr
theorem zCo {Φ : FuncId → Option Ct} (hΦ : Env P Φ) (hm : P.follows .mixedOrders = true) {f : FuncId} {fn : Func} {c : Code} (hf : P.funcs[f]? = some fn) (hb : fn.body = some c) (hnm : (fn.name == "runtime.NumGoroutine") = false)
   {α : Type} {sc : Bool} {args : α → List D × List (List B)} {out : α → Outs}
   (h : ∀ a,(∀ res,(out a).mem res → OkR sc res) ∧ (args a).1.length ≤ fn.ntmps ∧ sx P Φ fn.ntmps (args a).2.length c (finKF P fn.results.toList (args a).2.length (out a)) .mk (St.entry (args a).1 (args a).2)) : Law P f (fam sc args out) := by
 refine zKy1 hΦ hm hf hb hnm (fun ds hs o hr => ?_)
 simp only [fam] at hr
 split at hr
 · rename_i hex
   injection hr with hr
   subst hr
   have hc := Classical.choose_spec hex
   have := h (Classical.choose hex)
   rw [hc] at this
   exact this
 · cases hr
theorem zTc {f : FuncId} {α : Type} {sc : Bool} {args : α → List D × List (List B)} {out : α → Outs} (h : ∀ a,(args a).2 = [] ∧ (∀ d ∈ (args a).1,∃ i,d = .c (.im i) ∧ scI i = true) ∧
   ∀ (fz : Nat → Nat → Option Value) (vs : List Value) (w : World),vs.length = (args a).1.length → (∀ (t : Nat) (i : I) (v : Value),(args a).1[t]? = some (.c (.im i)) → vs[t]? = some v → IR fz i v) →
     ∃ v z,(callFunc f vs.toArray).run P w = .ok (.value v) w ∧ (out a).mem { val := .c (.im z) } ∧ IR fz z v) : ExtLaw P f (fam sc args out) := by
 intro ds hs o hr
 simp only [fam] at hr
 split at hr
 · rename_i hex
   injection hr with hr
   subst hr
   have hc := Classical.choose_spec hex
   have := h (Classical.choose hex)
   rw [hc] at this
   exact this
 · cases hr
theorem sl_i {ops : List Oper} {Q : Prop} (h : slotsOk ops = true) (h2 : Q) : slotsOk ops = true ∧ Q := ⟨h,h2⟩
theorem ro_i {ops : List Oper} {n : Nat} {acc : List DI} {Q : Prop} (h : rootsOk ops n acc = true) (h2 : Q) : rootsOk ops n acc = true ∧ Q := ⟨h,h2⟩
theorem ro_e {ops : List Oper} {n : Nat} {acc : List DI} (h : rootsOk ops n acc = true) : rootsOk ops n acc = true := h
theorem zAm {rs : List ResultVar} {pn : Nat} {o : Outs} {st : St} (fs : List Wk) (h : match folds pn fs st with | some st1 => finO P rs pn o st1 | none => False) : finF P rs pn o st := by
 split at h
 · rename_i st1 h1; exact ⟨fs,st1,h1,h⟩
 · exact h.elim
def tI (rows : List (List I)) : List (List T) := rows.map (fun r => r.map T.im)
theorem zAt (rows : List (List I)) : (tI rows).length = rows.length := by simp [tI]
theorem zCj (ex : List Nat) (H : Nat → Option Root) (k : Nat) (rows : List (List I)) : mapO (mapO (toI ex H k)) (tI rows) = some rows := zIl1 ex H k rows
theorem zIu1 {rows : List (List I)} {k : Nat} {r : List I} (h : rows[k]? = some r) : (tI rows)[k]? = some (r.map T.im) := by simp [tI,h]
end Go.SX
namespace Go.SX
open Go Go.RowKit
variable {P : Program} {Φ : FuncId → Option Ct} {N pn nm : Nat} {S : Nat → Option D} {H : Nat → Option Root}
theorem mKs.{u} {α : Type u} (x : α) (K : α → Prop) (t : Tag K) : mK (some x) K t = K x := by simp only [mK]
theorem mCs (c : Ct) (K : Ct → Prop) (A : Unit → Prop) (t : Tag K) (u : Tag A) : mC (some c) K A t u = K c := by simp only [mC]
theorem mCn (K : Ct → Prop) (A : Unit → Prop) (t : Tag K) (u : Tag A) : mC none K A t u = A () := by simp only [mC]
theorem mKn.{u} {α : Type u} (K : α → Prop) (t : Tag K) : mK none K t = False := by simp only [mK]
theorem oKo (r : Res) (K : Res → Prop) (t : Tag K) : oK (.one r) K t = K r := by simp only [oK]
theorem oKa (ι : Type) (f : ι → Res) (K : Res → Prop) (t : Tag K) : oK (.any ι f) K t = (Nonempty ι ∧ ∀ i,K (f i)) := by simp only [oK]
theorem cKs (r : Nat) (K : Nat → Prop) (t : Tag K) : cK (some r) K t = K r := by simp only [cK]
theorem nKn (K : Bool → Prop) (t : Tag K) : nK .nil K t = K true := by simp only [nK]
theorem nKv (n sz lo len : Nat) (K : Bool → Prop) (t : Tag K) : nK (.view n sz lo len) K t = (K false ∧ (len = 0 → K true)) := by simp only [nK]
theorem nKs (sz : Nat) (rows : List (List I)) (K : Bool → Prop) (t : Tag K) : nK (.im (.sl sz rows)) K t = (K false ∧ (rows = [] → K true)) := by simp only [nK]
theorem plXn (K : List (List B) → Prop) (t : Tag K) : plX H [] K t = K [] := by simp only [plX]
def pM (c : Option (List B)) (A : List B → Prop) (_ : Tag A) : Prop := match c with
 | some c => (∀ x ∈ c,MvB false x) ∧ A c
 | none => False
theorem pMs (c : List B) (A : List B → Prop) (t : Tag A) : pM (some c) A t = ((∀ x ∈ c,MvB false x) ∧ A c) := by simp only [pM]
theorem plXc (p : Plc) (ex : List Plc) (K : List (List B) → Prop) (t : Tag K) : plX H (p :: ex) K t = pM (plCells H p) (fun c => plX H ex (fun hs => K (c :: hs)) .mk) .mk := by
 simp only [plX,pM]; cases plCells H p <;> rfl
theorem xskip {K : Ex → St → Prop} {t0 : Tag K} {st : St} : sx P Φ N pn .skip K t0 st = K .norm st := by rw [sx] <;> rfl
theorem xreg0 {K : Ex → St → Prop} {t0 : Tag K} {st : St} {id : Nat} {ops : Array Oper} : sx P Φ N pn (.region id ops false) K t0 st = regX P Φ N ops.toList ops.toList st (fun st' => K .norm st') .mk := by rw [sx] <;> rfl
theorem xreg1 {K : Ex → St → Prop} {t0 : Tag K} {st : St} {id : Nat} {ops : Array Oper} : sx P Φ N pn (.region id ops true) K t0 st =
   (slotsOk ops.toList = true ∧ drX P Φ N st.n ops.toList ops.toList 0 st [] (fun st' acc => rootsOk ops.toList st.n acc = true ∧ K .norm ⟨st'.s,st'.h,st.n + 8 * ops.toList.length⟩) .mk) := by rw [sx] <;> rfl
theorem xseq {K : Ex → St → Prop} {t0 : Tag K} {st : St} {x y : Code} : sx P Φ N pn (.seq x y) K t0 st = sx P Φ N pn x (fun e st' => match e with
     | .norm => sx P Φ N pn y K t0 st'
     | e => K e st') .mk st := by rw [sx] <;> rfl
theorem xcond {K : Ex → St → Prop} {t0 : Tag K} {st : St} {c : Operand} {x y : Code} : sx P Φ N pn (.cond c x y) K t0 st = (match evI (lk st.s) c with
   | some (.bool b) => gS b true (sx P Φ N pn x K t0 st) (sx P Φ N pn y K t0 st) .mk .mk
   | _ => False) := by rw [sx] <;> rfl
theorem xblock {K : Ex → St → Prop} {t0 : Tag K} {st : St} {id : Nat} {c : Code} : sx P Φ N pn (.block id c) K t0 st = sx P Φ N pn c (fun e st' => match e with
     | .exit id' => if id' = id then K .norm st' else K (.exit id') st'
     | e => K e st') .mk st := by rw [sx] <;> rfl
theorem xloop {K : Ex → St → Prop} {t0 : Tag K} {st : St} {c : Code} : sx P Φ N pn (.loop c) K t0 st = loopP pn (fun K' st' => sx P Φ N pn c K' .mk st') K .mk .mk st := by rw [sx] <;> rfl
theorem xscope {K : Ex → St → Prop} {t0 : Tag K} {st : St} {c : Code} : sx P Φ N pn (.scope c) K t0 st = sx P Φ N pn c K t0 st := by rw [sx] <;> rfl
theorem xexit {K : Ex → St → Prop} {t0 : Tag K} {st : St} {id : Nat} : sx P Φ N pn (.exit id) K t0 st = K (.exit id) st := by rw [sx] <;> rfl
theorem xret {K : Ex → St → Prop} {t0 : Tag K} {st : St} : sx P Φ N pn .ret K t0 st = K .ret st := by rw [sx] <;> rfl
theorem zQk1 {ops : List Oper} {st : St} {K : St → Prop} {t0 : Tag K} : regX P Φ N ops [] st K t0 = K st := by rw [regX] <;> rfl
theorem zMr1 {ops r : List Oper} {dst : Option Nat} {op : Op} {ty : TypeId} {pos : String} {after : Array Edge} {s : List (Nat × Option D)} {h : List (Nat × Option Root)} {n : Nat} {K : St → Prop} {t0 : Tag K} :
   regX P Φ N ops ({ dst := dst,op := op,type := ty,pos := pos,after := after,guard := none } :: r) ⟨s,h,n⟩ K t0 =
     (dOk N dst ∧ opR P Φ n (lk s) (lk h) op (fun val wr cnt => regX P Φ N ops r ⟨putS dst val s,insW wr h,n + cnt⟩ K t0) .mk) := by rw [regX] <;> rfl
def gV (ops : List Oper) (s : List (Nat × Option D)) (j : Nat) : Option (Option Bool) := match gSlot ops j with
 | some t => match lk s t with
   | some (.c (.im (.bool b))) => some (some b)
   | some (.tup _) => some none
   | _ => none
 | none => none
def gM (v : Option (Option Bool)) (want : Bool) (A B : Prop) (tA : Tag A) (tB : Tag B) : Prop := match v with
 | some (some b) => gS b want A B tA tB
 | some none => B
 | none => False
theorem zSr1 (A B : Prop) (tA : Tag A) (tB : Tag B) : gM (some (some true)) true A B tA tB = A := by unfold gM; exact zRr1 A B tA tB
theorem zSu1 (A B : Prop) (tA : Tag A) (tB : Tag B) : gM (some (some false)) false A B tA tB = A := by unfold gM; exact zRu1 A B tA tB
theorem zSs1 (A B : Prop) (tA : Tag A) (tB : Tag B) : gM (some (some true)) false A B tA tB = B := by unfold gM; exact zRs1 A B tA tB
theorem zSt1 (A B : Prop) (tA : Tag A) (tB : Tag B) : gM (some (some false)) true A B tA tB = B := by unfold gM; exact zRt1 A B tA tB
theorem gM_u (want : Bool) (A B : Prop) (tA : Tag A) (tB : Tag B) : gM (some none) want A B tA tB = B := by unfold gM; rfl
theorem gM_s (b want : Bool) (A B : Prop) (tA : Tag A) (tB : Tag B) : gM (some (some b)) want A B tA tB = gS b want A B tA tB := by unfold gM; rfl
theorem zMq1 {ops r : List Oper} {dst : Option Nat} {op : Op} {ty : TypeId} {pos : String} {after : Array Edge} {s : List (Nat × Option D)} {h : List (Nat × Option Root)} {n : Nat} {K : St → Prop} {t0 : Tag K} {j : Nat} {want : Bool} :
   regX P Φ N ops ({ dst := dst,op := op,type := ty,pos := pos,after := after,guard := some (j,want) } :: r) ⟨s,h,n⟩ K t0 =
     (dOk N dst ∧ gM (gV ops s j) want (opR P Φ n (lk s) (lk h) op (fun val wr cnt => regX P Φ N ops r ⟨putS dst val s,insW wr h,n + cnt⟩ K t0) .mk) (regX P Φ N ops r ⟨putS dst (some (.tup [])) s,h,n⟩ K t0) .mk .mk) := by
 rw [regX]
 simp only [gV,gM,St.eff]
 congr 1
 cases gSlot ops j with
 | none => rfl
 | some t =>
   cases h1 : lk s t with
   | none => simp [h1]
   | some d =>
     cases d with
     | c x =>
       cases x with
       | im i => cases i <;> simp [h1,insW]
       | _ => simp [h1]
     | agg xs => simp [h1]
     | tup ds => simp [h1,insW]
theorem zQl1 {ops : List Oper} {n0 i : Nat} {st : St} {acc : List DI} {K : St → List DI → Prop} {t0 : Tag K} : drX P Φ N n0 ops [] i st acc K t0 = K st acc := by rw [drX] <;> rfl
theorem zMt1 {ops r : List Oper} {dst : Option Nat} {op : Op} {ty : TypeId} {pos : String} {after : Array Edge} {s : List (Nat × Option D)} {h : List (Nat × Option Root)} {n n0 i : Nat} {acc : List DI} {K : St → List DI → Prop} {t0 : Tag K} :
   drX P Φ N n0 ops ({ dst := dst,op := op,type := ty,pos := pos,after := after,guard := none } :: r) i ⟨s,h,n⟩ acc K t0 =
     (dOk N dst ∧ opR P Φ (n0 + 8 * i) (resF (opTm op ++ []) (lk s)) (resH n0 (isCallO op) (rdX (lk s) (lk h) op) (lk h)) op (fun val wr cnt => cnt ≤ 8 ∧ drX P Φ N n0 ops r (i + 1) ⟨putS dst val s,insW wr h,n⟩ (⟨i,isCallO op,rdX (lk s) (lk h) op,wr.map (·.1)⟩ :: acc) K t0) .mk) := by rw [drX] <;> rfl
theorem zMs1 {ops r : List Oper} {dst : Option Nat} {op : Op} {ty : TypeId} {pos : String} {after : Array Edge} {s : List (Nat × Option D)} {h : List (Nat × Option Root)} {n n0 i : Nat} {acc : List DI} {K : St → List DI → Prop} {t0 : Tag K} {j : Nat} {want : Bool} :
   drX P Φ N n0 ops ({ dst := dst,op := op,type := ty,pos := pos,after := after,guard := some (j,want) } :: r) i ⟨s,h,n⟩ acc K t0 =
     (dOk N dst ∧ match gSlot ops j with
       | some t => match lk s t with
         | some (.c (.im (.bool b))) => gS b want (opR P Φ (n0 + 8 * i) (resF (opTm op ++ (match gSlot ops j with | some t => [t] | none => [])) (lk s)) (resH n0 (isCallO op) (rdX (lk s) (lk h) op) (lk h)) op (fun val wr cnt => cnt ≤ 8 ∧ drX P Φ N n0 ops r (i + 1) ⟨putS dst val s,insW wr h,n⟩ (⟨i,isCallO op,rdX (lk s) (lk h) op,wr.map (·.1)⟩ :: acc) K t0) .mk)
             (drX P Φ N n0 ops r (i + 1) ⟨putS dst (some (.tup [])) s,h,n⟩ (⟨i,false,[],[]⟩ :: acc) K t0) .mk .mk
         | some (.tup _) => drX P Φ N n0 ops r (i + 1) ⟨putS dst (some (.tup [])) s,h,n⟩ (⟨i,false,[],[]⟩ :: acc) K t0
         | _ => False
       | none => False) := by rw [drX] <;> rfl
theorem MvRb {cells : List B} : MvR false (.box cells) = (∀ x ∈ cells,MvB false x) := by simp only [MvR]
theorem MvRn {sz : Nat} : MvR false (.arr sz []) = True := by simp [MvR]
theorem MvRt {sz : Nat} {rows : List (List I)} : MvR false (.arr sz (tI rows)) = True := by
 refine eq_true ?_
 intro r hr t ht
 simp only [tI,List.mem_map] at hr
 obtain ⟨r0,hr0,rfl⟩ := hr
 simp only [List.mem_map] at ht
 obtain ⟨i,hi,rfl⟩ := ht
 exact .im _ (.inl rfl)
section ops
variable {K : Option D → List (Nat × Option Root) → Nat → Prop} {tg : Tag K}
theorem xload {t : TypeId} {x : Operand} : opR P Φ nm S H (.load t x) K tg = (match ldJs P S H t x with
   | some (n,i,r,js) => mK (hoistJ r i js nm) (fun p => mK (qv P S (apH ((n,some p.1) :: addR nm p.2) H) (.load t x)) (fun d => K (some d) ((n,some p.1) :: addR nm p.2) p.2.length) .mk) .mk
   | none => mK (loadD P t S H x) (fun d => K (some d) [] 0) .mk) := by rw [opR] <;> rfl
theorem xstore {t : TypeId} {x y : Operand} : opR P Φ nm S H (.store t x y) K tg = mK (storeH P t S H x y) (fun p => K none [(p.1,some p.2)] 0) .mk := by rw [opR] <;> rfl
theorem xalloc {t : TypeId} : opR P Φ nm S H (.alloc t) K tg = mK (mkOp P S (.alloc t) nm) (fun p => K (some p.1) [(nm,some p.2)] 1) .mk := by rw [opR] <;> rfl
theorem xbox {t : TypeId} {x : Operand} : opR P Φ nm S H (.box t x) K tg = mK (mkOp P S (.box t x) nm) (fun p => K (some p.1) [(nm,some p.2)] 1) .mk := by rw [opR] <;> rfl
theorem xbuildS {t : TypeId} {l : Nat} {ps : Array (Nat × Operand)} : opR P Φ nm S H (.buildSlice t l ps) K tg = mK (mkOp P S (.buildSlice t l ps) nm) (fun p => K (some p.1) [(nm,some p.2)] 1) .mk := by rw [opR] <;> rfl
theorem xmakeS {t : TypeId} {l c : Operand} : opR P Φ nm S H (.makeSlice t l c) K tg = mK (mkOp P S (.makeSlice t l c) nm) (fun p => K (some p.1) [(nm,some p.2)] 1) .mk := by rw [opR] <;> rfl
theorem xappend {s x : Operand} {t t' : TypeId} : opR P Φ nm S H (.call { callee := .builtin .append,args := #[s,x],argTypes := #[t,t'] }) K tg = (t = t' ∧ if isTail S s = true then mK (appendT P t S H s x) (fun p => p.rb.length * p.bytes ≤ 140737488355328 ∧ K (some (.c (.view nm p.sz 0 p.len))) [(nm,some (.arr p.sz p.ra)),(p.n,none)] 1 ∧ K (some (.c (.view nm p.sz p.lo p.len))) [(nm,some (.arr p.sz p.rb)),(p.n,none)] 1) .mk
   else mK (appendH P t S H s x) (fun p => p.2.2.1.length * p.2.1 ≤ 140737488355328 ∧
       K (some (.c (.view nm p.1 0 p.2.2.1.length))) ((nm,some (.arr p.1 p.2.2.1)) :: dropN p.2.2.2) 1) .mk) := by rw [opR] <;> rfl
theorem xcall {f : Operand} {args : Array Operand} {ts : Array TypeId} : opR P Φ nm S H (.call { callee := .value f,args := args,argTypes := ts }) K tg = (match evC S f with
   | some (.fn (.func k) caps) => mC (Φ k) (fun ct => mK (evDs S args.toList) (fun ds0 => mK (some (frzL ct.sc H ds0 [])) (fun fz => mK (some (preW H (lentPs H (exDs (fz.1 ++ caps.map D.c))) fz.2)) (fun ws => plX (apH ws H) (exDs (fz.1 ++ caps.map D.c)) (fun hs =>
       mK (mapO (loD (exDs (fz.1 ++ caps.map D.c)) (if ct.sc then apH ws H else fun _ => none)) (fz.1 ++ caps.map D.c)) (fun ds' => mK (ct.run ds' hs) (fun os => oK os (fun res => mK (reD (fun n => nm + n) res.val) (fun d =>
         K (some d) (addR nm res.roots ++ (addP (apH ws H) (exDs (fz.1 ++ caps.map D.c)) res.places ++ ws)) res.roots.length) .mk) .mk) .mk) .mk) .mk) .mk) .mk) .mk) (fun _ => SortLaw P k ∧ mK (sortH S H caps args.toList) (fun p => K (some (.tup [])) [(p.1,some p.2)] 0) .mk) .mk .mk
   | _ => False) := by rw [opR] <;> rfl
theorem xconv {s d : TypeId} {x : Operand} : opR P Φ nm S H (.convert s d x) K tg = (match P.underlying d,evI S x with
   | some (.float .f32),some (.flt .f64 b) => (P.underlying s).isSome = true ∧ cK (fconv .f64 b .f32) (fun n => K (some (.c (.im (.flt .f32 n)))) [] 0) .mk
   | _,_ => mK (qv P S H (.convert s d x)) (fun d => K (some d) [] 0) .mk) := by rw [opR]; split <;> simp_all
theorem xnil {op : BinOp} {t ty : TypeId} {x : Operand} : opR P Φ nm S H (.binOp op t x (.const (.slice none 0 0)) ty) K tg = (isSlT P t = true ∧ mK (evC S x) (fun c => nK c (fun b => mK (nilOp op b) (fun b => K (some (.c (.im (.bool b)))) [] 0) .mk) .mk) .mk) := by rw [opR] <;> rfl
theorem xbinT {op : BinOp} {t ty : TypeId} {x : Operand} {y : Nat} : opR P Φ nm S H (.binOp op t x (.tmp y) ty) K tg = mK (qv P S H (.binOp op t x (.tmp y) ty)) (fun d => K (some d) [] 0) .mk := by rw [opR] <;> (intros; simp_all)
theorem xbinI {op : BinOp} {t ty : TypeId} {x : Operand} {k : IntKind} {y : Int} : opR P Φ nm S H (.binOp op t x (.const (.int k y)) ty) K tg = mK (qv P S H (.binOp op t x (.const (.int k y)) ty)) (fun d => K (some d) [] 0) .mk := by rw [opR] <;> (intros; simp_all)
theorem xbinF {op : BinOp} {t ty : TypeId} {x : Operand} {k : FloatKind} {y : Nat} : opR P Φ nm S H (.binOp op t x (.const (.float k y)) ty) K tg = mK (qv P S H (.binOp op t x (.const (.float k y)) ty)) (fun d => K (some d) [] 0) .mk := by rw [opR] <;> (intros; simp_all)
theorem xbinC {op : BinOp} {t ty : TypeId} {x : Operand} {k : FloatKind} {y z : Nat} : opR P Φ nm S H (.binOp op t x (.const (.complex k y z)) ty) K tg = mK (qv P S H (.binOp op t x (.const (.complex k y z)) ty)) (fun d => K (some d) [] 0) .mk := by rw [opR] <;> (intros; simp_all)
theorem xbinB {op : BinOp} {t ty : TypeId} {x : Operand} {y : Bool} : opR P Φ nm S H (.binOp op t x (.const (.bool y)) ty) K tg = mK (qv P S H (.binOp op t x (.const (.bool y)) ty)) (fun d => K (some d) [] 0) .mk := by rw [opR] <;> (intros; simp_all)
theorem xbinS {op : BinOp} {t ty : TypeId} {x : Operand} {y : ByteArray} : opR P Φ nm S H (.binOp op t x (.const (.string y)) ty) K tg = mK (qv P S H (.binOp op t x (.const (.string y)) ty)) (fun d => K (some d) [] 0) .mk := by rw [opR] <;> (intros; simp_all)
theorem xmove {x : Operand} : opR P Φ nm S H (.move x) K tg = mK (ev S x) (fun d => K (some d) [] 0) .mk := by rw [opR] <;> (intros; simp_all [qv])
theorem xassign {x : Operand} : opR P Φ nm S H (.assign x) K tg = mK (ev S x) (fun d => K (some d) [] 0) .mk := by rw [opR] <;> (intros; simp_all [qv])
theorem xpick {c x y : Operand} : opR P Φ nm S H (.pick c x y) K tg = mK (qv P S H (.pick c x y)) (fun d => K (some d) [] 0) .mk := by rw [opR] <;> (intros; simp_all)
theorem xnilC {x : Operand} : opR P Φ nm S H (.nilCheck x) K tg = mK (qv P S H (.nilCheck x)) (fun d => K (some d) [] 0) .mk := by rw [opR] <;> (intros; simp_all)
theorem xunOp {op : UnOp} {t : TypeId} {x : Operand} : opR P Φ nm S H (.unOp op t x) K tg = mK (qv P S H (.unOp op t x)) (fun d => K (some d) [] 0) .mk := by rw [opR] <;> (intros; simp_all)
theorem xfieldA {t : TypeId} {x : Operand} {f : Nat} : opR P Φ nm S H (.fieldAddr t x f) K tg = mK (fieldAddrD P t S x f) (fun d => K (some d) [] 0) .mk := by rw [opR] <;> (intros; simp_all [qv])
theorem xfield {t : TypeId} {x : Operand} {f : Nat} : opR P Φ nm S H (.field t x f) K tg = mK (fieldD P t S x f) (fun d => K (some d) [] 0) .mk := by rw [opR] <;> (intros; simp_all [qv])
theorem xindexA {t : TypeId} {x i : Operand} : opR P Φ nm S H (.indexAddr t x i) K tg = mK (indexAddrD P t S x i) (fun d => K (some d) [] 0) .mk := by rw [opR] <;> (intros; simp_all [qv])
theorem xslice {t : TypeId} {x : Operand} {lo hi : Option Operand} : opR P Φ nm S H (.slice t x lo hi none) K tg = mK (sliceX P t S x lo hi) (fun d => K (some d) [] 0) .mk := by rw [opR] <;> (intros; simp_all [qv])
theorem xindex {t : TypeId} {x i : Operand} : opR P Φ nm S H (.index t x i) K tg = mK (indexS P S t x i) (fun d => K (some d) [] 0) .mk := by rw [opR] <;> (intros; simp_all [qv])
theorem xextract {x : Operand} {k : Nat} : opR P Φ nm S H (.extract x k) K tg = mK (qv P S H (.extract x k)) (fun d => K (some d) [] 0) .mk := by rw [opR] <;> (intros; simp_all)
theorem xmakeF {f : Fn} {first caps : Array Operand} : opR P Φ nm S H (.makeFunc f first caps) K tg = mK (qv P S H (.makeFunc f first caps)) (fun d => K (some d) [] 0) .mk := by rw [opR] <;> (intros; simp_all)
theorem xbuild {t : TypeId} {ps : Array (Nat × Operand)} : opR P Φ nm S H (.build t ps) K tg = mK (qv P S H (.build t ps)) (fun d => K (some d) [] 0) .mk := by rw [opR] <;> (intros; simp_all)
theorem xlen {x : Operand} {t : TypeId} : opR P Φ nm S H (.call { callee := .builtin .len,args := #[x],argTypes := #[t] }) K tg = mK (lenD P t (ev S x)) (fun d => K (some d) [] 0) .mk := by rw [opR] <;> (intros; simp_all [qv])
theorem xclear {x : Operand} {t : TypeId} : opR P Φ nm S H (.call { callee := .builtin .clear,args := #[x],argTypes := #[t] }) K tg = mK (clearH P t S H x) (fun p => K (some (.tup [])) [(p.1,some p.2)] 0) .mk := by rw [opR] <;> rfl
theorem xreal {x : Operand} {ts : Array TypeId} : opR P Φ nm S H (.call { callee := .builtin .real,args := #[x],argTypes := ts }) K tg = mK (qv P S H (.call { callee := .builtin .real,args := #[x],argTypes := ts })) (fun d => K (some d) [] 0) .mk := by rw [opR] <;> (intros; simp_all)
theorem ximag {x : Operand} {ts : Array TypeId} : opR P Φ nm S H (.call { callee := .builtin .imag,args := #[x],argTypes := ts }) K tg = mK (qv P S H (.call { callee := .builtin .imag,args := #[x],argTypes := ts })) (fun d => K (some d) [] 0) .mk := by rw [opR] <;> (intros; simp_all)
theorem xcomplex {x y : Operand} {ts : Array TypeId} : opR P Φ nm S H (.call { callee := .builtin .complex,args := #[x,y],argTypes := ts }) K tg = mK (qv P S H (.call { callee := .builtin .complex,args := #[x,y],argTypes := ts })) (fun d => K (some d) [] 0) .mk := by rw [opR] <;> (intros; simp_all)
theorem xmax {x y : Operand} {ts : Array TypeId} : opR P Φ nm S H (.call { callee := .builtin .max,args := #[x,y],argTypes := ts }) K tg = mK (qv P S H (.call { callee := .builtin .max,args := #[x,y],argTypes := ts })) (fun d => K (some d) [] 0) .mk := by rw [opR] <;> (intros; simp_all)
theorem xmin {x y : Operand} {ts : Array TypeId} : opR P Φ nm S H (.call { callee := .builtin .min,args := #[x,y],argTypes := ts }) K tg = mK (qv P S H (.call { callee := .builtin .min,args := #[x,y],argTypes := ts })) (fun d => K (some d) [] 0) .mk := by rw [opR] <;> (intros; simp_all)
end ops
end Go.SX
namespace Go.SX
open Go
variable {P : Program}
inductive NlC : C → C → Prop where
 | same (x : C) : NlC x x
 | nil (sz : Nat) : NlC .nil (.im (.sl sz []))
inductive NlD : D → D → Prop where
 | same (d : D) : NlD d d
 | c (x y : C) (h : NlC x y) : NlD (.c x) (.c y)
 | agg (xs ys : List C) (hl : xs.length = ys.length) (h : ∀ (j : Nat) (x y : C),xs[j]? = some x → ys[j]? = some y → NlC x y) : NlD (.agg xs) (.agg ys)
inductive NlDs : List D → List D → Prop where
 | nil : NlDs [] []
 | cons {d d' : D} {l l' : List D} (h : NlD d d') (hl : NlDs l l') : NlDs (d :: l) (d' :: l')
theorem NlDs.len {l l' : List D} (h : NlDs l l') : l.length = l'.length := by
 induction h with
 | nil => rfl
 | cons _ _ ih => simp [ih]
theorem NlDs.at_ {l l' : List D} (h : NlDs l l') : ∀ (t : Nat) (d' : D),l'[t]? = some d' → ∃ d,l[t]? = some d ∧ NlD d d' := by
 induction h with
 | nil => intro t d' h; simp at h
 | cons h _ ih =>
   intro t d' ht
   cases t with
   | zero => simp at ht; subst ht; exact ⟨_,rfl,h⟩
   | succ t => simp at ht; simpa using ih t d' ht
end Go.SX
namespace Go.SX
open Go
theorem zGa1 {sz : Nat} : lentR (.arr sz []) = [] := by simp only [lentR,yaA]
theorem zCm1 {sz : Nat} {r : List T} {rows : List (List T)} : lentR (.arr sz (r :: rows)) = r.flatMap lentT ++ lentR (.arr sz rows) := by simp only [lentR,List.flatMap_cons]
theorem zGc1 {sz : Nat} {r rows : List (List T)} : lentR (.arr sz (r ++ rows)) = lentR (.arr sz r) ++ lentR (.arr sz rows) := by simp only [lentR,List.flatMap_append]
theorem zGb1 {cs : List B} : lentR (.box cs) = [] := by simp only [lentR]
theorem zKk1 {sz : Nat} {rows : List (List I)} : lentR (.arr sz (tI rows)) = [] := by
 simp only [lentR,tI,List.flatMap_eq_nil_iff,List.mem_map]
 rintro r ⟨q,_,rfl⟩ t ht
 obtain ⟨i,_,rfl⟩ := List.mem_map.1 ht
 rfl
attribute [go_sem] xskip xreg0 xreg1 xseq xcond xblock xloop xscope xexit xret zQk1 zMr1 zMq1 zQl1 zMt1 zMs1 xload xstore xalloc xbox xbuildS xmakeS xappend xcall xconv xnil
attribute [go_sem] xbinT xbinI xbinF xbinC xbinB xbinS xmove xassign xpick xnilC xunOp xfieldA xfield xindexA xslice xextract xmakeF xbuild xlen xreal ximag xcomplex xmax xmin oKo oKa nKn nKv
attribute [go_sem] nKs nilOp cKs lentCs lentPs preW plXn plXc pMs finO finKF folds wk1 ldJs ownJs hoistJ apH qv ev evC evI evIs evCs evDs cV lk ins insW dOk gSlot mKs mKn mK_ite St.eff
attribute [go_sem] St.entry entS putS binI unI eqBo eqAgD convI finK finX mapO resD resV reD reC plK mkOp dCs toB toT mapT mapTs storeH Root.sz Root.get Root.setB Root.setT setCs loadD loadCs
attribute [go_sem] loadIs nI bC mkD fieldAddrD fieldD indexAddrD sliceD optI lenD biD buildD partsD setL rowsD exDs exD exC exC1 dd exN plCells plBack unB loD loC toI pos phi addR addP dropN
attribute [go_sem] mCs mCn isTail frzPs boxI sortH imTN lentsT nones xclear clearH frzL frzD imT frzLs frC frT xindex indexS sliceX strD u8L
attribute [go_sem] upd gV rdX nestH lentT zGa1 zCm1 zKk1 zGb1 zGc1 zSr1 zSu1 zSs1 zSt1 gM_u gM_s zRr1 zRu1 zRs1 zRt1 rdN vwO vwC vwC1 isCallO lookT opTm oT resF resH memb rtOk List.map_map zAy zGk zTc1
attribute [go_sem] List.getElem?_cons_zero List.getElem?_cons_succ List.getElem?_nil id true_and and_true Nat.zero_add Nat.add_zero Bool.not_true Bool.not_false List.length_nil
attribute [go_sem] List.length_cons List.map_cons List.map_nil List.append_nil List.nil_append List.cons_append List.flatMap_cons List.flatMap_nil List.mem_cons List.not_mem_nil
attribute [go_sem] List.replicate List.set_cons_zero List.set_cons_succ List.forall_mem_cons decide_eq_true_eq decide_true decide_false not_false_eq_true not_true_eq_false
attribute [go_sem] and_false false_and and_self true_or or_true false_or or_false Option.some.injEq D.c.injEq D.agg.injEq D.tup.injEq C.im.injEq I.bool.injEq I.int.injEq I.flt.injEq
attribute [go_sem] I.cpx.injEq I.str.injEq List.cons.injEq Bool.false_eq_true implies_true Bool.true_eq_false if_false if_true forall_const exists_const forall_eq forall_eq_or_imp
attribute [go_sem] Option.isSome_some Option.map_some Option.map_none Option.getD_some Option.getD_none List.drop_zero Int.le_refl Int.toNat_zero ne_eq Nat.le_refl List.getD_cons_zero
attribute [go_sem] List.getD_cons_succ subF subOk sOk hOk nms reF rho mapD mapC mapC1 NmD NmC NmC1 mapR mapB mapTt NmR NmB NmT
end Go.SX
namespace Go.SX
attribute [go_sem] eq_self MvRb MvRn MvRt List.nodup_cons List.nodup_nil Nat.reduceEqDiff Nat.reduceLT Nat.reduceLeDiff Nat.reduceAdd Nat.reduceMul reduceCtorEq false_implies List.mem_singleton
end Go.SX
namespace Go.SX
open Go Go.RowKit
variable {P : Program}
theorem zSn {f : FuncId} {fn : Func} (hf : P.funcs[f]? = some fn) (hb : fn.body.isNone = false) (hnm : (fn.name == "runtime.NumGoroutine") = false) {α : Type} {sc : Bool} {ds : α → List D} {out : α → Outs}
   (hok : ∀ a res,(out a).mem res → OkR sc res)
   (h : ∀ a (args : List Value) (w : World),args.length = (ds a).length → (∀ (t : Nat) (d : D) (v : Value),(ds a)[t]? = some d → args[t]? = some v → ∃ g : Gh,DV g d v) → Laid (fun _ => none) w →
     Calls P f args.toArray w (fun e w' => ∃ v,e = .returned v ∧ (∃ res,(out a).mem res ∧ res.roots = [] ∧ res.places = [] ∧ (∀ ρ,reD ρ res.val = some res.val) ∧ ∀ g,DV g res.val v) ∧ Below w.heap.size w w')) :
   Law P f (fam sc (fun a => (ds a,[])) out) := by
 refine ⟨⟨fun dss hs o hr res hm => ?_,fun dss hs o hr => ?_⟩,fn,hf,hnm,hb⟩
 · simp only [fam] at hr
   split at hr
   · injection hr with hr; subst hr; exact hok _ _ hm
   · cases hr
 · simp only [fam] at hr
   split at hr
   · rename_i hex
     injection hr with hr
     subst hr
     have hc := Classical.choose_spec hex
     generalize Classical.choose hex = a0 at hc ⊢
     simp only [Prod.mk.injEq] at hc
     obtain ⟨hd,hh⟩ := hc
     subst hh
     intro en args hl hu hR
     refine (h a0 args en.w0 (by rw [hd]; exact hl) (fun t d v h1 h2 => ⟨en.g0,?_⟩) (hR.fr.laid.move (fun b _ _ => ⟨rfl,rfl⟩))).mono ?_
     · rw [hd] at h1
       obtain ⟨v',h3,h4⟩ := hR.slots t d h1
       have h5 : args.toArray[t]? = some v := by simpa using h2
       have h6 : args.toArray[t]? = some v' := h3
       rw [h5] at h6; injection h6 with h6; subst h6
       exact h4
     · rintro e w' ⟨v,he,⟨res,hm,hr0,hp0,hre,hdv⟩,hB⟩
       refine ⟨v,he,res,hm,en.g0,[],fun _ => none,fun _ => none,⟨#[],[]⟩,res.val,?_,by simp,by simp [hr0],by simp,by simp [hr0],by simp [hp0],hre _,hdv _⟩
       refine ⟨⟨hR.fr.laid,hB.os,hB.tape,hB.output,hB.size,Gh.le.refl _,fun b hb ho => ⟨ho,hB.block b hb⟩,fun b n ho => ?_,fun b o v _ hv => .inl hv⟩,rfl,fun b x hx => Nat.lt_of_lt_of_le (hR.lt b x hx) hB.size,fun b o v hv => ?_,by simp,by simp,by simp⟩
       · have := hu n (hR.fr.place b n ho).1
         simp at this
       · obtain ⟨h1,h2⟩ := hR.fz b o v hv
         refine ⟨?_,h2⟩
         have hlt : b < en.w0.heap.size := World.block_lt_of_cell? _ _ h1
         rw [hB.cell (p := ⟨b,o,none⟩) hlt]; exact h1
   · cases hr
theorem zKo1 {f : FuncId} {fn : Func} (hf : P.funcs[f]? = some fn) (hb : fn.body.isNone = false) (hnm : (fn.name == "runtime.NumGoroutine") = false) {α : Type} {ds : α → List D} {out : α → List ByteArray}
   (h : ∀ a (args : List Value) (w : World),args.length = (ds a).length → (∀ (t : Nat) (d : D) (v : Value),(ds a)[t]? = some d → args[t]? = some v → ∃ g : Gh,DV g d v) → Laid (fun _ => none) w →
     Calls P f args.toArray w (fun e w' => ∃ t c,e = .returned (.slice (some ⟨w.heap.size,0,none⟩) (out a).length c) ∧ (out a).length ≤ c ∧ w' = w.alloc (.cells ((out a).map Value.string).toArray t))) :
   Law P f (fam false (fun a => (ds a,[])) (fun a => .one { val := .c (.im (.sl 1 ((out a).map fun s => [I.str s]))) })) := by
 refine ⟨⟨fun dss hs o hr res hm => ?_,fun dss hs o hr => ?_⟩,fn,hf,hnm,hb⟩
 · simp only [fam] at hr
   split at hr
   · injection hr with hr; subst hr
     cases hm
     exact ⟨.c _ (.im _ (.inl rfl)),by simp,by simp⟩
   · cases hr
 · simp only [fam] at hr
   split at hr
   · rename_i hex
     injection hr with hr
     subst hr
     have hc := Classical.choose_spec hex
     generalize Classical.choose hex = a0 at hc ⊢
     simp only [Prod.mk.injEq] at hc
     obtain ⟨hd,hh⟩ := hc
     subst hh
     intro en args hl hu hR
     refine (h a0 args en.w0 (by rw [hd]; exact hl) (fun t d v h1 h2 => ⟨en.g0,?_⟩) (hR.fr.laid.move (fun b _ _ => ⟨rfl,rfl⟩))).mono ?_
     · rw [hd] at h1
       obtain ⟨v',h3,h4⟩ := hR.slots t d h1
       have h5 : args.toArray[t]? = some v := by simpa using h2
       have h6 : args.toArray[t]? = some v' := h3
       rw [h5] at h6; injection h6 with h6; subst h6
       exact h4
     · rintro e w' ⟨t,c,he,hle,rfl⟩
       have hnew : ∀ o,(en.w0.alloc (.cells ((out a0).map Value.string).toArray t)).cell? ⟨en.w0.heap.size,o,none⟩ = ((out a0).map Value.string)[o]? := fun o => by
         unfold World.cell? World.alloc
         simp only [Array.getElem?_push_size]
         cases h9 : ((out a0)[o]?) <;> simp [h9]
       have hold : ∀ b,b < en.w0.heap.size → (en.w0.alloc (.cells ((out a0).map Value.string).toArray t)).heap[b]? = en.w0.heap[b]? := fun b hb => by
         simp only [World.alloc]
         rw [Array.getElem?_push_lt hb,Array.getElem?_eq_getElem hb]
       have hown : en.g0.own en.w0.heap.size = none := by
         cases ho : en.g0.own en.w0.heap.size with
         | none => rfl
         | some x => exact absurd (hR.lt _ _ ho) (Nat.lt_irrefl _)
       have hfzlt : ∀ b o v,en.g0.fz b o = some v → b < en.w0.heap.size := fun b o v hv => World.block_lt_of_cell? _ _ (hR.fz b o v hv).1
       refine ⟨_,he,_,rfl,{ en.g0 with fz := fun b o => if b = en.w0.heap.size then ((out a0).map Value.string)[o]? else en.g0.fz b o },[],fun _ => none,fun _ => none,⟨#[],[]⟩,_,?_,by simp,by simp,by simp,by simp,by simp,rfl,?_⟩
       · refine ⟨⟨hR.fr.laid,rfl,rfl,rfl,by simp,⟨fun _ h => h,fun _ _ => rfl,fun _ _ => rfl,fun _ _ => rfl,fun b o v hv => ?_⟩,fun b hb ho => ⟨ho,hold b hb⟩,fun b n ho => ?_,fun b o v hb hv => ?_⟩,rfl,fun b x hx => ?_,fun b o v hv => ?_,by simp,by simp,by simp⟩
         · have := hfzlt b o v hv
           simp only
           rw [if_neg (by omega)]; exact hv
         · have := hu n (hR.fr.place b n ho).1
           simp at this
         · simp only at hv
           rw [if_neg (by omega)] at hv; exact .inl hv
         · have := hR.lt b x hx
           simp; omega
         · simp only at hv ⊢
           by_cases hb : b = en.w0.heap.size
           · subst hb
             rw [if_pos rfl] at hv
             exact ⟨(hnew o).trans hv,hown⟩
           · rw [if_neg hb] at hv
             obtain ⟨h1,h2⟩ := hR.fz b o v hv
             refine ⟨?_,h2⟩
             rw [← h1]
             exact World.cell?_of_block (hold b (hfzlt b o v hv))
       · refine .c _ _ (.im _ _ ?_)
         have := IR.sl (fz := fun b o => if b = en.w0.heap.size then ((out a0).map Value.string)[o]? else en.g0.fz b o) 1 ((out a0).map fun s => [I.str s]) en.w0.heap.size 0 c (fun i _ => .string ((out a0).getD i default)) (by simpa using hle) (fun i r hr => by
             simp only [List.getElem?_map,Option.map_eq_some_iff] at hr
             obtain ⟨p,_,rfl⟩ := hr; rfl) (fun i r j x h1 h2 => ?_) (fun i r j x h1 h2 => ?_)
         · simpa using this
         · simp only [List.getElem?_map,Option.map_eq_some_iff] at h1
           obtain ⟨p,hp,rfl⟩ := h1
           match j,h2 with
           | 0,h2 =>
             simp only [yal,Nat.zero_add,Nat.mul_one,yaP,List.getElem?_map,hp,yaK,List.getD_eq_getElem?_getD,yaF]
           | j + 1,h2 => simp at h2
         · simp only [List.getElem?_map,Option.map_eq_some_iff] at h1
           obtain ⟨p,hp,rfl⟩ := h1
           match j,h2 with
           | 0,h2 =>
             simp only [List.getElem?_cons_zero,yay] at h2
             subst h2
             simp only [List.getD_eq_getElem?_getD,hp,yaF]
             exact .str _
           | j + 1,h2 => simp at h2
   · cases hr
end Go.SX
namespace Go.SX
open Go Ieee
theorem zDb (m k : Nat) : m <<< k = m * 2 ^ k := Nat.shiftLeft_eq m k
theorem zSf (m k : Nat) (h : 0 < m) : (m * 2 ^ k).log2 = m.log2 + k := by
 rw [Nat.log2_eq_iff (Nat.ne_of_gt (Nat.mul_pos h (Nat.two_pow_pos k)))]
 have h1 := Nat.log2_self_le (Nat.ne_of_gt h)
 have h2 := Nat.lt_log2_self (n := m)
 constructor
 · rw [Nat.pow_add]; exact Nat.mul_le_mul_right _ h1
 · rw [show m.log2 + k + 1 = (m.log2 + 1) + k by omega,Nat.pow_add]
   exact Nat.mul_lt_mul_of_pos_right h2 (Nat.two_pow_pos k)
theorem log2_lt {m : Nat} (h : m < 16777216) : m.log2 ≤ 23 := by
 by_cases h0 : m = 0
 · subst h0; decide
 · have := (Nat.log2_lt h0 (k := 24)).2 (by omega)
   omega
theorem zWz (neg : Bool) (k d : Nat) (hk : 0 < k) : Toward.even.cut neg (k * 2 ^ d) d = k := by
 unfold Toward.cut
 have hl : d ≤ (k * 2 ^ d).log2 + 2 := by rw [zSf _ _ hk]; omega
 rw [Nat.min_eq_left hl]
 have hg : 1 <<< d = 2 ^ d := by rw [zDb,Nat.one_mul]
 have hp := Nat.two_pow_pos d
 simp only [hg,Nat.mul_mod_left,Nat.mul_div_cancel _ hp,Nat.mul_zero]
 have h1 : decide (2 ^ d < 0) = false := by simp
 have h2 : ((2 : Nat) ^ d == 0) = false := by simp
 simp [h1,h2]
def wI (n : Int) : Nat := FloatKind.f32.nearest n
end Go.SX
namespace Go.SX
open Go Ieee
def SV (m : Nat) (e : Int) (M : Nat) (E : Int) : Prop := ∃ c : Int,c ≤ e ∧ c ≤ E ∧ m * 2 ^ (e - c).toNat = M * 2 ^ (E - c).toNat
theorem SV.refl (m : Nat) (e : Int) : SV m e m e := ⟨e,by omega,by omega,rfl⟩
theorem SV.symm {m M : Nat} {e E : Int} (h : SV m e M E) : SV M E m e := by
 obtain ⟨c,h1,h2,h3⟩ := h
 exact ⟨c,h2,h1,h3.symm⟩
theorem SV.lower {m M : Nat} {e E c : Int} (h1 : c ≤ e) (h2 : c ≤ E) (h : m * 2 ^ (e - c).toNat = M * 2 ^ (E - c).toNat) {d : Int} (hd : d ≤ c) : m * 2 ^ (e - d).toNat = M * 2 ^ (E - d).toNat := by
 have e1 : (e - d).toNat = (e - c).toNat + (c - d).toNat := by omega
 have e2 : (E - d).toNat = (E - c).toNat + (c - d).toNat := by omega
 rw [e1,e2,Nat.pow_add,Nat.pow_add,← Nat.mul_assoc,← Nat.mul_assoc,h]
theorem SV.trans {m M n : Nat} {e E j : Int} (h : SV m e M E) (k : SV M E n j) : SV m e n j := by
 obtain ⟨c,h1,h2,h3⟩ := h
 obtain ⟨d,k1,k2,k3⟩ := k
 refine ⟨min c d,by omega,by omega,?_⟩
 rw [SV.lower h1 h2 h3 (d := min c d) (by omega),SV.lower k1 k2 k3 (d := min c d) (by omega)]
theorem SV.shl (m : Nat) (e : Int) (k : Nat) : SV m e (m * 2 ^ k) (e - k) := by
 refine ⟨e - k,by omega,by omega,?_⟩
 have e1 : (e - (e - (k : Int))).toNat = k := by omega
 have e2 : (e - (k : Int) - (e - (k : Int))).toNat = 0 := by omega
 rw [e1,e2]; simp
theorem SV.pos {m M : Nat} {e E : Int} (h : SV m e M E) (h0 : 0 < m) : 0 < M := by
 obtain ⟨c,h1,h2,h3⟩ := h
 have := Nat.mul_pos h0 (Nat.two_pow_pos (e - c).toNat)
 rw [h3] at this
 exact Nat.pos_of_mul_pos_right this
theorem SV.log {m M : Nat} {e E : Int} (h : SV m e M E) (h0 : 0 < m) : e + m.log2 = E + M.log2 := by
 have hM := h.pos h0
 obtain ⟨c,h1,h2,h3⟩ := h
 have := congrArg Nat.log2 h3
 rw [zSf _ _ h0,zSf _ _ hM] at this
 omega
theorem SV.eq {m M : Nat} {e : Int} (h : SV m e M e) : m = M := by
 obtain ⟨c,h1,h2,h3⟩ := h
 exact Nat.eq_of_mul_eq_mul_right (Nat.two_pow_pos _) h3
theorem SV.le {m M : Nat} {e E : Int} (h : SV m e M E) (hle : E ≤ e) : M = m * 2 ^ (e - E).toNat := by
 have h2 := SV.shl m e (e - E).toNat
 have e1 : e - ((e - E).toNat : Int) = E := by omega
 rw [e1] at h2
 exact (h.symm.trans h2).eq
theorem SV.add {m M : Nat} {e E : Int} (h : SV m e M E) (k : Int) : SV m (e + k) M (E + k) := by
 obtain ⟨c,h1,h2,h3⟩ := h
 refine ⟨c + k,by omega,by omega,?_⟩
 have e1 : (e + k - (c + k)).toNat = (e - c).toNat := by omega
 have e2 : (E + k - (c + k)).toNat = (E - c).toNat := by omega
 rw [e1,e2,h3]
theorem SV.mul {m M n N : Nat} {e E i I : Int} (h : SV m e M E) (k : SV n i N I) : SV (m * n) (e + i) (M * N) (E + I) := by
 obtain ⟨c,h1,h2,h3⟩ := h
 obtain ⟨d,k1,k2,k3⟩ := k
 refine ⟨c + d,by omega,by omega,?_⟩
 have e1 : (e + i - (c + d)).toNat = (e - c).toNat + (i - d).toNat := by omega
 have e2 : (E + I - (c + d)).toNat = (E - c).toNat + (I - d).toNat := by omega
 rw [e1,e2,Nat.pow_add,Nat.pow_add]
 calc m * n * (2 ^ (e - c).toNat * 2 ^ (i - d).toNat) = (m * 2 ^ (e - c).toNat) * (n * 2 ^ (i - d).toNat) := by ac_rfl
   _ = (M * 2 ^ (E - c).toNat) * (N * 2 ^ (I - d).toNat) := by rw [h3,k3]
   _ = _ := by ac_rfl
structure Can (f : Format) (M : Nat) (last : Int) : Prop where
 pos : 0 < M
 lt : M < 2 ^ (f.fractionBits + 1)
 ge : f.leastPlace ≤ last
 form : last = f.leastPlace ∨ 2 ^ f.fractionBits ≤ M
theorem zBt {M k : Nat} (h0 : 0 < M) (h : M < 2 ^ (k + 1)) : M.log2 ≤ k := by
 have := (Nat.log2_lt (Nat.ne_of_gt h0) (k := k + 1)).2 h
 omega
theorem zGd {M k : Nat} (h : 2 ^ k ≤ M) : k ≤ M.log2 := by
 have h0 : M ≠ 0 := by have := Nat.two_pow_pos k; omega
 exact (Nat.le_log2 h0).2 h
theorem zBw {f : Format} {M : Nat} {last : Int} (hc : Can f M last) {m : Nat} {e : Int} (hv : SV m e M last) (neg : Bool) :
   f.nearest neg m e = f.word neg (min ((last - f.leastPlace).toNat * f.binade + M) f.infRung) := by
 have hm := hv.symm.pos hc.pos
 have hlog := hv.log hm
 have hl1 := zBt hc.pos hc.lt
 have hlast : max (e + (m.log2 : Int) - (f.fractionBits : Int)) f.leastPlace = last := by
   have hg := hc.ge
   rcases hc.form with h | h
   · omega
   · have := zGd h
     omega
 unfold Format.nearest
 rw [if_neg (Nat.ne_of_gt hm)]
 simp only [hlast]
 have hk : Toward.even.cut neg (m <<< (e - last).toNat) (last - e).toNat = M := by
   by_cases hle : last ≤ e
   · have h1 := hv.le hle
     have h2 : (last - e).toNat = 0 := by omega
     rw [h2,zDb,← h1]
     have := zWz neg M 0 hc.pos
     simpa using this
   · have h1 := hv.symm.le (show e ≤ last by omega)
     have h2 : (e - last).toNat = 0 := by omega
     rw [h2,Nat.shiftLeft_zero,h1]
     exact zWz neg M _ hc.pos
 rw [hk]
def rgM (f : Format) (r : Nat) : Nat := if r < f.binade then r else f.binade + r % f.binade
def rgE (f : Format) (r : Nat) : Int := if r < f.binade then f.leastPlace else f.leastPlace + (r / f.binade - 1 : Nat)
theorem zBn1 {f : Format} {r : Nat} (h0 : 0 < r) : Can f (rgM f r) (rgE f r) := by
 have hb : 0 < f.binade := Nat.two_pow_pos _
 have hb2 : 2 ^ (f.fractionBits + 1) = f.binade + f.binade := by unfold Format.binade; omega
 unfold rgM rgE
 split
 · exact ⟨h0,by omega,by omega,.inl rfl⟩
 · have := Nat.mod_lt r hb
   exact ⟨by omega,by omega,by omega,.inr (by show f.binade ≤ _; omega)⟩
theorem zDz1 {f : Format} (r : Nat) : ((rgE f r) - f.leastPlace).toNat * f.binade + rgM f r = r := by
 have hb : 0 < f.binade := Nat.two_pow_pos _
 unfold rgM rgE
 split
 · simp
 · rename_i h
   have e1 : (f.leastPlace + ((r / f.binade - 1 : Nat) : Int) - f.leastPlace).toNat = r / f.binade - 1 := by omega
   rw [e1]
   have h1 : 1 ≤ r / f.binade := (Nat.le_div_iff_mul_le hb).2 (by omega)
   have h2 := Nat.div_add_mod r f.binade
   have h3 : (r / f.binade - 1) * f.binade = r / f.binade * f.binade - f.binade := by rw [Nat.sub_mul]; omega
   have h4 : f.binade ≤ r / f.binade * f.binade := Nat.le_mul_of_pos_left _ h1
   rw [h3,Nat.mul_comm (r / f.binade)] at *
   omega
theorem zJp {f : Format} {r : Nat} (h0 : 0 < r) (h1 : r < f.infRung) {m : Nat} {e : Int} (hv : SV m e (rgM f r) (rgE f r)) (neg : Bool) : f.nearest neg m e = f.word neg r := by
 rw [zBw (zBn1 h0) hv,zDz1,Nat.min_eq_left (by omega)]
theorem zZa (f : Format) (h : 1 ≤ f.exponentBits) : f.infRung < f.signWeight := by
 unfold Format.infRung Format.signWeight Format.binade
 rw [Nat.pow_add]
 exact Nat.mul_lt_mul_of_pos_right (by have := Nat.two_pow_pos f.exponentBits; omega) (Nat.two_pow_pos _)
theorem zCy {f : Format} (he : 1 ≤ f.exponentBits) {r : Nat} (h1 : r < f.infRung) (neg : Bool) : f.read (f.word neg r) = .number neg (rgM f r) (rgE f r) := by
 have hi := zZa f he
 have hm : f.word neg r % f.signWeight = r := by
   unfold Format.word
   split
   · rw [Nat.add_mod_left]; exact Nat.mod_eq_of_lt (by omega)
   · exact Nat.mod_eq_of_lt (by omega)
 have hn : (f.word neg r / f.signWeight % 2 == 1) = neg := by
   unfold Format.word
   cases neg
   · rw [if_neg (by simp),Nat.div_eq_of_lt (by omega)]; rfl
   · rw [if_pos rfl,Nat.add_div_left _ (by omega),Nat.div_eq_of_lt (by omega)]; rfl
 unfold Format.read
 simp only [hm,hn]
 unfold rgM rgE
 split
 · rfl
 · rfl
theorem zSg1 {f : Format} {m : Nat} {e : Int} (h0 : 0 < m) (h : m < 2 ^ (f.fractionBits + 1)) (he : f.leastPlace ≤ e) : ∃ M last,Can f M last ∧ SV m e M last ∧ last ≤ e ∧ e - f.fractionBits ≤ last := by
 have hl := zBt h0 h
 have key : ∀ k : Nat,k ≤ f.fractionBits - m.log2 → f.leastPlace ≤ e - k → (e - (k : Int) = f.leastPlace ∨ k = f.fractionBits - m.log2) → ∃ M last,Can f M last ∧ SV m e M last ∧ last ≤ e ∧ e - f.fractionBits ≤ last := by
   intro k k1 k2 k3
   have hup := Nat.lt_log2_self (n := m)
   refine ⟨m * 2 ^ k,e - k,⟨Nat.mul_pos h0 (Nat.two_pow_pos k),?_,k2,?_⟩,SV.shl m e k,by omega,by omega⟩
   · calc m * 2 ^ k < 2 ^ (m.log2 + 1) * 2 ^ k := Nat.mul_lt_mul_of_pos_right hup (Nat.two_pow_pos k)
       _ = 2 ^ (m.log2 + 1 + k) := (Nat.pow_add 2 (m.log2 + 1) k).symm
       _ ≤ _ := Nat.pow_le_pow_right (by omega) (by omega)
   · rcases k3 with h | h
     · exact .inl h
     · refine .inr ?_
       subst h
       calc 2 ^ f.fractionBits = 2 ^ m.log2 * 2 ^ (f.fractionBits - m.log2) := by rw [← Nat.pow_add,show m.log2 + (f.fractionBits - m.log2) = f.fractionBits by omega]
         _ ≤ _ := Nat.mul_le_mul_right _ (Nat.log2_self_le (Nat.ne_of_gt h0))
 by_cases hc : f.leastPlace ≤ e - ((f.fractionBits - m.log2 : Nat) : Int)
 · exact key _ (Nat.le_refl _) hc (.inr rfl)
 · exact key (e - f.leastPlace).toNat (by omega) (by omega) (.inl (by omega))
def RD (f : Format) (w : Nat) (s : Bool) (m : Nat) (e : Int) : Prop := ∃ M E,f.read w = .number s M E ∧ SV M E m e
theorem RD.sv {f : Format} {w : Nat} {s : Bool} {m n : Nat} {e j : Int} (h : RD f w s m e) (k : SV m e n j) : RD f w s n j := by
 obtain ⟨M,E,h1,h2⟩ := h
 exact ⟨M,E,h1,h2.trans k⟩
end Go.SX
namespace Go.SX
open Go Ieee
def i64B (n : Int) : Prop := -9223372036854775808 ≤ n ∧ n ≤ 9223372036854775807
def isDig (b : UInt8) : Prop := 48 ≤ b.toNat ∧ b.toNat ≤ 57
theorem zGq {d : Nat} (h : d < 10) : (UInt8.ofNat (48 + d)).toNat = 48 + d := by
 rw [UInt8.toNat_ofNat']; omega
theorem zDp : ∀ (u : Nat),∀ b ∈ Lib.decDigits u,isDig b := by
 intro u
 induction u using Nat.strongRecOn with
 | ind u ih =>
   intro b hb
   unfold Lib.decDigits at hb
   split at hb
   · rename_i h
     simp only [yaG] at hb
     subst hb
     rw [isDig,zGq h]; omega
   · rename_i h
     rcases List.mem_append.1 hb with hb | hb
     · exact ih (u / 10) (by omega) b hb
     · simp only [yaG] at hb
       subst hb
       rw [isDig,zGq (Nat.mod_lt _ (by omega))]; omega
theorem zDh (u : Nat) : Lib.decDigits u ≠ [] := by
 unfold Lib.decDigits
 split <;> simp
theorem zVk : ∀ (l : List UInt8) (acc v : Nat) (c : UInt8),Lib.parseUint10 acc l = .ok v → isDig c → v < 1844674407370955162 → v * 10 + (c.toNat - 48) < 18446744073709551616 → Lib.parseUint10 acc (l ++ [c]) = .ok (v * 10 + (c.toNat - 48))
 | [],acc,v,c,h,hc,h1,h2 => by
   simp only [Lib.parseUint10,Lib.NumEnd.ok.injEq] at h
   subst h
   simp only [yaC,Lib.parseUint10]
   rw [if_pos (show 48 ≤ c.toNat ∧ c.toNat ≤ 57 from hc),if_neg (by omega),if_neg (by omega)]
 | b :: l,acc,v,c,h,hc,h1,h2 => by
   simp only [Lib.parseUint10] at h
   simp only [yaB,Lib.parseUint10]
   split at h
   · rename_i hb
     rw [if_pos hb]
     split at h
     · cases h
     · rename_i h3
       rw [if_neg h3]
       split at h
       · cases h
       · rename_i h4
         rw [if_neg h4]
         exact zVk l _ v c h hc h1 h2
   · cases h
theorem zVj : ∀ (u : Nat),u < 18446744073709551616 → Lib.parseUint10 0 (Lib.decDigits u) = .ok u := by
 intro u
 induction u using Nat.strongRecOn with
 | ind u ih =>
   intro hu
   unfold Lib.decDigits
   split
   · rename_i h
     simp only [Lib.parseUint10]
     rw [zGq h,if_pos (by omega),if_neg (by omega),if_neg (by omega)]
     congr 1; omega
   · rename_i h
     have := zVk (Lib.decDigits (u / 10)) 0 (u / 10) (UInt8.ofNat (48 + u % 10)) (ih (u / 10) (by omega) (by omega)) (by rw [isDig,zGq (Nat.mod_lt _ (by omega))]; omega) (by omega) (by rw [zGq (Nat.mod_lt _ (by omega))]; omega)
     rw [this,zGq (Nat.mod_lt _ (by omega))]
     congr 1; omega
theorem zPm {n : Int} (h0 : -9223372036854775808 ≤ n) (h1 : n ≤ 9223372036854775807) : Lib.atoiAll (Lib.itoa n) = .ok n := by
 unfold Lib.itoa
 split
 · rename_i hn
   have hp := zVj n.natAbs (by omega)
   unfold Lib.atoiAll
   have e45 : (45 : UInt8).toNat = 45 := rfl
   simp only [e45,or_true,yal,Lib.parseMag,if_neg (zDh _),hp,ybc,false_and,yak,true_and]
   rw [if_neg (by omega)]
   congr 1; omega
 · rename_i hn
   have hp := zVj n.toNat (by omega)
   have hd := zDp n.toNat
   cases hl : Lib.decDigits n.toNat with
   | nil => exact absurd hl (zDh _)
   | cons c r =>
     rw [hl] at hp hd
     have hc := hd c (by simp)
     unfold isDig at hc
     unfold Lib.atoiAll
     have e1 : ¬ c.toNat = 43 := by omega
     have e2 : ¬ c.toNat = 45 := by omega
     have e3 : ¬ 9223372036854775808 ≤ n.toNat := by omega
     have e4 : ((n.toNat : Nat) : Int) = n := by omega
     simp only [e1,or_self,Lib.parseMag,List.cons_ne_nil,yak,hp,e2,e3,e4,not_false_eq_true,true_and,false_and,and_false]
theorem zSv {a b : Int} (ha0 : -9223372036854775808 ≤ a) (ha1 : a ≤ 9223372036854775807) (hb0 : -9223372036854775808 ≤ b) (hb1 : b ≤ 9223372036854775807) (h : Lib.itoa a = Lib.itoa b) : a = b := by
 have h1 := zPm ha0 ha1
 rw [h,zPm hb0 hb1] at h1
 injection h1 with h1
 exact h1.symm
theorem zKr1 {n : Int} {b : UInt8} (h : b ∈ Lib.itoa n) : b = 45 ∨ isDig b := by
 unfold Lib.itoa at h
 split at h
 · rcases List.mem_cons.1 h with h | h
   · exact .inl h
   · exact .inr (zDp _ b h)
 · exact .inr (zDp _ b h)
theorem zPq1 (n : Int) : Lib.itoa n ≠ [] := by
 unfold Lib.itoa
 split
 · simp
 · exact zDh _
theorem zKq1 {n : Int} (h : 0 ≤ n) : ∀ b ∈ Lib.itoa n,isDig b := by
 unfold Lib.itoa
 rw [if_neg (by omega)]
 exact zDp _
def numF (s : List UInt8) : Int × Bool := match Lib.atoiAll s with
 | .ok v => (v,decide (Lib.itoa v = s))
 | .range => (Lib.atoiSat s,false)
 | _ => (0,false)
theorem zHc {n : Int} (h0 : -9223372036854775808 ≤ n) (h1 : n ≤ 9223372036854775807) : numF (Lib.itoa n) = (n,true) := by
 simp [numF,zPm h0 h1]
theorem zVm {s : List UInt8} (h : (numF s).2 = true) : -9223372036854775808 ≤ (numF s).1 ∧ (numF s).1 ≤ 9223372036854775807 ∧ s = Lib.itoa (numF s).1 := by
 unfold numF at h ⊢
 split at h
 · rename_i v hv
   have := Lib.atoiAll_bounds hv
   simp only [yax] at h
   exact ⟨this.1,this.2,h.symm⟩
 · cases h
 · cases h
theorem zYj (s : List UInt8) : -9223372036854775808 ≤ (numF s).1 ∧ (numF s).1 ≤ 9223372036854775807 := by
 unfold numF
 split
 · rename_i v hv
   exact Lib.atoiAll_bounds hv
 · unfold Lib.atoiSat
   split <;> simp
 · simp
theorem zTl {s : List UInt8} {c : UInt8} (h : c ∉ s) : Lib.cut s [c] = (s,[],false) := by
 have hi : Lib.index s [c] = -1 := by
   refine Lib.index_none fun j hj => ?_
   unfold Lib.occAt
   cases hd : s.drop j with
   | nil => rfl
   | cons a t =>
     have : a ∈ s := List.mem_of_mem_drop (by rw [hd]; simp)
     have hne : ¬ c = a := fun e => h (e ▸ this)
     simp [List.isPrefixOf,hne]
 simp [Lib.cut,hi]
theorem zXa {a b : List UInt8} {c : UInt8} (h : c ∉ a) : Lib.cut (a ++ c :: b) [c] = (a,b,true) := by
 have hi : Lib.index (a ++ c :: b) [c] = (a.length : Int) := by
   refine Lib.index_first (by simp) ?_ fun j hj => ?_
   · simp [Lib.occAt,List.isPrefixOf]
   · unfold Lib.occAt
     rw [List.drop_append_of_le_length (by omega)]
     cases hd : a.drop j with
     | nil => have := congrArg List.length hd; simp at this; omega
     | cons x t =>
       have : x ∈ a := List.mem_of_mem_drop (by rw [hd]; simp)
       have hne : ¬ c = x := fun e => h (e ▸ this)
       simp [List.isPrefixOf,hne]
 simp only [Lib.cut,hi]
 simp
 try omega
end Go.SX
namespace Go.SX
open Go Ieee
theorem ep1 : single.leastPlace = -149 := by decide
theorem ep2 : double.leastPlace = -1074 := by decide
theorem bn1 : single.binade = 8388608 := by decide
theorem bn2 : double.binade = 4503599627370496 := by decide
theorem ir1 : single.infRung = 2139095040 := by decide
theorem ir2 : double.infRung = 2047 * 4503599627370496 := by decide
theorem sw1 : single.signWeight = 2147483648 := by decide
theorem zMz {f : Format} {M : Nat} {last : Int} (hc : Can f M last) : rgM f ((last - f.leastPlace).toNat * f.binade + M) = M ∧ rgE f ((last - f.leastPlace).toNat * f.binade + M) = last := by
 have hb : 0 < f.binade := Nat.two_pow_pos _
 have hlt : M < f.binade + f.binade := by
   have := hc.lt
   have e : 2 ^ (f.fractionBits + 1) = f.binade + f.binade := by unfold Format.binade; omega
   omega
 by_cases hM : M < f.binade
 · have hl : last = f.leastPlace := by
     rcases hc.form with h | h
     · exact h
     · exfalso; unfold Format.binade at hM; omega
   subst hl
   have e : (f.leastPlace - f.leastPlace).toNat = 0 := by omega
   rw [e,Nat.zero_mul,Nat.zero_add]
   unfold rgM rgE
   rw [if_pos hM,if_pos hM]
   exact ⟨rfl,rfl⟩
 · have hg := hc.ge
   generalize hk : (last - f.leastPlace).toNat = k
   have h1 : ¬ k * f.binade + M < f.binade := by
     have := Nat.zero_le (k * f.binade)
     omega
   have h2 : (k * f.binade + M) % f.binade = M - f.binade := by
     rw [Nat.add_comm,Nat.add_mul_mod_self_right]
     have : M = (M - f.binade) + f.binade := by omega
     rw [this,Nat.add_mod_right,Nat.mod_eq_of_lt (by omega)]; omega
   have h3 : (k * f.binade + M) / f.binade = k + 1 := by
     rw [Nat.add_comm,Nat.add_mul_div_right _ _ hb]
     have : M / f.binade = 1 := Nat.div_eq_of_lt_le (by omega) (by omega)
     omega
   unfold rgM rgE
   rw [if_neg h1,if_neg h1,h2,h3]
   exact ⟨by omega,by omega⟩
def dW (m : Nat) (e : Int) : Nat := double.nearest false m e
structure Dr (m : Nat) (e : Int) : Prop where
 pos : 0 < m
 lt : m < 9007199254740992
 lo : -900 ≤ e
 hi : e ≤ 900
theorem zOx {m : Nat} {e : Int} (h : Dr m e) : ∃ M last,Can double M last ∧ SV m e M last ∧ last ≤ 900 ∧ -952 ≤ last ∧ 4503599627370496 ≤ M := by
 have h1 := h.lo
 have h2 := h.hi
 obtain ⟨M,last,a,b,c,d⟩ := zSg1 (f := double) (e := e) h.pos (by have := h.lt; exact this) (by rw [ep2]; omega)
 have e1 : (double.fractionBits : Int) = 52 := rfl
 rw [e1] at d
 refine ⟨M,last,a,b,by omega,by omega,?_⟩
 rcases a.form with hf | hf
 · rw [ep2] at hf; omega
 · exact hf
theorem zYk {m : Nat} {e : Int} (h : Dr m e) {n : Nat} {j : Int} (hv : SV m e n j) : double.nearest false n j = dW m e := by
 obtain ⟨M,last,a,b,_,_,_⟩ := zOx h
 rw [dW,zBw a b,zBw a (hv.symm.trans b)]
theorem zQu1 {m : Nat} {e : Int} (h : Dr m e) : ∃ M last,double.read (dW m e) = .number false M last ∧ SV M last m e ∧ 4503599627370496 ≤ M ∧ M < 9007199254740992 ∧ last ≤ 900 ∧ -952 ≤ last := by
 obtain ⟨M,last,a,b,c,d,g⟩ := zOx h
 have hlt : M < 9007199254740992 := a.lt
 have hr : (last - double.leastPlace).toNat * double.binade + M < double.infRung := by
   rw [ep2,bn2,ir2]
   omega
 have e1 : dW m e = double.word false ((last - double.leastPlace).toNat * double.binade + M) := by
   rw [dW,zBw a b,Nat.min_eq_left (by omega)]
 obtain ⟨k1,k2⟩ := zMz a
 refine ⟨M,last,?_,b.symm,g,hlt,c,d⟩
 rw [e1,zCy (by decide) hr,k1,k2]
theorem zSw1 {m n : Nat} {e j : Int} (h : Dr m e) (hv : SV m e n j) : dW n j = dW m e := zYk h hv
theorem Dr.nat {m : Nat} (h0 : 0 < m) (h : m < 9007199254740992) : Dr m 0 := ⟨h0,h,by omega,by omega⟩
theorem zWu {m : Nat} {e : Int} (h : Dr m e) {r : Nat} (h0 : 0 < r) (h1 : r < 2139095040) (hv : SV m e (rgM single r) (rgE single r)) : fconv .f64 (dW m e) .f32 = some r := by
 obtain ⟨M,last,a,b,_,_,_,_⟩ := zQu1 h
 have he : FloatKind.f32.encode (.number false M last) = r := by
   show single.nearest false M last = r
   rw [zJp h0 (by rw [ir1]; exact h1) (b.trans hv)]; rfl
 unfold fconv
 have hd : FloatKind.f64.decode (dW m e) = .number false M last := a
 rw [if_neg (by decide),hd]
 simp only [he]
 have hr : FloatKind.f32.decode r = .number false (rgM single r) (rgE single r) := by
   have := zCy (f := single) (by decide) (r := r) (by rw [ir1]; exact h1) false
   exact this
 rw [hr]
 rfl
theorem zJg {r : Nat} (h1 : r < 2139095040) : -149 ≤ rgE single r ∧ rgE single r ≤ 104 := by
 unfold rgE
 rw [bn1,ep1]
 split
 · omega
 · omega
theorem zHq {r : Nat} : rgM single r < 16777216 := by
 unfold rgM
 rw [bn1]
 split
 · omega
 · have := Nat.mod_lt r (show 0 < 8388608 by omega)
   omega
theorem zEt {r : Nat} (h : 0 < r) : 0 < rgM single r := (zBn1 h).pos
theorem zHm1 {r : Nat} (h0 : 0 < r) (h1 : r < 2139095040) : Dr (rgM single r) (rgE single r) := by
 have a := zJg h1
 have b := zHq (r := r)
 exact ⟨zEt h0,by omega,by omega,by omega⟩
theorem zDf1 {r : Nat} (h0 : 0 < r) (h1 : r < 2139095040) : fconv .f32 r .f64 = some (dW (rgM single r) (rgE single r)) := by
 have hr : FloatKind.f32.decode r = .number false (rgM single r) (rgE single r) := by
   have := zCy (f := single) (by decide) (r := r) (by rw [ir1]; exact h1) false
   exact this
 obtain ⟨M,last,a,b,_,_,_,_⟩ := zQu1 (zHm1 h0 h1)
 have he : FloatKind.f64.encode (.number false (rgM single r) (rgE single r)) = dW (rgM single r) (rgE single r) := rfl
 unfold fconv
 rw [if_neg (by decide),hr]
 simp only [he]
 have hd : FloatKind.f64.decode (dW (rgM single r) (rgE single r)) = .number false M last := a
 rw [hd]
 rfl
theorem zKq {m : Nat} : FloatKind.f64.nearest (m : Int) = dW m 0 := by
 unfold FloatKind.nearest
 show double.nearest (decide ((m : Int) < 0)) (m : Int).natAbs 0 = _
 have : decide ((m : Int) < 0) = false := by simp
 rw [this,Int.natAbs_natCast]
 rfl
def tz (m : Nat) : Nat := if h : m = 0 ∨ m % 2 = 1 then 0 else tz (m / 2) + 1
termination_by m
decreasing_by omega
theorem zDq1 : ∀ (m : Nat),0 < m → m = m / 2 ^ tz m * 2 ^ tz m ∧ m / 2 ^ tz m % 2 = 1 := by
 intro m
 induction m using Nat.strongRecOn with
 | ind m ih =>
   intro h0
   unfold tz
   split
   · rename_i h
     simp; omega
   · rename_i h
     obtain ⟨i1,i2⟩ := ih (m / 2) (by omega) (by omega)
     have e : m / 2 ^ (tz (m / 2) + 1) = m / 2 / 2 ^ tz (m / 2) := by rw [Nat.pow_succ,Nat.mul_comm,Nat.div_div_eq_div_mul]
     rw [e]
     refine ⟨?_,i2⟩
     rw [Nat.pow_succ,← Nat.mul_assoc,← i1]
     omega
theorem zLs1 {m k : Nat} (h0 : 0 < m) (hk : m < 2 ^ k) : tz m < k := by
 obtain ⟨h1,h2⟩ := zDq1 m h0
 have hq : 1 ≤ m / 2 ^ tz m := Nat.pos_of_ne_zero fun e => by rw [e] at h2; cases h2
 have h3 : 2 ^ tz m ≤ m := by
   calc 2 ^ tz m = 1 * 2 ^ tz m := by omega
     _ ≤ m / 2 ^ tz m * 2 ^ tz m := Nat.mul_le_mul_right _ hq
     _ = m := h1.symm
 exact (Nat.pow_lt_pow_iff_right (by omega)).1 (Nat.lt_of_le_of_lt h3 hk)
def mdM (r : Nat) : Nat := rgM single r / 2 ^ tz (rgM single r)
def mdE (r : Nat) : Int := rgE single r + tz (rgM single r)
structure Md (r : Nat) : Prop where
 pos : 0 < mdM r
 lt : mdM r < 16777216
 odd : mdM r % 2 = 1
 lo : -149 ≤ mdE r
 hi : mdE r ≤ 127
 sv : SV (mdM r) (mdE r) (rgM single r) (rgE single r)
theorem zSc {r : Nat} (h0 : 0 < r) (h1 : r < 2139095040) : Md r := by
 have hp := zEt h0
 obtain ⟨h2,h3⟩ := zDq1 (rgM single r) hp
 obtain ⟨h4,h5⟩ := zJg h1
 have h6 := zLs1 (k := 24) hp (zHq (r := r))
 have hq : 0 < mdM r := Nat.pos_of_ne_zero fun e => by unfold mdM at e; rw [e] at h3; cases h3
 refine ⟨hq,Nat.lt_of_le_of_lt (Nat.div_le_self _ _) zHq,h3,by unfold mdE; omega,by unfold mdE; omega,?_⟩
 have := SV.shl (mdM r) (mdE r) (tz (rgM single r))
 have e1 : mdM r * 2 ^ tz (rgM single r) = rgM single r := h2.symm
 have e2 : mdE r - (tz (rgM single r) : Int) = rgE single r := by unfold mdE; omega
 rw [e1,e2] at this
 exact this
theorem zCk1 {m n : Nat} {e j : Int} (h : SV m e n j) (hm : m % 2 = 1) (hn : n % 2 = 1) : m = n ∧ e = j := by
 have key : ∀ {m n : Nat} {e j : Int},SV m e n j → m % 2 = 1 → n % 2 = 1 → j ≤ e → e = j := by
   intro m n e j h hm hn hle
   have := h.le hle
   apply Classical.byContradiction
   intro hne
   obtain ⟨k,hk⟩ : ∃ k,(e - j).toNat = k + 1 := ⟨(e - j).toNat - 1,by omega⟩
   rw [hk,Nat.pow_succ,← Nat.mul_assoc] at this
   omega
 have he : e = j := by
   by_cases hle : j ≤ e
   · exact key h hm hn hle
   · exact (key h.symm hn hm (by omega)).symm
 subst he
 exact ⟨h.eq,rfl⟩
def sgnT (s : Bool) : List UInt8 := if s then [45] else []
def magT (r : Nat) : List UInt8 := if r = 0 then [48] else Lib.itoa (mdM r) ++ 112 :: Lib.itoa (mdE r)
def fmtT (w : Nat) : List UInt8 := sgnT (decide (2147483648 ≤ w)) ++ magT (w % 2147483648)
structure Fin32 (w : Nat) : Prop where
 lt : w < 4294967296
 fin : w % 2147483648 < 2139095040
end Go.SX
namespace Go.SX
open Go Ieee
theorem zOr {n : Int} {c : UInt8} (h1 : c ≠ 45) (h2 : ¬ isDig c) : c ∉ Lib.itoa n := fun h => by
 rcases zKr1 h with h | h
 · exact h1 h
 · exact h2 h
theorem zJw (n : Int) : (112 : UInt8) ∉ Lib.itoa n := zOr (by decide) (by unfold isDig; decide)
theorem zSu (n : Int) : (32 : UInt8) ∉ Lib.itoa n := zOr (by decide) (by unfold isDig; decide)
theorem zAp1 (n : Int) : (10 : UInt8) ∉ Lib.itoa n := zOr (by decide) (by unfold isDig; decide)
theorem zOz1 {r : Nat} {c : UInt8} (h1 : c ≠ 45) (h2 : ¬ isDig c) (h3 : c ≠ 112) : c ∉ magT r := by
 unfold magT
 split
 · intro h
   simp only [yaG] at h
   subst h
   exact h2 (by unfold isDig; decide)
 · intro h
   rcases List.mem_append.1 h with h | h
   · exact zOr h1 h2 h
   · rcases List.mem_cons.1 h with h | h
     · exact h3 h
     · exact zOr h1 h2 h
theorem zPv1 {w : Nat} {c : UInt8} (h1 : c ≠ 45) (h2 : ¬ isDig c) (h3 : c ≠ 112) : c ∉ fmtT w := by
 unfold fmtT
 intro h
 rcases List.mem_append.1 h with h | h
 · unfold sgnT at h
   split at h
   · simp only [yaG] at h; exact h1 h
   · cases h
 · exact zOz1 h1 h2 h3 h
theorem zJq {r : Nat} (h1 : r < 2139095040) : ∃ c t,magT r = c :: t ∧ isDig c := by
 unfold magT
 split
 · exact ⟨48,[],rfl,by unfold isDig; decide⟩
 · rename_i h0
   have hm := zSc (Nat.pos_of_ne_zero h0) h1
   cases hi : Lib.itoa (mdM r) with
   | nil => exact absurd hi (zPq1 _)
   | cons c t =>
     have := zKq1 (n := (mdM r : Int)) (by omega) c (by rw [hi]; simp)
     exact ⟨c,_,rfl,this⟩
theorem zVq {r : Nat} (h1 : r < 2139095040) {t : List UInt8} : magT r ≠ 45 :: t := fun h => by
 obtain ⟨c,t',e,hd⟩ := zJq h1
 rw [h] at e
 injection e with e _
 subst e
 unfold isDig at hd
 revert hd; decide
theorem zAg1 {r q : Nat} (hr : r < 2139095040) (hq : q < 2139095040) (h : magT r = magT q) : r = q := by
 have key : ∀ q : Nat,magT q = [48] → q = 0 := fun q hq => by
   unfold magT at hq
   split at hq
   · assumption
   · have : (112 : UInt8) ∈ [48] := by rw [← hq]; simp
     simp at this
 by_cases h0 : r = 0
 · subst h0
   have : magT 0 = [48] := rfl
   rw [this] at h
   exact (key q h.symm).symm
 · by_cases k0 : q = 0
   · subst k0
     have : magT 0 = [48] := rfl
     rw [this] at h
     exact absurd (key r h) h0
   · have hm := zSc (Nat.pos_of_ne_zero h0) hr
     have km := zSc (Nat.pos_of_ne_zero k0) hq
     unfold magT at h
     rw [if_neg h0,if_neg k0] at h
     have c1 := zXa (b := Lib.itoa (mdE r)) (zJw (mdM r))
     have c2 := zXa (b := Lib.itoa (mdE q)) (zJw (mdM q))
     rw [h,c2] at c1
     simp only [Prod.mk.injEq,and_true] at c1
     obtain ⟨e1,e2⟩ := c1
     have hl := hm.lt
     have kl := km.lt
     have hb := hm.lo
     have hb2 := hm.hi
     have kb := km.lo
     have kb2 := km.hi
     have e3 := zSv (by omega) (by omega) (by omega) (by omega) e1
     have e4 := zSv (by omega) (by omega) (by omega) (by omega) e2
     have e5 : mdM q = mdM r := by omega
     have n1 := zJp (f := single) (Nat.pos_of_ne_zero h0) (by rw [ir1]; exact hr) hm.sv false
     have n2 := zJp (f := single) (Nat.pos_of_ne_zero k0) (by rw [ir1]; exact hq) km.sv false
     rw [e5,e4,n1] at n2
     exact n2
theorem zSz {w v : Nat} (hw : Fin32 w) (hv : Fin32 v) (h : fmtT w = fmtT v) : w = v := by
 have a1 := hw.lt
 have a2 := hv.lt
 have b1 := hw.fin
 have b2 := hv.fin
 unfold fmtT at h
 by_cases s1 : 2147483648 ≤ w <;> by_cases s2 : 2147483648 ≤ v <;> simp only [s1,s2,sgnT,yaS,yaU,yal,yak,yaj,yaB,yaC,List.cons.injEq,true_and] at h
 · have := zAg1 b1 b2 h; omega
 · exact absurd h.symm (zVq b2)
 · exact absurd h (zVq b1)
 · have := zAg1 b1 b2 h; omega
open Classical in
noncomputable def prsT (s : List UInt8) : Option Nat := if h : ∃ w,Fin32 w ∧ fmtT w = s then some (Classical.choose h) else none
theorem zMs {w : Nat} (h : Fin32 w) : prsT (fmtT w) = some w := by
 have hx : ∃ v,Fin32 v ∧ fmtT v = fmtT w := ⟨w,h,rfl⟩
 unfold prsT
 rw [dif_pos hx]
 obtain ⟨c1,c2⟩ := Classical.choose_spec hx
 exact congrArg some (zSz c1 h c2)
theorem zJo {s : List UInt8} {w : Nat} (h : prsT s = some w) : Fin32 w ∧ fmtT w = s := by
 unfold prsT at h
 split at h
 · rename_i hx
   injection h with h
   subst h
   exact Classical.choose_spec hx
 · cases h
theorem zOd {s : List UInt8} (h : prsT s = none) {w : Nat} (hw : Fin32 w) : fmtT w ≠ s := fun e => by
 subst e
 rw [zMs hw] at h
 cases h
theorem zPw1 {w : Nat} (h : Fin32 w) : fmtT w ≠ [] := by
 unfold fmtT
 obtain ⟨c,t,e,_⟩ := zJq h.fin
 rw [e]
 simp
end Go.SX
namespace Go.SX
open Go
abbrev Txt := List UInt8
def splT (c : UInt8) : Txt → List Txt
 | [] => [[]]
 | b :: s => if b = c then [] :: splT c s else match splT c s with
   | p :: r => (b :: p) :: r
   | [] => [[b]]
def joinT (c : UInt8) : List Txt → Txt
 | [] => []
 | [p] => p
 | p :: q :: r => p ++ c :: joinT c (q :: r)
theorem zEr (c : UInt8) (s : Txt) : splT c s ≠ [] := by
 cases s with
 | nil => simp [splT]
 | cons b s =>
   simp only [splT]
   split
   · simp
   · split <;> simp
theorem zEh {c : UInt8} : ∀ {s : Txt},c ∉ s → splT c s = [s]
 | [],_ => rfl
 | b :: s,h => by
   have h1 : ¬ b = c := fun e => h (by subst e; simp)
   have ih := zEh (c := c) (s := s) (fun e => h (List.mem_cons_of_mem _ e))
   simp only [splT,if_neg h1,ih]
theorem zGv {c : UInt8} : ∀ {a b : Txt},c ∉ a → splT c (a ++ c :: b) = a :: splT c b
 | [],b,_ => by simp [splT]
 | x :: a,b,h => by
   have h1 : ¬ x = c := fun e => h (by subst e; simp)
   have ih := zGv (c := c) (a := a) (b := b) (fun e => h (List.mem_cons_of_mem _ e))
   simp only [yaB,splT,if_neg h1,ih]
theorem zNg {c : UInt8} : ∀ {ps : List Txt},ps ≠ [] → (∀ p ∈ ps,c ∉ p) → splT c (joinT c ps) = ps
 | [],h,_ => absurd rfl h
 | [p],_,h => zEh (h p (by simp))
 | p :: q :: r,_,h => by
   simp only [joinT]
   rw [zGv (h p (by simp)),zNg (by simp) (fun x hx => h x (by simp [hx]))]
theorem zOq (c : UInt8) : ∀ (s : Txt),joinT c (splT c s) = s
 | [] => rfl
 | b :: s => by
   have ih := zOq c s
   simp only [splT]
   by_cases h : b = c
   · subst h
     rw [if_pos rfl]
     cases hs : splT b s with
     | nil => exact absurd hs (zEr _ _)
     | cons q r =>
       rw [hs] at ih
       simp [joinT,ih]
   · rw [if_neg h]
     cases hs : splT c s with
     | nil => exact absurd hs (zEr _ _)
     | cons q r =>
       rw [hs] at ih
       cases r with
       | nil => simp [joinT] at ih ⊢; exact ih
       | cons r0 r1 =>
         simp only [joinT] at ih ⊢
         rw [← ih]; rfl
theorem zJe {c : UInt8} : ∀ {s p : Txt},p ∈ splT c s → c ∉ p
 | [],p,h => by simp [splT] at h; subst h; simp
 | b :: s,p,h => by
   simp only [splT] at h
   by_cases hb : b = c
   · rw [if_pos hb] at h
     rcases List.mem_cons.1 h with rfl | h
     · simp
     · exact zJe h
   · rw [if_neg hb] at h
     cases hs : splT c s with
     | nil => exact absurd hs (zEr _ _)
     | cons q r =>
       rw [hs] at h
       simp only [yae] at h
       rcases h with rfl | h
       · have := zJe (c := c) (s := s) (p := q) (by rw [hs]; simp)
         intro hm
         rcases List.mem_cons.1 hm with e | hm
         · exact hb e.symm
         · exact this hm
       · exact zJe (s := s) (by rw [hs]; simp [h])
theorem zRj (c : UInt8) : ∀ (s : Txt),(splT c s).length ≤ s.length + 1
 | [] => by simp [splT]
 | b :: s => by
   have := zRj c s
   simp only [splT]
   split
   · simp; omega
   · cases hs : splT c s with
     | nil => simp
     | cons q r => rw [hs] at this; simp at this ⊢; omega
theorem zFr (c : UInt8) : ∀ (s : Txt),∀ p ∈ splT c s,p.length ≤ s.length
 | [],p,h => by simp [splT] at h; subst h; simp
 | b :: s,p,h => by
   have ih := zFr c s
   simp only [splT] at h
   split at h
   · rcases List.mem_cons.1 h with rfl | h
     · simp
     · have := ih p h; simp; omega
   · cases hs : splT c s with
     | nil => exact absurd hs (zEr _ _)
     | cons q r =>
       rw [hs] at h ih
       simp only [yae] at h
       rcases h with rfl | h
       · have := ih q (by simp); simp; omega
       · have := ih p (by simp [h]); simp; omega
theorem zMv {c : UInt8} : ∀ {s : Txt},c ∈ s → ∃ a b,s = a ++ c :: b ∧ c ∉ a
 | [],h => by cases h
 | x :: s,h => by
   by_cases e : x = c
   · exact ⟨[],s,by simp [e],by simp⟩
   · rcases List.mem_cons.1 h with h | h
     · exact absurd h.symm e
     · obtain ⟨a,b,h1,h2⟩ := zMv h
       exact ⟨x :: a,b,by simp [h1],by simp [h2,Ne.symm e]⟩
theorem zGz1 {a b : Txt} {c : UInt8} (h : c ∉ a) : Lib.index (a ++ c :: b) [c] = (a.length : Int) := by
 refine Lib.index_first (by simp) ?_ fun j hj => ?_
 · simp [Lib.occAt,List.isPrefixOf]
 · unfold Lib.occAt
   rw [List.drop_append_of_le_length (by omega)]
   cases hd : a.drop j with
   | nil => have := congrArg List.length hd; simp at this; omega
   | cons x t =>
     have : x ∈ a := List.mem_of_mem_drop (by rw [hd]; simp)
     have hne : ¬ c = x := fun e => h (e ▸ this)
     simp [List.isPrefixOf,hne]
theorem zKu1 {s : Txt} {c : UInt8} (h : c ∉ s) : Lib.index s [c] = -1 := by
 refine Lib.index_none fun j hj => ?_
 unfold Lib.occAt
 cases hd : s.drop j with
 | nil => rfl
 | cons a t =>
   have : a ∈ s := List.mem_of_mem_drop (by rw [hd]; simp)
   have hne : ¬ c = a := fun e => h (e ▸ this)
   simp [List.isPrefixOf,hne]
theorem zQd (c : UInt8) : ∀ (k : Nat) (s : Txt),s.count c ≤ k → Lib.splitK [c] 0 k s = splT c s
 | 0,s,h => by
   have : c ∉ s := fun hm => by have := List.count_pos_iff.2 hm; omega
   rw [zEh this]; rfl
 | k + 1,s,h => by
   unfold Lib.splitK
   by_cases hm : c ∈ s
   · obtain ⟨a,b,rfl,hn⟩ := zMv hm
     rw [zGz1 hn,zGv hn]
     have h1 : ((a.length : Int) == -1) = false := by rw [beq_eq_false_iff_ne]; omega
     have h2 : (a ++ c :: b).take (a.length + 0) = a := by simp
     have h3 : (a ++ c :: b).drop (a.length + [c].length) = b := by
       rw [show a.length + [c].length = (a ++ [c]).length by simp,show a ++ c :: b = (a ++ [c]) ++ b by simp,List.drop_left]
     have h4 : b.count c ≤ k := by
       rw [List.count_append,List.count_cons_self,List.count_eq_zero.2 hn] at h
       omega
     rw [h1]
     simp only [Int.toNat_natCast,h2,h3,yaj,yak]
     rw [zQd c k b h4]
   · rw [zKu1 hm,zEh hm]; rfl
end Go.SX
namespace Go.SX.Ty
open Go Go.SX Go.Proofs
set_option maxRecDepth 100000
theorem tsz2 : tsz Tryz.prog 2 = some 1 := by kernel_rfl
theorem tby2 : tby Tryz.prog 2 = some 8 := by kernel_rfl
theorem tag2 : tag Tryz.prog 2 = some false := by kernel_rfl
theorem isSl2 : isSlT Tryz.prog 2 = false := by kernel_rfl
theorem tzr2 : tzr Tryz.prog 2 = some [.im (.int .i64 (0))] := by kernel_rfl
theorem tsz3 : tsz Tryz.prog 3 = some 1 := by kernel_rfl
theorem tby3 : tby Tryz.prog 3 = some 8 := by kernel_rfl
theorem tag3 : tag Tryz.prog 3 = some false := by kernel_rfl
theorem isSl3 : isSlT Tryz.prog 3 = false := by kernel_rfl
theorem tzr3 : tzr Tryz.prog 3 = some [.im (.int .i64 (0))] := by kernel_rfl
theorem tsz4 : tsz Tryz.prog 4 = some 1 := by kernel_rfl
theorem tby4 : tby Tryz.prog 4 = some 1 := by kernel_rfl
theorem tag4 : tag Tryz.prog 4 = some false := by kernel_rfl
theorem isSl4 : isSlT Tryz.prog 4 = false := by kernel_rfl
theorem isBo4 : isBoT Tryz.prog 4 = true := by kernel_rfl
theorem tzr4 : tzr Tryz.prog 4 = some [.im (.bool false)] := by kernel_rfl
theorem tsz5 : tsz Tryz.prog 5 = some 1 := by kernel_rfl
theorem tby5 : tby Tryz.prog 5 = some 1 := by kernel_rfl
theorem tag5 : tag Tryz.prog 5 = some false := by kernel_rfl
theorem isSl5 : isSlT Tryz.prog 5 = false := by kernel_rfl
theorem tzr5 : tzr Tryz.prog 5 = some [.im (.int .u8 (0))] := by kernel_rfl
theorem tsz9 : tsz Tryz.prog 9 = some 1 := by kernel_rfl
theorem tby9 : tby Tryz.prog 9 = some 16 := by kernel_rfl
theorem tag9 : tag Tryz.prog 9 = some false := by kernel_rfl
theorem isSl9 : isSlT Tryz.prog 9 = false := by kernel_rfl
theorem isSt9 : isStT Tryz.prog 9 = true := by kernel_rfl
theorem tzr9 : tzr Tryz.prog 9 = some [.im (.str ⟨#[]⟩)] := by kernel_rfl
theorem tsz20 : tsz Tryz.prog 20 = some 1 := by kernel_rfl
theorem tby20 : tby Tryz.prog 20 = some 16 := by kernel_rfl
theorem tag20 : tag Tryz.prog 20 = some false := by kernel_rfl
theorem isSl20 : isSlT Tryz.prog 20 = false := by kernel_rfl
theorem tzr20 : tzr Tryz.prog 20 = some [.im (.raw .nilIface)] := by kernel_rfl
theorem tsz21 : tsz Tryz.prog 21 = some 1 := by kernel_rfl
theorem tby21 : tby Tryz.prog 21 = some 4 := by kernel_rfl
theorem tag21 : tag Tryz.prog 21 = some false := by kernel_rfl
theorem isSl21 : isSlT Tryz.prog 21 = false := by kernel_rfl
theorem tzr21 : tzr Tryz.prog 21 = some [.im (.int .i32 (0))] := by kernel_rfl
theorem tsz22 : tsz Tryz.prog 22 = some 1 := by kernel_rfl
theorem tby22 : tby Tryz.prog 22 = some 8 := by kernel_rfl
theorem tag22 : tag Tryz.prog 22 = some false := by kernel_rfl
theorem isSl22 : isSlT Tryz.prog 22 = false := by kernel_rfl
theorem tzr22 : tzr Tryz.prog 22 = some [.im (.cpx .f32 0 0)] := by kernel_rfl
theorem tsz23 : tsz Tryz.prog 23 = some 1 := by kernel_rfl
theorem tby23 : tby Tryz.prog 23 = some 4 := by kernel_rfl
theorem tag23 : tag Tryz.prog 23 = some false := by kernel_rfl
theorem isSl23 : isSlT Tryz.prog 23 = false := by kernel_rfl
theorem tzr23 : tzr Tryz.prog 23 = some [.im (.flt .f32 0)] := by kernel_rfl
theorem tsz24 : tsz Tryz.prog 24 = some 1 := by kernel_rfl
theorem tby24 : tby Tryz.prog 24 = some 24 := by kernel_rfl
theorem tag24 : tag Tryz.prog 24 = some false := by kernel_rfl
theorem tel24 : tel Tryz.prog 24 = some 22 := by kernel_rfl
theorem isSl24 : isSlT Tryz.prog 24 = true := by kernel_rfl
theorem tzr24 : tzr Tryz.prog 24 = some [.nil] := by kernel_rfl
theorem tsz25 : tsz Tryz.prog 25 = some 3 := by kernel_rfl
theorem tby25 : tby Tryz.prog 25 = some 40 := by kernel_rfl
theorem tag25 : tag Tryz.prog 25 = some true := by kernel_rfl
theorem isSl25 : isSlT Tryz.prog 25 = false := by kernel_rfl
theorem tok25 : tok Tryz.prog 25 = true := by kernel_rfl
theorem zNy1 : tfd Tryz.prog 25 0 = some (0,24) := by kernel_rfl
theorem zNx1 : tfd Tryz.prog 25 1 = some (1,3) := by kernel_rfl
theorem zNw1 : tfd Tryz.prog 25 2 = some (2,3) := by kernel_rfl
theorem tzr25 : tzr Tryz.prog 25 = some [.nil,.im (.int .i64 (0)),.im (.int .i64 (0))] := by kernel_rfl
theorem tsz26 : tsz Tryz.prog 26 = some 3 := by kernel_rfl
theorem tby26 : tby Tryz.prog 26 = some 40 := by kernel_rfl
theorem tag26 : tag Tryz.prog 26 = some true := by kernel_rfl
theorem isSl26 : isSlT Tryz.prog 26 = false := by kernel_rfl
theorem tok26 : tok Tryz.prog 26 = true := by kernel_rfl
theorem zNv1 : tfd Tryz.prog 26 0 = some (0,24) := by kernel_rfl
theorem zNu1 : tfd Tryz.prog 26 1 = some (1,3) := by kernel_rfl
theorem zNt1 : tfd Tryz.prog 26 2 = some (2,3) := by kernel_rfl
theorem tzr26 : tzr Tryz.prog 26 = some [.nil,.im (.int .i64 (0)),.im (.int .i64 (0))] := by kernel_rfl
theorem tsz27 : tsz Tryz.prog 27 = some 1 := by kernel_rfl
theorem tby27 : tby Tryz.prog 27 = some 24 := by kernel_rfl
theorem tag27 : tag Tryz.prog 27 = some false := by kernel_rfl
theorem tel27 : tel Tryz.prog 27 = some 3 := by kernel_rfl
theorem isSl27 : isSlT Tryz.prog 27 = true := by kernel_rfl
theorem tzr27 : tzr Tryz.prog 27 = some [.nil] := by kernel_rfl
theorem tsz28 : tsz Tryz.prog 28 = some 2 := by kernel_rfl
theorem tby28 : tby Tryz.prog 28 = some 48 := by kernel_rfl
theorem tag28 : tag Tryz.prog 28 = some true := by kernel_rfl
theorem isSl28 : isSlT Tryz.prog 28 = false := by kernel_rfl
theorem tok28 : tok Tryz.prog 28 = true := by kernel_rfl
theorem zNs1 : tfd Tryz.prog 28 0 = some (0,24) := by kernel_rfl
theorem zNr1 : tfd Tryz.prog 28 1 = some (1,27) := by kernel_rfl
theorem tzr28 : tzr Tryz.prog 28 = some [.nil,.nil] := by kernel_rfl
theorem tsz29 : tsz Tryz.prog 29 = some 2 := by kernel_rfl
theorem tby29 : tby Tryz.prog 29 = some 48 := by kernel_rfl
theorem tag29 : tag Tryz.prog 29 = some true := by kernel_rfl
theorem isSl29 : isSlT Tryz.prog 29 = false := by kernel_rfl
theorem tok29 : tok Tryz.prog 29 = true := by kernel_rfl
theorem zNq1 : tfd Tryz.prog 29 0 = some (0,24) := by kernel_rfl
theorem zNp1 : tfd Tryz.prog 29 1 = some (1,27) := by kernel_rfl
theorem tzr29 : tzr Tryz.prog 29 = some [.nil,.nil] := by kernel_rfl
theorem tsz30 : tsz Tryz.prog 30 = some 11 := by kernel_rfl
theorem tby30 : tby Tryz.prog 30 = some 136 := by kernel_rfl
theorem tag30 : tag Tryz.prog 30 = some true := by kernel_rfl
theorem isSl30 : isSlT Tryz.prog 30 = false := by kernel_rfl
theorem tok30 : tok Tryz.prog 30 = true := by kernel_rfl
theorem zNo1 : tfd Tryz.prog 30 0 = some (0,3) := by kernel_rfl
theorem zNn1 : tfd Tryz.prog 30 1 = some (1,22) := by kernel_rfl
theorem zNm1 : tfd Tryz.prog 30 2 = some (2,22) := by kernel_rfl
theorem zNl1 : tfd Tryz.prog 30 3 = some (3,23) := by kernel_rfl
theorem zNk1 : tfd Tryz.prog 30 4 = some (4,26) := by kernel_rfl
theorem zNj1 : tfd Tryz.prog 30 5 = some (7,29) := by kernel_rfl
theorem zNi1 : tfd Tryz.prog 30 6 = some (9,3) := by kernel_rfl
theorem zNh1 : tfd Tryz.prog 30 7 = some (10,3) := by kernel_rfl
theorem tzr30 : tzr Tryz.prog 30 = some [.im (.int .i64 (0)),.im (.cpx .f32 0 0),.im (.cpx .f32 0 0),.im (.flt .f32 0),.nil,.im (.int .i64 (0)),.im (.int .i64 (0)),.nil,.nil,.im (.int .i64 (0)),.im (.int .i64 (0))] := by kernel_rfl
theorem tsz31 : tsz Tryz.prog 31 = some 11 := by kernel_rfl
theorem tby31 : tby Tryz.prog 31 = some 136 := by kernel_rfl
theorem tag31 : tag Tryz.prog 31 = some true := by kernel_rfl
theorem isSl31 : isSlT Tryz.prog 31 = false := by kernel_rfl
theorem tok31 : tok Tryz.prog 31 = true := by kernel_rfl
theorem zNg1 : tfd Tryz.prog 31 0 = some (0,3) := by kernel_rfl
theorem zNf1 : tfd Tryz.prog 31 1 = some (1,22) := by kernel_rfl
theorem zNe1 : tfd Tryz.prog 31 2 = some (2,22) := by kernel_rfl
theorem zNd1 : tfd Tryz.prog 31 3 = some (3,23) := by kernel_rfl
theorem zNc1 : tfd Tryz.prog 31 4 = some (4,26) := by kernel_rfl
theorem zNb1 : tfd Tryz.prog 31 5 = some (7,29) := by kernel_rfl
theorem zNa1 : tfd Tryz.prog 31 6 = some (9,3) := by kernel_rfl
theorem zMz1 : tfd Tryz.prog 31 7 = some (10,3) := by kernel_rfl
theorem tzr31 : tzr Tryz.prog 31 = some [.im (.int .i64 (0)),.im (.cpx .f32 0 0),.im (.cpx .f32 0 0),.im (.flt .f32 0),.nil,.im (.int .i64 (0)),.im (.int .i64 (0)),.nil,.nil,.im (.int .i64 (0)),.im (.int .i64 (0))] := by kernel_rfl
theorem tsz32 : tsz Tryz.prog 32 = some 1 := by kernel_rfl
theorem tby32 : tby Tryz.prog 32 = some 0 := by kernel_rfl
theorem tag32 : tag Tryz.prog 32 = some false := by kernel_rfl
theorem isSl32 : isSlT Tryz.prog 32 = false := by kernel_rfl
theorem tsz37 : tsz Tryz.prog 37 = some 1 := by kernel_rfl
theorem tby37 : tby Tryz.prog 37 = some 24 := by kernel_rfl
theorem tag37 : tag Tryz.prog 37 = some false := by kernel_rfl
theorem tel37 : tel Tryz.prog 37 = some 5 := by kernel_rfl
theorem isSl37 : isSlT Tryz.prog 37 = true := by kernel_rfl
theorem tzr37 : tzr Tryz.prog 37 = some [.nil] := by kernel_rfl
theorem isBs37 : isBsT Tryz.prog 37 = true := by kernel_rfl
theorem tsz54 : tsz Tryz.prog 54 = some 1 := by kernel_rfl
theorem tby54 : tby Tryz.prog 54 = some 24 := by kernel_rfl
theorem tag54 : tag Tryz.prog 54 = some false := by kernel_rfl
theorem tel54 : tel Tryz.prog 54 = some 31 := by kernel_rfl
theorem isSl54 : isSlT Tryz.prog 54 = true := by kernel_rfl
theorem tzr54 : tzr Tryz.prog 54 = some [.nil] := by kernel_rfl
theorem tsz55 : tsz Tryz.prog 55 = some 1 := by kernel_rfl
theorem tby55 : tby Tryz.prog 55 = some 24 := by kernel_rfl
theorem tag55 : tag Tryz.prog 55 = some false := by kernel_rfl
theorem tel55 : tel Tryz.prog 55 = some 113 := by kernel_rfl
theorem isSl55 : isSlT Tryz.prog 55 = true := by kernel_rfl
theorem tzr55 : tzr Tryz.prog 55 = some [.nil] := by kernel_rfl
theorem tsz57 : tsz Tryz.prog 57 = some 2 := by kernel_rfl
theorem tby57 : tby Tryz.prog 57 = some 48 := by kernel_rfl
theorem tag57 : tag Tryz.prog 57 = some true := by kernel_rfl
theorem isSl57 : isSlT Tryz.prog 57 = false := by kernel_rfl
theorem tok57 : tok Tryz.prog 57 = true := by kernel_rfl
theorem zMy1 : tfd Tryz.prog 57 0 = some (0,54) := by kernel_rfl
theorem zMx1 : tfd Tryz.prog 57 1 = some (1,55) := by kernel_rfl
theorem tzr57 : tzr Tryz.prog 57 = some [.nil,.nil] := by kernel_rfl
theorem tsz58 : tsz Tryz.prog 58 = some 1 := by kernel_rfl
theorem tby58 : tby Tryz.prog 58 = some 0 := by kernel_rfl
theorem tag58 : tag Tryz.prog 58 = some false := by kernel_rfl
theorem isSl58 : isSlT Tryz.prog 58 = false := by kernel_rfl
theorem tsz71 : tsz Tryz.prog 71 = some 1 := by kernel_rfl
theorem tby71 : tby Tryz.prog 71 = some 24 := by kernel_rfl
theorem tag71 : tag Tryz.prog 71 = some false := by kernel_rfl
theorem tel71 : tel Tryz.prog 71 = some 9 := by kernel_rfl
theorem isSl71 : isSlT Tryz.prog 71 = true := by kernel_rfl
theorem tzr71 : tzr Tryz.prog 71 = some [.nil] := by kernel_rfl
theorem tsz74 : tsz Tryz.prog 74 = some 1 := by kernel_rfl
theorem tby74 : tby Tryz.prog 74 = some 8 := by kernel_rfl
theorem tag74 : tag Tryz.prog 74 = some false := by kernel_rfl
theorem isSl74 : isSlT Tryz.prog 74 = false := by kernel_rfl
theorem tzr74 : tzr Tryz.prog 74 = some [.im (.raw (.pointer none))] := by kernel_rfl
theorem tsz77 : tsz Tryz.prog 77 = some 2 := by kernel_rfl
theorem tby77 : tby Tryz.prog 77 = some 32 := by kernel_rfl
theorem tag77 : tag Tryz.prog 77 = some true := by kernel_rfl
theorem isSl77 : isSlT Tryz.prog 77 = false := by kernel_rfl
theorem tok77 : tok Tryz.prog 77 = true := by kernel_rfl
theorem zMw1 : tfd Tryz.prog 77 0 = some (0,71) := by kernel_rfl
theorem zMv1 : tfd Tryz.prog 77 1 = some (1,4) := by kernel_rfl
theorem tzr77 : tzr Tryz.prog 77 = some [.nil,.im (.bool false)] := by kernel_rfl
theorem tsz84 : tsz Tryz.prog 84 = some 1 := by kernel_rfl
theorem tby84 : tby Tryz.prog 84 = some 16 := by kernel_rfl
theorem tag84 : tag Tryz.prog 84 = some false := by kernel_rfl
theorem isSl84 : isSlT Tryz.prog 84 = false := by kernel_rfl
theorem tzr84 : tzr Tryz.prog 84 = some [.im (.cpx .f64 0 0)] := by kernel_rfl
theorem tsz86 : tsz Tryz.prog 86 = some 1 := by kernel_rfl
theorem tby86 : tby Tryz.prog 86 = some 8 := by kernel_rfl
theorem tag86 : tag Tryz.prog 86 = some false := by kernel_rfl
theorem isSl86 : isSlT Tryz.prog 86 = false := by kernel_rfl
theorem tzr86 : tzr Tryz.prog 86 = some [.im (.flt .f64 0)] := by kernel_rfl
theorem tsz110 : tsz Tryz.prog 110 = some 1 := by kernel_rfl
theorem tby110 : tby Tryz.prog 110 = some 0 := by kernel_rfl
theorem tag110 : tag Tryz.prog 110 = some false := by kernel_rfl
theorem isSl110 : isSlT Tryz.prog 110 = false := by kernel_rfl
theorem tsz113 : tsz Tryz.prog 113 = some 2 := by kernel_rfl
theorem tby113 : tby Tryz.prog 113 = some 16 := by kernel_rfl
theorem tag113 : tag Tryz.prog 113 = some true := by kernel_rfl
theorem isSl113 : isSlT Tryz.prog 113 = false := by kernel_rfl
theorem tok113 : tok Tryz.prog 113 = true := by kernel_rfl
theorem zIs1 : tfd Tryz.prog 113 0 = some (0,3) := by kernel_rfl
theorem zIr1 : tfd Tryz.prog 113 1 = some (1,3) := by kernel_rfl
theorem tzr113 : tzr Tryz.prog 113 = some [.im (.int .i64 (0)),.im (.int .i64 (0))] := by kernel_rfl
theorem tsz116 : tsz Tryz.prog 116 = some 1 := by kernel_rfl
theorem tby116 : tby Tryz.prog 116 = some 0 := by kernel_rfl
theorem tag116 : tag Tryz.prog 116 = some false := by kernel_rfl
theorem isSl116 : isSlT Tryz.prog 116 = false := by kernel_rfl
theorem tsz130 : tsz Tryz.prog 130 = some 1 := by kernel_rfl
theorem tby130 : tby Tryz.prog 130 = some 0 := by kernel_rfl
theorem tag130 : tag Tryz.prog 130 = some false := by kernel_rfl
theorem isSl130 : isSlT Tryz.prog 130 = false := by kernel_rfl
theorem tsz132 : tsz Tryz.prog 132 = some 1 := by kernel_rfl
theorem tby132 : tby Tryz.prog 132 = some 0 := by kernel_rfl
theorem tag132 : tag Tryz.prog 132 = some false := by kernel_rfl
theorem isSl132 : isSlT Tryz.prog 132 = false := by kernel_rfl
theorem tsz149 : tsz Tryz.prog 149 = some 3 := by kernel_rfl
theorem tby149 : tby Tryz.prog 149 = some 40 := by kernel_rfl
theorem tag149 : tag Tryz.prog 149 = some true := by kernel_rfl
theorem isSl149 : isSlT Tryz.prog 149 = false := by kernel_rfl
theorem tok149 : tok Tryz.prog 149 = true := by kernel_rfl
theorem zIq1 : tfd Tryz.prog 149 0 = some (0,37) := by kernel_rfl
theorem zIp1 : tfd Tryz.prog 149 1 = some (1,3) := by kernel_rfl
theorem zIo1 : tfd Tryz.prog 149 2 = some (2,3) := by kernel_rfl
theorem tzr149 : tzr Tryz.prog 149 = some [.nil,.im (.int .i64 (0)),.im (.int .i64 (0))] := by kernel_rfl
theorem tsz153 : tsz Tryz.prog 153 = some 1 := by kernel_rfl
theorem tby153 : tby Tryz.prog 153 = some 24 := by kernel_rfl
theorem tag153 : tag Tryz.prog 153 = some false := by kernel_rfl
theorem tel153 : tel Tryz.prog 153 = some 4 := by kernel_rfl
theorem isSl153 : isSlT Tryz.prog 153 = true := by kernel_rfl
theorem tzr153 : tzr Tryz.prog 153 = some [.nil] := by kernel_rfl
theorem tsz166 : tsz Tryz.prog 166 = some 1 := by kernel_rfl
theorem tby166 : tby Tryz.prog 166 = some 0 := by kernel_rfl
theorem tag166 : tag Tryz.prog 166 = some false := by kernel_rfl
theorem isSl166 : isSlT Tryz.prog 166 = false := by kernel_rfl
theorem tsz169 : tsz Tryz.prog 169 = some 1 := by kernel_rfl
theorem tby169 : tby Tryz.prog 169 = some 16 := by kernel_rfl
theorem tag169 : tag Tryz.prog 169 = some false := by kernel_rfl
theorem isSl169 : isSlT Tryz.prog 169 = false := by kernel_rfl
theorem tzr169 : tzr Tryz.prog 169 = some [.im (.raw .nilIface)] := by kernel_rfl
theorem tsz170 : tsz Tryz.prog 170 = some 1 := by kernel_rfl
theorem tby170 : tby Tryz.prog 170 = some 0 := by kernel_rfl
theorem tag170 : tag Tryz.prog 170 = some false := by kernel_rfl
theorem isSl170 : isSlT Tryz.prog 170 = false := by kernel_rfl
theorem isEq113 : isEqT Tryz.prog 113 = true := by kernel_rfl
end Go.SX.Ty
namespace Go.SX
open Go Go.Proofs
attribute [go_sem] Ty.tsz2 Ty.tby2 Ty.tag2 Ty.isSl2 Ty.tzr2 Tryz.underlying2 Ty.tsz3 Ty.tby3 Ty.tag3 Ty.isSl3 Ty.tzr3 Tryz.underlying3 Ty.tsz4 Ty.tby4 Ty.tag4 Ty.isSl4 Ty.isBo4
attribute [go_sem] Ty.tzr4 Ty.tsz5 Ty.tby5 Ty.tag5 Ty.isSl5 Ty.tzr5 Tryz.underlying5 Tryz.underlying6
attribute [go_sem] Ty.tsz9 Ty.tby9
attribute [go_sem] Ty.tag9 Ty.isSl9 Ty.isSt9 Ty.tzr9 Tryz.underlying9 Tryz.underlying10
attribute [go_sem] Tryz.underlying11 Tryz.underlying12
attribute [go_sem] Ty.tsz20 Ty.tby20 Ty.tag20 Ty.isSl20 Ty.tzr20 Ty.tsz21 Ty.tby21 Ty.tag21 Ty.isSl21 Ty.tzr21 Tryz.underlying21
attribute [go_sem] Ty.tsz22 Ty.tby22 Ty.tag22 Ty.isSl22 Ty.tzr22 Tryz.underlying22 Ty.tsz23 Ty.tby23 Ty.tag23 Ty.isSl23 Ty.tzr23 Tryz.underlying23 Ty.tsz24 Ty.tby24 Ty.tag24
attribute [go_sem] Ty.tel24 Ty.isSl24 Ty.tzr24 Ty.tsz25 Ty.tby25 Ty.tag25 Ty.isSl25 Ty.tok25 Ty.zNy1 Ty.zNx1 Ty.zNw1 Ty.tzr25 Ty.tsz26 Ty.tby26 Ty.tag26 Ty.isSl26 Ty.tok26
attribute [go_sem] Ty.zNv1 Ty.zNu1 Ty.zNt1 Ty.tzr26 Ty.tsz27 Ty.tby27 Ty.tag27 Ty.tel27 Ty.isSl27 Ty.tzr27 Ty.tsz28 Ty.tby28 Ty.tag28 Ty.isSl28 Ty.tok28 Ty.zNs1
attribute [go_sem] Ty.zNr1 Ty.tzr28 Ty.tsz29 Ty.tby29 Ty.tag29 Ty.isSl29 Ty.tok29 Ty.zNq1 Ty.zNp1 Ty.tzr29 Ty.tsz30 Ty.tby30 Ty.tag30 Ty.isSl30 Ty.tok30 Ty.zNo1
attribute [go_sem] Ty.zNn1 Ty.zNm1 Ty.zNl1 Ty.zNk1 Ty.zNj1 Ty.zNi1 Ty.zNh1 Ty.tzr30 Ty.tsz31 Ty.tby31 Ty.tag31 Ty.isSl31 Ty.tok31 Ty.zNg1 Ty.zNf1
attribute [go_sem] Ty.zNe1 Ty.zNd1 Ty.zNc1 Ty.zNb1 Ty.zNa1 Ty.zMz1 Ty.tzr31 Ty.tsz32 Ty.tby32 Ty.tag32 Ty.isSl32 Ty.tsz37 Ty.tby37 Ty.tag37 Ty.tel37 Ty.isSl37
attribute [go_sem] Ty.tzr37 Ty.isBs37 Tryz.underlying37 Ty.tsz54
attribute [go_sem] Ty.tby54 Ty.tag54 Ty.tel54 Ty.isSl54 Ty.tzr54 Ty.tsz55 Ty.tby55 Ty.tag55 Ty.tel55 Ty.isSl55 Ty.tzr55
attribute [go_sem] Ty.tsz57 Ty.tby57 Ty.tag57 Ty.isSl57 Ty.tok57 Ty.zMy1 Ty.zMx1 Ty.tzr57 Ty.tsz58 Ty.tby58 Ty.tag58 Ty.isSl58
attribute [go_sem] Ty.tsz71 Ty.tby71 Ty.tag71 Ty.tel71 Ty.isSl71 Ty.tzr71 Ty.tsz74 Ty.tby74 Ty.tag74 Ty.isSl74 Ty.tzr74
attribute [go_sem] Ty.tsz77 Ty.tby77 Ty.tag77 Ty.isSl77 Ty.tok77 Ty.zMw1 Ty.zMv1 Ty.tzr77 Ty.tsz84
attribute [go_sem] Ty.tby84 Ty.tag84 Ty.isSl84 Ty.tzr84 Tryz.underlying84 Ty.tsz86 Ty.tby86 Ty.tag86 Ty.isSl86 Ty.tzr86 Tryz.underlying86
attribute [go_sem] Ty.tsz110 Ty.tby110 Ty.tag110 Ty.isSl110
attribute [go_sem] Ty.tsz113 Ty.tby113 Ty.tag113 Ty.isSl113 Ty.tok113 Ty.zIs1 Ty.zIr1 Ty.tzr113 Ty.tsz116 Ty.tby116 Ty.tag116 Ty.isSl116
attribute [go_sem] Ty.tsz130 Ty.tby130 Ty.tag130 Ty.isSl130 Ty.tsz132 Ty.tby132 Ty.tag132 Ty.isSl132
attribute [go_sem] Ty.tsz149 Ty.tby149 Ty.tag149 Ty.isSl149 Ty.tok149 Ty.zIq1 Ty.zIp1 Ty.zIo1 Ty.tzr149
attribute [go_sem] Ty.tsz153 Ty.tby153 Ty.tag153 Ty.tel153 Ty.isSl153 Ty.tzr153
attribute [go_sem] Ty.tsz166 Ty.tby166 Ty.tag166 Ty.isSl166 Ty.tsz169 Ty.tby169 Ty.tag169 Ty.isSl169 Ty.tzr169 Ty.tsz170
attribute [go_sem] Ty.tby170 Ty.tag170 Ty.isSl170
attribute [go_sem] Ty.isEq113
end Go.SX
namespace Go.SX.Ty
open Go Go.SX Go.Proofs
set_option maxRecDepth 100000
theorem tsz192 : tsz Tryz.prog 192 = some 1 := by kernel_rfl
theorem tby192 : tby Tryz.prog 192 = some 24 := by kernel_rfl
theorem tag192 : tag Tryz.prog 192 = some false := by kernel_rfl
theorem tel192 : tel Tryz.prog 192 = some 27 := by kernel_rfl
theorem isSl192 : isSlT Tryz.prog 192 = true := by kernel_rfl
theorem tzr192 : tzr Tryz.prog 192 = some [.nil] := by kernel_rfl
theorem tsz201 : tsz Tryz.prog 201 = some 1 := by kernel_rfl
theorem tby201 : tby Tryz.prog 201 = some 4 := by kernel_rfl
theorem tag201 : tag Tryz.prog 201 = some false := by kernel_rfl
theorem isSl201 : isSlT Tryz.prog 201 = false := by kernel_rfl
theorem tzr201 : tzr Tryz.prog 201 = some [.im (.int .u32 (0))] := by kernel_rfl
theorem tsz215 : tsz Tryz.prog 215 = some 1 := by kernel_rfl
theorem tby215 : tby Tryz.prog 215 = some 8 := by kernel_rfl
theorem tag215 : tag Tryz.prog 215 = some false := by kernel_rfl
theorem isSl215 : isSlT Tryz.prog 215 = false := by kernel_rfl
theorem tzr215 : tzr Tryz.prog 215 = some [.im (.int .u64 (0))] := by kernel_rfl
theorem tsz243 : tsz Tryz.prog 243 = some 1 := by kernel_rfl
theorem tby243 : tby Tryz.prog 243 = some 0 := by kernel_rfl
theorem tag243 : tag Tryz.prog 243 = some false := by kernel_rfl
theorem isSl243 : isSlT Tryz.prog 243 = false := by kernel_rfl
theorem tsz247 : tsz Tryz.prog 247 = some 1 := by kernel_rfl
theorem tby247 : tby Tryz.prog 247 = some 8 := by kernel_rfl
theorem tag247 : tag Tryz.prog 247 = some false := by kernel_rfl
theorem isSl247 : isSlT Tryz.prog 247 = false := by kernel_rfl
theorem tzr247 : tzr Tryz.prog 247 = some [.im (.int .u64 (0))] := by kernel_rfl
theorem tsz248 : tsz Tryz.prog 248 = some 1 := by kernel_rfl
theorem tby248 : tby Tryz.prog 248 = some 0 := by kernel_rfl
theorem tag248 : tag Tryz.prog 248 = some false := by kernel_rfl
theorem isSl248 : isSlT Tryz.prog 248 = false := by kernel_rfl
theorem tsz226 : tsz Tryz.prog 226 = some 1 := by kernel_rfl
theorem tby226 : tby Tryz.prog 226 = some 8 := by kernel_rfl
theorem tag226 : tag Tryz.prog 226 = some false := by kernel_rfl
theorem isSl226 : isSlT Tryz.prog 226 = false := by kernel_rfl
theorem tzr226 : tzr Tryz.prog 226 = some [.im (.raw (.pointer none))] := by kernel_rfl
theorem tsz228 : tsz Tryz.prog 228 = some 2 := by kernel_rfl
theorem tby228 : tby Tryz.prog 228 = some 32 := by kernel_rfl
theorem tag228 : tag Tryz.prog 228 = some true := by kernel_rfl
theorem isSl228 : isSlT Tryz.prog 228 = false := by kernel_rfl
theorem tok228 : tok Tryz.prog 228 = true := by kernel_rfl
theorem zIn1 : tfd Tryz.prog 228 0 = some (0,226) := by kernel_rfl
theorem zIm1 : tfd Tryz.prog 228 1 = some (1,37) := by kernel_rfl
theorem tzr228 : tzr Tryz.prog 228 = some [.im (.raw (.pointer none)),.nil] := by kernel_rfl
theorem tsz234 : tsz Tryz.prog 234 = some 1 := by kernel_rfl
theorem tby234 : tby Tryz.prog 234 = some 8 := by kernel_rfl
theorem tag234 : tag Tryz.prog 234 = some false := by kernel_rfl
theorem isSl234 : isSlT Tryz.prog 234 = false := by kernel_rfl
theorem tzr234 : tzr Tryz.prog 234 = some [.im (.raw (.pointer none))] := by kernel_rfl
theorem tsz266 : tsz Tryz.prog 266 = some 1 := by kernel_rfl
theorem tby266 : tby Tryz.prog 266 = some 24 := by kernel_rfl
theorem tag266 : tag Tryz.prog 266 = some false := by kernel_rfl
theorem tel266 : tel Tryz.prog 266 = some 54 := by kernel_rfl
theorem isSl266 : isSlT Tryz.prog 266 = true := by kernel_rfl
theorem tzr266 : tzr Tryz.prog 266 = some [.nil] := by kernel_rfl
theorem tsz269 : tsz Tryz.prog 269 = some 1 := by kernel_rfl
theorem tby269 : tby Tryz.prog 269 = some 24 := by kernel_rfl
theorem tag269 : tag Tryz.prog 269 = some false := by kernel_rfl
theorem tel269 : tel Tryz.prog 269 = some 55 := by kernel_rfl
theorem isSl269 : isSlT Tryz.prog 269 = true := by kernel_rfl
theorem tzr269 : tzr Tryz.prog 269 = some [.nil] := by kernel_rfl
theorem tsz321 : tsz Tryz.prog 321 = some 1 := by kernel_rfl
theorem tby321 : tby Tryz.prog 321 = some 0 := by kernel_rfl
theorem tag321 : tag Tryz.prog 321 = some false := by kernel_rfl
theorem isSl321 : isSlT Tryz.prog 321 = false := by kernel_rfl
end Go.SX.Ty
namespace Go.SX
open Go Go.Proofs
attribute [go_sem] Ty.tsz192 Ty.tby192 Ty.tag192 Ty.tel192 Ty.isSl192 Ty.tzr192 Ty.tsz201 Ty.tby201 Ty.tag201 Ty.isSl201 Ty.tzr201 Tryz.underlying201 Ty.tsz215 Ty.tby215 Ty.tag215
attribute [go_sem] Ty.isSl215 Ty.tzr215 Tryz.underlying215 Ty.tsz243 Ty.tby243 Ty.tag243 Ty.isSl243 Ty.tsz247 Ty.tby247 Ty.tag247 Ty.isSl247 Ty.tzr247 Tryz.underlying247 Ty.tsz248
attribute [go_sem] Ty.tby248 Ty.tag248 Ty.isSl248 Ty.tsz226 Ty.tby226 Ty.tag226 Ty.isSl226 Ty.tzr226 Ty.tsz228 Ty.tby228 Ty.tag228 Ty.isSl228 Ty.tok228 Ty.zIn1 Ty.zIm1
attribute [go_sem] Ty.tzr228 Ty.tsz234 Ty.tby234 Ty.tag234 Ty.isSl234 Ty.tzr234 Ty.tsz266 Ty.tby266 Ty.tag266 Ty.tel266 Ty.isSl266 Ty.tzr266 Ty.tsz269 Ty.tby269 Ty.tag269 Ty.tel269
attribute [go_sem] Ty.isSl269 Ty.tzr269 Ty.tsz321 Ty.tby321 Ty.tag321 Ty.isSl321
end Go.SX
namespace Go.SX
open Go
noncomputable def ctLs : Ct := fam true (fun s : List UInt8 => ([.c (.im (.str ⟨s.toArray⟩))],[])) (fun _ => .one { val := .c (.im (.bool true)) })
theorem zQs1 (b : ByteArray) : ctLs.run [.c (.im (.str b))] [] = some (.one { val := .c (.im (.bool true)) }) := by
 have h := zAd (sc := true) (args := fun s : List UInt8 => ([D.c (.im (.str ⟨s.toArray⟩))],[])) (out := fun _ => .one { val := .c (.im (.bool true)) }) (by
   intro a b h
   simp only [Prod.mk.injEq,List.cons.injEq,D.c.injEq,C.im.injEq,I.str.injEq,ByteArray.mk.injEq,and_true] at h
   exact Array.toList_inj.2 h) b.data.toList
 have e : (⟨b.data.toList.toArray⟩ : ByteArray) = b := by simp
 simp only [e] at h
 exact h
end Go.SX
namespace Go.SX
open Go Go.Proofs
theorem hmixA : Tryz.prog.follows .mixedOrders = true := rfl
abbrev Pt := Nat × Nat
def rowsZ (l : List Pt) : List (List I) := l.map fun z => [.cpx .f32 z.1 z.2]
theorem zAa (l : List Pt) : (rowsZ l).length = l.length := by simp [rowsZ]
theorem zCt {l : List Pt} {k : Nat} {p : Pt} (h : l[k]? = some p) : (rowsZ l)[k]? = some [.cpx .f32 p.1 p.2] := by simp [rowsZ,h]
theorem zEf1 {l m : List Pt} (h : rowsZ l = rowsZ m) : l = m := by
 induction l generalizing m with
 | nil => cases m with | nil => rfl | cons => simp [rowsZ] at h
 | cons p l ih =>
   cases m with
   | nil => simp [rowsZ] at h
   | cons q m =>
     simp only [rowsZ,List.map_cons,List.cons.injEq,I.cpx.injEq,true_and,and_true] at h
     rw [ih h.2,show p = q from Prod.ext h.1.1 h.1.2]
theorem zBm {l m : List Pt} : (rowsZ l = rowsZ m) = (l = m) := propext ⟨zEf1,fun h => by rw [h]⟩
def rowsN (l : List Int) : List (List I) := l.map fun n => [.int .i64 n]
theorem zAb (l : List Int) : (rowsN l).length = l.length := by simp [rowsN]
theorem zFv {l : List Int} {k : Nat} {p : Int} (h : l[k]? = some p) : (rowsN l)[k]? = some [.int .i64 p] := by simp [rowsN,h]
theorem zEg1 {l m : List Int} (h : rowsN l = rowsN m) : l = m := by
 induction l generalizing m with
 | nil => cases m with | nil => rfl | cons => simp [rowsN] at h
 | cons p l ih =>
   cases m with
   | nil => simp [rowsN] at h
   | cons q m =>
     simp only [rowsN,List.map_cons,List.cons.injEq,I.int.injEq,true_and,and_true] at h
     rw [ih h.2,h.1]
theorem zBs {l m : List Int} : (rowsN l = rowsN m) = (l = m) := propext ⟨zEg1,fun h => by rw [h]⟩
theorem zBs1 (x : Nat) : bitsI .and .u32 (x : Int) 2147483647 = ((x % 2147483648 : Nat) : Int) := by
 have h : (BitVec.ofInt 32 (x : Int) &&& BitVec.ofInt 32 2147483647).toNat = x % 2147483648 := by
   rw [BitVec.toNat_and]
   have e1 : (BitVec.ofInt 32 (x : Int)).toNat = x % 2 ^ 32 := by simp
   have e2 : (BitVec.ofInt 32 2147483647).toNat = 2 ^ 31 - 1 := by decide
   rw [e1,e2,Nat.and_two_pow_sub_one_eq_mod]
   omega
 show IntKind.u32.wrap _ = _
 rw [show (IntKind.u32.bits) = 32 from rfl,h]
 show (((x % 2147483648 : Nat) : Int) % 4294967296) = _
 omega
theorem zSb {x : Nat} (h : isNaNb .f32 x = true) : 2139095040 < x % 2147483648 := zNo h
def isFin (x : Nat) : Bool := decide (x % 2147483648 ≤ 2139095039)
def isSubn (x : Nat) : Bool := decide (0 < x % 2147483648) && decide (x % 2147483648 < 8388608)
def flushF (x : Nat) : Nat := if isSubn x = true then x / 2147483648 % 2 * 2147483648 else x
theorem zOs {x : Nat} (h : isNaNb .f32 x = true) : isFin x = false := by have := zSb h; simp [isFin]; omega
def oBits (x : Nat) : Outs := if isNaNb .f32 x = true then .any { y : Nat // isNaNb .f32 y = true } (fun y => { val := .c (.im (.int .u32 y.1)) }) else .one { val := .c (.im (.int .u32 x)) }
noncomputable def zPj : Ct := fam true (fun x : Nat => ([.c (.im (.flt .f32 x))],[])) oBits
theorem zFc {x : Nat} (h : isNaNb .f32 x = false) : zPj.run [.c (.im (.flt .f32 x))] [] = some (.one { val := .c (.im (.int .u32 x)) }) := by
 have := zAd (sc := true) (args := fun x : Nat => ([D.c (.im (.flt .f32 x))],([] : List (List B)))) (out := oBits) (fun a b h => by simpa using h) x
 simpa [oBits,h,zPj] using this
theorem zVa {x : Nat} (h : isNaNb .f32 x = true) : zPj.run [.c (.im (.flt .f32 x))] [] = some (.any { y : Nat // isNaNb .f32 y = true } (fun y => { val := .c (.im (.int .u32 y.1)) })) := by
 have := zAd (sc := true) (args := fun x : Nat => ([D.c (.im (.flt .f32 x))],([] : List (List B)))) (out := oBits) (fun a b h => by simpa using h) x
 simpa [oBits,h,zPj] using this
theorem zMd1 : Nonempty { y : Nat // isNaNb .f32 y = true } = True := by
 simp only [eq_iff_iff,iff_true]
 exact ⟨⟨qn .f32,zVg .f32⟩⟩
theorem zSp : ExtLaw Tryz.prog 189 zPj := by
 refine zTc (fun x => ⟨rfl,by simp [scI],fun fz vs w hl hv => ?_⟩)
 match vs,hl with
 | [v],_ =>
   have h1 := hv 0 _ v rfl rfl
   obtain ⟨y,rfl,he⟩ := h1.flt_inv
   refine ⟨.int .u32 y,.int .u32 y,?_,?_,.int _ _⟩
   · rw [run_callFunc_extern (e := Extern.MathFloatBits.float32bits) Tryz.func189 (by kernel_rfl) (by kernel_rfl) (by kernel_rfl) (by kernel_rfl)]
     rfl
   · unfold oBits
     rcases he with rfl | ⟨h2,h3⟩
     · split
       · rename_i hn; exact ⟨⟨x,hn⟩,rfl⟩
       · rfl
     · rw [if_pos h2]; exact ⟨⟨y,h3⟩,rfl⟩
noncomputable def zIy : Ct := fam true (fun x : Nat => ([.c (.im (.int .u32 x))],[])) (fun x => .one { val := .c (.im (.flt .f32 x)) })
theorem zUx (x : Nat) : zIy.run [.c (.im (.int .u32 (x : Int)))] [] = some (.one { val := .c (.im (.flt .f32 x)) }) :=
 zAd (fun a b h => by simp only [Prod.mk.injEq,List.cons.injEq,D.c.injEq,C.im.injEq,I.int.injEq] at h; omega) x
theorem zWc : ExtLaw Tryz.prog 243 zIy := by
 refine zTc (fun x => ⟨rfl,by simp [scI],fun fz vs w hl hv => ?_⟩)
 match vs,hl with
 | [v],_ =>
   have h1 := hv 0 _ v rfl rfl
   cases h1.int_inv
   refine ⟨.float .f32 x,.flt .f32 x,?_,rfl,.flt _ _ _ (.inl rfl)⟩
   rw [run_callFunc_extern (e := Extern.MathFloatBits.float32frombits) Tryz.func243 (by kernel_rfl) (by kernel_rfl) (by kernel_rfl) (by kernel_rfl)]
   rfl
noncomputable def zPf : Ct := fam true (fun x : Nat => ([.c (.im (.flt .f32 x))],[])) (fun x => .one { val := .c (.im (.bool (decide ((x : Int) = 0)))) })
theorem zAo (x : Nat) : zPf.run [.c (.im (.flt .f32 x))] [] = some (.one { val := .c (.im (.bool (decide ((x : Int) = 0)))) }) := zAd (fun a b h => by simpa using h) x
theorem zFl1 {x : Nat} (h : isNaNb .f32 x = true) : ((x : Int) = 0) = False := by have := zSb h; simp; omega
theorem zHh : Law Tryz.prog 106 zPf := by
 refine zAi (zDa zSp zAf) hmixA Tryz.func106 rfl rfl (fun x => ⟨zAv rfl,by simp [Tryz.f106],?_⟩)
 cases hn : isNaNb .f32 x with
 | false =>
   try simp -dsimp (maxSteps := 1000000) only [go_sem,↓reduceIte,yab,Tryz.f106,zFc hn]
 | true =>
   try simp -dsimp (maxSteps := 1000000) only [go_sem,↓reduceIte,yab,Tryz.f106,zVa hn,zMd1,zFl1 hn]
   rintro ⟨y,hy⟩
   have := zSb hy
   simp [zFl1 hy]
   try omega
noncomputable def zPg : Ct := fam true (fun x : Nat => ([.c (.im (.flt .f32 x))],[])) (fun x => .one { val := .c (.im (.bool (isFin x))) })
theorem zCc (x : Nat) : zPg.run [.c (.im (.flt .f32 x))] [] = some (.one { val := .c (.im (.bool (isFin x))) }) := zAd (fun a b h => by simpa using h) x
theorem zMg1 (x : Nat) : decide (((x % 2147483648 : Nat) : Int) ≤ 2139095039) = isFin x := by unfold isFin; rw [decide_eq_decide]; omega
theorem zLr : Law Tryz.prog 205 zPg := by
 refine zAi (zDa zSp zAf) hmixA Tryz.func205 rfl rfl (fun x => ⟨zAv rfl,by simp [Tryz.f205],?_⟩)
 cases hn : isNaNb .f32 x with
 | false =>
   try simp -dsimp (maxSteps := 1000000) only [go_sem,↓reduceIte,yab,Tryz.f205,zFc hn,zBs1,zMg1]
 | true =>
   try simp -dsimp (maxSteps := 1000000) only [go_sem,↓reduceIte,yab,Tryz.f205,zVa hn,zMd1,zBs1,zMg1,zOs hn]
   rintro ⟨y,hy⟩
   simp [zOs hy]
end Go.SX
namespace Go.SX
open Go
theorem zVd {f : Ieee.Format} {neg : Bool} {R : Nat} (h : R < f.infRung) (hw : f.infRung ≤ f.signWeight) : (f.read (f.word neg R)).isInfinity = false := by
 have e : f.word neg R % f.signWeight = R := by
   unfold Ieee.Format.word
   have : R < f.signWeight := by omega
   cases neg
   · simp; exact Nat.mod_eq_of_lt this
   · simp; exact Nat.mod_eq_of_lt this
 unfold Ieee.Format.read
 simp only [e]
 by_cases h1 : R < f.binade
 · simp [h1,Ieee.Datum.isInfinity]
 · simp [h1,h,Ieee.Datum.isInfinity]
theorem zWw (sg : Bool) (m : Nat) (e : Int) (hm : m < 16777216) (h1 : -149 ≤ e) (h2 : e ≤ 104) : (Ieee.double.read (Ieee.double.write (.number sg m e))).isInfinity = false := by
 show (Ieee.double.read (Ieee.double.nearest sg m e)).isInfinity = false
 unfold Ieee.Format.nearest
 have hw : Ieee.double.infRung ≤ Ieee.double.signWeight := by decide
 by_cases h0 : m = 0
 · rw [if_pos h0]; exact zVd (by decide) hw
 · rw [if_neg h0]
   have hL : m.log2 < 24 := (Nat.log2_lt h0).2 hm
   have hlast : max (e + m.log2 - (Ieee.double.fractionBits : Int)) Ieee.double.leastPlace = e + m.log2 - 52 := by
     have e1 : (Ieee.double.fractionBits : Int) = 52 := rfl
     have e2 : Ieee.double.leastPlace = -1074 := by decide
     rw [e1,e2]; omega
   simp only [hlast]
   have d0 : (e + m.log2 - 52 - e).toNat = 0 := by omega
   have d1 : (e - (e + m.log2 - 52)).toNat = 52 - m.log2 := by omega
   rw [d0,d1]
   have hk : Ieee.Toward.even.cut sg (m <<< (52 - m.log2)) 0 = m <<< (52 - m.log2) := by simp [Ieee.Toward.cut,Nat.mod_one]
   rw [hk]
   have hlt : m <<< (52 - m.log2) < 2 ^ 53 := by
     rw [Nat.shiftLeft_eq]
     have h3 : m < 2 ^ (m.log2 + 1) := Nat.lt_log2_self
     have h4 : 2 ^ (m.log2 + 1) * 2 ^ (52 - m.log2) = 2 ^ 53 := by rw [← Nat.pow_add]; congr 1; omega
     have h5 : 0 < 2 ^ (52 - m.log2) := Nat.pow_pos (by decide)
     calc m * 2 ^ (52 - m.log2) < 2 ^ (m.log2 + 1) * 2 ^ (52 - m.log2) := Nat.mul_lt_mul_of_pos_right h3 h5
       _ = 2 ^ 53 := h4
   have e2 : Ieee.double.leastPlace = -1074 := by decide
   have e3 : Ieee.double.binade = 2 ^ 52 := rfl
   have e4 : Ieee.double.infRung = 2047 * 2 ^ 52 := by decide
   refine zVd ?_ hw
   rw [e2,e3,e4]
   have : (e + m.log2 - 52 - -1074).toNat ≤ 1149 := by omega
   have h6 : (e + m.log2 - 52 - -1074).toNat * 2 ^ 52 ≤ 1149 * 2 ^ 52 := Nat.mul_le_mul_right _ this
   exact Nat.lt_of_le_of_lt (Nat.min_le_left _ _) (Nat.lt_trans (Nat.add_lt_add_of_le_of_lt h6 hlt) (by decide))
def w64 (x : Nat) : Nat := (fconv .f32 x .f64).getD 0
theorem zOw (x : Nat) : fconv .f32 x .f64 = some (w64 x) := by
 have : ∃ r,fconv .f32 x .f64 = some r := by
   unfold fconv
   rw [if_neg (by decide)]
   cases hd : FloatKind.f32.decode x with
   | nan a b => exact ⟨_,rfl⟩
   | infinity a => exact ⟨_,rfl⟩
   | number sg m e =>
     have hb : m < 16777216 ∧ -149 ≤ e ∧ e ≤ 104 := by
       have hd' : Ieee.single.read x = .number sg m e := hd
       unfold Ieee.Format.read at hd'
       simp only at hd'
       have e1 : Ieee.single.binade = 8388608 := by decide
       have e2 : Ieee.single.infRung = 2139095040 := by decide
       have e3 : Ieee.single.leastPlace = -149 := by decide
       rw [e1,e2,e3] at hd'
       split at hd'
       · rename_i h; injection hd' with _ q1 q2; subst q1; subst q2; omega
       · split at hd'
         · rename_i h1 h2
           injection hd' with _ q1 q2
           have : x % Ieee.single.signWeight / 8388608 < 255 := by omega
           have : x % Ieee.single.signWeight % 8388608 < 8388608 := Nat.mod_lt _ (by decide)
           subst q1; subst q2; omega
         · split at hd' <;> cases hd'
     have := zWw sg m e hb.1 hb.2.1 hb.2.2
     simp only
     rw [if_neg (by
       show ¬ (Ieee.double.read (Ieee.double.write (.number sg m e))).isInfinity = true
       rw [this]; simp)]
     exact ⟨_,rfl⟩
 obtain ⟨r,hr⟩ := this
 simp [w64,hr]
end Go.SX
namespace Go.SX
open Go Go.Proofs
def nz (x : Nat) : Bool := decide ((x : Int) = 0)
def nzP (p : Pt) : Bool := nz p.1 && nz p.2
noncomputable def zLz : Ct := fam true (fun x : Pt => ([.c (.im (.cpx .f32 x.1 x.2))],[])) (fun x => .one { val := .c (.im (.bool (nzP x))) })
theorem zAk (x y : Nat) : zLz.run [.c (.im (.cpx .f32 x y))] [] = some (.one { val := .c (.im (.bool (nzP (x,y)))) }) := zAd (by
   intro a b h
   simp only [Prod.mk.injEq,List.cons.injEq,D.c.injEq,D.agg.injEq,C.im.injEq,I.cpx.injEq,I.flt.injEq,I.int.injEq,I.sl.injEq,I.bool.injEq,I.str.injEq,Int.natCast_inj,true_and,and_true] at h
   (try simp only [Prod.ext_iff,Subtype.ext_iff])
   (try simp only [zBm,zBs] at h)
   simp_all) (x,y)
theorem zJv : Law Tryz.prog 186 zLz := by
 refine zAi (zAc zHh zAf) hmixA Tryz.func186 rfl rfl (fun x => ⟨zAv rfl,by simp [Tryz.f186],?_⟩)
 simp only [nzP,nz]
 try simp -dsimp (maxSteps := 1000000) only [go_sem,↓reduceIte,yab,Tryz.f186,zAo]
 repeat' ((first | (with_reducible refine gS_d ?_ ?_) | (with_reducible refine zLa1 ?_ ?_) | (with_reducible refine gS_i ?_ ?_)) <;> intro hg <;> (try simp -dsimp (maxSteps := 1000000) only [go_sem,↓reduceIte,yab,Tryz.f186,zAo, *]))
 all_goals simp_all
noncomputable def zGr : Ct := fam true (fun x : Pt => ([.c (.im (.cpx .f32 x.1 x.2))],[])) (fun x => .one { val := .c (.im (.bool (isFin x.1 && isFin x.2))) })
theorem zDw (x y : Nat) : zGr.run [.c (.im (.cpx .f32 x y))] [] = some (.one { val := .c (.im (.bool (isFin x && isFin y))) }) := zAd (by
   intro a b h
   simp only [Prod.mk.injEq,List.cons.injEq,D.c.injEq,D.agg.injEq,C.im.injEq,I.cpx.injEq,I.flt.injEq,I.int.injEq,I.sl.injEq,I.bool.injEq,I.str.injEq,Int.natCast_inj,true_and,and_true] at h
   (try simp only [Prod.ext_iff,Subtype.ext_iff])
   (try simp only [zBm,zBs] at h)
   simp_all) (x,y)
theorem zKv : Law Tryz.prog 187 zGr := by
 refine zAi (zAc zLr zAf) hmixA Tryz.func187 rfl rfl (fun x => ⟨zAv rfl,by simp [Tryz.f187],?_⟩)
 try simp -dsimp (maxSteps := 1000000) only [go_sem,↓reduceIte,yab,Tryz.f187,zCc]
 repeat' ((first | (with_reducible refine gS_d ?_ ?_) | (with_reducible refine zLa1 ?_ ?_) | (with_reducible refine gS_i ?_ ?_)) <;> intro hg <;> (try simp -dsimp (maxSteps := 1000000) only [go_sem,↓reduceIte,yab,Tryz.f187,zCc, *]))
 all_goals simp_all
def eqPt (p q : Pt) : Bool := fcmp .eql .f32 p.1 q.1 && fcmp .eql .f32 p.2 q.2
noncomputable def zIk : Ct := fam true (fun x : Pt × Pt => ([.c (.im (.cpx .f32 x.1.1 x.1.2)),.c (.im (.cpx .f32 x.2.1 x.2.2))],[])) (fun x => .one { val := .c (.im (.bool (eqPt x.1 x.2))) })
theorem zNz (x y u v : Nat) : zIk.run [.c (.im (.cpx .f32 x y)),.c (.im (.cpx .f32 u v))] [] = some (.one { val := .c (.im (.bool (eqPt (x,y) (u,v)))) }) := zAd (by
   intro a b h
   simp only [Prod.mk.injEq,List.cons.injEq,D.c.injEq,D.agg.injEq,C.im.injEq,I.cpx.injEq,I.flt.injEq,I.int.injEq,I.sl.injEq,I.bool.injEq,I.str.injEq,Int.natCast_inj,true_and,and_true] at h
   (try simp only [Prod.ext_iff,Subtype.ext_iff])
   (try simp only [zBm,zBs] at h)
   simp_all) ((x,y),(u,v))
theorem zOp : Law Tryz.prog 246 zIk := by
 refine zAi zAf hmixA Tryz.func246 rfl rfl (fun x => ⟨zAv rfl,by simp [Tryz.f246],?_⟩)
 simp only [eqPt]
 try simp -dsimp (maxSteps := 1000000) only [go_sem,↓reduceIte,yab,Tryz.f246]
 repeat' ((first | (with_reducible refine gS_d ?_ ?_) | (with_reducible refine zLa1 ?_ ?_) | (with_reducible refine gS_i ?_ ?_)) <;> intro hg <;> (try simp -dsimp (maxSteps := 1000000) only [go_sem,↓reduceIte,yab,Tryz.f246, *]))
 all_goals simp_all
def addPt (p q : Pt) : Pt := (fop .add .f32 p.1 q.1,fop .add .f32 p.2 q.2)
def scaleF (p : Pt) (l : Nat) : Pt := (flushF (fop .mul .f32 p.1 l),flushF (fop .mul .f32 p.2 l))
def narrow (o : Nat) (x : Nat) : Nat := (fconv .f64 x .f32).getD (o % 4294967296)
theorem zHy1 {x : Nat} {K : Nat → Prop} {t : Tag K} : cK (fconv .f64 x .f32) K t = ∀ o,K (narrow o x) := by
 unfold cK narrow
 cases fconv .f64 x .f32 with
 | some r => simp
 | none => exact propext ⟨fun h o => h _ (Nat.mod_lt _ (by decide)),fun h r hr => by have := h r; simpa [Nat.mod_eq_of_lt hr] using this⟩
end Go.SX
