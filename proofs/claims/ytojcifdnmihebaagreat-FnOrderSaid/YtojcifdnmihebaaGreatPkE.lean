/-
  SX: the engine, parts U to Z, in one text. Plain definitions and theorems over any program.
  The types' sizes, fields, zero values. Printed by wip/tools/types.py.
  Numbers and points of single precision: the small functions.
  A number of single precision is one of double precision.
  Points: isNoughts, EqualPoints, add, scaled, DistanceOf, size, MultiplyPoints.
  place, IsTable.
  place, IsTable, NearestPoint.
  slices.Clone, copyTable, copyRing.
  copyRing, IsRing, isBare, IsModule, copyModule.
  No condition.
-/
import Derived.KernelRfl
import Derived.Below
import Derived.Attr
import Derived.Test.YtojcifdnmihebaaGreatProg
import Derived.Laws.Externs
import Derived.Test.YtojcifdnmihebaaGreatPkD
set_option linter.unusedVariables false
set_option linter.unusedSimpArgs false
namespace Go.SX
open Go Go.RowKit
variable {P : Program}
def Law (P : Program) (f : FuncId) (ct : Ct) : Prop := Good P f ct ∧ ∃ fn : Func, P.funcs[f]? = some fn ∧ (fn.name == "runtime.NumGoroutine") = false ∧ fn.body.isNone = false
def phi : List (FuncId × Ct) → FuncId → Option Ct
  | [], _ => none
  | (f, ct) :: l, k => if k = f then some ct else phi l k
theorem Env_nil : Env P (phi []) := fun f ct h => by cases h
theorem Env_cons {f : FuncId} {ct : Ct} {l : List (FuncId × Ct)} (h : Law P f ct) (hl : Env P (phi l)) : Env P (phi ((f, ct) :: l)) := fun k c hk => by
  simp only [phi] at hk
  split at hk
  · rename_i e; subst e; injection hk with hk; subst hk; exact .inl h
  · exact hl k c hk
theorem Env_consX {f : FuncId} {ct : Ct} {l : List (FuncId × Ct)} (h : ExtLaw P f ct) (hl : Env P (phi l)) : Env P (phi ((f, ct) :: l)) := fun k c hk => by
  simp only [phi] at hk
  split at hk
  · rename_i e; subst e; injection hk with hk; subst hk; exact .inr h
  · exact hl k c hk
theorem okD_im {sc : Bool} {k : Nat} {i : I} (h : scI i = true) : OkD sc k (.c (.im i)) := .c _ (.im _ (.inr h))
theorem okR_im {sc : Bool} {i : I} (h : scI i = true) : OkR sc { val := .c (.im i) } := ⟨okD_im h, by simp, by simp⟩
theorem okO {sc : Bool} {r : Res} (h : OkR sc r) : ∀ res, Outs.mem (.one r) res → OkR sc res := fun res hm => by cases hm; exact h
theorem okA {sc : Bool} {ι : Type} {f : ι → Res} (h : ∀ i, OkR sc (f i)) : ∀ res, Outs.mem (.any ι f) res → OkR sc res := fun res ⟨i, hm⟩ => hm ▸ h i
theorem okO_im {sc : Bool} {i : I} (h : scI i = true) : ∀ res, Outs.mem (.one { val := .c (.im i) }) res → OkR sc res := okO (okR_im h)
theorem okC_sc {sc : Bool} {k : Nat} {i : I} (h : scI i = true) : OkC sc k (.im i) := .im _ (.inr h)
theorem MvB_im (i : I) : MvB false (.t (.im i)) = True := eq_true (.t _ (.im _ (.inl rfl)))
theorem MvB_nil : MvB false (.t .nil) = True := eq_true (.t _ .nil)
theorem Mv_im (i : I) : Mv false (.im i) = True := eq_true (.im _ (.inl rfl))
theorem gS_tt (A B : Prop) (tA : Tag A) (tB : Tag B) : gS true true A B tA tB = A := by simp [gS]
theorem gS_ff (A B : Prop) (tA : Tag A) (tB : Tag B) : gS false false A B tA tB = A := by simp [gS]
theorem gS_tf (A B : Prop) (tA : Tag A) (tB : Tag B) : gS true false A B tA tB = B := by simp [gS]
theorem gS_ft (A B : Prop) (tA : Tag A) (tB : Tag B) : gS false true A B tA tB = B := by simp [gS]
theorem gS_i {b want : Bool} {A B : Prop} {tA : Tag A} {tB : Tag B} (h1 : b = want → A) (h2 : b = (!want) → B) : gS b want A B tA tB := ⟨h1, h2⟩
theorem gS_d {p : Prop} [Decidable p] {A B : Prop} {tA : Tag A} {tB : Tag B} (h1 : p → A) (h2 : ¬ p → B) : gS (decide p) true A B tA tB := ⟨fun h => h1 (by simpa using h), fun h => h2 (by simpa using h)⟩
theorem gS_dn {p : Prop} [Decidable p] {A B : Prop} {tA : Tag A} {tB : Tag B} (h1 : p → B) (h2 : ¬ p → A) : gS (decide p) false A B tA tB := ⟨fun h => h2 (by simpa using h), fun h => h1 (by simpa using h)⟩
theorem loop_i {pn : Nat} {body : (Ex → St → Prop) → St → Prop} {K : Ex → St → Prop} {tb : Tag body} {tK : Tag K} {st : St} {ι : Type} (F : ι → St) (μ : ι → Nat) (i0 : ι) (h0 : Sub pn st (F i0))
    (h : ∀ i, body (fun e st' => match e with
      | .norm => ∃ j, μ j < μ i ∧ Sub pn st' (F j)
      | e => K e st') (F i)) : loopP pn body K tb tK st := ⟨ι, F, μ, i0, h0, h⟩
theorem wrap_id {n : Int} (h1 : -9223372036854775808 ≤ n) (h2 : n ≤ 9223372036854775807) : IntKind.i64.wrap n = n := by rw [IntKind.wrap_i64]; omega
end Go.SX
set_option linter.unusedVariables false
set_option linter.unusedSimpArgs false
namespace Go.SX
open Go Go.RowKit
variable {P : Program}
def stayG (w : World) : Gh := { used := fun _ => False, rb := fun _ => 0, base := fun _ => 0, rc := fun _ => 0, own := fun _ => none, fz := fun b o => w.cell? ⟨b, o, none⟩ }
theorem law_calls {f : FuncId} {ct : Ct} (hL : Law P f ct) {ds : List D} {args : List Value} {i : I} (hi : scI i = true) (w : World) (hrun : ct.run ds [] = some (.one { val := .c (.im i) })) (hl : args.length = ds.length)
    (hv : ∀ (t : Nat) (d : D) (v : Value), ds[t]? = some d → args[t]? = some v → DV (stayG w) d v) :
    Calls P f args.toArray w (fun e w' => ∃ v, e = .returned v ∧ IR (fun _ _ => none) i v ∧ Below w.heap.size w w') := by
  refine (hL.1.at_ ds [] _ hrun ⟨stayG w, w, fun _ => 0⟩ args hl (fun n hn => hn.elim) ?_).mono fun e w' ⟨v, he, res, hm, hd⟩ => ⟨v, he, ?_⟩
  · refine ⟨⟨rfl, rfl, rfl, Nat.le_refl _, Gh.le.refl _, fun b _ h => ⟨h, rfl⟩, fun b n h => (by cases h), fun b o v _ h => .inl h⟩, rfl, fun b x h => (by cases h), fun b o v h => ⟨h, rfl⟩, fun t d ht => ?_, fun n r h => (by simp at h), fun n r b h => (by simp at h)⟩
    have hlt : t < args.length := by rw [hl]; exact (List.getElem?_eq_some_iff.1 ht).1
    exact ⟨args[t], by simp [hlt], hv t d _ ht (List.getElem?_eq_getElem hlt)⟩
  · cases hm
    obtain ⟨g, ns, S, H, a, d, hR, _, _, _, _, _, hre, hdv⟩ := hd
    simp only [reD, reC, Option.some.injEq] at hre
    subst hre
    refine ⟨?_, hR.fr.os, hR.fr.tape, hR.fr.output, hR.fr.size, fun k hk => (hR.fr.old k hk rfl).2⟩
    cases hdv with | c _ _ hc => cases hc with | im _ _ hir => exact hir.sc hi
end Go.SX
set_option linter.unusedVariables false
set_option linter.unusedSimpArgs false
namespace Go.SX
open Go Go.RowKit
variable {P : Program}
open Classical in
noncomputable def fam {α : Type} (sc : Bool) (args : α → List D × List (List B)) (out : α → Outs) : Ct :=
  ⟨sc, fun ds hs => if h : ∃ a, args a = (ds, hs) then some (out (Classical.choose h)) else none⟩
theorem fam_run {α : Type} {sc : Bool} {args : α → List D × List (List B)} {out : α → Outs} (hinj : ∀ a b, args a = args b → out a = out b) (a : α) : (fam sc args out).run (args a).1 (args a).2 = some (out a) := by
  have h : ∃ b, args b = ((args a).1, (args a).2) := ⟨a, rfl⟩
  simp only [fam]
  rw [dif_pos h]
  congr 1
  exact hinj _ _ (Classical.choose_spec h)
theorem fam_run' {α : Type} {sc : Bool} {args : α → List D × List (List B)} {out : α → Outs} (hinj : ∀ a b, args a = args b → a = b) (a : α) : (fam sc args out).run (args a).1 (args a).2 = some (out a) :=
  fam_run (fun a b h => by rw [hinj a b h]) a
theorem fam_law {Φ : FuncId → Option Ct} (hΦ : Env P Φ) (hm : P.follows .mixedOrders = true) {f : FuncId} {fn : Func} {c : Code} (hf : P.funcs[f]? = some fn) (hb : fn.body = some c) (hnm : (fn.name == "runtime.NumGoroutine") = false)
    {α : Type} {sc : Bool} {args : α → List D × List (List B)} {out : α → Outs}
    (h : ∀ a, (∀ res, (out a).mem res → OkR sc res) ∧ (args a).1.length ≤ fn.ntmps ∧ sx P Φ fn.ntmps (args a).2.length c (finK P fn.results.toList (args a).2.length (out a)) .mk (St.entry (args a).1 (args a).2)) : Law P f (fam sc args out) := by
  refine good_of hΦ hm hf hb hnm (fun ds hs o hr => ?_)
  simp only [fam] at hr
  split at hr
  · rename_i hex
    injection hr with hr
    subst hr
    have hc := Classical.choose_spec hex
    have := h (Classical.choose hex)
    rw [hc] at this
    exact this
  · cases hr
theorem fam_lawF {Φ : FuncId → Option Ct} (hΦ : Env P Φ) (hm : P.follows .mixedOrders = true) {f : FuncId} {fn : Func} {c : Code} (hf : P.funcs[f]? = some fn) (hb : fn.body = some c) (hnm : (fn.name == "runtime.NumGoroutine") = false)
    {α : Type} {sc : Bool} {args : α → List D × List (List B)} {out : α → Outs}
    (h : ∀ a, (∀ res, (out a).mem res → OkR sc res) ∧ (args a).1.length ≤ fn.ntmps ∧ sx P Φ fn.ntmps (args a).2.length c (finKF P fn.results.toList (args a).2.length (out a)) .mk (St.entry (args a).1 (args a).2)) : Law P f (fam sc args out) := by
  refine good_ofF hΦ hm hf hb hnm (fun ds hs o hr => ?_)
  simp only [fam] at hr
  split at hr
  · rename_i hex
    injection hr with hr
    subst hr
    have hc := Classical.choose_spec hex
    have := h (Classical.choose hex)
    rw [hc] at this
    exact this
  · cases hr
theorem fam_ext {f : FuncId} {α : Type} {sc : Bool} {args : α → List D × List (List B)} {out : α → Outs} (h : ∀ a, (args a).2 = [] ∧ (∀ d ∈ (args a).1, ∃ i, d = .c (.im i) ∧ scI i = true) ∧
    ∀ (fz : Nat → Nat → Option Value) (vs : List Value) (w : World), vs.length = (args a).1.length → (∀ (t : Nat) (i : I) (v : Value), (args a).1[t]? = some (.c (.im i)) → vs[t]? = some v → IR fz i v) →
      ∃ v z, (callFunc f vs.toArray).run P w = .ok (.value v) w ∧ (out a).mem { val := .c (.im z) } ∧ IR fz z v) : ExtLaw P f (fam sc args out) := by
  intro ds hs o hr
  simp only [fam] at hr
  split at hr
  · rename_i hex
    injection hr with hr
    subst hr
    have hc := Classical.choose_spec hex
    have := h (Classical.choose hex)
    rw [hc] at this
    exact this
  · cases hr
theorem sl_i {ops : List Oper} {Q : Prop} (h : slotsOk ops = true) (h2 : Q) : slotsOk ops = true ∧ Q := ⟨h, h2⟩
theorem ro_i {ops : List Oper} {n : Nat} {acc : List DI} {Q : Prop} (h : rootsOk ops n acc = true) (h2 : Q) : rootsOk ops n acc = true ∧ Q := ⟨h, h2⟩
theorem ro_e {ops : List Oper} {n : Nat} {acc : List DI} (h : rootsOk ops n acc = true) : rootsOk ops n acc = true := h
theorem finF_i {rs : List ResultVar} {pn : Nat} {o : Outs} {st : St} (fs : List Wk) (h : match folds pn fs st with | some st1 => finO P rs pn o st1 | none => False) : finF P rs pn o st := by
  split at h
  · rename_i st1 h1; exact ⟨fs, st1, h1, h⟩
  · exact h.elim
def tI (rows : List (List I)) : List (List T) := rows.map (fun r => r.map T.im)
theorem tI_len (rows : List (List I)) : (tI rows).length = rows.length := by simp [tI]
theorem tI_toI (ex : List Nat) (H : Nat → Option Root) (k : Nat) (rows : List (List I)) : mapO (mapO (toI ex H k)) (tI rows) = some rows := toI_rows ex H k rows
theorem tI_at {rows : List (List I)} {k : Nat} {r : List I} (h : rows[k]? = some r) : (tI rows)[k]? = some (r.map T.im) := by simp [tI, h]
end Go.SX
set_option linter.unusedVariables false
set_option linter.unusedSimpArgs false
namespace Go.SX
open Go Go.RowKit
variable {P : Program} {Φ : FuncId → Option Ct} {N pn nm : Nat} {S : Nat → Option D} {H : Nat → Option Root}
theorem mKs.{u} {α : Type u} (x : α) (K : α → Prop) (t : Tag K) : mK (some x) K t = K x := by simp only [mK]
theorem mCs (c : Ct) (K : Ct → Prop) (A : Unit → Prop) (t : Tag K) (u : Tag A) : mC (some c) K A t u = K c := by simp only [mC]
theorem mCn (K : Ct → Prop) (A : Unit → Prop) (t : Tag K) (u : Tag A) : mC none K A t u = A () := by simp only [mC]
theorem mKn.{u} {α : Type u} (K : α → Prop) (t : Tag K) : mK none K t = False := by simp only [mK]
theorem oKo (r : Res) (K : Res → Prop) (t : Tag K) : oK (.one r) K t = K r := by simp only [oK]
theorem oKa (ι : Type) (f : ι → Res) (K : Res → Prop) (t : Tag K) : oK (.any ι f) K t = (Nonempty ι ∧ ∀ i, K (f i)) := by simp only [oK]
theorem cKs (r : Nat) (K : Nat → Prop) (t : Tag K) : cK (some r) K t = K r := by simp only [cK]
theorem nKn (K : Bool → Prop) (t : Tag K) : nK .nil K t = K true := by simp only [nK]
theorem nKv (n sz lo len : Nat) (K : Bool → Prop) (t : Tag K) : nK (.view n sz lo len) K t = (K false ∧ (len = 0 → K true)) := by simp only [nK]
theorem nKs (sz : Nat) (rows : List (List I)) (K : Bool → Prop) (t : Tag K) : nK (.im (.sl sz rows)) K t = (K false ∧ (rows = [] → K true)) := by simp only [nK]
theorem plXn (K : List (List B) → Prop) (t : Tag K) : plX H [] K t = K [] := by simp only [plX]
def pM (c : Option (List B)) (A : List B → Prop) (_ : Tag A) : Prop := match c with
  | some c => (∀ x ∈ c, MvB false x) ∧ A c
  | none => False
theorem pMs (c : List B) (A : List B → Prop) (t : Tag A) : pM (some c) A t = ((∀ x ∈ c, MvB false x) ∧ A c) := by simp only [pM]
theorem plXc (p : Plc) (ex : List Plc) (K : List (List B) → Prop) (t : Tag K) : plX H (p :: ex) K t = pM (plCells H p) (fun c => plX H ex (fun hs => K (c :: hs)) .mk) .mk := by
  simp only [plX, pM]; cases plCells H p <;> rfl
theorem xskip {K : Ex → St → Prop} {t0 : Tag K} {st : St} : sx P Φ N pn .skip K t0 st = K .norm st := by rw [sx] <;> rfl
theorem xreg0 {K : Ex → St → Prop} {t0 : Tag K} {st : St} {id : Nat} {ops : Array Oper} : sx P Φ N pn (.region id ops false) K t0 st = regX P Φ N ops.toList ops.toList st (fun st' => K .norm st') .mk := by rw [sx] <;> rfl
theorem xreg1 {K : Ex → St → Prop} {t0 : Tag K} {st : St} {id : Nat} {ops : Array Oper} : sx P Φ N pn (.region id ops true) K t0 st =
    (slotsOk ops.toList = true ∧ drX P Φ N st.n ops.toList ops.toList 0 st [] (fun st' acc => rootsOk ops.toList st.n acc = true ∧ K .norm ⟨st'.s, st'.h, st.n + 8 * ops.toList.length⟩) .mk) := by rw [sx] <;> rfl
theorem xseq {K : Ex → St → Prop} {t0 : Tag K} {st : St} {x y : Code} : sx P Φ N pn (.seq x y) K t0 st = sx P Φ N pn x (fun e st' => match e with
      | .norm => sx P Φ N pn y K t0 st'
      | e => K e st') .mk st := by rw [sx] <;> rfl
theorem xcond {K : Ex → St → Prop} {t0 : Tag K} {st : St} {c : Operand} {x y : Code} : sx P Φ N pn (.cond c x y) K t0 st = (match evI (lk st.s) c with
    | some (.bool b) => gS b true (sx P Φ N pn x K t0 st) (sx P Φ N pn y K t0 st) .mk .mk
    | _ => False) := by rw [sx] <;> rfl
theorem xblock {K : Ex → St → Prop} {t0 : Tag K} {st : St} {id : Nat} {c : Code} : sx P Φ N pn (.block id c) K t0 st = sx P Φ N pn c (fun e st' => match e with
      | .exit id' => if id' = id then K .norm st' else K (.exit id') st'
      | e => K e st') .mk st := by rw [sx] <;> rfl
theorem xloop {K : Ex → St → Prop} {t0 : Tag K} {st : St} {c : Code} : sx P Φ N pn (.loop c) K t0 st = loopP pn (fun K' st' => sx P Φ N pn c K' .mk st') K .mk .mk st := by rw [sx] <;> rfl
theorem xscope {K : Ex → St → Prop} {t0 : Tag K} {st : St} {c : Code} : sx P Φ N pn (.scope c) K t0 st = sx P Φ N pn c K t0 st := by rw [sx] <;> rfl
theorem xexit {K : Ex → St → Prop} {t0 : Tag K} {st : St} {id : Nat} : sx P Φ N pn (.exit id) K t0 st = K (.exit id) st := by rw [sx] <;> rfl
theorem xret {K : Ex → St → Prop} {t0 : Tag K} {st : St} : sx P Φ N pn .ret K t0 st = K .ret st := by rw [sx] <;> rfl
theorem xr_nil {ops : List Oper} {st : St} {K : St → Prop} {t0 : Tag K} : regX P Φ N ops [] st K t0 = K st := by rw [regX] <;> rfl
theorem xr_none {ops r : List Oper} {dst : Option Nat} {op : Op} {ty : TypeId} {pos : String} {after : Array Edge} {s : List (Nat × Option D)} {h : List (Nat × Option Root)} {n : Nat} {K : St → Prop} {t0 : Tag K} :
    regX P Φ N ops ({ dst := dst, op := op, type := ty, pos := pos, after := after, guard := none } :: r) ⟨s, h, n⟩ K t0 =
      (dOk N dst ∧ opR P Φ n (lk s) (lk h) op (fun val wr cnt => regX P Φ N ops r ⟨putS dst val s, insW wr h, n + cnt⟩ K t0) .mk) := by rw [regX] <;> rfl
def gV (ops : List Oper) (s : List (Nat × Option D)) (j : Nat) : Option (Option Bool) := match gSlot ops j with
  | some t => match lk s t with
    | some (.c (.im (.bool b))) => some (some b)
    | some (.tup _) => some none
    | _ => none
  | none => none
def gM (v : Option (Option Bool)) (want : Bool) (A B : Prop) (tA : Tag A) (tB : Tag B) : Prop := match v with
  | some (some b) => gS b want A B tA tB
  | some none => B
  | none => False
theorem gM_tt (A B : Prop) (tA : Tag A) (tB : Tag B) : gM (some (some true)) true A B tA tB = A := by unfold gM; exact gS_tt A B tA tB
theorem gM_ff (A B : Prop) (tA : Tag A) (tB : Tag B) : gM (some (some false)) false A B tA tB = A := by unfold gM; exact gS_ff A B tA tB
theorem gM_tf (A B : Prop) (tA : Tag A) (tB : Tag B) : gM (some (some true)) false A B tA tB = B := by unfold gM; exact gS_tf A B tA tB
theorem gM_ft (A B : Prop) (tA : Tag A) (tB : Tag B) : gM (some (some false)) true A B tA tB = B := by unfold gM; exact gS_ft A B tA tB
theorem gM_u (want : Bool) (A B : Prop) (tA : Tag A) (tB : Tag B) : gM (some none) want A B tA tB = B := by unfold gM; rfl
theorem gM_s (b want : Bool) (A B : Prop) (tA : Tag A) (tB : Tag B) : gM (some (some b)) want A B tA tB = gS b want A B tA tB := by unfold gM; rfl
theorem xr_some {ops r : List Oper} {dst : Option Nat} {op : Op} {ty : TypeId} {pos : String} {after : Array Edge} {s : List (Nat × Option D)} {h : List (Nat × Option Root)} {n : Nat} {K : St → Prop} {t0 : Tag K} {j : Nat} {want : Bool} :
    regX P Φ N ops ({ dst := dst, op := op, type := ty, pos := pos, after := after, guard := some (j, want) } :: r) ⟨s, h, n⟩ K t0 =
      (dOk N dst ∧ gM (gV ops s j) want (opR P Φ n (lk s) (lk h) op (fun val wr cnt => regX P Φ N ops r ⟨putS dst val s, insW wr h, n + cnt⟩ K t0) .mk) (regX P Φ N ops r ⟨putS dst (some (.tup [])) s, h, n⟩ K t0) .mk .mk) := by
  rw [regX]
  simp only [gV, gM, St.eff]
  congr 1
  cases gSlot ops j with
  | none => rfl
  | some t =>
    cases h1 : lk s t with
    | none => simp [h1]
    | some d =>
      cases d with
      | c x =>
        cases x with
        | im i => cases i <;> simp [h1, insW]
        | _ => simp [h1]
      | agg xs => simp [h1]
      | tup ds => simp [h1, insW]
theorem xd_nil {ops : List Oper} {n0 i : Nat} {st : St} {acc : List DI} {K : St → List DI → Prop} {t0 : Tag K} : drX P Φ N n0 ops [] i st acc K t0 = K st acc := by rw [drX] <;> rfl
theorem xd_none {ops r : List Oper} {dst : Option Nat} {op : Op} {ty : TypeId} {pos : String} {after : Array Edge} {s : List (Nat × Option D)} {h : List (Nat × Option Root)} {n n0 i : Nat} {acc : List DI} {K : St → List DI → Prop} {t0 : Tag K} :
    drX P Φ N n0 ops ({ dst := dst, op := op, type := ty, pos := pos, after := after, guard := none } :: r) i ⟨s, h, n⟩ acc K t0 =
      (dOk N dst ∧ opR P Φ (n0 + 8 * i) (resF (opTm op ++ []) (lk s)) (resH n0 (isCallO op) (rdX (lk s) (lk h) op) (lk h)) op (fun val wr cnt => cnt ≤ 8 ∧ drX P Φ N n0 ops r (i + 1) ⟨putS dst val s, insW wr h, n⟩ (⟨i, isCallO op, rdX (lk s) (lk h) op, wr.map (·.1)⟩ :: acc) K t0) .mk) := by rw [drX] <;> rfl
theorem xd_some {ops r : List Oper} {dst : Option Nat} {op : Op} {ty : TypeId} {pos : String} {after : Array Edge} {s : List (Nat × Option D)} {h : List (Nat × Option Root)} {n n0 i : Nat} {acc : List DI} {K : St → List DI → Prop} {t0 : Tag K} {j : Nat} {want : Bool} :
    drX P Φ N n0 ops ({ dst := dst, op := op, type := ty, pos := pos, after := after, guard := some (j, want) } :: r) i ⟨s, h, n⟩ acc K t0 =
      (dOk N dst ∧ match gSlot ops j with
        | some t => match lk s t with
          | some (.c (.im (.bool b))) => gS b want (opR P Φ (n0 + 8 * i) (resF (opTm op ++ (match gSlot ops j with | some t => [t] | none => [])) (lk s)) (resH n0 (isCallO op) (rdX (lk s) (lk h) op) (lk h)) op (fun val wr cnt => cnt ≤ 8 ∧ drX P Φ N n0 ops r (i + 1) ⟨putS dst val s, insW wr h, n⟩ (⟨i, isCallO op, rdX (lk s) (lk h) op, wr.map (·.1)⟩ :: acc) K t0) .mk)
              (drX P Φ N n0 ops r (i + 1) ⟨putS dst (some (.tup [])) s, h, n⟩ (⟨i, false, [], []⟩ :: acc) K t0) .mk .mk
          | some (.tup _) => drX P Φ N n0 ops r (i + 1) ⟨putS dst (some (.tup [])) s, h, n⟩ (⟨i, false, [], []⟩ :: acc) K t0
          | _ => False
        | none => False) := by rw [drX] <;> rfl
theorem MvRb {cells : List B} : MvR false (.box cells) = (∀ x ∈ cells, MvB false x) := by simp only [MvR]
theorem MvRn {sz : Nat} : MvR false (.arr sz []) = True := by simp [MvR]
theorem MvRt {sz : Nat} {rows : List (List I)} : MvR false (.arr sz (tI rows)) = True := by
  refine eq_true ?_
  intro r hr t ht
  simp only [tI, List.mem_map] at hr
  obtain ⟨r0, hr0, rfl⟩ := hr
  simp only [List.mem_map] at ht
  obtain ⟨i, hi, rfl⟩ := ht
  exact .im _ (.inl rfl)
section ops
variable {K : Option D → List (Nat × Option Root) → Nat → Prop} {tg : Tag K}
theorem xload {t : TypeId} {x : Operand} : opR P Φ nm S H (.load t x) K tg = (match ldJs P S H t x with
    | some (n, i, r, js) => mK (hoistJ r i js nm) (fun p => mK (qv P S (apH ((n, some p.1) :: addR nm p.2) H) (.load t x)) (fun d => K (some d) ((n, some p.1) :: addR nm p.2) p.2.length) .mk) .mk
    | none => mK (loadD P t S H x) (fun d => K (some d) [] 0) .mk) := by rw [opR] <;> rfl
theorem xstore {t : TypeId} {x y : Operand} : opR P Φ nm S H (.store t x y) K tg = mK (storeH P t S H x y) (fun p => K none [(p.1, some p.2)] 0) .mk := by rw [opR] <;> rfl
theorem xalloc {t : TypeId} : opR P Φ nm S H (.alloc t) K tg = mK (mkOp P S (.alloc t) nm) (fun p => K (some p.1) [(nm, some p.2)] 1) .mk := by rw [opR] <;> rfl
theorem xbox {t : TypeId} {x : Operand} : opR P Φ nm S H (.box t x) K tg = mK (mkOp P S (.box t x) nm) (fun p => K (some p.1) [(nm, some p.2)] 1) .mk := by rw [opR] <;> rfl
theorem xbuildS {t : TypeId} {l : Nat} {ps : Array (Nat × Operand)} : opR P Φ nm S H (.buildSlice t l ps) K tg = mK (mkOp P S (.buildSlice t l ps) nm) (fun p => K (some p.1) [(nm, some p.2)] 1) .mk := by rw [opR] <;> rfl
theorem xmakeS {t : TypeId} {l c : Operand} : opR P Φ nm S H (.makeSlice t l c) K tg = mK (mkOp P S (.makeSlice t l c) nm) (fun p => K (some p.1) [(nm, some p.2)] 1) .mk := by rw [opR] <;> rfl
theorem xappend {s x : Operand} {t t' : TypeId} : opR P Φ nm S H (.call { callee := .builtin .append, args := #[s, x], argTypes := #[t, t'] }) K tg = (t = t' ∧ if isTail S s = true then mK (appendT P t S H s x) (fun p => p.rb.length * p.bytes ≤ 140737488355328 ∧ K (some (.c (.view nm p.sz 0 p.len))) [(nm, some (.arr p.sz p.ra)), (p.n, none)] 1 ∧ K (some (.c (.view nm p.sz p.lo p.len))) [(nm, some (.arr p.sz p.rb)), (p.n, none)] 1) .mk
    else mK (appendH P t S H s x) (fun p => p.2.2.1.length * p.2.1 ≤ 140737488355328 ∧
        K (some (.c (.view nm p.1 0 p.2.2.1.length))) ((nm, some (.arr p.1 p.2.2.1)) :: dropN p.2.2.2) 1) .mk) := by rw [opR] <;> rfl
theorem xcall {f : Operand} {args : Array Operand} {ts : Array TypeId} : opR P Φ nm S H (.call { callee := .value f, args := args, argTypes := ts }) K tg = (match evC S f with
    | some (.fn (.func k) caps) => mC (Φ k) (fun ct => mK (evDs S args.toList) (fun ds0 => mK (some (frzL ct.sc H ds0 [])) (fun fz => mK (some (preW H (lentPs H (exDs (fz.1 ++ caps.map D.c))) fz.2)) (fun ws => plX (apH ws H) (exDs (fz.1 ++ caps.map D.c)) (fun hs =>
        mK (mapO (loD (exDs (fz.1 ++ caps.map D.c)) (if ct.sc then apH ws H else fun _ => none)) (fz.1 ++ caps.map D.c)) (fun ds' => mK (ct.run ds' hs) (fun os => oK os (fun res => mK (reD (fun n => nm + n) res.val) (fun d =>
          K (some d) (addR nm res.roots ++ (addP (apH ws H) (exDs (fz.1 ++ caps.map D.c)) res.places ++ ws)) res.roots.length) .mk) .mk) .mk) .mk) .mk) .mk) .mk) .mk) (fun _ => SortLaw P k ∧ mK (sortH S H caps args.toList) (fun p => K (some (.tup [])) [(p.1, some p.2)] 0) .mk) .mk .mk
    | _ => False) := by rw [opR] <;> rfl
theorem xconv {s d : TypeId} {x : Operand} : opR P Φ nm S H (.convert s d x) K tg = (match P.underlying d, evI S x with
    | some (.float .f32), some (.flt .f64 b) => (P.underlying s).isSome = true ∧ cK (fconv .f64 b .f32) (fun n => K (some (.c (.im (.flt .f32 n)))) [] 0) .mk
    | _, _ => mK (qv P S H (.convert s d x)) (fun d => K (some d) [] 0) .mk) := by rw [opR]; split <;> simp_all
theorem xnil {op : BinOp} {t ty : TypeId} {x : Operand} : opR P Φ nm S H (.binOp op t x (.const (.slice none 0 0)) ty) K tg = (isSlT P t = true ∧ mK (evC S x) (fun c => nK c (fun b => mK (nilOp op b) (fun b => K (some (.c (.im (.bool b)))) [] 0) .mk) .mk) .mk) := by rw [opR] <;> rfl
theorem xbinT {op : BinOp} {t ty : TypeId} {x : Operand} {y : Nat} : opR P Φ nm S H (.binOp op t x (.tmp y) ty) K tg = mK (qv P S H (.binOp op t x (.tmp y) ty)) (fun d => K (some d) [] 0) .mk := by rw [opR] <;> (intros; simp_all)
theorem xbinI {op : BinOp} {t ty : TypeId} {x : Operand} {k : IntKind} {y : Int} : opR P Φ nm S H (.binOp op t x (.const (.int k y)) ty) K tg = mK (qv P S H (.binOp op t x (.const (.int k y)) ty)) (fun d => K (some d) [] 0) .mk := by rw [opR] <;> (intros; simp_all)
theorem xbinF {op : BinOp} {t ty : TypeId} {x : Operand} {k : FloatKind} {y : Nat} : opR P Φ nm S H (.binOp op t x (.const (.float k y)) ty) K tg = mK (qv P S H (.binOp op t x (.const (.float k y)) ty)) (fun d => K (some d) [] 0) .mk := by rw [opR] <;> (intros; simp_all)
theorem xbinC {op : BinOp} {t ty : TypeId} {x : Operand} {k : FloatKind} {y z : Nat} : opR P Φ nm S H (.binOp op t x (.const (.complex k y z)) ty) K tg = mK (qv P S H (.binOp op t x (.const (.complex k y z)) ty)) (fun d => K (some d) [] 0) .mk := by rw [opR] <;> (intros; simp_all)
theorem xbinB {op : BinOp} {t ty : TypeId} {x : Operand} {y : Bool} : opR P Φ nm S H (.binOp op t x (.const (.bool y)) ty) K tg = mK (qv P S H (.binOp op t x (.const (.bool y)) ty)) (fun d => K (some d) [] 0) .mk := by rw [opR] <;> (intros; simp_all)
theorem xbinS {op : BinOp} {t ty : TypeId} {x : Operand} {y : ByteArray} : opR P Φ nm S H (.binOp op t x (.const (.string y)) ty) K tg = mK (qv P S H (.binOp op t x (.const (.string y)) ty)) (fun d => K (some d) [] 0) .mk := by rw [opR] <;> (intros; simp_all)
theorem xmove {x : Operand} : opR P Φ nm S H (.move x) K tg = mK (ev S x) (fun d => K (some d) [] 0) .mk := by rw [opR] <;> (intros; simp_all [qv])
theorem xassign {x : Operand} : opR P Φ nm S H (.assign x) K tg = mK (ev S x) (fun d => K (some d) [] 0) .mk := by rw [opR] <;> (intros; simp_all [qv])
theorem xpick {c x y : Operand} : opR P Φ nm S H (.pick c x y) K tg = mK (qv P S H (.pick c x y)) (fun d => K (some d) [] 0) .mk := by rw [opR] <;> (intros; simp_all)
theorem xnilC {x : Operand} : opR P Φ nm S H (.nilCheck x) K tg = mK (qv P S H (.nilCheck x)) (fun d => K (some d) [] 0) .mk := by rw [opR] <;> (intros; simp_all)
theorem xunOp {op : UnOp} {t : TypeId} {x : Operand} : opR P Φ nm S H (.unOp op t x) K tg = mK (qv P S H (.unOp op t x)) (fun d => K (some d) [] 0) .mk := by rw [opR] <;> (intros; simp_all)
theorem xfieldA {t : TypeId} {x : Operand} {f : Nat} : opR P Φ nm S H (.fieldAddr t x f) K tg = mK (fieldAddrD P t S x f) (fun d => K (some d) [] 0) .mk := by rw [opR] <;> (intros; simp_all [qv])
theorem xfield {t : TypeId} {x : Operand} {f : Nat} : opR P Φ nm S H (.field t x f) K tg = mK (fieldD P t S x f) (fun d => K (some d) [] 0) .mk := by rw [opR] <;> (intros; simp_all [qv])
theorem xindexA {t : TypeId} {x i : Operand} : opR P Φ nm S H (.indexAddr t x i) K tg = mK (indexAddrD P t S x i) (fun d => K (some d) [] 0) .mk := by rw [opR] <;> (intros; simp_all [qv])
theorem xslice {t : TypeId} {x : Operand} {lo hi : Option Operand} : opR P Φ nm S H (.slice t x lo hi none) K tg = mK (sliceX P t S x lo hi) (fun d => K (some d) [] 0) .mk := by rw [opR] <;> (intros; simp_all [qv])
theorem xindex {t : TypeId} {x i : Operand} : opR P Φ nm S H (.index t x i) K tg = mK (indexS P S t x i) (fun d => K (some d) [] 0) .mk := by rw [opR] <;> (intros; simp_all [qv])
theorem xextract {x : Operand} {k : Nat} : opR P Φ nm S H (.extract x k) K tg = mK (qv P S H (.extract x k)) (fun d => K (some d) [] 0) .mk := by rw [opR] <;> (intros; simp_all)
theorem xmakeF {f : Fn} {first caps : Array Operand} : opR P Φ nm S H (.makeFunc f first caps) K tg = mK (qv P S H (.makeFunc f first caps)) (fun d => K (some d) [] 0) .mk := by rw [opR] <;> (intros; simp_all)
theorem xbuild {t : TypeId} {ps : Array (Nat × Operand)} : opR P Φ nm S H (.build t ps) K tg = mK (qv P S H (.build t ps)) (fun d => K (some d) [] 0) .mk := by rw [opR] <;> (intros; simp_all)
theorem xlen {x : Operand} {t : TypeId} : opR P Φ nm S H (.call { callee := .builtin .len, args := #[x], argTypes := #[t] }) K tg = mK (lenD P t (ev S x)) (fun d => K (some d) [] 0) .mk := by rw [opR] <;> (intros; simp_all [qv])
theorem xclear {x : Operand} {t : TypeId} : opR P Φ nm S H (.call { callee := .builtin .clear, args := #[x], argTypes := #[t] }) K tg = mK (clearH P t S H x) (fun p => K (some (.tup [])) [(p.1, some p.2)] 0) .mk := by rw [opR] <;> rfl
theorem xreal {x : Operand} {ts : Array TypeId} : opR P Φ nm S H (.call { callee := .builtin .real, args := #[x], argTypes := ts }) K tg = mK (qv P S H (.call { callee := .builtin .real, args := #[x], argTypes := ts })) (fun d => K (some d) [] 0) .mk := by rw [opR] <;> (intros; simp_all)
theorem ximag {x : Operand} {ts : Array TypeId} : opR P Φ nm S H (.call { callee := .builtin .imag, args := #[x], argTypes := ts }) K tg = mK (qv P S H (.call { callee := .builtin .imag, args := #[x], argTypes := ts })) (fun d => K (some d) [] 0) .mk := by rw [opR] <;> (intros; simp_all)
theorem xcomplex {x y : Operand} {ts : Array TypeId} : opR P Φ nm S H (.call { callee := .builtin .complex, args := #[x, y], argTypes := ts }) K tg = mK (qv P S H (.call { callee := .builtin .complex, args := #[x, y], argTypes := ts })) (fun d => K (some d) [] 0) .mk := by rw [opR] <;> (intros; simp_all)
theorem xmax {x y : Operand} {ts : Array TypeId} : opR P Φ nm S H (.call { callee := .builtin .max, args := #[x, y], argTypes := ts }) K tg = mK (qv P S H (.call { callee := .builtin .max, args := #[x, y], argTypes := ts })) (fun d => K (some d) [] 0) .mk := by rw [opR] <;> (intros; simp_all)
theorem xmin {x y : Operand} {ts : Array TypeId} : opR P Φ nm S H (.call { callee := .builtin .min, args := #[x, y], argTypes := ts }) K tg = mK (qv P S H (.call { callee := .builtin .min, args := #[x, y], argTypes := ts })) (fun d => K (some d) [] 0) .mk := by rw [opR] <;> (intros; simp_all)
end ops
end Go.SX
set_option linter.unusedVariables false
set_option linter.unusedSimpArgs false
namespace Go.SX
open Go
variable {P : Program}
inductive NlC : C → C → Prop where
  | same (x : C) : NlC x x
  | nil (sz : Nat) : NlC .nil (.im (.sl sz []))
inductive NlD : D → D → Prop where
  | same (d : D) : NlD d d
  | c (x y : C) (h : NlC x y) : NlD (.c x) (.c y)
  | agg (xs ys : List C) (hl : xs.length = ys.length) (h : ∀ (j : Nat) (x y : C), xs[j]? = some x → ys[j]? = some y → NlC x y) : NlD (.agg xs) (.agg ys)
inductive NlDs : List D → List D → Prop where
  | nil : NlDs [] []
  | cons {d d' : D} {l l' : List D} (h : NlD d d') (hl : NlDs l l') : NlDs (d :: l) (d' :: l')
theorem NlDs.len {l l' : List D} (h : NlDs l l') : l.length = l'.length := by
  induction h with
  | nil => rfl
  | cons _ _ ih => simp [ih]
theorem NlDs.at_ {l l' : List D} (h : NlDs l l') : ∀ (t : Nat) (d' : D), l'[t]? = some d' → ∃ d, l[t]? = some d ∧ NlD d d' := by
  induction h with
  | nil => intro t d' h; simp at h
  | cons h _ ih =>
    intro t d' ht
    cases t with
    | zero => simp at ht; subst ht; exact ⟨_, rfl, h⟩
    | succ t => simp at ht; simpa using ih t d' ht
end Go.SX
set_option linter.unusedVariables false
namespace Go.SX
open Go
theorem lentR_nil {sz : Nat} : lentR (.arr sz []) = [] := by simp only [lentR, List.flatMap_nil]
theorem lentR_cons {sz : Nat} {r : List T} {rows : List (List T)} : lentR (.arr sz (r :: rows)) = r.flatMap lentT ++ lentR (.arr sz rows) := by simp only [lentR, List.flatMap_cons]
theorem lentR_app {sz : Nat} {r rows : List (List T)} : lentR (.arr sz (r ++ rows)) = lentR (.arr sz r) ++ lentR (.arr sz rows) := by simp only [lentR, List.flatMap_append]
theorem lentR_box {cs : List B} : lentR (.box cs) = [] := by simp only [lentR]
theorem lentR_tI {sz : Nat} {rows : List (List I)} : lentR (.arr sz (tI rows)) = [] := by
  simp only [lentR, tI, List.flatMap_eq_nil_iff, List.mem_map]
  rintro r ⟨q, _, rfl⟩ t ht
  obtain ⟨i, _, rfl⟩ := List.mem_map.1 ht
  rfl
attribute [go_sem] xskip xreg0 xreg1 xseq xcond xblock xloop xscope xexit xret xr_nil xr_none xr_some xd_nil xd_none xd_some xload xstore xalloc xbox xbuildS xmakeS xappend xcall xconv xnil
attribute [go_sem] xbinT xbinI xbinF xbinC xbinB xbinS xmove xassign xpick xnilC xunOp xfieldA xfield xindexA xslice xextract xmakeF xbuild xlen xreal ximag xcomplex xmax xmin oKo oKa nKn nKv
attribute [go_sem] nKs nilOp cKs lentCs lentPs preW plXn plXc pMs finO finKF folds wk1 ldJs ownJs hoistJ apH qv ev evC evI evIs evCs evDs cV lk ins insW dOk gSlot mKs mKn mK_ite St.eff
attribute [go_sem] St.entry entS putS binI unI eqBo eqAgD convI finK finX mapO resD resV reD reC plK mkOp dCs toB toT mapT mapTs storeH Root.sz Root.get Root.setB Root.setT setCs loadD loadCs
attribute [go_sem] loadIs nI bC mkD fieldAddrD fieldD indexAddrD sliceD optI lenD biD buildD partsD setL rowsD exDs exD exC exC1 dd exN plCells plBack unB loD loC toI pos phi addR addP dropN
attribute [go_sem] mCs mCn isTail frzPs boxI sortH imTN lentsT nones xclear clearH frzL frzD imT frzLs frC frT xindex indexS sliceX strD u8L
attribute [go_sem] upd gV rdX nestH lentT lentR_nil lentR_cons lentR_tI lentR_box lentR_app gM_tt gM_ff gM_tf gM_ft gM_u gM_s gS_tt gS_ff gS_tf gS_ft rdN vwO vwC vwC1 isCallO lookT opTm oT resF resH memb rtOk List.map_map MvB_im MvB_nil Mv_im
attribute [go_sem] List.getElem?_cons_zero List.getElem?_cons_succ List.getElem?_nil id true_and and_true Nat.zero_add Nat.add_zero Bool.not_true Bool.not_false List.length_nil
attribute [go_sem] List.length_cons List.map_cons List.map_nil List.append_nil List.nil_append List.cons_append List.flatMap_cons List.flatMap_nil List.mem_cons List.not_mem_nil
attribute [go_sem] List.replicate List.set_cons_zero List.set_cons_succ List.forall_mem_cons decide_eq_true_eq decide_true decide_false not_false_eq_true not_true_eq_false
attribute [go_sem] and_false false_and and_self true_or or_true false_or or_false Option.some.injEq D.c.injEq D.agg.injEq D.tup.injEq C.im.injEq I.bool.injEq I.int.injEq I.flt.injEq
attribute [go_sem] I.cpx.injEq I.str.injEq List.cons.injEq Bool.false_eq_true implies_true Bool.true_eq_false if_false if_true forall_const exists_const forall_eq forall_eq_or_imp
attribute [go_sem] Option.isSome_some Option.map_some Option.map_none Option.getD_some Option.getD_none List.drop_zero Int.le_refl Int.toNat_zero ne_eq Nat.le_refl List.getD_cons_zero
attribute [go_sem] List.getD_cons_succ subF subOk sOk hOk nms reF rho mapD mapC mapC1 NmD NmC NmC1 mapR mapB mapTt NmR NmB NmT
end Go.SX
namespace Go.SX.Ty
open Go Go.SX Go.Proofs
set_option maxRecDepth 100000
theorem tsz3 : tsz Tryz.prog 3 = some 1 := by kernel_rfl
theorem tby3 : tby Tryz.prog 3 = some 8 := by kernel_rfl
theorem tag3 : tag Tryz.prog 3 = some false := by kernel_rfl
theorem isSl3 : isSlT Tryz.prog 3 = false := by kernel_rfl
theorem tzr3 : tzr Tryz.prog 3 = some [.im (.int .i64 (0))] := by kernel_rfl
theorem tsz4 : tsz Tryz.prog 4 = some 1 := by kernel_rfl
theorem tby4 : tby Tryz.prog 4 = some 1 := by kernel_rfl
theorem tag4 : tag Tryz.prog 4 = some false := by kernel_rfl
theorem isSl4 : isSlT Tryz.prog 4 = false := by kernel_rfl
theorem isBo4 : isBoT Tryz.prog 4 = true := by kernel_rfl
theorem tzr4 : tzr Tryz.prog 4 = some [.im (.bool false)] := by kernel_rfl
theorem tsz5 : tsz Tryz.prog 5 = some 1 := by kernel_rfl
theorem tby5 : tby Tryz.prog 5 = some 1 := by kernel_rfl
theorem tag5 : tag Tryz.prog 5 = some false := by kernel_rfl
theorem isSl5 : isSlT Tryz.prog 5 = false := by kernel_rfl
theorem tzr5 : tzr Tryz.prog 5 = some [.im (.int .u8 (0))] := by kernel_rfl
theorem tsz9 : tsz Tryz.prog 9 = some 1 := by kernel_rfl
theorem tby9 : tby Tryz.prog 9 = some 16 := by kernel_rfl
theorem tag9 : tag Tryz.prog 9 = some false := by kernel_rfl
theorem isSl9 : isSlT Tryz.prog 9 = false := by kernel_rfl
theorem isSt9 : isStT Tryz.prog 9 = true := by kernel_rfl
theorem tzr9 : tzr Tryz.prog 9 = some [.im (.str ⟨#[]⟩)] := by kernel_rfl
theorem tsz22 : tsz Tryz.prog 22 = some 1 := by kernel_rfl
theorem tby22 : tby Tryz.prog 22 = some 24 := by kernel_rfl
theorem tag22 : tag Tryz.prog 22 = some false := by kernel_rfl
theorem tel22 : tel Tryz.prog 22 = some 5 := by kernel_rfl
theorem isSl22 : isSlT Tryz.prog 22 = true := by kernel_rfl
theorem tzr22 : tzr Tryz.prog 22 = some [.nil] := by kernel_rfl
theorem isBs22 : isBsT Tryz.prog 22 = true := by kernel_rfl
theorem tsz23 : tsz Tryz.prog 23 = some 1 := by kernel_rfl
theorem tby23 : tby Tryz.prog 23 = some 24 := by kernel_rfl
theorem tag23 : tag Tryz.prog 23 = some false := by kernel_rfl
theorem tel23 : tel Tryz.prog 23 = some 37 := by kernel_rfl
theorem isSl23 : isSlT Tryz.prog 23 = true := by kernel_rfl
theorem tzr23 : tzr Tryz.prog 23 = some [.nil] := by kernel_rfl
theorem tsz24 : tsz Tryz.prog 24 = some 1 := by kernel_rfl
theorem tby24 : tby Tryz.prog 24 = some 24 := by kernel_rfl
theorem tag24 : tag Tryz.prog 24 = some false := by kernel_rfl
theorem tel24 : tel Tryz.prog 24 = some 64 := by kernel_rfl
theorem isSl24 : isSlT Tryz.prog 24 = true := by kernel_rfl
theorem tzr24 : tzr Tryz.prog 24 = some [.nil] := by kernel_rfl
theorem tsz25 : tsz Tryz.prog 25 = some 2 := by kernel_rfl
theorem tby25 : tby Tryz.prog 25 = some 48 := by kernel_rfl
theorem tag25 : tag Tryz.prog 25 = some true := by kernel_rfl
theorem isSl25 : isSlT Tryz.prog 25 = false := by kernel_rfl
theorem tok25 : tok Tryz.prog 25 = true := by kernel_rfl
theorem tfd25_0 : tfd Tryz.prog 25 0 = some (0, 23) := by kernel_rfl
theorem tfd25_1 : tfd Tryz.prog 25 1 = some (1, 24) := by kernel_rfl
theorem tzr25 : tzr Tryz.prog 25 = some [.nil, .nil] := by kernel_rfl
theorem tsz26 : tsz Tryz.prog 26 = some 2 := by kernel_rfl
theorem tby26 : tby Tryz.prog 26 = some 48 := by kernel_rfl
theorem tag26 : tag Tryz.prog 26 = some true := by kernel_rfl
theorem isSl26 : isSlT Tryz.prog 26 = false := by kernel_rfl
theorem tok26 : tok Tryz.prog 26 = true := by kernel_rfl
theorem tfd26_0 : tfd Tryz.prog 26 0 = some (0, 23) := by kernel_rfl
theorem tfd26_1 : tfd Tryz.prog 26 1 = some (1, 24) := by kernel_rfl
theorem tzr26 : tzr Tryz.prog 26 = some [.nil, .nil] := by kernel_rfl
theorem tsz28 : tsz Tryz.prog 28 = some 1 := by kernel_rfl
theorem tby28 : tby Tryz.prog 28 = some 8 := by kernel_rfl
theorem tag28 : tag Tryz.prog 28 = some false := by kernel_rfl
theorem isSl28 : isSlT Tryz.prog 28 = false := by kernel_rfl
theorem tzr28 : tzr Tryz.prog 28 = some [.im (.cpx .f32 0 0)] := by kernel_rfl
theorem tsz29 : tsz Tryz.prog 29 = some 1 := by kernel_rfl
theorem tby29 : tby Tryz.prog 29 = some 4 := by kernel_rfl
theorem tag29 : tag Tryz.prog 29 = some false := by kernel_rfl
theorem isSl29 : isSlT Tryz.prog 29 = false := by kernel_rfl
theorem tzr29 : tzr Tryz.prog 29 = some [.im (.flt .f32 0)] := by kernel_rfl
theorem tsz30 : tsz Tryz.prog 30 = some 1 := by kernel_rfl
theorem tby30 : tby Tryz.prog 30 = some 24 := by kernel_rfl
theorem tag30 : tag Tryz.prog 30 = some false := by kernel_rfl
theorem tel30 : tel Tryz.prog 30 = some 28 := by kernel_rfl
theorem isSl30 : isSlT Tryz.prog 30 = true := by kernel_rfl
theorem tzr30 : tzr Tryz.prog 30 = some [.nil] := by kernel_rfl
theorem tsz31 : tsz Tryz.prog 31 = some 3 := by kernel_rfl
theorem tby31 : tby Tryz.prog 31 = some 40 := by kernel_rfl
theorem tag31 : tag Tryz.prog 31 = some true := by kernel_rfl
theorem isSl31 : isSlT Tryz.prog 31 = false := by kernel_rfl
theorem tok31 : tok Tryz.prog 31 = true := by kernel_rfl
theorem tfd31_0 : tfd Tryz.prog 31 0 = some (0, 30) := by kernel_rfl
theorem tfd31_1 : tfd Tryz.prog 31 1 = some (1, 3) := by kernel_rfl
theorem tfd31_2 : tfd Tryz.prog 31 2 = some (2, 3) := by kernel_rfl
theorem tzr31 : tzr Tryz.prog 31 = some [.nil, .im (.int .i64 (0)), .im (.int .i64 (0))] := by kernel_rfl
theorem tsz32 : tsz Tryz.prog 32 = some 3 := by kernel_rfl
theorem tby32 : tby Tryz.prog 32 = some 40 := by kernel_rfl
theorem tag32 : tag Tryz.prog 32 = some true := by kernel_rfl
theorem isSl32 : isSlT Tryz.prog 32 = false := by kernel_rfl
theorem tok32 : tok Tryz.prog 32 = true := by kernel_rfl
theorem tfd32_0 : tfd Tryz.prog 32 0 = some (0, 30) := by kernel_rfl
theorem tfd32_1 : tfd Tryz.prog 32 1 = some (1, 3) := by kernel_rfl
theorem tfd32_2 : tfd Tryz.prog 32 2 = some (2, 3) := by kernel_rfl
theorem tzr32 : tzr Tryz.prog 32 = some [.nil, .im (.int .i64 (0)), .im (.int .i64 (0))] := by kernel_rfl
theorem tsz33 : tsz Tryz.prog 33 = some 1 := by kernel_rfl
theorem tby33 : tby Tryz.prog 33 = some 24 := by kernel_rfl
theorem tag33 : tag Tryz.prog 33 = some false := by kernel_rfl
theorem tel33 : tel Tryz.prog 33 = some 3 := by kernel_rfl
theorem isSl33 : isSlT Tryz.prog 33 = true := by kernel_rfl
theorem tzr33 : tzr Tryz.prog 33 = some [.nil] := by kernel_rfl
theorem tsz34 : tsz Tryz.prog 34 = some 2 := by kernel_rfl
theorem tby34 : tby Tryz.prog 34 = some 48 := by kernel_rfl
theorem tag34 : tag Tryz.prog 34 = some true := by kernel_rfl
theorem isSl34 : isSlT Tryz.prog 34 = false := by kernel_rfl
theorem tok34 : tok Tryz.prog 34 = true := by kernel_rfl
theorem tfd34_0 : tfd Tryz.prog 34 0 = some (0, 30) := by kernel_rfl
theorem tfd34_1 : tfd Tryz.prog 34 1 = some (1, 33) := by kernel_rfl
theorem tzr34 : tzr Tryz.prog 34 = some [.nil, .nil] := by kernel_rfl
theorem tsz35 : tsz Tryz.prog 35 = some 2 := by kernel_rfl
theorem tby35 : tby Tryz.prog 35 = some 48 := by kernel_rfl
theorem tag35 : tag Tryz.prog 35 = some true := by kernel_rfl
theorem isSl35 : isSlT Tryz.prog 35 = false := by kernel_rfl
theorem tok35 : tok Tryz.prog 35 = true := by kernel_rfl
theorem tfd35_0 : tfd Tryz.prog 35 0 = some (0, 30) := by kernel_rfl
theorem tfd35_1 : tfd Tryz.prog 35 1 = some (1, 33) := by kernel_rfl
theorem tzr35 : tzr Tryz.prog 35 = some [.nil, .nil] := by kernel_rfl
theorem tsz36 : tsz Tryz.prog 36 = some 11 := by kernel_rfl
theorem tby36 : tby Tryz.prog 36 = some 136 := by kernel_rfl
theorem tag36 : tag Tryz.prog 36 = some true := by kernel_rfl
theorem isSl36 : isSlT Tryz.prog 36 = false := by kernel_rfl
theorem tok36 : tok Tryz.prog 36 = true := by kernel_rfl
theorem tfd36_0 : tfd Tryz.prog 36 0 = some (0, 3) := by kernel_rfl
theorem tfd36_1 : tfd Tryz.prog 36 1 = some (1, 28) := by kernel_rfl
theorem tfd36_2 : tfd Tryz.prog 36 2 = some (2, 28) := by kernel_rfl
theorem tfd36_3 : tfd Tryz.prog 36 3 = some (3, 29) := by kernel_rfl
theorem tfd36_4 : tfd Tryz.prog 36 4 = some (4, 32) := by kernel_rfl
theorem tfd36_5 : tfd Tryz.prog 36 5 = some (7, 35) := by kernel_rfl
theorem tfd36_6 : tfd Tryz.prog 36 6 = some (9, 3) := by kernel_rfl
theorem tfd36_7 : tfd Tryz.prog 36 7 = some (10, 3) := by kernel_rfl
theorem tzr36 : tzr Tryz.prog 36 = some [.im (.int .i64 (0)), .im (.cpx .f32 0 0), .im (.cpx .f32 0 0), .im (.flt .f32 0), .nil, .im (.int .i64 (0)), .im (.int .i64 (0)), .nil, .nil, .im (.int .i64 (0)), .im (.int .i64 (0))] := by kernel_rfl
theorem tsz37 : tsz Tryz.prog 37 = some 11 := by kernel_rfl
theorem tby37 : tby Tryz.prog 37 = some 136 := by kernel_rfl
theorem tag37 : tag Tryz.prog 37 = some true := by kernel_rfl
theorem isSl37 : isSlT Tryz.prog 37 = false := by kernel_rfl
theorem tok37 : tok Tryz.prog 37 = true := by kernel_rfl
theorem tfd37_0 : tfd Tryz.prog 37 0 = some (0, 3) := by kernel_rfl
theorem tfd37_1 : tfd Tryz.prog 37 1 = some (1, 28) := by kernel_rfl
theorem tfd37_2 : tfd Tryz.prog 37 2 = some (2, 28) := by kernel_rfl
theorem tfd37_3 : tfd Tryz.prog 37 3 = some (3, 29) := by kernel_rfl
theorem tfd37_4 : tfd Tryz.prog 37 4 = some (4, 32) := by kernel_rfl
theorem tfd37_5 : tfd Tryz.prog 37 5 = some (7, 35) := by kernel_rfl
theorem tfd37_6 : tfd Tryz.prog 37 6 = some (9, 3) := by kernel_rfl
theorem tfd37_7 : tfd Tryz.prog 37 7 = some (10, 3) := by kernel_rfl
theorem tzr37 : tzr Tryz.prog 37 = some [.im (.int .i64 (0)), .im (.cpx .f32 0 0), .im (.cpx .f32 0 0), .im (.flt .f32 0), .nil, .im (.int .i64 (0)), .im (.int .i64 (0)), .nil, .nil, .im (.int .i64 (0)), .im (.int .i64 (0))] := by kernel_rfl
theorem tsz51 : tsz Tryz.prog 51 = some 2 := by kernel_rfl
theorem tby51 : tby Tryz.prog 51 = some 16 := by kernel_rfl
theorem tag51 : tag Tryz.prog 51 = some true := by kernel_rfl
theorem isSl51 : isSlT Tryz.prog 51 = false := by kernel_rfl
theorem tok51 : tok Tryz.prog 51 = true := by kernel_rfl
theorem tfd51_0 : tfd Tryz.prog 51 0 = some (0, 3) := by kernel_rfl
theorem tfd51_1 : tfd Tryz.prog 51 1 = some (1, 3) := by kernel_rfl
theorem tzr51 : tzr Tryz.prog 51 = some [.im (.int .i64 (0)), .im (.int .i64 (0))] := by kernel_rfl
theorem tsz52 : tsz Tryz.prog 52 = some 2 := by kernel_rfl
theorem tby52 : tby Tryz.prog 52 = some 16 := by kernel_rfl
theorem tag52 : tag Tryz.prog 52 = some true := by kernel_rfl
theorem isSl52 : isSlT Tryz.prog 52 = false := by kernel_rfl
theorem tok52 : tok Tryz.prog 52 = true := by kernel_rfl
theorem tfd52_0 : tfd Tryz.prog 52 0 = some (0, 3) := by kernel_rfl
theorem tfd52_1 : tfd Tryz.prog 52 1 = some (1, 3) := by kernel_rfl
theorem tzr52 : tzr Tryz.prog 52 = some [.im (.int .i64 (0)), .im (.int .i64 (0))] := by kernel_rfl
theorem tsz56 : tsz Tryz.prog 56 = some 4 := by kernel_rfl
theorem tby56 : tby Tryz.prog 56 = some 32 := by kernel_rfl
theorem tag56 : tag Tryz.prog 56 = some true := by kernel_rfl
theorem isSl56 : isSlT Tryz.prog 56 = false := by kernel_rfl
theorem tok56 : tok Tryz.prog 56 = true := by kernel_rfl
theorem tfd56_0 : tfd Tryz.prog 56 0 = some (0, 3) := by kernel_rfl
theorem tfd56_1 : tfd Tryz.prog 56 1 = some (1, 3) := by kernel_rfl
theorem tfd56_2 : tfd Tryz.prog 56 2 = some (2, 3) := by kernel_rfl
theorem tfd56_3 : tfd Tryz.prog 56 3 = some (3, 3) := by kernel_rfl
theorem tzr56 : tzr Tryz.prog 56 = some [.im (.int .i64 (0)), .im (.int .i64 (0)), .im (.int .i64 (0)), .im (.int .i64 (0))] := by kernel_rfl
theorem tsz57 : tsz Tryz.prog 57 = some 4 := by kernel_rfl
theorem tby57 : tby Tryz.prog 57 = some 32 := by kernel_rfl
theorem tag57 : tag Tryz.prog 57 = some true := by kernel_rfl
theorem isSl57 : isSlT Tryz.prog 57 = false := by kernel_rfl
theorem tok57 : tok Tryz.prog 57 = true := by kernel_rfl
theorem tfd57_0 : tfd Tryz.prog 57 0 = some (0, 3) := by kernel_rfl
theorem tfd57_1 : tfd Tryz.prog 57 1 = some (1, 3) := by kernel_rfl
theorem tfd57_2 : tfd Tryz.prog 57 2 = some (2, 3) := by kernel_rfl
theorem tfd57_3 : tfd Tryz.prog 57 3 = some (3, 3) := by kernel_rfl
theorem tzr57 : tzr Tryz.prog 57 = some [.im (.int .i64 (0)), .im (.int .i64 (0)), .im (.int .i64 (0)), .im (.int .i64 (0))] := by kernel_rfl
theorem tsz58 : tsz Tryz.prog 58 = some 1 := by kernel_rfl
theorem tby58 : tby Tryz.prog 58 = some 24 := by kernel_rfl
theorem tag58 : tag Tryz.prog 58 = some false := by kernel_rfl
theorem tel58 : tel Tryz.prog 58 = some 57 := by kernel_rfl
theorem isSl58 : isSlT Tryz.prog 58 = true := by kernel_rfl
theorem tzr58 : tzr Tryz.prog 58 = some [.nil] := by kernel_rfl
theorem tsz63 : tsz Tryz.prog 63 = some 2 := by kernel_rfl
theorem tby63 : tby Tryz.prog 63 = some 16 := by kernel_rfl
theorem tag63 : tag Tryz.prog 63 = some true := by kernel_rfl
theorem isSl63 : isSlT Tryz.prog 63 = false := by kernel_rfl
theorem tok63 : tok Tryz.prog 63 = true := by kernel_rfl
theorem tfd63_0 : tfd Tryz.prog 63 0 = some (0, 3) := by kernel_rfl
theorem tfd63_1 : tfd Tryz.prog 63 1 = some (1, 3) := by kernel_rfl
theorem tzr63 : tzr Tryz.prog 63 = some [.im (.int .i64 (0)), .im (.int .i64 (0))] := by kernel_rfl
theorem tsz64 : tsz Tryz.prog 64 = some 2 := by kernel_rfl
theorem tby64 : tby Tryz.prog 64 = some 16 := by kernel_rfl
theorem tag64 : tag Tryz.prog 64 = some true := by kernel_rfl
theorem isSl64 : isSlT Tryz.prog 64 = false := by kernel_rfl
theorem tok64 : tok Tryz.prog 64 = true := by kernel_rfl
theorem tfd64_0 : tfd Tryz.prog 64 0 = some (0, 3) := by kernel_rfl
theorem tfd64_1 : tfd Tryz.prog 64 1 = some (1, 3) := by kernel_rfl
theorem tzr64 : tzr Tryz.prog 64 = some [.im (.int .i64 (0)), .im (.int .i64 (0))] := by kernel_rfl
theorem tsz66 : tsz Tryz.prog 66 = some 1 := by kernel_rfl
theorem tby66 : tby Tryz.prog 66 = some 24 := by kernel_rfl
theorem tag66 : tag Tryz.prog 66 = some false := by kernel_rfl
theorem tel66 : tel Tryz.prog 66 = some 33 := by kernel_rfl
theorem isSl66 : isSlT Tryz.prog 66 = true := by kernel_rfl
theorem tzr66 : tzr Tryz.prog 66 = some [.nil] := by kernel_rfl
theorem tsz91 : tsz Tryz.prog 91 = some 1 := by kernel_rfl
theorem tby91 : tby Tryz.prog 91 = some 8 := by kernel_rfl
theorem tag91 : tag Tryz.prog 91 = some false := by kernel_rfl
theorem isSl91 : isSlT Tryz.prog 91 = false := by kernel_rfl
theorem tzr91 : tzr Tryz.prog 91 = some [.im (.flt .f64 0)] := by kernel_rfl
theorem tsz98 : tsz Tryz.prog 98 = some 3 := by kernel_rfl
theorem tby98 : tby Tryz.prog 98 = some 40 := by kernel_rfl
theorem tag98 : tag Tryz.prog 98 = some true := by kernel_rfl
theorem isSl98 : isSlT Tryz.prog 98 = false := by kernel_rfl
theorem tok98 : tok Tryz.prog 98 = true := by kernel_rfl
theorem tfd98_0 : tfd Tryz.prog 98 0 = some (0, 22) := by kernel_rfl
theorem tfd98_1 : tfd Tryz.prog 98 1 = some (1, 3) := by kernel_rfl
theorem tfd98_2 : tfd Tryz.prog 98 2 = some (2, 3) := by kernel_rfl
theorem tzr98 : tzr Tryz.prog 98 = some [.nil, .im (.int .i64 (0)), .im (.int .i64 (0))] := by kernel_rfl
theorem tsz99 : tsz Tryz.prog 99 = some 3 := by kernel_rfl
theorem tby99 : tby Tryz.prog 99 = some 40 := by kernel_rfl
theorem tag99 : tag Tryz.prog 99 = some true := by kernel_rfl
theorem isSl99 : isSlT Tryz.prog 99 = false := by kernel_rfl
theorem tok99 : tok Tryz.prog 99 = true := by kernel_rfl
theorem tfd99_0 : tfd Tryz.prog 99 0 = some (0, 22) := by kernel_rfl
theorem tfd99_1 : tfd Tryz.prog 99 1 = some (1, 3) := by kernel_rfl
theorem tfd99_2 : tfd Tryz.prog 99 2 = some (2, 3) := by kernel_rfl
theorem tzr99 : tzr Tryz.prog 99 = some [.nil, .im (.int .i64 (0)), .im (.int .i64 (0))] := by kernel_rfl
theorem tsz111 : tsz Tryz.prog 111 = some 1 := by kernel_rfl
theorem tby111 : tby Tryz.prog 111 = some 24 := by kernel_rfl
theorem tag111 : tag Tryz.prog 111 = some false := by kernel_rfl
theorem tel111 : tel Tryz.prog 111 = some 23 := by kernel_rfl
theorem isSl111 : isSlT Tryz.prog 111 = true := by kernel_rfl
theorem tzr111 : tzr Tryz.prog 111 = some [.nil] := by kernel_rfl
theorem tsz113 : tsz Tryz.prog 113 = some 1 := by kernel_rfl
theorem tby113 : tby Tryz.prog 113 = some 24 := by kernel_rfl
theorem tag113 : tag Tryz.prog 113 = some false := by kernel_rfl
theorem tel113 : tel Tryz.prog 113 = some 24 := by kernel_rfl
theorem isSl113 : isSlT Tryz.prog 113 = true := by kernel_rfl
theorem tzr113 : tzr Tryz.prog 113 = some [.nil] := by kernel_rfl
theorem tsz124 : tsz Tryz.prog 124 = some 1 := by kernel_rfl
theorem tby124 : tby Tryz.prog 124 = some 24 := by kernel_rfl
theorem tag124 : tag Tryz.prog 124 = some false := by kernel_rfl
theorem tel124 : tel Tryz.prog 124 = some 4 := by kernel_rfl
theorem isSl124 : isSlT Tryz.prog 124 = true := by kernel_rfl
theorem tzr124 : tzr Tryz.prog 124 = some [.nil] := by kernel_rfl
theorem tsz131 : tsz Tryz.prog 131 = some 1 := by kernel_rfl
theorem tby131 : tby Tryz.prog 131 = some 4 := by kernel_rfl
theorem tag131 : tag Tryz.prog 131 = some false := by kernel_rfl
theorem isSl131 : isSlT Tryz.prog 131 = false := by kernel_rfl
theorem tzr131 : tzr Tryz.prog 131 = some [.im (.int .u32 (0))] := by kernel_rfl
theorem tsz141 : tsz Tryz.prog 141 = some 1 := by kernel_rfl
theorem tby141 : tby Tryz.prog 141 = some 8 := by kernel_rfl
theorem tag141 : tag Tryz.prog 141 = some false := by kernel_rfl
theorem isSl141 : isSlT Tryz.prog 141 = false := by kernel_rfl
theorem tzr141 : tzr Tryz.prog 141 = some [.im (.int .u64 (0))] := by kernel_rfl
theorem tsz154 : tsz Tryz.prog 154 = some 1 := by kernel_rfl
theorem tby154 : tby Tryz.prog 154 = some 24 := by kernel_rfl
theorem tag154 : tag Tryz.prog 154 = some false := by kernel_rfl
theorem tel154 : tel Tryz.prog 154 = some 29 := by kernel_rfl
theorem isSl154 : isSlT Tryz.prog 154 = true := by kernel_rfl
theorem tzr154 : tzr Tryz.prog 154 = some [.nil] := by kernel_rfl
theorem isEq51 : isEqT Tryz.prog 51 = true := by kernel_rfl
theorem isEq52 : isEqT Tryz.prog 52 = true := by kernel_rfl
theorem isEq63 : isEqT Tryz.prog 63 = true := by kernel_rfl
theorem isEq64 : isEqT Tryz.prog 64 = true := by kernel_rfl
end Go.SX.Ty
namespace Go.SX
open Go Go.Proofs
attribute [go_sem] Ty.tsz3 Ty.tby3 Ty.tag3 Ty.isSl3 Ty.tzr3 Tryz.underlying3 Ty.tsz4 Ty.tby4 Ty.tag4 Ty.isSl4 Ty.isBo4 Ty.tzr4 Ty.tsz5 Ty.tby5 Ty.tag5 Ty.isSl5 Ty.tzr5
attribute [go_sem] Tryz.underlying5 Ty.tsz9 Ty.tby9 Ty.tag9 Ty.isSl9 Ty.isSt9 Ty.tzr9 Tryz.underlying9 Ty.tsz22 Ty.tby22 Ty.tag22 Ty.tel22 Ty.isSl22 Ty.tzr22 Ty.isBs22
attribute [go_sem] Tryz.underlying22 Ty.tsz23 Ty.tby23 Ty.tag23 Ty.tel23 Ty.isSl23 Ty.tzr23 Ty.tsz24 Ty.tby24 Ty.tag24 Ty.tel24 Ty.isSl24 Ty.tzr24 Ty.tsz25 Ty.tby25 Ty.tag25
attribute [go_sem] Ty.isSl25 Ty.tok25 Ty.tfd25_0 Ty.tfd25_1 Ty.tzr25 Ty.tsz26 Ty.tby26 Ty.tag26 Ty.isSl26 Ty.tok26 Ty.tfd26_0 Ty.tfd26_1 Ty.tzr26 Ty.tsz28 Ty.tby28 Ty.tag28
attribute [go_sem] Ty.isSl28 Ty.tzr28 Tryz.underlying28 Ty.tsz29 Ty.tby29 Ty.tag29 Ty.isSl29 Ty.tzr29 Tryz.underlying29 Ty.tsz30 Ty.tby30 Ty.tag30 Ty.tel30 Ty.isSl30 Ty.tzr30
attribute [go_sem] Ty.tsz31 Ty.tby31 Ty.tag31 Ty.isSl31 Ty.tok31 Ty.tfd31_0 Ty.tfd31_1 Ty.tfd31_2 Ty.tzr31 Ty.tsz32 Ty.tby32 Ty.tag32 Ty.isSl32 Ty.tok32 Ty.tfd32_0 Ty.tfd32_1
attribute [go_sem] Ty.tfd32_2 Ty.tzr32 Ty.tsz33 Ty.tby33 Ty.tag33 Ty.tel33 Ty.isSl33 Ty.tzr33 Ty.tsz34 Ty.tby34 Ty.tag34 Ty.isSl34 Ty.tok34 Ty.tfd34_0 Ty.tfd34_1 Ty.tzr34 Ty.tsz35
attribute [go_sem] Ty.tby35 Ty.tag35 Ty.isSl35 Ty.tok35 Ty.tfd35_0 Ty.tfd35_1 Ty.tzr35 Ty.tsz36 Ty.tby36 Ty.tag36 Ty.isSl36 Ty.tok36 Ty.tfd36_0 Ty.tfd36_1 Ty.tfd36_2 Ty.tfd36_3
attribute [go_sem] Ty.tfd36_4 Ty.tfd36_5 Ty.tfd36_6 Ty.tfd36_7 Ty.tzr36 Ty.tsz37 Ty.tby37 Ty.tag37 Ty.isSl37 Ty.tok37 Ty.tfd37_0 Ty.tfd37_1 Ty.tfd37_2 Ty.tfd37_3 Ty.tfd37_4
attribute [go_sem] Ty.tfd37_5 Ty.tfd37_6 Ty.tfd37_7 Ty.tzr37 Ty.tsz51 Ty.tby51 Ty.tag51 Ty.isSl51 Ty.tok51 Ty.tfd51_0 Ty.tfd51_1 Ty.tzr51 Ty.tsz52 Ty.tby52 Ty.tag52 Ty.isSl52
attribute [go_sem] Ty.tok52 Ty.tfd52_0 Ty.tfd52_1 Ty.tzr52 Ty.tsz56 Ty.tby56 Ty.tag56 Ty.isSl56 Ty.tok56 Ty.tfd56_0 Ty.tfd56_1 Ty.tfd56_2 Ty.tfd56_3 Ty.tzr56 Ty.tsz57 Ty.tby57
attribute [go_sem] Ty.tag57 Ty.isSl57 Ty.tok57 Ty.tfd57_0 Ty.tfd57_1 Ty.tfd57_2 Ty.tfd57_3 Ty.tzr57 Ty.tsz58 Ty.tby58 Ty.tag58 Ty.tel58 Ty.isSl58 Ty.tzr58 Ty.tsz63 Ty.tby63 Ty.tag63
attribute [go_sem] Ty.isSl63 Ty.tok63 Ty.tfd63_0 Ty.tfd63_1 Ty.tzr63 Ty.tsz64 Ty.tby64 Ty.tag64 Ty.isSl64 Ty.tok64 Ty.tfd64_0 Ty.tfd64_1 Ty.tzr64 Ty.tsz66 Ty.tby66 Ty.tag66 Ty.tel66
attribute [go_sem] Ty.isSl66 Ty.tzr66 Ty.tsz91 Ty.tby91 Ty.tag91 Ty.isSl91 Ty.tzr91 Tryz.underlying91 Ty.tsz98 Ty.tby98 Ty.tag98 Ty.isSl98 Ty.tok98 Ty.tfd98_0 Ty.tfd98_1 Ty.tfd98_2
attribute [go_sem] Ty.tzr98 Ty.tsz99 Ty.tby99 Ty.tag99 Ty.isSl99 Ty.tok99 Ty.tfd99_0 Ty.tfd99_1 Ty.tfd99_2 Ty.tzr99 Ty.tsz111 Ty.tby111 Ty.tag111 Ty.tel111 Ty.isSl111 Ty.tzr111
attribute [go_sem] Ty.tsz113 Ty.tby113 Ty.tag113 Ty.tel113 Ty.isSl113 Ty.tzr113 Ty.tsz124 Ty.tby124 Ty.tag124 Ty.tel124 Ty.isSl124 Ty.tzr124 Ty.tsz131 Ty.tby131 Ty.tag131 Ty.isSl131
attribute [go_sem] Ty.tzr131 Tryz.underlying131 Ty.tsz141 Ty.tby141 Ty.tag141 Ty.isSl141 Ty.tzr141 Tryz.underlying141 Ty.tsz154 Ty.tby154 Ty.tag154 Ty.tel154 Ty.isSl154 Ty.tzr154
attribute [go_sem] Ty.isEq51 Ty.isEq52 Ty.isEq63 Ty.isEq64
end Go.SX
set_option linter.unusedVariables false
set_option linter.unusedSimpArgs false
namespace Go.SX
open Go Go.Proofs
theorem hmixA : Tryz.prog.follows .mixedOrders = true := rfl
abbrev Pt := Nat × Nat
def rowsZ (l : List Pt) : List (List I) := l.map fun z => [.cpx .f32 z.1 z.2]
theorem rowsZ_len (l : List Pt) : (rowsZ l).length = l.length := by simp [rowsZ]
theorem rowsZ_at {l : List Pt} {k : Nat} {p : Pt} (h : l[k]? = some p) : (rowsZ l)[k]? = some [.cpx .f32 p.1 p.2] := by simp [rowsZ, h]
theorem rowsZ_inj {l m : List Pt} (h : rowsZ l = rowsZ m) : l = m := by
  induction l generalizing m with
  | nil => cases m with | nil => rfl | cons => simp [rowsZ] at h
  | cons p l ih =>
    cases m with
    | nil => simp [rowsZ] at h
    | cons q m =>
      simp only [rowsZ, List.map_cons, List.cons.injEq, I.cpx.injEq, true_and, and_true] at h
      rw [ih h.2, show p = q from Prod.ext h.1.1 h.1.2]
theorem rowsZ_eq {l m : List Pt} : (rowsZ l = rowsZ m) = (l = m) := propext ⟨rowsZ_inj, fun h => by rw [h]⟩
def rowsN (l : List Int) : List (List I) := l.map fun n => [.int .i64 n]
theorem rowsN_len (l : List Int) : (rowsN l).length = l.length := by simp [rowsN]
theorem rowsN_at {l : List Int} {k : Nat} {p : Int} (h : l[k]? = some p) : (rowsN l)[k]? = some [.int .i64 p] := by simp [rowsN, h]
theorem rowsN_inj {l m : List Int} (h : rowsN l = rowsN m) : l = m := by
  induction l generalizing m with
  | nil => cases m with | nil => rfl | cons => simp [rowsN] at h
  | cons p l ih =>
    cases m with
    | nil => simp [rowsN] at h
    | cons q m =>
      simp only [rowsN, List.map_cons, List.cons.injEq, I.int.injEq, true_and, and_true] at h
      rw [ih h.2, h.1]
theorem rowsN_eq {l m : List Int} : (rowsN l = rowsN m) = (l = m) := propext ⟨rowsN_inj, fun h => by rw [h]⟩
theorem bits_low (x : Nat) : bitsI .and .u32 (x : Int) 2147483647 = ((x % 2147483648 : Nat) : Int) := by
  have h : (BitVec.ofInt 32 (x : Int) &&& BitVec.ofInt 32 2147483647).toNat = x % 2147483648 := by
    rw [BitVec.toNat_and]
    have e1 : (BitVec.ofInt 32 (x : Int)).toNat = x % 2 ^ 32 := by simp
    have e2 : (BitVec.ofInt 32 2147483647).toNat = 2 ^ 31 - 1 := by decide
    rw [e1, e2, Nat.and_two_pow_sub_one_eq_mod]
    omega
  show IntKind.u32.wrap _ = _
  rw [show (IntKind.u32.bits) = 32 from rfl, h]
  show (((x % 2147483648 : Nat) : Int) % 4294967296) = _
  omega
theorem nan_low {x : Nat} (h : isNaNb .f32 x = true) : 2139095040 < x % 2147483648 := rung_of_nan h
def isFin (x : Nat) : Bool := decide (x % 2147483648 ≤ 2139095039)
def isSubn (x : Nat) : Bool := decide (0 < x % 2147483648) && decide (x % 2147483648 < 8388608)
def flushF (x : Nat) : Nat := if isSubn x = true then x / 2147483648 % 2 * 2147483648 else x
theorem isFin_nan {x : Nat} (h : isNaNb .f32 x = true) : isFin x = false := by have := nan_low h; simp [isFin]; omega
def oBits (x : Nat) : Outs := if isNaNb .f32 x = true then .any { y : Nat // isNaNb .f32 y = true } (fun y => { val := .c (.im (.int .u32 y.1)) }) else .one { val := .c (.im (.int .u32 x)) }
noncomputable def ct_bits : Ct := fam true (fun x : Nat => ([.c (.im (.flt .f32 x))], [])) oBits
theorem run_bits {x : Nat} (h : isNaNb .f32 x = false) : ct_bits.run [.c (.im (.flt .f32 x))] [] = some (.one { val := .c (.im (.int .u32 x)) }) := by
  have := fam_run' (sc := true) (args := fun x : Nat => ([D.c (.im (.flt .f32 x))], ([] : List (List B)))) (out := oBits) (fun a b h => by simpa using h) x
  simpa [oBits, h, ct_bits] using this
theorem run_bitsN {x : Nat} (h : isNaNb .f32 x = true) : ct_bits.run [.c (.im (.flt .f32 x))] [] = some (.any { y : Nat // isNaNb .f32 y = true } (fun y => { val := .c (.im (.int .u32 y.1)) })) := by
  have := fam_run' (sc := true) (args := fun x : Nat => ([D.c (.im (.flt .f32 x))], ([] : List (List B)))) (out := oBits) (fun a b h => by simpa using h) x
  simpa [oBits, h, ct_bits] using this
theorem ne_nan : Nonempty { y : Nat // isNaNb .f32 y = true } = True := by
  simp only [eq_iff_iff, iff_true]
  exact ⟨⟨qn .f32, qn_nan .f32⟩⟩
theorem law_bits : ExtLaw Tryz.prog 94 ct_bits := by
  refine fam_ext (fun x => ⟨rfl, by simp [scI], fun fz vs w hl hv => ?_⟩)
  match vs, hl with
  | [v], _ =>
    have h1 := hv 0 _ v rfl rfl
    obtain ⟨y, rfl, he⟩ := h1.flt_inv
    refine ⟨.int .u32 y, .int .u32 y, ?_, ?_, .int _ _⟩
    · rw [run_callFunc_extern (e := Extern.MathFloatBits.float32bits) Tryz.func94 (by kernel_rfl) (by kernel_rfl) (by kernel_rfl) (by kernel_rfl)]
      rfl
    · unfold oBits
      rcases he with rfl | ⟨h2, h3⟩
      · split
        · rename_i hn; exact ⟨⟨x, hn⟩, rfl⟩
        · rfl
      · rw [if_pos h2]; exact ⟨⟨y, h3⟩, rfl⟩
noncomputable def ct_isNought : Ct := fam true (fun x : Nat => ([.c (.im (.flt .f32 x))], [])) (fun x => .one { val := .c (.im (.bool (decide ((x : Int) = 0)))) })
theorem run_isNought (x : Nat) : ct_isNought.run [.c (.im (.flt .f32 x))] [] = some (.one { val := .c (.im (.bool (decide ((x : Int) = 0)))) }) := fam_run' (fun a b h => by simpa using h) x
theorem nan_ne0 {x : Nat} (h : isNaNb .f32 x = true) : ((x : Int) = 0) = False := by have := nan_low h; simp; omega
set_option maxRecDepth 100000 in
theorem law_isNought : Law Tryz.prog 120 ct_isNought := by
  refine fam_law (Env_consX law_bits Env_nil) hmixA Tryz.func120 rfl rfl (fun x => ⟨okO_im rfl, by simp [Tryz.f120], ?_⟩)
  cases hn : isNaNb .f32 x with
  | false =>
    try simp -dsimp (maxSteps := 1000000) only [go_sem, List.forall_mem_nil, ↓reduceIte, Nat.reduceEqDiff, Nat.reduceLT, Nat.reduceLeDiff, Nat.reduceAdd, Nat.reduceMul, reduceCtorEq, Tryz.f120, run_bits hn]
  | true =>
    try simp -dsimp (maxSteps := 1000000) only [go_sem, List.forall_mem_nil, ↓reduceIte, Nat.reduceEqDiff, Nat.reduceLT, Nat.reduceLeDiff, Nat.reduceAdd, Nat.reduceMul, reduceCtorEq, Tryz.f120, run_bitsN hn, ne_nan, nan_ne0 hn]
    rintro ⟨y, hy⟩
    have := nan_low hy
    simp [nan_ne0 hy]
    try omega
noncomputable def ct_isFinite : Ct := fam true (fun x : Nat => ([.c (.im (.flt .f32 x))], [])) (fun x => .one { val := .c (.im (.bool (isFin x))) })
theorem run_isFinite (x : Nat) : ct_isFinite.run [.c (.im (.flt .f32 x))] [] = some (.one { val := .c (.im (.bool (isFin x))) }) := fam_run' (fun a b h => by simpa using h) x
theorem low_le (x : Nat) : decide (((x % 2147483648 : Nat) : Int) ≤ 2139095039) = isFin x := by unfold isFin; rw [decide_eq_decide]; omega
set_option maxRecDepth 100000 in
theorem law_isFinite : Law Tryz.prog 162 ct_isFinite := by
  refine fam_law (Env_consX law_bits Env_nil) hmixA Tryz.func162 rfl rfl (fun x => ⟨okO_im rfl, by simp [Tryz.f162], ?_⟩)
  cases hn : isNaNb .f32 x with
  | false =>
    try simp -dsimp (maxSteps := 1000000) only [go_sem, List.forall_mem_nil, ↓reduceIte, Nat.reduceEqDiff, Nat.reduceLT, Nat.reduceLeDiff, Nat.reduceAdd, Nat.reduceMul, reduceCtorEq, Tryz.f162, run_bits hn, bits_low, low_le]
  | true =>
    try simp -dsimp (maxSteps := 1000000) only [go_sem, List.forall_mem_nil, ↓reduceIte, Nat.reduceEqDiff, Nat.reduceLT, Nat.reduceLeDiff, Nat.reduceAdd, Nat.reduceMul, reduceCtorEq, Tryz.f162, run_bitsN hn, ne_nan, bits_low, low_le, isFin_nan hn]
    rintro ⟨y, hy⟩
    simp [isFin_nan hy]
end Go.SX
set_option linter.unusedVariables false
set_option linter.unusedSimpArgs false
namespace Go.SX
open Go
theorem read_word {f : Ieee.Format} {neg : Bool} {R : Nat} (h : R < f.infRung) (hw : f.infRung ≤ f.signWeight) : (f.read (f.word neg R)).isInfinity = false := by
  have e : f.word neg R % f.signWeight = R := by
    unfold Ieee.Format.word
    have : R < f.signWeight := by omega
    cases neg
    · simp; exact Nat.mod_eq_of_lt this
    · simp; exact Nat.mod_eq_of_lt this
  unfold Ieee.Format.read
  simp only [e]
  by_cases h1 : R < f.binade
  · simp [h1, Ieee.Datum.isInfinity]
  · simp [h1, h, Ieee.Datum.isInfinity]
theorem double_small (sg : Bool) (m : Nat) (e : Int) (hm : m < 16777216) (h1 : -149 ≤ e) (h2 : e ≤ 104) : (Ieee.double.read (Ieee.double.write (.number sg m e))).isInfinity = false := by
  show (Ieee.double.read (Ieee.double.nearest sg m e)).isInfinity = false
  unfold Ieee.Format.nearest
  have hw : Ieee.double.infRung ≤ Ieee.double.signWeight := by decide
  by_cases h0 : m = 0
  · rw [if_pos h0]; exact read_word (by decide) hw
  · rw [if_neg h0]
    have hL : m.log2 < 24 := (Nat.log2_lt h0).2 hm
    have hlast : max (e + m.log2 - (Ieee.double.fractionBits : Int)) Ieee.double.leastPlace = e + m.log2 - 52 := by
      have e1 : (Ieee.double.fractionBits : Int) = 52 := rfl
      have e2 : Ieee.double.leastPlace = -1074 := by decide
      rw [e1, e2]; omega
    simp only [hlast]
    have d0 : (e + m.log2 - 52 - e).toNat = 0 := by omega
    have d1 : (e - (e + m.log2 - 52)).toNat = 52 - m.log2 := by omega
    rw [d0, d1]
    have hk : Ieee.Toward.even.cut sg (m <<< (52 - m.log2)) 0 = m <<< (52 - m.log2) := by simp [Ieee.Toward.cut, Nat.mod_one]
    rw [hk]
    have hlt : m <<< (52 - m.log2) < 2 ^ 53 := by
      rw [Nat.shiftLeft_eq]
      have h3 : m < 2 ^ (m.log2 + 1) := Nat.lt_log2_self
      have h4 : 2 ^ (m.log2 + 1) * 2 ^ (52 - m.log2) = 2 ^ 53 := by rw [← Nat.pow_add]; congr 1; omega
      have h5 : 0 < 2 ^ (52 - m.log2) := Nat.pow_pos (by decide)
      calc m * 2 ^ (52 - m.log2) < 2 ^ (m.log2 + 1) * 2 ^ (52 - m.log2) := Nat.mul_lt_mul_of_pos_right h3 h5
        _ = 2 ^ 53 := h4
    have e2 : Ieee.double.leastPlace = -1074 := by decide
    have e3 : Ieee.double.binade = 2 ^ 52 := rfl
    have e4 : Ieee.double.infRung = 2047 * 2 ^ 52 := by decide
    refine read_word ?_ hw
    rw [e2, e3, e4]
    have : (e + m.log2 - 52 - -1074).toNat ≤ 1149 := by omega
    have h6 : (e + m.log2 - 52 - -1074).toNat * 2 ^ 52 ≤ 1149 * 2 ^ 52 := Nat.mul_le_mul_right _ this
    exact Nat.lt_of_le_of_lt (Nat.min_le_left _ _) (Nat.lt_trans (Nat.add_lt_add_of_le_of_lt h6 hlt) (by decide))
def w64 (x : Nat) : Nat := (fconv .f32 x .f64).getD 0
theorem fconv_w (x : Nat) : fconv .f32 x .f64 = some (w64 x) := by
  have : ∃ r, fconv .f32 x .f64 = some r := by
    unfold fconv
    rw [if_neg (by decide)]
    cases hd : FloatKind.f32.decode x with
    | nan a b => exact ⟨_, rfl⟩
    | infinity a => exact ⟨_, rfl⟩
    | number sg m e =>
      have hb : m < 16777216 ∧ -149 ≤ e ∧ e ≤ 104 := by
        have hd' : Ieee.single.read x = .number sg m e := hd
        unfold Ieee.Format.read at hd'
        simp only at hd'
        have e1 : Ieee.single.binade = 8388608 := by decide
        have e2 : Ieee.single.infRung = 2139095040 := by decide
        have e3 : Ieee.single.leastPlace = -149 := by decide
        rw [e1, e2, e3] at hd'
        split at hd'
        · rename_i h; injection hd' with _ q1 q2; subst q1; subst q2; omega
        · split at hd'
          · rename_i h1 h2
            injection hd' with _ q1 q2
            have : x % Ieee.single.signWeight / 8388608 < 255 := by omega
            have : x % Ieee.single.signWeight % 8388608 < 8388608 := Nat.mod_lt _ (by decide)
            subst q1; subst q2; omega
          · split at hd' <;> cases hd'
      have := double_small sg m e hb.1 hb.2.1 hb.2.2
      simp only
      rw [if_neg (by
        show ¬ (Ieee.double.read (Ieee.double.write (.number sg m e))).isInfinity = true
        rw [this]; simp)]
      exact ⟨_, rfl⟩
  obtain ⟨r, hr⟩ := this
  simp [w64, hr]
end Go.SX
set_option linter.unusedVariables false
set_option linter.unusedSimpArgs false
namespace Go.SX
open Go Go.Proofs
def nz (x : Nat) : Bool := decide ((x : Int) = 0)
def nzP (p : Pt) : Bool := nz p.1 && nz p.2
noncomputable def ct_isNoughts : Ct := fam true (fun x : Pt => ([.c (.im (.cpx .f32 x.1 x.2))], [])) (fun x => .one { val := .c (.im (.bool (nzP x))) })
theorem run_isNoughts (x y : Nat) : ct_isNoughts.run [.c (.im (.cpx .f32 x y))] [] = some (.one { val := .c (.im (.bool (nzP (x, y)))) }) := fam_run' (by
    intro a b h
    simp only [Prod.mk.injEq, List.cons.injEq, D.c.injEq, D.agg.injEq, C.im.injEq, I.cpx.injEq, I.flt.injEq, I.int.injEq, I.sl.injEq, I.bool.injEq, I.str.injEq, Int.natCast_inj, true_and, and_true] at h
    (try simp only [Prod.ext_iff, Subtype.ext_iff])
    (try simp only [rowsZ_eq, rowsN_eq] at h)
    simp_all) (x, y)
set_option maxRecDepth 100000 in
theorem law_isNoughts : Law Tryz.prog 149 ct_isNoughts := by
  refine fam_law (Env_cons law_isNought Env_nil) hmixA Tryz.func149 rfl rfl (fun x => ⟨okO_im rfl, by simp [Tryz.f149], ?_⟩)
  simp only [nzP, nz]
  try simp -dsimp (maxSteps := 1000000) only [go_sem, List.forall_mem_nil, ↓reduceIte, Nat.reduceEqDiff, Nat.reduceLT, Nat.reduceLeDiff, Nat.reduceAdd, Nat.reduceMul, reduceCtorEq, Tryz.f149, run_isNought]
  repeat' ((first | (with_reducible refine gS_d ?_ ?_) | (with_reducible refine gS_dn ?_ ?_) | (with_reducible refine gS_i ?_ ?_)) <;> intro hg <;> (try simp -dsimp (maxSteps := 1000000) only [go_sem, List.forall_mem_nil, ↓reduceIte, Nat.reduceEqDiff, Nat.reduceLT, Nat.reduceLeDiff, Nat.reduceAdd, Nat.reduceMul, reduceCtorEq, Tryz.f149, run_isNought, *]))
  all_goals simp_all
noncomputable def ct_isFinitePoint : Ct := fam true (fun x : Pt => ([.c (.im (.cpx .f32 x.1 x.2))], [])) (fun x => .one { val := .c (.im (.bool (isFin x.1 && isFin x.2))) })
theorem run_isFinitePoint (x y : Nat) : ct_isFinitePoint.run [.c (.im (.cpx .f32 x y))] [] = some (.one { val := .c (.im (.bool (isFin x && isFin y))) }) := fam_run' (by
    intro a b h
    simp only [Prod.mk.injEq, List.cons.injEq, D.c.injEq, D.agg.injEq, C.im.injEq, I.cpx.injEq, I.flt.injEq, I.int.injEq, I.sl.injEq, I.bool.injEq, I.str.injEq, Int.natCast_inj, true_and, and_true] at h
    (try simp only [Prod.ext_iff, Subtype.ext_iff])
    (try simp only [rowsZ_eq, rowsN_eq] at h)
    simp_all) (x, y)
set_option maxRecDepth 100000 in
theorem law_isFinitePoint : Law Tryz.prog 150 ct_isFinitePoint := by
  refine fam_law (Env_cons law_isFinite Env_nil) hmixA Tryz.func150 rfl rfl (fun x => ⟨okO_im rfl, by simp [Tryz.f150], ?_⟩)
  try simp -dsimp (maxSteps := 1000000) only [go_sem, List.forall_mem_nil, ↓reduceIte, Nat.reduceEqDiff, Nat.reduceLT, Nat.reduceLeDiff, Nat.reduceAdd, Nat.reduceMul, reduceCtorEq, Tryz.f150, run_isFinite]
  repeat' ((first | (with_reducible refine gS_d ?_ ?_) | (with_reducible refine gS_dn ?_ ?_) | (with_reducible refine gS_i ?_ ?_)) <;> intro hg <;> (try simp -dsimp (maxSteps := 1000000) only [go_sem, List.forall_mem_nil, ↓reduceIte, Nat.reduceEqDiff, Nat.reduceLT, Nat.reduceLeDiff, Nat.reduceAdd, Nat.reduceMul, reduceCtorEq, Tryz.f150, run_isFinite, *]))
  all_goals simp_all
def eqPt (p q : Pt) : Bool := fcmp .eql .f32 p.1 q.1 && fcmp .eql .f32 p.2 q.2
noncomputable def ct_EqualPoints : Ct := fam true (fun x : Pt × Pt => ([.c (.im (.cpx .f32 x.1.1 x.1.2)), .c (.im (.cpx .f32 x.2.1 x.2.2))], [])) (fun x => .one { val := .c (.im (.bool (eqPt x.1 x.2))) })
theorem run_EqualPoints (x y u v : Nat) : ct_EqualPoints.run [.c (.im (.cpx .f32 x y)), .c (.im (.cpx .f32 u v))] [] = some (.one { val := .c (.im (.bool (eqPt (x, y) (u, v)))) }) := fam_run' (by
    intro a b h
    simp only [Prod.mk.injEq, List.cons.injEq, D.c.injEq, D.agg.injEq, C.im.injEq, I.cpx.injEq, I.flt.injEq, I.int.injEq, I.sl.injEq, I.bool.injEq, I.str.injEq, Int.natCast_inj, true_and, and_true] at h
    (try simp only [Prod.ext_iff, Subtype.ext_iff])
    (try simp only [rowsZ_eq, rowsN_eq] at h)
    simp_all) ((x, y), (u, v))
set_option maxRecDepth 100000 in
theorem law_EqualPoints : Law Tryz.prog 165 ct_EqualPoints := by
  refine fam_law Env_nil hmixA Tryz.func165 rfl rfl (fun x => ⟨okO_im rfl, by simp [Tryz.f165], ?_⟩)
  simp only [eqPt]
  try simp -dsimp (maxSteps := 1000000) only [go_sem, List.forall_mem_nil, ↓reduceIte, Nat.reduceEqDiff, Nat.reduceLT, Nat.reduceLeDiff, Nat.reduceAdd, Nat.reduceMul, reduceCtorEq, Tryz.f165]
  repeat' ((first | (with_reducible refine gS_d ?_ ?_) | (with_reducible refine gS_dn ?_ ?_) | (with_reducible refine gS_i ?_ ?_)) <;> intro hg <;> (try simp -dsimp (maxSteps := 1000000) only [go_sem, List.forall_mem_nil, ↓reduceIte, Nat.reduceEqDiff, Nat.reduceLT, Nat.reduceLeDiff, Nat.reduceAdd, Nat.reduceMul, reduceCtorEq, Tryz.f165, *]))
  all_goals simp_all
def addPt (p q : Pt) : Pt := (fop .add .f32 p.1 q.1, fop .add .f32 p.2 q.2)
def scaleF (p : Pt) (l : Nat) : Pt := (flushF (fop .mul .f32 p.1 l), flushF (fop .mul .f32 p.2 l))
def distF (p q : Pt) : Nat := fop .add .f32 (fop .mul .f32 (fop .sub .f32 p.1 q.1) (fop .sub .f32 p.1 q.1)) (fop .mul .f32 (fop .sub .f32 p.2 q.2) (fop .sub .f32 p.2 q.2))
noncomputable def ct_DistanceOf : Ct := fam true (fun x : Pt × Pt => ([.c (.im (.cpx .f32 x.1.1 x.1.2)), .c (.im (.cpx .f32 x.2.1 x.2.2))], [])) (fun x => .one { val := .c (.im (.flt .f32 (distF x.1 x.2))) })
theorem run_DistanceOf (x y u v : Nat) : ct_DistanceOf.run [.c (.im (.cpx .f32 x y)), .c (.im (.cpx .f32 u v))] [] = some (.one { val := .c (.im (.flt .f32 (distF (x, y) (u, v)))) }) := fam_run' (by
    intro a b h
    simp only [Prod.mk.injEq, List.cons.injEq, D.c.injEq, D.agg.injEq, C.im.injEq, I.cpx.injEq, I.flt.injEq, I.int.injEq, I.sl.injEq, I.bool.injEq, I.str.injEq, Int.natCast_inj, true_and, and_true] at h
    (try simp only [Prod.ext_iff, Subtype.ext_iff])
    (try simp only [rowsZ_eq, rowsN_eq] at h)
    simp_all) ((x, y), (u, v))
def mulRe (p q : Pt) : Nat := fop .sub .f64 (fop .mul .f64 (w64 p.1) (w64 q.1)) (fop .mul .f64 (w64 p.2) (w64 q.2))
def mulIm (p q : Pt) : Nat := fop .add .f64 (fop .mul .f64 (w64 p.1) (w64 q.2)) (fop .mul .f64 (w64 p.2) (w64 q.1))
def narrow (o : Nat) (x : Nat) : Nat := (fconv .f64 x .f32).getD o
def mulPt (o : Nat × Nat) (p q : Pt) : Pt := (narrow o.1 (mulRe p q), narrow o.2 (mulIm p q))
def oMul (p q : Pt) : Outs := .any (Nat × Nat) (fun o => { val := .c (.im (.cpx .f32 (mulPt o p q).1 (mulPt o p q).2)) })
noncomputable def ct_MultiplyPoints : Ct := fam true (fun x : Pt × Pt => ([.c (.im (.cpx .f32 x.1.1 x.1.2)), .c (.im (.cpx .f32 x.2.1 x.2.2))], [])) (fun x => oMul x.1 x.2)
theorem run_MultiplyPoints (x y u v : Nat) : ct_MultiplyPoints.run [.c (.im (.cpx .f32 x y)), .c (.im (.cpx .f32 u v))] [] = some (oMul (x, y) (u, v)) := fam_run' (by
    intro a b h
    simp only [Prod.mk.injEq, List.cons.injEq, D.c.injEq, D.agg.injEq, C.im.injEq, I.cpx.injEq, I.flt.injEq, I.int.injEq, I.sl.injEq, I.bool.injEq, I.str.injEq, Int.natCast_inj, true_and, and_true] at h
    (try simp only [Prod.ext_iff, Subtype.ext_iff])
    (try simp only [rowsZ_eq, rowsN_eq] at h)
    simp_all) ((x, y), (u, v))
theorem ne_nn : Nonempty (Nat × Nat) = True := by simp only [eq_iff_iff, iff_true]; exact ⟨(0, 0)⟩
theorem cK_narrow {x : Nat} {K : Nat → Prop} {t : Tag K} : cK (fconv .f64 x .f32) K t = ∀ o, K (narrow o x) := by
  unfold cK narrow
  cases fconv .f64 x .f32 with
  | some r => simp
  | none => rfl
end Go.SX
set_option linter.unusedVariables false
set_option linter.unusedSimpArgs false
namespace Go.SX
open Go Go.Proofs
def idxF {α : Type} (f : α → Bool) : List α → Nat → Int
  | [], _ => -1
  | x :: l, k => if f x = true then (k : Int) else idxF f l (k + 1)
theorem idxF_drop {α : Type} {f : α → Bool} {l : List α} {k : Nat} {p : α} (h : l[k]? = some p) : idxF f (l.drop k) k = if f p = true then (k : Int) else idxF f (l.drop (k + 1)) (k + 1) := by
  have hlt : k < l.length := (List.getElem?_eq_some_iff.1 h).1
  have hp : l[k] = p := by rw [List.getElem?_eq_getElem hlt] at h; injection h
  rw [List.drop_eq_getElem_cons hlt, hp]; rfl
def sm : Nat := 16777216
theorem lt_sm {k n : Nat} (h : n ≤ sm) (hk : k < n) : IntKind.i64.wrap ((k : Int) + 1) = ((k + 1 : Nat) : Int) := by
  have : sm = 16777216 := rfl
  rw [wrap_id] <;> omega
noncomputable def ct_place_1 : Ct := fam true (fun x : Pt × Pt => ([.c (.im (.cpx .f32 x.1.1 x.1.2)), .c (.ptr 0 0 0 0)], [[.t (.im (.cpx .f32 x.2.1 x.2.2))]])) (fun x => .one { val := .c (.im (.bool (eqPt x.1 x.2))), places := [[.t (.im (.cpx .f32 x.2.1 x.2.2))]] })
theorem run_place_1 (x y u v : Nat) : ct_place_1.run [.c (.im (.cpx .f32 x y)), .c (.ptr 0 0 0 0)] [[.t (.im (.cpx .f32 u v))]] = some (.one { val := .c (.im (.bool (eqPt (x, y) (u, v)))), places := [[.t (.im (.cpx .f32 u v))]] }) := by
  refine fam_run' (args := fun x : Pt × Pt => ([D.c (.im (.cpx .f32 x.1.1 x.1.2)), .c (.ptr 0 0 0 0)], [[B.t (.im (.cpx .f32 x.2.1 x.2.2))]])) ?_ ((x, y), (u, v))
  rintro ⟨⟨a, b⟩, ⟨c, d⟩⟩ ⟨⟨a', b'⟩, ⟨c', d'⟩⟩ h
  simp at h ⊢
  simp [h]
set_option maxRecDepth 100000 in
theorem law_place_1 : Law Tryz.prog 164 ct_place_1 := by
  refine fam_law (Env_cons law_EqualPoints Env_nil) hmixA Tryz.func164 rfl rfl (fun x => ⟨okO ⟨okD_im rfl, by simp, by intro c hc x hx; simp at hc; subst hc; simp at hx; subst hx; exact .t _ (.im _ (.inr rfl))⟩, by simp [Tryz.f164], ?_⟩)
  try simp -dsimp (maxSteps := 1000000) only [go_sem, List.forall_mem_nil, ↓reduceIte, Nat.reduceEqDiff, Nat.reduceLT, Nat.reduceLeDiff, Nat.reduceAdd, Nat.reduceMul, reduceCtorEq, Tryz.f164, run_EqualPoints]
noncomputable def ct_IndexFunc_complex64 : Ct := fam true (fun x : { l : List Pt // l.length ≤ sm } × Pt => ([.c (.im (.sl 1 (rowsZ x.1.1))), .c (.fn (.func 164) [.ptr 0 0 0 0])], [[.t (.im (.cpx .f32 x.2.1 x.2.2))]]))
  (fun x => .one { val := .c (.im (.int .i64 (idxF (eqPt · x.2) x.1.1 0))), places := [[.t (.im (.cpx .f32 x.2.1 x.2.2))]] })
theorem run_IndexFunc_complex64 {l : List Pt} (hl : l.length ≤ sm) (u v : Nat) : ct_IndexFunc_complex64.run [.c (.im (.sl 1 (rowsZ l))), .c (.fn (.func 164) [.ptr 0 0 0 0])] [[.t (.im (.cpx .f32 u v))]] =
    some (.one { val := .c (.im (.int .i64 (idxF (eqPt · (u, v)) l 0))), places := [[.t (.im (.cpx .f32 u v))]] }) := by
  refine fam_run' (args := fun x : { l : List Pt // l.length ≤ sm } × Pt => ([D.c (.im (.sl 1 (rowsZ x.1.1))), .c (.fn (.func 164) [.ptr 0 0 0 0])], [[B.t (.im (.cpx .f32 x.2.1 x.2.2))]])) ?_ (⟨l, hl⟩, (u, v))
  rintro ⟨⟨a, b⟩, ⟨c, d⟩⟩ ⟨⟨a', b'⟩, ⟨c', d'⟩⟩ h
  simp [rowsZ_eq] at h ⊢
  simp [h]
set_option maxRecDepth 100000 in
theorem law_IndexFunc_complex64 : Law Tryz.prog 163 ct_IndexFunc_complex64 := by
  refine fam_law (Env_cons law_place_1 Env_nil) hmixA Tryz.func163 rfl rfl (fun ⟨⟨l, hl⟩, ⟨u, v⟩⟩ => ⟨okO ⟨okD_im rfl, by simp, by intro c hc x hx; simp at hc; subst hc; simp at hx; subst hx; exact .t _ (.im _ (.inr rfl))⟩, by simp [Tryz.f163], ?_⟩)
  try simp -dsimp (maxSteps := 1000000) only [go_sem, List.forall_mem_nil, ↓reduceIte, Nat.reduceEqDiff, Nat.reduceLT, Nat.reduceLeDiff, Nat.reduceAdd, Nat.reduceMul, reduceCtorEq, Tryz.f163, rowsZ_len]
  refine loop_i (ι := { k : Nat // k ≤ l.length ∧ idxF (eqPt · (u, v)) l 0 = idxF (eqPt · (u, v)) (l.drop k) k }) (fun k => ⟨[(0, some (.c (.im (.sl 1 (rowsZ l))))), (1, some (.c (.fn (.func 164) [.ptr 0 0 0 0]))), (7, some (.c (.im (.int .i64 (l.length : Int))))), (8, some (.c (.im (.int .i64 (k.1 : Int)))))],
    [(0, some (.box [.t (.im (.cpx .f32 u v))]))], 1⟩) (fun k => l.length - k.1) ⟨0, by simp⟩ ⟨[], [], by ((simp only [go_sem, eq_self, MvRb, MvRn, MvRt, List.nodup_cons, List.nodup_nil, ↓reduceIte, Nat.reduceEqDiff, Nat.reduceLT, Nat.reduceLeDiff, reduceCtorEq, List.forall_mem_nil, Nat.zero_le, false_implies, List.mem_singleton]) <;> (try (simp -dsimp only [go_sem, eq_self, MvRb, MvRn, MvRt, List.nodup_cons, List.nodup_nil, ↓reduceIte, Nat.reduceEqDiff, Nat.reduceLT, Nat.reduceLeDiff, reduceCtorEq, List.forall_mem_nil, Nat.zero_le, false_implies, List.mem_singleton]))) <;> simp⟩ (fun ⟨k, hk, hinv⟩ => ?_)
  by_cases hlt : k < l.length
  · obtain ⟨p, hp⟩ : ∃ p, l[k]? = some p := ⟨_, List.getElem?_eq_getElem hlt⟩
    have hrow := rowsZ_at hp
    have hI : ((k : Int) < (l.length : Int)) = True := by simp; omega
    have h0 : (0 ≤ (k : Int)) = True := by simp
    have hidx := idxF_drop (f := (eqPt · (u, v))) hp
    have hwr := lt_sm hl hlt
    obtain ⟨a, b⟩ := p
    cases hq : eqPt (a, b) (u, v) with
    | true =>
      simp only [hq, if_true] at hidx
      rw [hidx] at hinv
      clear hidx
      try simp -dsimp (maxSteps := 1000000) only [go_sem, List.forall_mem_nil, ↓reduceIte, Nat.reduceEqDiff, Nat.reduceLT, Nat.reduceLeDiff, Nat.reduceAdd, Nat.reduceMul, reduceCtorEq, Tryz.f163, hI, h0, Int.toNat_natCast, hrow, run_place_1, hq, hinv, rowsZ_len]
    | false =>
      simp only [hq, if_false, Bool.false_eq_true] at hidx
      rw [hidx] at hinv
      clear hidx
      try simp -dsimp (maxSteps := 1000000) only [go_sem, List.forall_mem_nil, ↓reduceIte, Nat.reduceEqDiff, Nat.reduceLT, Nat.reduceLeDiff, Nat.reduceAdd, Nat.reduceMul, reduceCtorEq, Tryz.f163, hI, h0, Int.toNat_natCast, hrow, run_place_1, hq, hwr, rowsZ_len]
      exact ⟨⟨k + 1, by omega, hinv⟩, by simp only []; omega, [], [], by (simp only [go_sem, eq_self, MvRb, MvRn, MvRt, List.nodup_cons, List.nodup_nil, ↓reduceIte, Nat.reduceEqDiff, Nat.reduceLT, Nat.reduceLeDiff, reduceCtorEq, List.forall_mem_nil, Nat.zero_le, false_implies, List.mem_singleton]) <;> simp⟩
  · have hI : ((k : Int) < (l.length : Int)) = False := by simp; omega
    have hkl : k = l.length := by omega
    subst hkl
    rw [List.drop_length] at hinv
    try simp -dsimp (maxSteps := 1000000) only [go_sem, List.forall_mem_nil, ↓reduceIte, Nat.reduceEqDiff, Nat.reduceLT, Nat.reduceLeDiff, Nat.reduceAdd, Nat.reduceMul, reduceCtorEq, Tryz.f163, hI, hinv, idxF, rowsZ_len]
end Go.SX
set_option linter.unusedVariables false
set_option linter.unusedSimpArgs false
namespace Go.SX
open Go Go.Proofs
theorem rowsZ_take (l : List Pt) (k : Nat) : (rowsZ l).take k = rowsZ (l.take k) := by simp [rowsZ, List.map_take]
noncomputable def ct_place : Ct := fam true (fun x : { l : List Pt // l.length ≤ sm } × Pt => ([.c (.im (.sl 1 (rowsZ x.1.1))), .c (.im (.cpx .f32 x.2.1 x.2.2))], [])) (fun x => .one { val := .c (.im (.int .i64 (idxF (eqPt · x.2) x.1.1 0))) })
theorem run_place {l : List Pt} (hl : l.length ≤ sm) (u v : Nat) : ct_place.run [.c (.im (.sl 1 (rowsZ l))), .c (.im (.cpx .f32 u v))] [] = some (.one { val := .c (.im (.int .i64 (idxF (eqPt · (u, v)) l 0))) }) := by
  refine fam_run' (args := fun x : { l : List Pt // l.length ≤ sm } × Pt => ([D.c (.im (.sl 1 (rowsZ x.1.1))), .c (.im (.cpx .f32 x.2.1 x.2.2))], [])) ?_ (⟨l, hl⟩, (u, v))
  rintro ⟨⟨a, b⟩, ⟨c, d⟩⟩ ⟨⟨a', b'⟩, ⟨c', d'⟩⟩ h
  simp [rowsZ_eq] at h ⊢
  simp [h]
set_option maxRecDepth 100000 in
theorem law_place : Law Tryz.prog 151 ct_place := by
  refine fam_law (Env_cons law_IndexFunc_complex64 Env_nil) hmixA Tryz.func151 rfl rfl (fun ⟨⟨l, hl⟩, ⟨u, v⟩⟩ => ⟨okO_im rfl, by simp [Tryz.f151], ?_⟩)
  try simp -dsimp (maxSteps := 1000000) only [go_sem, List.forall_mem_nil, ↓reduceIte, Nat.reduceEqDiff, Nat.reduceLT, Nat.reduceLeDiff, Nat.reduceAdd, Nat.reduceMul, reduceCtorEq, Tryz.f151, run_IndexFunc_complex64 hl]
def tblGo (pts : List Pt) : List Pt → Nat → Bool
  | [], _ => true
  | p :: l, k => (isFin p.1 && isFin p.2) && (decide (idxF (eqPt · p) (pts.take k) 0 < 0) && tblGo pts l (k + 1))
def isTableF (pts : List Pt) (lab : List Int) : Bool := decide (pts.length = lab.length) && (decide (pts.length ≤ 64) && tblGo pts pts 0)
theorem tblGo_drop {pts : List Pt} {k : Nat} {p : Pt} (h : pts[k]? = some p) : tblGo pts (pts.drop k) k = ((isFin p.1 && isFin p.2) && (decide (idxF (eqPt · p) (pts.take k) 0 < 0) && tblGo pts (pts.drop (k + 1)) (k + 1))) := by
  have hlt : k < pts.length := (List.getElem?_eq_some_iff.1 h).1
  have hp : pts[k] = p := by rw [List.getElem?_eq_getElem hlt] at h; injection h
  rw [List.drop_eq_getElem_cons hlt, hp]; rfl
abbrev Tb := { t : List Pt × List Int // t.1.length ≤ sm ∧ t.2.length ≤ sm }
noncomputable def ct_IsTable : Ct := fam true (fun x : Tb => ([.agg [.im (.sl 1 (rowsZ x.1.1)), .im (.sl 1 (rowsN x.1.2))]], [])) (fun x => .one { val := .c (.im (.bool (isTableF x.1.1 x.1.2))) })
theorem run_IsTable {pts : List Pt} {lab : List Int} (h1 : pts.length ≤ sm) (h2 : lab.length ≤ sm) : ct_IsTable.run [.agg [.im (.sl 1 (rowsZ pts)), .im (.sl 1 (rowsN lab))]] [] = some (.one { val := .c (.im (.bool (isTableF pts lab))) }) := by
  refine fam_run' (args := fun x : Tb => ([D.agg [.im (.sl 1 (rowsZ x.1.1)), .im (.sl 1 (rowsN x.1.2))]], [])) ?_ ⟨(pts, lab), h1, h2⟩
  rintro ⟨⟨a, b⟩, _⟩ ⟨⟨a', b'⟩, _⟩ h
  simp [rowsZ_eq, rowsN_eq] at h ⊢
  simp [h]
set_option maxRecDepth 100000 in
theorem law_IsTable : Law Tryz.prog 119 ct_IsTable := by
  refine fam_law (Env_cons law_isFinitePoint (Env_cons law_place Env_nil)) hmixA Tryz.func119 rfl rfl (fun ⟨⟨pts, lab⟩, h1, h2⟩ => ⟨okO_im rfl, by simp [Tryz.f119], ?_⟩)
  simp only [] at h1 h2
  by_cases hlen : pts.length = lab.length
  rotate_left
  · have e1 : ((pts.length : Int) = (lab.length : Int)) = False := by simp; omega
    have hF : isTableF pts lab = false := by simp [isTableF, hlen]
    clear hlen
    try simp -dsimp (maxSteps := 1000000) only [go_sem, List.forall_mem_nil, ↓reduceIte, Nat.reduceEqDiff, Nat.reduceLT, Nat.reduceLeDiff, Nat.reduceAdd, Nat.reduceMul, reduceCtorEq, Tryz.f119, rowsZ_len, rowsN_len, e1, hF]
  have e1 : ((pts.length : Int) = (lab.length : Int)) = True := by simp; omega
  by_cases h64 : pts.length ≤ 64
  rotate_left
  · have e2 : ((64 : Int) < (pts.length : Int)) = True := by simp; omega
    have hF : isTableF pts lab = false := by simp [isTableF, h64]
    clear hlen h64
    try simp -dsimp (maxSteps := 1000000) only [go_sem, List.forall_mem_nil, ↓reduceIte, Nat.reduceEqDiff, Nat.reduceLT, Nat.reduceLeDiff, Nat.reduceAdd, Nat.reduceMul, reduceCtorEq, Tryz.f119, rowsZ_len, rowsN_len, e1, e2, hF]
  have e2 : ((64 : Int) < (pts.length : Int)) = False := by simp; omega
  have hF : isTableF pts lab = tblGo pts pts 0 := by unfold isTableF; rw [decide_eq_true hlen, decide_eq_true h64]; simp
  rw [hF]
  clear hlen h64 hF
  try simp -dsimp (maxSteps := 1000000) only [go_sem, List.forall_mem_nil, ↓reduceIte, Nat.reduceEqDiff, Nat.reduceLT, Nat.reduceLeDiff, Nat.reduceAdd, Nat.reduceMul, reduceCtorEq, Tryz.f119, rowsZ_len, rowsN_len, e1, e2]
  refine loop_i (ι := { k : Nat // k ≤ pts.length ∧ tblGo pts pts 0 = tblGo pts (pts.drop k) k }) (fun k => ⟨[(1, some (.c (.ptr 0 0 0 0))), (19, some (.c (.im (.sl 1 (rowsZ pts))))), (20, some (.c (.im (.int .i64 (pts.length : Int))))), (21, some (.c (.im (.int .i64 (k.1 : Int)))))],
    [(0, some (.box [.t (.im (.sl 1 (rowsZ pts))), .t (.im (.sl 1 (rowsN lab)))]))], 1⟩) (fun k => pts.length - k.1) ⟨0, by simp⟩ ⟨[], [], by ((simp only [go_sem, eq_self, MvRb, MvRn, MvRt, List.nodup_cons, List.nodup_nil, ↓reduceIte, Nat.reduceEqDiff, Nat.reduceLT, Nat.reduceLeDiff, reduceCtorEq, List.forall_mem_nil, Nat.zero_le, false_implies, List.mem_singleton]) <;> (try (simp -dsimp only [go_sem, eq_self, MvRb, MvRn, MvRt, List.nodup_cons, List.nodup_nil, ↓reduceIte, Nat.reduceEqDiff, Nat.reduceLT, Nat.reduceLeDiff, reduceCtorEq, List.forall_mem_nil, Nat.zero_le, false_implies, List.mem_singleton]))) <;> simp⟩ (fun ⟨k, hk, hinv⟩ => ?_)
  by_cases hlt : k < pts.length
  · obtain ⟨p, hp⟩ : ∃ p, pts[k]? = some p := ⟨_, List.getElem?_eq_getElem hlt⟩
    have hrow := rowsZ_at hp
    have hI : ((k : Int) < (pts.length : Int)) = True := by simp; omega
    have h0 : (0 ≤ (k : Int)) = True := by simp
    have hle : ((k : Int) ≤ (pts.length : Int)) = True := by simp; omega
    have hidx := tblGo_drop hp
    have hwr := lt_sm h1 hlt
    have htk : (pts.take k).length ≤ sm := by rw [List.length_take]; omega
    obtain ⟨a, b⟩ := p
    cases hf : (isFin a && isFin b) with
    | false =>
      simp only [hf, Bool.false_and] at hidx
      rw [hidx] at hinv
      clear hidx
      try simp -dsimp (maxSteps := 1000000) only [go_sem, List.forall_mem_nil, ↓reduceIte, Nat.reduceEqDiff, Nat.reduceLT, Nat.reduceLeDiff, Nat.reduceAdd, Nat.reduceMul, reduceCtorEq, Tryz.f119, hI, h0, Int.toNat_natCast, hrow, run_isFinitePoint, hf, hinv, rowsZ_len]
    | true =>
      by_cases hq : idxF (eqPt · (a, b)) (pts.take k) 0 < 0
      · have hq' : ((0 : Int) ≤ idxF (eqPt · (a, b)) (pts.take k) 0) = False := by simp; omega
        simp only [hf, hq, decide_true, Bool.true_and] at hidx
        rw [hidx] at hinv
        clear hidx hq
        try simp -dsimp (maxSteps := 1000000) only [go_sem, List.forall_mem_nil, ↓reduceIte, Nat.reduceEqDiff, Nat.reduceLT, Nat.reduceLeDiff, Nat.reduceAdd, Nat.reduceMul, reduceCtorEq, Tryz.f119, hI, h0, hle, Int.toNat_natCast, hrow, run_isFinitePoint, hf, rowsZ_take, run_place htk, hq', hwr, rowsZ_len]
        exact ⟨⟨k + 1, by omega, hinv⟩, by simp only []; omega, [], [], by (simp only [go_sem, eq_self, MvRb, MvRn, MvRt, List.nodup_cons, List.nodup_nil, ↓reduceIte, Nat.reduceEqDiff, Nat.reduceLT, Nat.reduceLeDiff, reduceCtorEq, List.forall_mem_nil, Nat.zero_le, false_implies, List.mem_singleton]) <;> simp⟩
      · have hq' : ((0 : Int) ≤ idxF (eqPt · (a, b)) (pts.take k) 0) = True := by simp; omega
        simp only [hf, hq, decide_false, Bool.true_and, Bool.false_and] at hidx
        rw [hidx] at hinv
        clear hidx hq
        try simp -dsimp (maxSteps := 1000000) only [go_sem, List.forall_mem_nil, ↓reduceIte, Nat.reduceEqDiff, Nat.reduceLT, Nat.reduceLeDiff, Nat.reduceAdd, Nat.reduceMul, reduceCtorEq, Tryz.f119, hI, h0, hle, Int.toNat_natCast, hrow, run_isFinitePoint, hf, rowsZ_take, run_place htk, hq', hinv, rowsZ_len]
  · have hI : ((k : Int) < (pts.length : Int)) = False := by simp; omega
    have hkl : k = pts.length := by omega
    subst hkl
    rw [List.drop_length] at hinv
    try simp -dsimp (maxSteps := 1000000) only [go_sem, List.forall_mem_nil, ↓reduceIte, Nat.reduceEqDiff, Nat.reduceLT, Nat.reduceLeDiff, Nat.reduceAdd, Nat.reduceMul, reduceCtorEq, Tryz.f119, hI, hinv, tblGo, rowsZ_len]
def nearGo (z : Pt) : List Pt → Nat → Int → Nat → Int
  | [], _, b, _ => b
  | p :: l, k, b, m => if (fcmp .eql .f32 (distF p z) (distF p z) && (decide (b < 0) || fcmp .lss .f32 (distF p z) m)) = true then nearGo z l (k + 1) k (distF p z) else nearGo z l (k + 1) b m
theorem nearGo_drop {z : Pt} {pts : List Pt} {k : Nat} {b : Int} {m : Nat} {p : Pt} (h : pts[k]? = some p) : nearGo z (pts.drop k) k b m =
    if (fcmp .eql .f32 (distF p z) (distF p z) && (decide (b < 0) || fcmp .lss .f32 (distF p z) m)) = true then nearGo z (pts.drop (k + 1)) (k + 1) k (distF p z) else nearGo z (pts.drop (k + 1)) (k + 1) b m := by
  have hlt : k < pts.length := (List.getElem?_eq_some_iff.1 h).1
  have hp : pts[k] = p := by rw [List.getElem?_eq_getElem hlt] at h; injection h
  rw [List.drop_eq_getElem_cons hlt, hp]; rfl
end Go.SX
set_option linter.unusedVariables false
set_option linter.unusedSimpArgs false
namespace Go.SX
open Go Go.Proofs
theorem mvR_tI {sc : Bool} {sz : Nat} {rows : List (List I)} (h : ∀ r ∈ rows, ∀ i ∈ r, scI i = true) : MvR sc (.arr sz (tI rows)) := by
  intro r hr t ht
  simp only [tI, List.mem_map] at hr
  obtain ⟨r0, hr0, rfl⟩ := hr
  simp only [List.mem_map] at ht
  obtain ⟨i, hi, rfl⟩ := ht
  exact .im _ (.inr (h r0 hr0 i hi))
theorem sc_rowsZ (l : List Pt) : ∀ r ∈ rowsZ l, ∀ i ∈ r, scI i = true := by
  intro r hr i hi
  simp only [rowsZ, List.mem_map] at hr
  obtain ⟨p, _, rfl⟩ := hr
  simp at hi; subst hi; rfl
theorem sc_rowsN (l : List Int) : ∀ r ∈ rowsN l, ∀ i ∈ r, scI i = true := by
  intro r hr i hi
  simp only [rowsN, List.mem_map] at hr
  obtain ⟨p, _, rfl⟩ := hr
  simp at hi; subst hi; rfl
def rNew (sz : Nat) (rows : List (List I)) : Res := { val := .c (.view 0 sz 0 rows.length), roots := [.arr sz (tI rows)] }
theorem okR_new {sc : Bool} {sz : Nat} {rows : List (List I)} (h : ∀ r ∈ rows, ∀ i ∈ r, scI i = true) : OkR sc (rNew sz rows) :=
  ⟨.c _ (.view _ _ _ _ (by simp [rNew])), by intro r hr; simp [rNew] at hr; subst hr; exact mvR_tI h, by simp [rNew]⟩
theorem map_im_tI (rows : List (List I)) : List.map (fun r => List.map T.im r) rows = tI rows := rfl
theorem bytes_sm {n k : Nat} (h : n ≤ sm) (hk : k ≤ 128) : (n * k ≤ 140737488355328) = True := by
  have : sm = 16777216 := rfl
  simp only [eq_iff_iff, iff_true]
  calc n * k ≤ 16777216 * 128 := Nat.mul_le_mul (by omega) hk
    _ ≤ _ := by decide
abbrev Cbl := Int × Int
def rowsC (l : List Cbl) : List (List I) := l.map fun c => [.int .i64 c.1, .int .i64 c.2]
theorem rowsC_len (l : List Cbl) : (rowsC l).length = l.length := by simp [rowsC]
theorem rowsC_at {l : List Cbl} {k : Nat} {p : Cbl} (h : l[k]? = some p) : (rowsC l)[k]? = some [.int .i64 p.1, .int .i64 p.2] := by simp [rowsC, h]
theorem rowsC_inj {l m : List Cbl} (h : rowsC l = rowsC m) : l = m := by
  induction l generalizing m with
  | nil => cases m with | nil => rfl | cons => simp [rowsC] at h
  | cons p l ih =>
    cases m with
    | nil => simp [rowsC] at h
    | cons q m =>
      simp only [rowsC, List.map_cons, List.cons.injEq, I.int.injEq, true_and, and_true] at h
      rw [ih h.2, show p = q from Prod.ext h.1.1 h.1.2]
theorem rowsC_eq {l m : List Cbl} : (rowsC l = rowsC m) = (l = m) := propext ⟨rowsC_inj, fun h => by rw [h]⟩
def rTb (pts : List Pt) (lab : List Int) : Res := { val := .agg [.view 0 1 0 pts.length, .view 1 1 0 lab.length], roots := [.arr 1 (tI (rowsZ pts)), .arr 1 (tI (rowsN lab))] }
theorem okR_tb {sc : Bool} {pts : List Pt} {lab : List Int} : OkR sc (rTb pts lab) := by
  refine ⟨.agg _ (fun x hx => ?_), fun r hr => ?_, by simp [rTb]⟩
  · simp [rTb] at hx ⊢
    rcases hx with rfl | rfl <;> exact .view _ _ _ _ (by simp)
  · simp [rTb] at hr
    rcases hr with rfl | rfl
    · exact mvR_tI (sc_rowsZ _)
    · exact mvR_tI (sc_rowsN _)
noncomputable def ct_copyTable : Ct := fam true (fun x : Tb => ([.agg [.im (.sl 1 (rowsZ x.1.1)), .im (.sl 1 (rowsN x.1.2))]], [])) (fun x => .one (rTb x.1.1 x.1.2))
theorem run_copyTable {pts : List Pt} {lab : List Int} (h1 : pts.length ≤ sm) (h2 : lab.length ≤ sm) : ct_copyTable.run [.agg [.im (.sl 1 (rowsZ pts)), .im (.sl 1 (rowsN lab))]] [] = some (.one (rTb pts lab)) := by
  refine fam_run' (args := fun x : Tb => ([D.agg [.im (.sl 1 (rowsZ x.1.1)), .im (.sl 1 (rowsN x.1.2))]], [])) ?_ ⟨(pts, lab), h1, h2⟩
  rintro ⟨⟨a, b⟩, _⟩ ⟨⟨a', b'⟩, _⟩ h
  simp [rowsZ_eq, rowsN_eq] at h ⊢
  simp [h]
end Go.SX
set_option linter.unusedVariables false
set_option linter.unusedSimpArgs false
namespace Go.SX
open Go Go.Proofs
structure Mod where
  kind : Int
  turn : Pt
  state : Pt
  level : Nat
  store : List Pt
  rat : Int
  rcnt : Int
  pts : List Pt
  lab : List Int
  count : Int
  left : Int
def modI (m : Mod) : List I := [.int .i64 m.kind, .cpx .f32 m.turn.1 m.turn.2, .cpx .f32 m.state.1 m.state.2, .flt .f32 m.level, .sl 1 (rowsZ m.store), .int .i64 m.rat, .int .i64 m.rcnt, .sl 1 (rowsZ m.pts), .sl 1 (rowsN m.lab), .int .i64 m.count, .int .i64 m.left]
def modC (m : Mod) : List C := [.im (.int .i64 m.kind), .im (.cpx .f32 m.turn.1 m.turn.2), .im (.cpx .f32 m.state.1 m.state.2), .im (.flt .f32 m.level), .im (.sl 1 (rowsZ m.store)), .im (.int .i64 m.rat), .im (.int .i64 m.rcnt), .im (.sl 1 (rowsZ m.pts)), .im (.sl 1 (rowsN m.lab)), .im (.int .i64 m.count), .im (.int .i64 m.left)]
theorem modC_inj {a b : Mod} (h : modC a = modC b) : a = b := by
  obtain ⟨k, ⟨t1, t2⟩, ⟨s1, s2⟩, l, st, r1, r2, p, la, c, le⟩ := a
  obtain ⟨k', ⟨t1', t2'⟩, ⟨s1', s2'⟩, l', st', r1', r2', p', la', c', le'⟩ := b
  simp [modC, rowsZ_eq, rowsN_eq] at h
  simp [h]
structure OkM (m : Mod) : Prop where
  store : m.store.length ≤ sm
  pts : m.pts.length ≤ sm
  lab : m.lab.length ≤ sm
noncomputable def ct_copyRing : Ct := fam true (fun x : { l : List Pt // l.length ≤ sm } × Int × Int => ([.agg [.im (.sl 1 (rowsZ x.1.1)), .im (.int .i64 x.2.1), .im (.int .i64 x.2.2)]], []))
  (fun x => .one { val := .agg [.view 0 1 0 x.1.1.length, .im (.int .i64 x.2.1), .im (.int .i64 x.2.2)], roots := [.arr 1 (tI (rowsZ x.1.1))] })
theorem run_copyRing {l : List Pt} (hl : l.length ≤ sm) (a c : Int) : ct_copyRing.run [.agg [.im (.sl 1 (rowsZ l)), .im (.int .i64 a), .im (.int .i64 c)]] [] =
    some (.one { val := .agg [.view 0 1 0 l.length, .im (.int .i64 a), .im (.int .i64 c)], roots := [.arr 1 (tI (rowsZ l))] }) := by
  refine fam_run' (args := fun x : { l : List Pt // l.length ≤ sm } × Int × Int => ([D.agg [.im (.sl 1 (rowsZ x.1.1)), .im (.int .i64 x.2.1), .im (.int .i64 x.2.2)]], [])) ?_ (⟨l, hl⟩, a, c)
  rintro ⟨⟨a, b⟩, c⟩ ⟨⟨a', b'⟩, c'⟩ h
  simp [rowsZ_eq] at h ⊢
  simp [h, Prod.ext_iff]
def ringGo (st : List Pt) (a : Nat) : Nat → Nat → Bool
  | 0, _ => true
  | f + 1, i => nzP (st.getD ((a + i) % st.length) (0, 0)) && ringGo st a f (i + 1)
def ringC (st : List Pt) (a c : Int) : Prop := 1 ≤ st.length ∧ st.length ≤ 16 ∧ 0 ≤ a ∧ a < st.length ∧ 0 ≤ c ∧ c ≤ st.length
instance (st : List Pt) (a c : Int) : Decidable (ringC st a c) := by unfold ringC; infer_instance
def isRingF (st : List Pt) (a c : Int) : Bool := decide (ringC st a c) && ringGo st a.toNat (st.length - c.toNat) c.toNat
noncomputable def ct_IsRing : Ct := fam true (fun x : { l : List Pt // l.length ≤ sm } × Int × Int => ([.agg [.im (.sl 1 (rowsZ x.1.1)), .im (.int .i64 x.2.1), .im (.int .i64 x.2.2)]], []))
  (fun x => .one { val := .c (.im (.bool (isRingF x.1.1 x.2.1 x.2.2))) })
theorem run_IsRing {l : List Pt} (hl : l.length ≤ sm) (a c : Int) : ct_IsRing.run [.agg [.im (.sl 1 (rowsZ l)), .im (.int .i64 a), .im (.int .i64 c)]] [] = some (.one { val := .c (.im (.bool (isRingF l a c))) }) := by
  refine fam_run' (args := fun x : { l : List Pt // l.length ≤ sm } × Int × Int => ([D.agg [.im (.sl 1 (rowsZ x.1.1)), .im (.int .i64 x.2.1), .im (.int .i64 x.2.2)]], [])) ?_ (⟨l, hl⟩, a, c)
  rintro ⟨⟨a, b⟩, c⟩ ⟨⟨a', b'⟩, c'⟩ h
  simp [rowsZ_eq] at h ⊢
  simp [h, Prod.ext_iff]
set_option maxRecDepth 100000 in
set_option maxHeartbeats 4000000 in
theorem law_IsRing : Law Tryz.prog 118 ct_IsRing := by
  refine fam_law (Env_cons law_isNoughts Env_nil) hmixA Tryz.func118 rfl rfl (fun ⟨⟨l, hl⟩, a, c⟩ => ⟨okO_im rfl, by simp [Tryz.f118], ?_⟩)
  by_cases hC : ringC l a c
  rotate_left
  · have hF : isRingF l a c = false := by simp [isRingF, hC]
    by_cases p1 : (l.length : Int) < 1
    · have e1 := eq_true p1
      clear p1
      try simp -dsimp (maxSteps := 1000000) only [go_sem, List.forall_mem_nil, ↓reduceIte, Nat.reduceEqDiff, Nat.reduceLT, Nat.reduceLeDiff, Nat.reduceAdd, Nat.reduceMul, reduceCtorEq, Tryz.f118, rowsZ_len, hF, e1]
    have e1 := eq_false p1
    by_cases p2 : (16 : Int) < (l.length : Int)
    · have e2 := eq_true p2
      clear p2
      try simp -dsimp (maxSteps := 1000000) only [go_sem, List.forall_mem_nil, ↓reduceIte, Nat.reduceEqDiff, Nat.reduceLT, Nat.reduceLeDiff, Nat.reduceAdd, Nat.reduceMul, reduceCtorEq, Tryz.f118, rowsZ_len, hF, e1, e2]
    have e2 := eq_false p2
    by_cases p3 : a < 0
    · have e3 := eq_true p3
      clear p3
      try simp -dsimp (maxSteps := 1000000) only [go_sem, List.forall_mem_nil, ↓reduceIte, Nat.reduceEqDiff, Nat.reduceLT, Nat.reduceLeDiff, Nat.reduceAdd, Nat.reduceMul, reduceCtorEq, Tryz.f118, rowsZ_len, hF, e1, e2, e3]
    have e3 := eq_false p3
    by_cases p4 : (l.length : Int) ≤ a
    · have e4 := eq_true p4
      clear p4
      try simp -dsimp (maxSteps := 1000000) only [go_sem, List.forall_mem_nil, ↓reduceIte, Nat.reduceEqDiff, Nat.reduceLT, Nat.reduceLeDiff, Nat.reduceAdd, Nat.reduceMul, reduceCtorEq, Tryz.f118, rowsZ_len, hF, e1, e2, e3, e4]
    have e4 := eq_false p4
    by_cases p5 : c < 0
    · have e5 := eq_true p5
      clear p5
      try simp -dsimp (maxSteps := 1000000) only [go_sem, List.forall_mem_nil, ↓reduceIte, Nat.reduceEqDiff, Nat.reduceLT, Nat.reduceLeDiff, Nat.reduceAdd, Nat.reduceMul, reduceCtorEq, Tryz.f118, rowsZ_len, hF, e1, e2, e3, e4, e5]
    have e5 := eq_false p5
    by_cases p6 : (l.length : Int) < c
    · have e6 := eq_true p6
      clear p6
      try simp -dsimp (maxSteps := 1000000) only [go_sem, List.forall_mem_nil, ↓reduceIte, Nat.reduceEqDiff, Nat.reduceLT, Nat.reduceLeDiff, Nat.reduceAdd, Nat.reduceMul, reduceCtorEq, Tryz.f118, rowsZ_len, hF, e1, e2, e3, e4, e5, e6]
    have e6 := eq_false p6
    exfalso; apply hC; unfold ringC; omega
  obtain ⟨c1, c2, c3, c4, c5, c6⟩ := hC
  have hF : isRingF l a c = ringGo l a.toNat (l.length - c.toNat) c.toNat := by
    have : ringC l a c := ⟨c1, c2, c3, c4, c5, c6⟩
    simp [isRingF, this]
  have q1 : ((l.length : Int) < 1) = False := by simp; omega
  have q2 : ((16 : Int) < (l.length : Int)) = False := by simp; omega
  have q3 : (a < 0) = False := by simp; omega
  have q4 : ((l.length : Int) ≤ a) = False := by simp; omega
  have q5 : (c < 0) = False := by simp; omega
  have q6 : ((l.length : Int) < c) = False := by simp; omega
  obtain ⟨an, rfl⟩ : ∃ n : Nat, a = n := ⟨a.toNat, by omega⟩
  obtain ⟨cn, rfl⟩ : ∃ n : Nat, c = n := ⟨c.toNat, by omega⟩
  rw [hF]
  simp only [Int.toNat_natCast] at *
  clear hF c3 c5
  try simp -dsimp (maxSteps := 1000000) only [go_sem, List.forall_mem_nil, ↓reduceIte, Nat.reduceEqDiff, Nat.reduceLT, Nat.reduceLeDiff, Nat.reduceAdd, Nat.reduceMul, reduceCtorEq, Tryz.f118, rowsZ_len, q1, q2, q3, q4, q5, q6]
  clear q1 q2 q3 q4 q5 q6
  refine loop_i (ι := { k : Nat // k ≤ l.length ∧ ringGo l an (l.length - cn) cn = ringGo l an (l.length - k) k }) (fun k => ⟨[(1, some (.c (.ptr 0 0 0 0))), (3, some (.c (.im (.int .i64 (l.length : Int))))), (4, some (.c (.im (.int .i64 (k.1 : Int)))))],
    [(0, some (.box [.t (.im (.sl 1 (rowsZ l))), .t (.im (.int .i64 (an : Int))), .t (.im (.int .i64 (cn : Int)))]))], 1⟩) (fun k => l.length - k.1) ⟨cn, by omega, rfl⟩ ⟨[], [], by (simp only [go_sem, eq_self, MvRb, MvRn, MvRt, List.nodup_cons, List.nodup_nil, ↓reduceIte, Nat.reduceEqDiff, Nat.reduceLT, Nat.reduceLeDiff, reduceCtorEq, List.forall_mem_nil, Nat.zero_le, false_implies, List.mem_singleton]) <;> simp⟩ (fun ⟨k, hk, hinv⟩ => ?_)
  by_cases hlt : k < l.length
  · have hlt2 : (an + k) % l.length < l.length := Nat.mod_lt _ (by omega)
    obtain ⟨p, hp⟩ : ∃ p, l[(an + k) % l.length]? = some p := ⟨_, List.getElem?_eq_getElem hlt2⟩
    have hrow := rowsZ_at hp
    have hI : ((k : Int) < (l.length : Int)) = True := by simp; omega
    have hw : IntKind.i64.wrap ((an : Int) + (k : Int)) = ((an + k : Nat) : Int) := by rw [wrap_id] <;> omega
    have hm : (((an + k : Nat) : Int)).tmod (l.length : Int) = (((an + k) % l.length : Nat) : Int) := by rw [Int.tmod_eq_emod_of_nonneg (Int.natCast_nonneg _)]; exact (Int.natCast_emod _ _).symm
    have h00 : ((l.length : Int) = 0) = False := eq_false (by omega)
    have h01 : (0 ≤ (((an + k) % l.length : Nat) : Int)) = True := eq_true (Int.natCast_nonneg _)
    have hwr := lt_sm hl hlt
    have hidx : ringGo l an (l.length - k) k = (nzP p && ringGo l an (l.length - (k + 1)) (k + 1)) := by
      rw [show l.length - k = (l.length - (k + 1)) + 1 by omega]
      simp [ringGo, hp]
    obtain ⟨x, y⟩ := p
    rw [hidx] at hinv
    cases hq : nzP (x, y) with
    | false =>
      rw [hq, Bool.false_and] at hinv
      clear hidx
      try simp -dsimp (maxSteps := 1000000) only [go_sem, List.forall_mem_nil, ↓reduceIte, Nat.reduceEqDiff, Nat.reduceLT, Nat.reduceLeDiff, Nat.reduceAdd, Nat.reduceMul, reduceCtorEq, Tryz.f118, hI, hw, hm, h00, h01, Int.toNat_natCast, hrow, run_isNoughts, hq, hinv, rowsZ_len]
      repeat' (first
        | ((with_reducible refine sl_i ?_ ?_); focus kernel_rfl)
        | ((with_reducible refine ro_e ?_); kernel_rfl))
    | true =>
      rw [hq, Bool.true_and] at hinv
      clear hidx
      try simp -dsimp (maxSteps := 1000000) only [go_sem, List.forall_mem_nil, ↓reduceIte, Nat.reduceEqDiff, Nat.reduceLT, Nat.reduceLeDiff, Nat.reduceAdd, Nat.reduceMul, reduceCtorEq, Tryz.f118, hI, hw, hm, h00, h01, Int.toNat_natCast, hrow, run_isNoughts, hq, hwr, rowsZ_len]
      repeat' (first
        | ((with_reducible refine sl_i ?_ ?_); focus kernel_rfl)
        | ((with_reducible refine ro_i ?_ ?_); focus kernel_rfl))
      exact ⟨⟨k + 1, by omega, hinv⟩, by simp only []; omega, [], [], by (simp only [go_sem, eq_self, MvRb, MvRn, MvRt, List.nodup_cons, List.nodup_nil, ↓reduceIte, Nat.reduceEqDiff, Nat.reduceLT, Nat.reduceLeDiff, reduceCtorEq, List.forall_mem_nil, Nat.zero_le, false_implies, List.mem_singleton]) <;> simp⟩
  · have hI : ((k : Int) < (l.length : Int)) = False := by simp; omega
    have hkl : k = l.length := by omega
    subst hkl
    rw [Nat.sub_self] at hinv
    try simp -dsimp (maxSteps := 1000000) only [go_sem, List.forall_mem_nil, ↓reduceIte, Nat.reduceEqDiff, Nat.reduceLT, Nat.reduceLeDiff, Nat.reduceAdd, Nat.reduceMul, reduceCtorEq, Tryz.f118, hI, hinv, ringGo, rowsZ_len]
end Go.SX
