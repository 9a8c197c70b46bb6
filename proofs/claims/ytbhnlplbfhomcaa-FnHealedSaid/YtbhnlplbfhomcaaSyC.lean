/-
  SX: the engine, parts U to Z, in one text.
  No condition. Plain definitions and theorems over any program.
-/
import Derived.Test.YtbhnlplbfhomcaaSyB
import Derived.KernelRfl
import Derived.Below
import Derived.Attr

/-
  SX, part U: the laws of several functions; small facts for evaluating.
  No condition. Plain definitions and theorems over any program.
-/
set_option linter.unusedVariables false
set_option linter.unusedSimpArgs false
namespace Go.SX
open Go Go.RowKit
variable {P : Program}

def Law (P : Program) (f : FuncId) (ct : Ct) : Prop := Good P f ct ∧ ∃ fn : Func, P.funcs[f]? = some fn ∧ (fn.name == "runtime.NumGoroutine") = false ∧ fn.body.isNone = false
def phi : List (FuncId × Ct) → FuncId → Option Ct
  | [], _ => none
  | (f, ct) :: l, k => if k = f then some ct else phi l k
theorem Env_nil : Env P (phi []) := fun f ct h => by cases h
theorem Env_cons {f : FuncId} {ct : Ct} {l : List (FuncId × Ct)} (h : Law P f ct) (hl : Env P (phi l)) : Env P (phi ((f, ct) :: l)) := fun k c hk => by
  simp only [phi] at hk
  split at hk
  · rename_i e; subst e; injection hk with hk; subst hk; exact .inl h
  · exact hl k c hk
theorem Env_consX {f : FuncId} {ct : Ct} {l : List (FuncId × Ct)} (h : ExtLaw P f ct) (hl : Env P (phi l)) : Env P (phi ((f, ct) :: l)) := fun k c hk => by
  simp only [phi] at hk
  split at hk
  · rename_i e; subst e; injection hk with hk; subst hk; exact .inr h
  · exact hl k c hk

theorem okD_im {sc : Bool} {k : Nat} {i : I} (h : scI i = true) : OkD sc k (.c (.im i)) := .c _ (.im _ (.inr h))
theorem okR_im {sc : Bool} {i : I} (h : scI i = true) : OkR sc { val := .c (.im i) } := ⟨okD_im h, by simp, by simp⟩
theorem okO {sc : Bool} {r : Res} (h : OkR sc r) : ∀ res, Outs.mem (.one r) res → OkR sc res := fun res hm => by cases hm; exact h
theorem okA {sc : Bool} {ι : Type} {f : ι → Res} (h : ∀ i, OkR sc (f i)) : ∀ res, Outs.mem (.any ι f) res → OkR sc res := fun res ⟨i, hm⟩ => hm ▸ h i
theorem okO_im {sc : Bool} {i : I} (h : scI i = true) : ∀ res, Outs.mem (.one { val := .c (.im i) }) res → OkR sc res := okO (okR_im h)
theorem okC_sc {sc : Bool} {k : Nat} {i : I} (h : scI i = true) : OkC sc k (.im i) := .im _ (.inr h)

theorem MvB_im (i : I) : MvB false (.t (.im i)) = True := eq_true (.t _ (.im _ (.inl rfl)))
theorem MvB_nil : MvB false (.t .nil) = True := eq_true (.t _ .nil)
theorem Mv_im (i : I) : Mv false (.im i) = True := eq_true (.im _ (.inl rfl))

/-! ### Both ways -/
theorem gS_tt (A B : Prop) (tA : Tag A) (tB : Tag B) : gS true true A B tA tB = A := by simp [gS]
theorem gS_ff (A B : Prop) (tA : Tag A) (tB : Tag B) : gS false false A B tA tB = A := by simp [gS]
theorem gS_tf (A B : Prop) (tA : Tag A) (tB : Tag B) : gS true false A B tA tB = B := by simp [gS]
theorem gS_ft (A B : Prop) (tA : Tag A) (tB : Tag B) : gS false true A B tA tB = B := by simp [gS]
theorem gS_i {b want : Bool} {A B : Prop} {tA : Tag A} {tB : Tag B} (h1 : b = want → A) (h2 : b = (!want) → B) : gS b want A B tA tB := ⟨h1, h2⟩
theorem gS_d {p : Prop} [Decidable p] {A B : Prop} {tA : Tag A} {tB : Tag B} (h1 : p → A) (h2 : ¬ p → B) : gS (decide p) true A B tA tB := ⟨fun h => h1 (by simpa using h), fun h => h2 (by simpa using h)⟩
theorem gS_dn {p : Prop} [Decidable p] {A B : Prop} {tA : Tag A} {tB : Tag B} (h1 : p → B) (h2 : ¬ p → A) : gS (decide p) false A B tA tB := ⟨fun h => h2 (by simpa using h), fun h => h1 (by simpa using h)⟩

theorem loop_i {pn : Nat} {body : (Ex → St → Prop) → St → Prop} {K : Ex → St → Prop} {tb : Tag body} {tK : Tag K} {st : St} {ι : Type} (F : ι → St) (μ : ι → Nat) (i0 : ι) (h0 : Sub pn st (F i0))
    (h : ∀ i, body (fun e st' => match e with
      | .norm => ∃ j, μ j < μ i ∧ Sub pn st' (F j)
      | e => K e st') (F i)) : loopP pn body K tb tK st := ⟨ι, F, μ, i0, h0, h⟩

theorem wrap_id {n : Int} (h1 : -9223372036854775808 ≤ n) (h2 : n ≤ 9223372036854775807) : IntKind.i64.wrap n = n := by rw [IntKind.wrap_i64]; omega
end Go.SX

/-
  SX, part V: from a function's law to a call whose arguments are data that stays.
  No condition. Plain definitions and theorems over any program.
-/
set_option linter.unusedVariables false
set_option linter.unusedSimpArgs false
namespace Go.SX
open Go Go.RowKit
variable {P : Program}

/-- All that is there stays. -/
def stayG (w : World) : Gh := { used := fun _ => False, rb := fun _ => 0, base := fun _ => 0, rc := fun _ => 0, own := fun _ => none, fz := fun b o => w.cell? ⟨b, o, none⟩ }

theorem law_calls {f : FuncId} {ct : Ct} (hL : Law P f ct) {ds : List D} {args : List Value} {i : I} (hi : scI i = true) (w : World) (hrun : ct.run ds [] = some (.one { val := .c (.im i) })) (hl : args.length = ds.length)
    (hv : ∀ (t : Nat) (d : D) (v : Value), ds[t]? = some d → args[t]? = some v → DV (stayG w) d v) :
    Calls P f args.toArray w (fun e w' => ∃ v, e = .returned v ∧ IR (fun _ _ => none) i v ∧ Below w.heap.size w w') := by
  refine (hL.1.at_ ds [] _ hrun ⟨stayG w, w, fun _ => 0⟩ args hl (fun n hn => hn.elim) ?_).mono fun e w' ⟨v, he, res, hm, hd⟩ => ⟨v, he, ?_⟩
  · refine ⟨⟨rfl, rfl, rfl, Nat.le_refl _, Gh.le.refl _, fun b _ h => ⟨h, rfl⟩, fun b n h => (by cases h), fun b o v _ h => .inl h⟩, rfl, fun b x h => (by cases h), fun b o v h => ⟨h, rfl⟩, fun t d ht => ?_, fun n r h => (by simp at h), fun n r b h => (by simp at h)⟩
    have hlt : t < args.length := by rw [hl]; exact (List.getElem?_eq_some_iff.1 ht).1
    exact ⟨args[t], by simp [hlt], hv t d _ ht (List.getElem?_eq_getElem hlt)⟩
  · cases hm
    obtain ⟨g, ns, S, H, a, d, hR, _, _, _, _, _, hre, hdv⟩ := hd
    simp only [reD, reC, Option.some.injEq] at hre
    subst hre
    refine ⟨?_, hR.fr.os, hR.fr.tape, hR.fr.output, hR.fr.size, fun k hk => (hR.fr.old k hk rfl).2⟩
    cases hdv with | c _ _ hc => cases hc with | im _ _ hir => exact hir.sc hi
end Go.SX

/-
  SX, part W: contracts as families: what goes in and what comes of it, for each member.
  No condition. Plain definitions and theorems over any program.
-/
set_option linter.unusedVariables false
set_option linter.unusedSimpArgs false
namespace Go.SX
open Go Go.RowKit
variable {P : Program}

open Classical in
/-- The contract of a family: member a goes in as 'args a' and comes out as 'out a'. -/
noncomputable def fam {α : Type} (sc : Bool) (args : α → List D × List (List B)) (out : α → Outs) : Ct :=
  ⟨sc, fun ds hs => if h : ∃ a, args a = (ds, hs) then some (out (Classical.choose h)) else none⟩
theorem fam_run {α : Type} {sc : Bool} {args : α → List D × List (List B)} {out : α → Outs} (hinj : ∀ a b, args a = args b → out a = out b) (a : α) : (fam sc args out).run (args a).1 (args a).2 = some (out a) := by
  have h : ∃ b, args b = ((args a).1, (args a).2) := ⟨a, rfl⟩
  simp only [fam]
  rw [dif_pos h]
  congr 1
  exact hinj _ _ (Classical.choose_spec h)
theorem fam_run' {α : Type} {sc : Bool} {args : α → List D × List (List B)} {out : α → Outs} (hinj : ∀ a b, args a = args b → a = b) (a : α) : (fam sc args out).run (args a).1 (args a).2 = some (out a) :=
  fam_run (fun a b h => by rw [hinj a b h]) a
theorem fam_law {Φ : FuncId → Option Ct} (hΦ : Env P Φ) (hm : P.follows .mixedOrders = true) {f : FuncId} {fn : Func} {c : Code} (hf : P.funcs[f]? = some fn) (hb : fn.body = some c) (hnm : (fn.name == "runtime.NumGoroutine") = false)
    {α : Type} {sc : Bool} {args : α → List D × List (List B)} {out : α → Outs}
    (h : ∀ a, (∀ res, (out a).mem res → OkR sc res) ∧ (args a).1.length ≤ fn.ntmps ∧ sx P Φ fn.ntmps (args a).2.length c (finK P fn.results.toList (args a).2.length (out a)) .mk (St.entry (args a).1 (args a).2)) : Law P f (fam sc args out) := by
  refine good_of hΦ hm hf hb hnm (fun ds hs o hr => ?_)
  simp only [fam] at hr
  split at hr
  · rename_i hex
    injection hr with hr
    subst hr
    have hc := Classical.choose_spec hex
    have := h (Classical.choose hex)
    rw [hc] at this
    exact this
  · cases hr
theorem fam_lawF {Φ : FuncId → Option Ct} (hΦ : Env P Φ) (hm : P.follows .mixedOrders = true) {f : FuncId} {fn : Func} {c : Code} (hf : P.funcs[f]? = some fn) (hb : fn.body = some c) (hnm : (fn.name == "runtime.NumGoroutine") = false)
    {α : Type} {sc : Bool} {args : α → List D × List (List B)} {out : α → Outs}
    (h : ∀ a, (∀ res, (out a).mem res → OkR sc res) ∧ (args a).1.length ≤ fn.ntmps ∧ sx P Φ fn.ntmps (args a).2.length c (finKF P fn.results.toList (args a).2.length (out a)) .mk (St.entry (args a).1 (args a).2)) : Law P f (fam sc args out) := by
  refine good_ofF hΦ hm hf hb hnm (fun ds hs o hr => ?_)
  simp only [fam] at hr
  split at hr
  · rename_i hex
    injection hr with hr
    subst hr
    have hc := Classical.choose_spec hex
    have := h (Classical.choose hex)
    rw [hc] at this
    exact this
  · cases hr
/-- The same, where something is done first. -/
theorem fam_lawU {Φ : FuncId → Option Ct} (hΦ : Env P Φ) (hm : P.follows .mixedOrders = true) {f : FuncId} {fn : Func} {c : Code} (hf : P.funcs[f]? = some fn) (hb : fn.body = some c) (hnm : (fn.name == "runtime.NumGoroutine") = false)
    {α : Type} {sc : Bool} {args : α → List D × List (List B)} {out : α → Outs} (fs : α → List Wk)
    (h : ∀ a, (∀ res, (out a).mem res → OkR sc res) ∧ (args a).1.length ≤ fn.ntmps ∧ match folds (args a).2.length (fs a) (St.entry (args a).1 (args a).2) with
      | some st0 => sx P Φ fn.ntmps (args a).2.length c (finKF P fn.results.toList (args a).2.length (out a)) .mk st0
      | none => False) : Law P f (fam sc args out) := by
  refine good_ofK hΦ hm hf hb hnm (fun pn o => finKF P fn.results.toList pn o) (fun _ _ _ _ h => h) (fun ds hs o hr => ?_)
  simp only [fam] at hr
  split at hr
  · rename_i hex
    injection hr with hr
    subst hr
    have hc := Classical.choose_spec hex
    have := h (Classical.choose hex)
    rw [hc] at this
    obtain ⟨h1, h2, h3⟩ := this
    split at h3
    · rename_i st0 h4
      exact ⟨h1, h2, _, st0, h4, h3⟩
    · exact h3.elim
  · cases hr
theorem fam_sc {α : Type} {sc : Bool} {args : α → List D × List (List B)} {out : α → Outs} : (fam sc args out).sc = sc := rfl

/-- A function without a body, as a family. -/
theorem fam_ext {f : FuncId} {α : Type} {sc : Bool} {args : α → List D × List (List B)} {out : α → Outs} (h : ∀ a, (args a).2 = [] ∧ (∀ d ∈ (args a).1, ∃ i, d = .c (.im i) ∧ scI i = true) ∧
    ∀ (fz : Nat → Nat → Option Value) (vs : List Value) (w : World), vs.length = (args a).1.length → (∀ (t : Nat) (i : I) (v : Value), (args a).1[t]? = some (.c (.im i)) → vs[t]? = some v → IR fz i v) →
      ∃ v z, (callFunc f vs.toArray).run P w = .ok (.value v) w ∧ (out a).mem { val := .c (.im z) } ∧ IR fz z v) : ExtLaw P f (fam sc args out) := by
  intro ds hs o hr
  simp only [fam] at hr
  split at hr
  · rename_i hex
    injection hr with hr
    subst hr
    have hc := Classical.choose_spec hex
    have := h (Classical.choose hex)
    rw [hc] at this
    exact this
  · cases hr

theorem sl_i {ops : List Oper} {Q : Prop} (h : slotsOk ops = true) (h2 : Q) : slotsOk ops = true ∧ Q := ⟨h, h2⟩
theorem ro_i {ops : List Oper} {n : Nat} {acc : List DI} {Q : Prop} (h : rootsOk ops n acc = true) (h2 : Q) : rootsOk ops n acc = true ∧ Q := ⟨h, h2⟩
theorem sl_e {ops : List Oper} (h : slotsOk ops = true) : slotsOk ops = true := h
theorem ro_e {ops : List Oper} {n : Nat} {acc : List DI} (h : rootsOk ops n acc = true) : rootsOk ops n acc = true := h
theorem finF_i {rs : List ResultVar} {pn : Nat} {o : Outs} {st : St} (fs : List Wk) (h : match folds pn fs st with | some st1 => finO P rs pn o st1 | none => False) : finF P rs pn o st := by
  split at h
  · rename_i st1 h1; exact ⟨fs, st1, h1, h⟩
  · exact h.elim

/-- Data that stays, as cells of own memory and back. -/
def tI (rows : List (List I)) : List (List T) := rows.map (fun r => r.map T.im)
theorem tI_len (rows : List (List I)) : (tI rows).length = rows.length := by simp [tI]
theorem tI_toI (ex : List Nat) (H : Nat → Option Root) (k : Nat) (rows : List (List I)) : mapO (mapO (toI ex H k)) (tI rows) = some rows := toI_rows ex H k rows
theorem tI_app (a b : List (List I)) : tI (a ++ b) = tI a ++ tI b := by simp [tI]
theorem tI_at {rows : List (List I)} {k : Nat} {r : List I} (h : rows[k]? = some r) : (tI rows)[k]? = some (r.map T.im) := by simp [tI, h]
theorem tI_set (rows : List (List I)) (k : Nat) (r : List I) : (tI rows).set k (r.map T.im) = tI (rows.set k r) := by simp [tI, List.map_set]
theorem tI_take (rows : List (List I)) (k : Nat) : (tI rows).take k = tI (rows.take k) := by simp [tI, List.map_take]
theorem tI_drop (rows : List (List I)) (k : Nat) : (tI rows).drop k = tI (rows.drop k) := by simp [tI, List.map_drop]
end Go.SX

/-
  SX, part X: the evaluation's equations, each as a law of its own (so that a long evaluation is checked step by step).
  No condition. Plain definitions and theorems over any program.
-/
set_option linter.unusedVariables false
set_option linter.unusedSimpArgs false
namespace Go.SX
open Go Go.RowKit
variable {P : Program} {Φ : FuncId → Option Ct} {N pn nm : Nat} {S : Nat → Option D} {H : Nat → Option Root}

/-! So that the checker takes one step at a time: none of these is by 'rfl' alone. -/
theorem mKs.{u} {α : Type u} (x : α) (K : α → Prop) (t : Tag K) : mK (some x) K t = K x := by simp only [mK]
theorem mKn.{u} {α : Type u} (K : α → Prop) (t : Tag K) : mK none K t = False := by simp only [mK]
theorem oKo (r : Res) (K : Res → Prop) (t : Tag K) : oK (.one r) K t = K r := by simp only [oK]
theorem oKa (ι : Type) (f : ι → Res) (K : Res → Prop) (t : Tag K) : oK (.any ι f) K t = (Nonempty ι ∧ ∀ i, K (f i)) := by simp only [oK]
theorem cKs (r : Nat) (K : Nat → Prop) (t : Tag K) : cK (some r) K t = K r := by simp only [cK]
theorem nKn (K : Bool → Prop) (t : Tag K) : nK .nil K t = K true := by simp only [nK]
theorem nKv (n sz lo len : Nat) (K : Bool → Prop) (t : Tag K) : nK (.view n sz lo len) K t = (K false ∧ (len = 0 → K true)) := by simp only [nK]
theorem nKs (sz : Nat) (rows : List (List I)) (K : Bool → Prop) (t : Tag K) : nK (.im (.sl sz rows)) K t = (K false ∧ (rows = [] → K true)) := by simp only [nK]
theorem plXn (K : List (List B) → Prop) (t : Tag K) : plX H [] K t = K [] := by simp only [plX]
def pM (c : Option (List B)) (A : List B → Prop) (_ : Tag A) : Prop := match c with
  | some c => (∀ x ∈ c, MvB false x) ∧ A c
  | none => False
theorem pMs (c : List B) (A : List B → Prop) (t : Tag A) : pM (some c) A t = ((∀ x ∈ c, MvB false x) ∧ A c) := by simp only [pM]
theorem plXc (p : Plc) (ex : List Plc) (K : List (List B) → Prop) (t : Tag K) : plX H (p :: ex) K t = pM (plCells H p) (fun c => plX H ex (fun hs => K (c :: hs)) .mk) .mk := by
  simp only [plX, pM]; cases plCells H p <;> rfl

theorem xskip {K : Ex → St → Prop} {t0 : Tag K} {st : St} : sx P Φ N pn .skip K t0 st = K .norm st := by rw [sx] <;> rfl
theorem xreg0 {K : Ex → St → Prop} {t0 : Tag K} {st : St} {id : Nat} {ops : Array Oper} : sx P Φ N pn (.region id ops false) K t0 st = regX P Φ N ops.toList ops.toList st (fun st' => K .norm st') .mk := by rw [sx] <;> rfl
theorem xreg1 {K : Ex → St → Prop} {t0 : Tag K} {st : St} {id : Nat} {ops : Array Oper} : sx P Φ N pn (.region id ops true) K t0 st =
    (slotsOk ops.toList = true ∧ drX P Φ N st.n ops.toList ops.toList 0 st [] (fun st' acc => rootsOk ops.toList st.n acc = true ∧ K .norm ⟨st'.s, st'.h, st.n + 8 * ops.toList.length⟩) .mk) := by rw [sx] <;> rfl
theorem xseq {K : Ex → St → Prop} {t0 : Tag K} {st : St} {x y : Code} : sx P Φ N pn (.seq x y) K t0 st = sx P Φ N pn x (fun e st' => match e with
      | .norm => sx P Φ N pn y K t0 st'
      | e => K e st') .mk st := by rw [sx] <;> rfl
theorem xcond {K : Ex → St → Prop} {t0 : Tag K} {st : St} {c : Operand} {x y : Code} : sx P Φ N pn (.cond c x y) K t0 st = (match evI (lk st.s) c with
    | some (.bool b) => gS b true (sx P Φ N pn x K t0 st) (sx P Φ N pn y K t0 st) .mk .mk
    | _ => False) := by rw [sx] <;> rfl
theorem xblock {K : Ex → St → Prop} {t0 : Tag K} {st : St} {id : Nat} {c : Code} : sx P Φ N pn (.block id c) K t0 st = sx P Φ N pn c (fun e st' => match e with
      | .exit id' => if id' = id then K .norm st' else K (.exit id') st'
      | e => K e st') .mk st := by rw [sx] <;> rfl
theorem xloop {K : Ex → St → Prop} {t0 : Tag K} {st : St} {c : Code} : sx P Φ N pn (.loop c) K t0 st = loopP pn (fun K' st' => sx P Φ N pn c K' .mk st') K .mk .mk st := by rw [sx] <;> rfl
theorem xscope {K : Ex → St → Prop} {t0 : Tag K} {st : St} {c : Code} : sx P Φ N pn (.scope c) K t0 st = sx P Φ N pn c K t0 st := by rw [sx] <;> rfl
theorem xexit {K : Ex → St → Prop} {t0 : Tag K} {st : St} {id : Nat} : sx P Φ N pn (.exit id) K t0 st = K (.exit id) st := by rw [sx] <;> rfl
theorem xret {K : Ex → St → Prop} {t0 : Tag K} {st : St} : sx P Φ N pn .ret K t0 st = K .ret st := by rw [sx] <;> rfl

theorem xr_nil {ops : List Oper} {st : St} {K : St → Prop} {t0 : Tag K} : regX P Φ N ops [] st K t0 = K st := by rw [regX] <;> rfl
theorem xr_none {ops r : List Oper} {dst : Option Nat} {op : Op} {ty : TypeId} {pos : String} {after : Array Edge} {s : List (Nat × Option D)} {h : List (Nat × Option Root)} {n : Nat} {K : St → Prop} {t0 : Tag K} :
    regX P Φ N ops ({ dst := dst, op := op, type := ty, pos := pos, after := after, guard := none } :: r) ⟨s, h, n⟩ K t0 =
      (dOk N dst ∧ opR P Φ n (lk s) (lk h) op (fun val wr cnt => regX P Φ N ops r ⟨putS dst val s, insW wr h, n + cnt⟩ K t0) .mk) := by rw [regX] <;> rfl
/-- What a guard tells: a bool, or that what it hangs on was not done. -/
def gV (ops : List Oper) (s : List (Nat × Option D)) (j : Nat) : Option (Option Bool) := match gSlot ops j with
  | some t => match lk s t with
    | some (.c (.im (.bool b))) => some (some b)
    | some (.tup _) => some none
    | _ => none
  | none => none
def gM (v : Option (Option Bool)) (want : Bool) (A B : Prop) (tA : Tag A) (tB : Tag B) : Prop := match v with
  | some (some b) => gS b want A B tA tB
  | some none => B
  | none => False
theorem gM_tt (A B : Prop) (tA : Tag A) (tB : Tag B) : gM (some (some true)) true A B tA tB = A := by unfold gM; exact gS_tt A B tA tB
theorem gM_ff (A B : Prop) (tA : Tag A) (tB : Tag B) : gM (some (some false)) false A B tA tB = A := by unfold gM; exact gS_ff A B tA tB
theorem gM_tf (A B : Prop) (tA : Tag A) (tB : Tag B) : gM (some (some true)) false A B tA tB = B := by unfold gM; exact gS_tf A B tA tB
theorem gM_ft (A B : Prop) (tA : Tag A) (tB : Tag B) : gM (some (some false)) true A B tA tB = B := by unfold gM; exact gS_ft A B tA tB
theorem gM_u (want : Bool) (A B : Prop) (tA : Tag A) (tB : Tag B) : gM (some none) want A B tA tB = B := by unfold gM; rfl
theorem gM_s (b want : Bool) (A B : Prop) (tA : Tag A) (tB : Tag B) : gM (some (some b)) want A B tA tB = gS b want A B tA tB := by unfold gM; rfl
theorem xr_some {ops r : List Oper} {dst : Option Nat} {op : Op} {ty : TypeId} {pos : String} {after : Array Edge} {s : List (Nat × Option D)} {h : List (Nat × Option Root)} {n : Nat} {K : St → Prop} {t0 : Tag K} {j : Nat} {want : Bool} :
    regX P Φ N ops ({ dst := dst, op := op, type := ty, pos := pos, after := after, guard := some (j, want) } :: r) ⟨s, h, n⟩ K t0 =
      (dOk N dst ∧ gM (gV ops s j) want (opR P Φ n (lk s) (lk h) op (fun val wr cnt => regX P Φ N ops r ⟨putS dst val s, insW wr h, n + cnt⟩ K t0) .mk) (regX P Φ N ops r ⟨putS dst (some (.tup [])) s, h, n⟩ K t0) .mk .mk) := by
  rw [regX]
  simp only [gV, gM, St.eff]
  congr 1
  cases gSlot ops j with
  | none => rfl
  | some t =>
    cases h1 : lk s t with
    | none => simp [h1]
    | some d =>
      cases d with
      | c x =>
        cases x with
        | im i => cases i <;> simp [h1, insW]
        | _ => simp [h1]
      | agg xs => simp [h1]
      | tup ds => simp [h1, insW]

theorem xd_nil {ops : List Oper} {n0 i : Nat} {st : St} {acc : List DI} {K : St → List DI → Prop} {t0 : Tag K} : drX P Φ N n0 ops [] i st acc K t0 = K st acc := by rw [drX] <;> rfl
theorem xd_none {ops r : List Oper} {dst : Option Nat} {op : Op} {ty : TypeId} {pos : String} {after : Array Edge} {s : List (Nat × Option D)} {h : List (Nat × Option Root)} {n n0 i : Nat} {acc : List DI} {K : St → List DI → Prop} {t0 : Tag K} :
    drX P Φ N n0 ops ({ dst := dst, op := op, type := ty, pos := pos, after := after, guard := none } :: r) i ⟨s, h, n⟩ acc K t0 =
      (dOk N dst ∧ opR P Φ (n0 + 8 * i) (resF (opTm op ++ []) (lk s)) (resH n0 (isCallO op) (rdX (lk s) (lk h) op) (lk h)) op (fun val wr cnt => cnt ≤ 8 ∧ drX P Φ N n0 ops r (i + 1) ⟨putS dst val s, insW wr h, n⟩ (⟨i, isCallO op, rdX (lk s) (lk h) op, wr.map (·.1)⟩ :: acc) K t0) .mk) := by rw [drX] <;> rfl
theorem xd_some {ops r : List Oper} {dst : Option Nat} {op : Op} {ty : TypeId} {pos : String} {after : Array Edge} {s : List (Nat × Option D)} {h : List (Nat × Option Root)} {n n0 i : Nat} {acc : List DI} {K : St → List DI → Prop} {t0 : Tag K} {j : Nat} {want : Bool} :
    drX P Φ N n0 ops ({ dst := dst, op := op, type := ty, pos := pos, after := after, guard := some (j, want) } :: r) i ⟨s, h, n⟩ acc K t0 =
      (dOk N dst ∧ match gSlot ops j with
        | some t => match lk s t with
          | some (.c (.im (.bool b))) => gS b want (opR P Φ (n0 + 8 * i) (resF (opTm op ++ (match gSlot ops j with | some t => [t] | none => [])) (lk s)) (resH n0 (isCallO op) (rdX (lk s) (lk h) op) (lk h)) op (fun val wr cnt => cnt ≤ 8 ∧ drX P Φ N n0 ops r (i + 1) ⟨putS dst val s, insW wr h, n⟩ (⟨i, isCallO op, rdX (lk s) (lk h) op, wr.map (·.1)⟩ :: acc) K t0) .mk)
              (drX P Φ N n0 ops r (i + 1) ⟨putS dst (some (.tup [])) s, h, n⟩ (⟨i, false, [], []⟩ :: acc) K t0) .mk .mk
          | some (.tup _) => drX P Φ N n0 ops r (i + 1) ⟨putS dst (some (.tup [])) s, h, n⟩ (⟨i, false, [], []⟩ :: acc) K t0
          | _ => False
        | none => False) := by rw [drX] <;> rfl

theorem MvRb {cells : List B} : MvR false (.box cells) = (∀ x ∈ cells, MvB false x) := by simp only [MvR]
theorem MvRn {sz : Nat} : MvR false (.arr sz []) = True := by simp [MvR]
theorem MvRt {sz : Nat} {rows : List (List I)} : MvR false (.arr sz (tI rows)) = True := by
  refine eq_true ?_
  intro r hr t ht
  simp only [tI, List.mem_map] at hr
  obtain ⟨r0, hr0, rfl⟩ := hr
  simp only [List.mem_map] at ht
  obtain ⟨i, hi, rfl⟩ := ht
  exact .im _ (.inl rfl)
section ops
variable {K : Option D → List (Nat × Option Root) → Nat → Prop} {tg : Tag K}
theorem xload {t : TypeId} {x : Operand} : opR P Φ nm S H (.load t x) K tg = (match ldJs P S H t x with
    | some (n, i, r, js) => mK (hoistJ r i js nm) (fun p => mK (qv P S (apH ((n, some p.1) :: addR nm p.2) H) (.load t x)) (fun d => K (some d) ((n, some p.1) :: addR nm p.2) p.2.length) .mk) .mk
    | none => mK (loadD P t S H x) (fun d => K (some d) [] 0) .mk) := by rw [opR] <;> rfl
theorem xstore {t : TypeId} {x y : Operand} : opR P Φ nm S H (.store t x y) K tg = mK (storeH P t S H x y) (fun p => K none [(p.1, some p.2)] 0) .mk := by rw [opR] <;> rfl
theorem xalloc {t : TypeId} : opR P Φ nm S H (.alloc t) K tg = mK (mkOp P S (.alloc t) nm) (fun p => K (some p.1) [(nm, some p.2)] 1) .mk := by rw [opR] <;> rfl
theorem xbox {t : TypeId} {x : Operand} : opR P Φ nm S H (.box t x) K tg = mK (mkOp P S (.box t x) nm) (fun p => K (some p.1) [(nm, some p.2)] 1) .mk := by rw [opR] <;> rfl
theorem xbuildS {t : TypeId} {l : Nat} {ps : Array (Nat × Operand)} : opR P Φ nm S H (.buildSlice t l ps) K tg = mK (mkOp P S (.buildSlice t l ps) nm) (fun p => K (some p.1) [(nm, some p.2)] 1) .mk := by rw [opR] <;> rfl
theorem xmakeS {t : TypeId} {l c : Operand} : opR P Φ nm S H (.makeSlice t l c) K tg = mK (mkOp P S (.makeSlice t l c) nm) (fun p => K (some p.1) [(nm, some p.2)] 1) .mk := by rw [opR] <;> rfl
theorem xappend {s x : Operand} {t t' : TypeId} : opR P Φ nm S H (.call { callee := .builtin .append, args := #[s, x], argTypes := #[t, t'] }) K tg = (t = t' ∧ mK (appendH P t S H s x) (fun p => p.2.2.1.length * p.2.1 ≤ 140737488355328 ∧
        K (some (.c (.view nm p.1 0 p.2.2.1.length))) ((nm, some (.arr p.1 p.2.2.1)) :: dropN p.2.2.2) 1) .mk) := by rw [opR] <;> rfl
theorem xcall {f : Operand} {args : Array Operand} {ts : Array TypeId} : opR P Φ nm S H (.call { callee := .value f, args := args, argTypes := ts }) K tg = (match evC S f with
    | some (.fn (.func k) caps) => mK (Φ k) (fun ct => mK (evDs S args.toList) (fun ds0 => mK (some (frzL ct.sc H ds0 [])) (fun fz => mK (some (preW H (lentPs H (exDs (fz.1 ++ caps.map D.c))) fz.2)) (fun ws => plX (apH ws H) (exDs (fz.1 ++ caps.map D.c)) (fun hs =>
        mK (mapO (loD (exDs (fz.1 ++ caps.map D.c)) (if ct.sc then apH ws H else fun _ => none)) (fz.1 ++ caps.map D.c)) (fun ds' => mK (ct.run ds' hs) (fun os => oK os (fun res => mK (reD (fun n => nm + n) res.val) (fun d =>
          K (some d) (addR nm res.roots ++ (addP (apH ws H) (exDs (fz.1 ++ caps.map D.c)) res.places ++ ws)) res.roots.length) .mk) .mk) .mk) .mk) .mk) .mk) .mk) .mk) .mk
    | _ => False) := by rw [opR] <;> rfl
theorem xconv {s d : TypeId} {x : Operand} : opR P Φ nm S H (.convert s d x) K tg = (match P.underlying d, evI S x with
    | some (.float .f32), some (.flt .f64 b) => (P.underlying s).isSome = true ∧ cK (fconv .f64 b .f32) (fun n => K (some (.c (.im (.flt .f32 n)))) [] 0) .mk
    | _, _ => mK (qv P S H (.convert s d x)) (fun d => K (some d) [] 0) .mk) := by rw [opR]; split <;> simp_all
theorem xnil {op : BinOp} {t ty : TypeId} {x : Operand} : opR P Φ nm S H (.binOp op t x (.const (.slice none 0 0)) ty) K tg = (isSlT P t = true ∧ mK (evC S x) (fun c => nK c (fun b => mK (nilOp op b) (fun b => K (some (.c (.im (.bool b)))) [] 0) .mk) .mk) .mk) := by rw [opR] <;> rfl
theorem xbinT {op : BinOp} {t ty : TypeId} {x : Operand} {y : Nat} : opR P Φ nm S H (.binOp op t x (.tmp y) ty) K tg = mK (qv P S H (.binOp op t x (.tmp y) ty)) (fun d => K (some d) [] 0) .mk := by rw [opR] <;> (intros; simp_all)
theorem xbinI {op : BinOp} {t ty : TypeId} {x : Operand} {k : IntKind} {y : Int} : opR P Φ nm S H (.binOp op t x (.const (.int k y)) ty) K tg = mK (qv P S H (.binOp op t x (.const (.int k y)) ty)) (fun d => K (some d) [] 0) .mk := by rw [opR] <;> (intros; simp_all)
theorem xbinF {op : BinOp} {t ty : TypeId} {x : Operand} {k : FloatKind} {y : Nat} : opR P Φ nm S H (.binOp op t x (.const (.float k y)) ty) K tg = mK (qv P S H (.binOp op t x (.const (.float k y)) ty)) (fun d => K (some d) [] 0) .mk := by rw [opR] <;> (intros; simp_all)
theorem xbinC {op : BinOp} {t ty : TypeId} {x : Operand} {k : FloatKind} {y z : Nat} : opR P Φ nm S H (.binOp op t x (.const (.complex k y z)) ty) K tg = mK (qv P S H (.binOp op t x (.const (.complex k y z)) ty)) (fun d => K (some d) [] 0) .mk := by rw [opR] <;> (intros; simp_all)
theorem xbinB {op : BinOp} {t ty : TypeId} {x : Operand} {y : Bool} : opR P Φ nm S H (.binOp op t x (.const (.bool y)) ty) K tg = mK (qv P S H (.binOp op t x (.const (.bool y)) ty)) (fun d => K (some d) [] 0) .mk := by rw [opR] <;> (intros; simp_all)
theorem xbinS {op : BinOp} {t ty : TypeId} {x : Operand} {y : ByteArray} : opR P Φ nm S H (.binOp op t x (.const (.string y)) ty) K tg = mK (qv P S H (.binOp op t x (.const (.string y)) ty)) (fun d => K (some d) [] 0) .mk := by rw [opR] <;> (intros; simp_all)
theorem xmove {x : Operand} : opR P Φ nm S H (.move x) K tg = mK (ev S x) (fun d => K (some d) [] 0) .mk := by rw [opR] <;> (intros; simp_all [qv])
theorem xassign {x : Operand} : opR P Φ nm S H (.assign x) K tg = mK (ev S x) (fun d => K (some d) [] 0) .mk := by rw [opR] <;> (intros; simp_all [qv])
theorem xpick {c x y : Operand} : opR P Φ nm S H (.pick c x y) K tg = mK (qv P S H (.pick c x y)) (fun d => K (some d) [] 0) .mk := by rw [opR] <;> (intros; simp_all)
theorem xnilC {x : Operand} : opR P Φ nm S H (.nilCheck x) K tg = mK (qv P S H (.nilCheck x)) (fun d => K (some d) [] 0) .mk := by rw [opR] <;> (intros; simp_all)
theorem xunOp {op : UnOp} {t : TypeId} {x : Operand} : opR P Φ nm S H (.unOp op t x) K tg = mK (qv P S H (.unOp op t x)) (fun d => K (some d) [] 0) .mk := by rw [opR] <;> (intros; simp_all)
theorem xfieldA {t : TypeId} {x : Operand} {f : Nat} : opR P Φ nm S H (.fieldAddr t x f) K tg = mK (fieldAddrD P t S x f) (fun d => K (some d) [] 0) .mk := by rw [opR] <;> (intros; simp_all [qv])
theorem xfield {t : TypeId} {x : Operand} {f : Nat} : opR P Φ nm S H (.field t x f) K tg = mK (fieldD P t S x f) (fun d => K (some d) [] 0) .mk := by rw [opR] <;> (intros; simp_all [qv])
theorem xindexA {t : TypeId} {x i : Operand} : opR P Φ nm S H (.indexAddr t x i) K tg = mK (indexAddrD P t S x i) (fun d => K (some d) [] 0) .mk := by rw [opR] <;> (intros; simp_all [qv])
theorem xslice {t : TypeId} {x : Operand} {lo hi : Option Operand} : opR P Φ nm S H (.slice t x lo hi none) K tg = mK (sliceD P t S x lo hi) (fun d => K (some d) [] 0) .mk := by rw [opR] <;> (intros; simp_all [qv])
theorem xextract {x : Operand} {k : Nat} : opR P Φ nm S H (.extract x k) K tg = mK (qv P S H (.extract x k)) (fun d => K (some d) [] 0) .mk := by rw [opR] <;> (intros; simp_all)
theorem xmakeF {f : Fn} {first caps : Array Operand} : opR P Φ nm S H (.makeFunc f first caps) K tg = mK (qv P S H (.makeFunc f first caps)) (fun d => K (some d) [] 0) .mk := by rw [opR] <;> (intros; simp_all)
theorem xbuild {t : TypeId} {ps : Array (Nat × Operand)} : opR P Φ nm S H (.build t ps) K tg = mK (qv P S H (.build t ps)) (fun d => K (some d) [] 0) .mk := by rw [opR] <;> (intros; simp_all)
theorem xlen {x : Operand} {t : TypeId} : opR P Φ nm S H (.call { callee := .builtin .len, args := #[x], argTypes := #[t] }) K tg = mK (lenD P t (ev S x)) (fun d => K (some d) [] 0) .mk := by rw [opR] <;> (intros; simp_all [qv])
theorem xbi1 {b : Builtin} {x : Operand} {t : TypeId} (h1 : b ≠ .append) (h2 : b ≠ .len) : opR P Φ nm S H (.call { callee := .builtin b, args := #[x], argTypes := #[t] }) K tg = mK (qv P S H (.call { callee := .builtin b, args := #[x], argTypes := #[t] })) (fun d => K (some d) [] 0) .mk := by rw [opR] <;> (intros; simp_all)
theorem xbi2 {b : Builtin} {x y : Operand} {t u : TypeId} (h1 : b ≠ .append) (h2 : b ≠ .len) : opR P Φ nm S H (.call { callee := .builtin b, args := #[x, y], argTypes := #[t, u] }) K tg = mK (qv P S H (.call { callee := .builtin b, args := #[x, y], argTypes := #[t, u] })) (fun d => K (some d) [] 0) .mk := by rw [opR] <;> (intros; simp_all)
theorem xreal {x : Operand} {ts : Array TypeId} : opR P Φ nm S H (.call { callee := .builtin .real, args := #[x], argTypes := ts }) K tg = mK (qv P S H (.call { callee := .builtin .real, args := #[x], argTypes := ts })) (fun d => K (some d) [] 0) .mk := by rw [opR] <;> (intros; simp_all)
theorem ximag {x : Operand} {ts : Array TypeId} : opR P Φ nm S H (.call { callee := .builtin .imag, args := #[x], argTypes := ts }) K tg = mK (qv P S H (.call { callee := .builtin .imag, args := #[x], argTypes := ts })) (fun d => K (some d) [] 0) .mk := by rw [opR] <;> (intros; simp_all)
theorem xcomplex {x y : Operand} {ts : Array TypeId} : opR P Φ nm S H (.call { callee := .builtin .complex, args := #[x, y], argTypes := ts }) K tg = mK (qv P S H (.call { callee := .builtin .complex, args := #[x, y], argTypes := ts })) (fun d => K (some d) [] 0) .mk := by rw [opR] <;> (intros; simp_all)
theorem xmax {x y : Operand} {ts : Array TypeId} : opR P Φ nm S H (.call { callee := .builtin .max, args := #[x, y], argTypes := ts }) K tg = mK (qv P S H (.call { callee := .builtin .max, args := #[x, y], argTypes := ts })) (fun d => K (some d) [] 0) .mk := by rw [opR] <;> (intros; simp_all)
theorem xmin {x y : Operand} {ts : Array TypeId} : opR P Φ nm S H (.call { callee := .builtin .min, args := #[x, y], argTypes := ts }) K tg = mK (qv P S H (.call { callee := .builtin .min, args := #[x, y], argTypes := ts })) (fun d => K (some d) [] 0) .mk := by rw [opR] <;> (intros; simp_all)
end ops
end Go.SX

/-
  SX, part Y: a law for slices serves nil slices too: a nil slice is a slice of no rows.
  No condition. Plain definitions and theorems over any program.
-/
set_option linter.unusedVariables false
set_option linter.unusedSimpArgs false
namespace Go.SX
open Go
variable {P : Program}

inductive NlC : C → C → Prop where
  | same (x : C) : NlC x x
  | nil (sz : Nat) : NlC .nil (.im (.sl sz []))
inductive NlD : D → D → Prop where
  | same (d : D) : NlD d d
  | c (x y : C) (h : NlC x y) : NlD (.c x) (.c y)
  | agg (xs ys : List C) (hl : xs.length = ys.length) (h : ∀ (j : Nat) (x y : C), xs[j]? = some x → ys[j]? = some y → NlC x y) : NlD (.agg xs) (.agg ys)
theorem NlC.cv {g : Gh} {x y : C} {v : Value} (h : NlC x y) (hv : CV g x v) : CV g y v := by
  cases h with
  | same => exact hv
  | nil sz => cases hv with | nil => exact .im _ _ (.sl0 _ _ _)
theorem NlD.dv {g : Gh} {x y : D} {v : Value} (h : NlD x y) (hv : DV g x v) : DV g y v := by
  cases h with
  | same => exact hv
  | c a b h => cases hv with | c _ _ hc => exact .c _ _ (h.cv hc)
  | agg xs ys hl h =>
    cases hv with
    | agg _ vs hs hr =>
      refine .agg _ _ (hs.trans hl) (fun j y v hy hvj => ?_)
      have hlt : j < xs.length := by rw [hl]; exact (List.getElem?_eq_some_iff.1 hy).1
      exact (h j _ y (List.getElem?_eq_getElem hlt) hy).cv (hr j _ v (List.getElem?_eq_getElem hlt) hvj)
inductive NlDs : List D → List D → Prop where
  | nil : NlDs [] []
  | cons {d d' : D} {l l' : List D} (h : NlD d d') (hl : NlDs l l') : NlDs (d :: l) (d' :: l')
theorem NlDs.len {l l' : List D} (h : NlDs l l') : l.length = l'.length := by
  induction h with
  | nil => rfl
  | cons _ _ ih => simp [ih]
theorem NlDs.at_ {l l' : List D} (h : NlDs l l') : ∀ (t : Nat) (d' : D), l'[t]? = some d' → ∃ d, l[t]? = some d ∧ NlD d d' := by
  induction h with
  | nil => intro t d' h; simp at h
  | cons h _ ih =>
    intro t d' ht
    cases t with
    | zero => simp at ht; subst ht; exact ⟨_, rfl, h⟩
    | succ t => simp at ht; simpa using ih t d' ht
theorem law_nil {f : FuncId} {ct ct' : Ct} (hL : Law P f ct) (hsc : ct'.sc = ct.sc) (h : ∀ ds hs o, ct'.run ds hs = some o → ∃ ds', NlDs ds ds' ∧ ct.run ds' hs = some o) : Law P f ct' := by
  refine ⟨⟨fun ds hs o hr => ?_, fun ds hs o hr => ?_⟩, hL.2⟩
  · obtain ⟨ds', _, h2⟩ := h ds hs o hr
    rw [hsc]
    exact hL.1.ok ds' hs o h2
  · obtain ⟨ds', h1, h2⟩ := h ds hs o hr
    intro en args hl hu hR
    refine hL.1.at_ ds' hs o h2 en args (hl.trans h1.len) hu ⟨hR.fr, hR.df, hR.lt, hR.fz, fun t d' hd' => ?_, hR.roots, hR.wd⟩
    obtain ⟨d, hd, hn⟩ := h1.at_ t d' hd'
    obtain ⟨v, hv, hdv⟩ := hR.slots t d hd
    exact ⟨v, hv, hn.dv hdv⟩
theorem fam_nil {f : FuncId} {α β : Type} {sc : Bool} {args : α → List D × List (List B)} {out : α → Outs} {args' : β → List D × List (List B)} {out' : β → Outs} (hL : Law P f (fam sc args out))
    (hrun : ∀ a, (fam sc args out).run (args a).1 (args a).2 = some (out a)) (g : β → α) (hN : ∀ b, NlDs (args' b).1 (args (g b)).1 ∧ (args' b).2 = (args (g b)).2) (ho : ∀ b, out' b = out (g b)) : Law P f (fam sc args' out') := by
  refine law_nil hL rfl (fun ds hs o hr => ?_)
  simp only [fam] at hr
  split at hr
  · rename_i hex
    injection hr with hr
    subst hr
    have hc := hex.choose_spec
    refine ⟨(args (g hex.choose)).1, ?_, ?_⟩
    · have := (hN hex.choose).1
      rw [hc] at this
      exact this
    · have h2 := (hN hex.choose).2
      rw [hc] at h2
      rw [ho]
      have := hrun (g hex.choose)
      rw [← h2] at this
      exact this
  · cases hr
end Go.SX

/-
  SX, part Z: the equations by which a program is evaluated, as one set.
  No condition.
-/
set_option linter.unusedVariables false
namespace Go.SX
open Go
theorem lentR_nil {sz : Nat} : lentR (.arr sz []) = [] := by simp only [lentR, List.flatMap_nil]
theorem lentR_cons {sz : Nat} {r : List T} {rows : List (List T)} : lentR (.arr sz (r :: rows)) = r.flatMap lentT ++ lentR (.arr sz rows) := by simp only [lentR, List.flatMap_cons]
theorem lentR_app {sz : Nat} {r rows : List (List T)} : lentR (.arr sz (r ++ rows)) = lentR (.arr sz r) ++ lentR (.arr sz rows) := by simp only [lentR, List.flatMap_append]
theorem lentR_box {cs : List B} : lentR (.box cs) = [] := by simp only [lentR]
theorem lentR_tI {sz : Nat} {rows : List (List I)} : lentR (.arr sz (tI rows)) = [] := by
  simp only [lentR, tI, List.flatMap_eq_nil_iff, List.mem_map]
  rintro r ⟨q, _, rfl⟩ t ht
  obtain ⟨i, _, rfl⟩ := List.mem_map.1 ht
  rfl
attribute [go_sem] xskip xreg0 xreg1 xseq xcond xblock xloop xscope xexit xret xr_nil xr_none xr_some xd_nil xd_none xd_some xload xstore xalloc xbox xbuildS xmakeS xappend xcall xconv xnil
attribute [go_sem] xbinT xbinI xbinF xbinC xbinB xbinS xmove xassign xpick xnilC xunOp xfieldA xfield xindexA xslice xextract xmakeF xbuild xlen xreal ximag xcomplex xmax xmin oKo oKa nKn nKv
attribute [go_sem] nKs nilOp cKs lentCs lentPs preW plXn plXc pMs finO finKF folds wk1 ldJs ownJs hoistJ apH qv ev evC evI evIs evCs evDs cV lk ins insW dOk gSlot mKs mKn mK_ite St.eff
attribute [go_sem] St.entry entS putS binI unI eqBo eqAgD convI finK finX mapO resD resV reD reC plK mkOp dCs toB toT mapT mapTs storeH Root.sz Root.get Root.setB Root.setT setCs loadD loadCs
attribute [go_sem] loadIs nI bC mkD fieldAddrD fieldD indexAddrD sliceD optI lenD biD buildD partsD setL rowsD exDs exD exC exC1 dd exN plCells plBack unB loD loC toI pos phi addR addP dropN
attribute [go_sem] frzL frzD imT
attribute [go_sem] upd gV rdX nestH lentT lentR_nil lentR_cons lentR_tI lentR_box lentR_app gM_tt gM_ff gM_tf gM_ft gM_u gM_s gS_tt gS_ff gS_tf gS_ft rdN vwO vwC vwC1 isCallO lookT opTm oT resF resH memb rtOk List.map_map MvB_im MvB_nil Mv_im
attribute [go_sem] List.getElem?_cons_zero List.getElem?_cons_succ List.getElem?_nil id true_and and_true Nat.zero_add Nat.add_zero Bool.not_true Bool.not_false List.length_nil
attribute [go_sem] List.length_cons List.map_cons List.map_nil List.append_nil List.nil_append List.cons_append List.flatMap_cons List.flatMap_nil List.mem_cons List.not_mem_nil
attribute [go_sem] List.replicate List.set_cons_zero List.set_cons_succ List.forall_mem_cons decide_eq_true_eq decide_true decide_false not_false_eq_true not_true_eq_false
attribute [go_sem] and_false false_and and_self true_or or_true false_or or_false Option.some.injEq D.c.injEq D.agg.injEq D.tup.injEq C.im.injEq I.bool.injEq I.int.injEq I.flt.injEq
attribute [go_sem] I.cpx.injEq I.str.injEq List.cons.injEq Bool.false_eq_true implies_true Bool.true_eq_false if_false if_true forall_const exists_const forall_eq forall_eq_or_imp
attribute [go_sem] Option.isSome_some Option.map_some Option.map_none Option.getD_some Option.getD_none List.drop_zero Int.le_refl Int.toNat_zero ne_eq Nat.le_refl List.getD_cons_zero
attribute [go_sem] List.getD_cons_succ
end Go.SX
