/-
  SX, part U: the laws of several functions; small facts for evaluating.
  No condition. Plain definitions and theorems over any program.
-/
import Derived.Test.YtbhnlplbfhomcaaSxT
import Derived.KernelRfl
set_option linter.unusedVariables false
set_option linter.unusedSimpArgs false
namespace Go.SX
open Go Go.RowKit
variable {P : Program}

def Law (P : Program) (f : FuncId) (ct : Ct) : Prop := Good P f ct ∧ ∃ fn : Func, P.funcs[f]? = some fn ∧ (fn.name == "runtime.NumGoroutine") = false ∧ fn.body.isNone = false
def phi : List (FuncId × Ct) → FuncId → Option Ct
  | [], _ => none
  | (f, ct) :: l, k => if k = f then some ct else phi l k
theorem Env_nil : Env P (phi []) := fun f ct h => by cases h
theorem Env_cons {f : FuncId} {ct : Ct} {l : List (FuncId × Ct)} (h : Law P f ct) (hl : Env P (phi l)) : Env P (phi ((f, ct) :: l)) := fun k c hk => by
  simp only [phi] at hk
  split at hk
  · rename_i e; subst e; injection hk with hk; subst hk; exact h
  · exact hl k c hk

theorem okD_im {sc : Bool} {k : Nat} {i : I} (h : scI i = true) : OkD sc k (.c (.im i)) := .c _ (.im _ (.inr h))
theorem okR_im {sc : Bool} {i : I} (h : scI i = true) : OkR sc { val := .c (.im i) } := ⟨okD_im h, by simp, by simp⟩
theorem okC_sc {sc : Bool} {k : Nat} {i : I} (h : scI i = true) : OkC sc k (.im i) := .im _ (.inr h)

theorem MvB_im (i : I) : MvB false (.t (.im i)) = True := eq_true (.t _ (.im _ (.inl rfl)))
theorem MvB_nil : MvB false (.t .nil) = True := eq_true (.t _ .nil)
theorem Mv_im (i : I) : Mv false (.im i) = True := eq_true (.im _ (.inl rfl))

/-! ### Both ways -/
theorem gS_tt (A B : Prop) (tA : Tag A) (tB : Tag B) : gS true true A B tA tB = A := by simp [gS]
theorem gS_ff (A B : Prop) (tA : Tag A) (tB : Tag B) : gS false false A B tA tB = A := by simp [gS]
theorem gS_tf (A B : Prop) (tA : Tag A) (tB : Tag B) : gS true false A B tA tB = B := by simp [gS]
theorem gS_ft (A B : Prop) (tA : Tag A) (tB : Tag B) : gS false true A B tA tB = B := by simp [gS]
theorem gS_i {b want : Bool} {A B : Prop} {tA : Tag A} {tB : Tag B} (h1 : b = want → A) (h2 : b = (!want) → B) : gS b want A B tA tB := ⟨h1, h2⟩
theorem gS_d {p : Prop} [Decidable p] {A B : Prop} {tA : Tag A} {tB : Tag B} (h1 : p → A) (h2 : ¬ p → B) : gS (decide p) true A B tA tB := ⟨fun h => h1 (by simpa using h), fun h => h2 (by simpa using h)⟩
theorem gS_dn {p : Prop} [Decidable p] {A B : Prop} {tA : Tag A} {tB : Tag B} (h1 : p → B) (h2 : ¬ p → A) : gS (decide p) false A B tA tB := ⟨fun h => h2 (by simpa using h), fun h => h1 (by simpa using h)⟩

theorem loop_i {pn : Nat} {body : (Ex → St → Prop) → St → Prop} {K : Ex → St → Prop} {tb : Tag body} {tK : Tag K} {st : St} {ι : Type} (F : ι → St) (μ : ι → Nat) (i0 : ι) (h0 : Sub pn st (F i0))
    (h : ∀ i, body (fun e st' => match e with
      | .norm => ∃ j, μ j < μ i ∧ Sub pn st' (F j)
      | e => K e st') (F i)) : loopP pn body K tb tK st := ⟨ι, F, μ, i0, h0, h⟩

theorem wrap_id {n : Int} (h1 : -9223372036854775808 ≤ n) (h2 : n ≤ 9223372036854775807) : IntKind.i64.wrap n = n := by rw [IntKind.wrap_i64]; omega
end Go.SX
