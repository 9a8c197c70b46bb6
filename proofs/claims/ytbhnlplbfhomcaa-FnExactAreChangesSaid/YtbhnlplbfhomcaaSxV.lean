/-
  SX, part V: from a function's law to a call whose arguments are data that stays.
  No condition. Plain definitions and theorems over any program.
-/
import Derived.Test.YtbhnlplbfhomcaaSxU
import Derived.Below
set_option linter.unusedVariables false
set_option linter.unusedSimpArgs false
namespace Go.SX
open Go Go.RowKit
variable {P : Program}

/-- All that is there stays. -/
def stayG (w : World) : Gh := { used := fun _ => False, rb := fun _ => 0, base := fun _ => 0, rc := fun _ => 0, own := fun _ => none, fz := fun b o => w.cell? ⟨b, o, none⟩ }

theorem law_calls {f : FuncId} {ct : Ct} (hL : Law P f ct) {ds : List D} {args : List Value} {i : I} (hi : scI i = true) (w : World) (hrun : ct.run ds [] = some { val := .c (.im i) }) (hl : args.length = ds.length)
    (hv : ∀ (t : Nat) (d : D) (v : Value), ds[t]? = some d → args[t]? = some v → DV (stayG w) d v) :
    Calls P f args.toArray w (fun e w' => ∃ v, e = .returned v ∧ IR (fun _ _ => none) i v ∧ Below w.heap.size w w') := by
  refine (hL.1.at_ ds [] _ hrun ⟨stayG w, w, fun _ => 0⟩ args hl (fun n hn => hn.elim) ?_).mono fun e w' ⟨v, he, hd⟩ => ⟨v, he, ?_⟩
  · refine ⟨⟨rfl, rfl, rfl, Nat.le_refl _, Gh.le.refl _, fun b _ h => ⟨h, rfl⟩, fun b n h => (by cases h), fun b o v _ h => .inl h⟩, rfl, fun b x h => (by cases h), fun b o v h => ⟨h, rfl⟩, fun t d ht => ?_, fun n r h => (by simp at h), fun n r b h => (by simp at h)⟩
    have hlt : t < args.length := by rw [hl]; exact (List.getElem?_eq_some_iff.1 ht).1
    exact ⟨args[t], by simp [hlt], hv t d _ ht (List.getElem?_eq_getElem hlt)⟩
  · obtain ⟨g, ns, S, H, a, d, hR, _, _, _, _, _, hre, hdv⟩ := hd
    simp only [reD, reC, Option.some.injEq] at hre
    subst hre
    refine ⟨?_, hR.fr.os, hR.fr.tape, hR.fr.output, hR.fr.size, fun k hk => (hR.fr.old k hk rfl).2⟩
    cases hdv with | c _ _ hc => cases hc with | im _ _ hir => exact hir.sc hi
end Go.SX
