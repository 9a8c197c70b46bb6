/-
  A law over one []byte: what the frame asks, from the law's contract.
  No condition.
-/
import Derived.Test.YtbhnlplbfhomcaaRlD
import Derived.Test.YtbhnlplbfhomcaaSyC
import Derived.WalkKit
import Derived.ProofKit
set_option linter.unusedVariables false
set_option linter.unusedSimpArgs false
namespace Go.SX
open Go Go.Proofs Go.RowKit

theorem run_law {l : List Int} (h : ∀ b ∈ l, 0 ≤ b ∧ b < 256) : ctLaw.run [.c (.im (.sl 1 (rowsB l)))] [] = some (.one { val := .c (.im (.bool true)) }) := by
  refine fam_run' (args := fun x : LB => ([D.c (.im (.sl 1 (rowsB x.1)))], [])) ?_ ⟨l, h⟩
  rintro ⟨a, _⟩ ⟨b, _⟩ h
  simp only [Prod.mk.injEq, List.cons.injEq, D.c.injEq, C.im.injEq, I.sl.injEq, true_and, and_true] at h
  exact Subtype.ext (rowsB_inj h)
theorem wf_u8 {n : Int} (h : (Lit.int .u8 n).wf = true) : 0 ≤ n ∧ n < 256 := by
  simp only [Lit.wf, Bool.and_eq_true, decide_eq_true_eq] at h
  obtain ⟨h1, h2⟩ := h
  have e1 : IntKind.u8.min = 0 := by decide
  have e2 : IntKind.u8.max = 255 := by decide
  omega
theorem row_IR {w : World} {a : Option Addr} {len cap : Nat} {zs : List Int}
    (h : (a = none ∧ len = 0 ∧ cap = 0 ∧ zs = []) ∨
      ∃ x, a = some x ∧ len ≤ cap ∧ cap ≤ maxLen ∧ zs.length = cap ∧ (∀ i, i < zs.length → w.cell? (x.add i) = some (.int .u8 (zs.getD i 0))) ∧ ∀ n ∈ zs, (Lit.int .u8 n).wf = true) :
    ∃ l : List Int, (∀ b ∈ l, 0 ≤ b ∧ b < 256) ∧ IR (stayG w).fz (.sl 1 (rowsB l)) (.slice a len cap) := by
  rcases h with ⟨rfl, rfl, rfl, rfl⟩ | ⟨x, rfl, hl, hm, hz, hx, hw⟩
  · exact ⟨[], by simp, .sl0 _ _ _⟩
  · by_cases h0 : len = 0
    · subst h0; exact ⟨[], by simp, .sl0 _ _ _⟩
    · have hlen : (zs.take len).length = len := by rw [List.length_take]; omega
      refine ⟨zs.take len, fun b hb => wf_u8 (hw b (List.mem_of_mem_take hb)), ?_⟩
      have hspot : x.spot = none := by
        have := hx 0 (by omega)
        simp only [Addr.add, if_true] at this
        unfold World.cell? at this
        split at this
        · split at this
          · cases this
          · rename_i hs; simpa using hs
        · cases this
      obtain ⟨b, o, s⟩ := x
      simp only at hspot
      subst hspot
      have key : ∀ (i : Nat) (r : List I) (j : Nat) (y : I), (rowsB (zs.take len))[i]? = some r → r[j]? = some y → ∃ v, (stayG w).fz b (o + i * 1 + j) = some v ∧ IR (stayG w).fz y v := by
        intro i r j y hr hy
        simp only [rowsB, List.getElem?_map, Option.map_eq_some_iff] at hr
        obtain ⟨p, hp, rfl⟩ := hr
        have hi : i < len := by have := (List.getElem?_eq_some_iff.1 hp).1; omega
        have h1 := hx i (by omega)
        rw [Go.SX.add_plain] at h1
        rw [List.getElem?_take_of_lt hi] at hp
        have hg : zs.getD i 0 = p := by rw [List.getD_eq_getElem?_getD, hp]; rfl
        rw [hg] at h1
        match j, hy with
        | 0, hy => simp at hy; subst hy; exact ⟨_, by rw [Nat.mul_one, Nat.add_zero]; exact h1, .int _ _⟩
        | j + 1, hy => simp at hy
      obtain ⟨vs, hvs⟩ := rows_choose key
      have := IR.sl (fz := (stayG w).fz) 1 (rowsB (zs.take len)) b o cap vs (by rw [rowsB_len, hlen]; exact hl) (fun i r hr => by
        simp only [rowsB, List.getElem?_map, Option.map_eq_some_iff] at hr
        obtain ⟨p, _, rfl⟩ := hr; rfl) (fun i r j y h1 h2 => (hvs i r j y h1 h2).1) (fun i r j y h1 h2 => (hvs i r j y h1 h2).2)
      rw [rowsB_len, hlen] at this
      exact this
theorem law_walk {P : Program} {f : FuncId} (hL : Law P f ctLaw) {w : World} {a : Option Addr} {len cap : Nat} {zs : List Int}
    (h : (a = none ∧ len = 0 ∧ cap = 0 ∧ zs = []) ∨
      ∃ x, a = some x ∧ len ≤ cap ∧ cap ≤ maxLen ∧ zs.length = cap ∧ (∀ i, i < zs.length → w.cell? (x.add i) = some (.int .u8 (zs.getD i 0))) ∧ ∀ n ∈ zs, (Lit.int .u8 n).wf = true) :
    Calls P f #[.slice a len cap] w fun e w' => e = .returned (.bool true) ∧ Below w.heap.size w w' := by
  obtain ⟨l, hl, hir⟩ := row_IR h
  refine (law_calls hL (ds := [.c (.im (.sl 1 (rowsB l)))]) (args := [.slice a len cap]) (i := .bool true) rfl w (run_law hl) rfl (fun t d v hd hv => ?_)).mono fun e w' ⟨v, he, hv, hb⟩ => ?_
  · cases t with
    | zero => simp at hd hv; subst hd; subst hv; exact .c _ _ (.im _ _ hir)
    | succ t => simp at hd
  · rw [hv.bool_inv] at he; exact ⟨he, hb⟩
end Go.SX
