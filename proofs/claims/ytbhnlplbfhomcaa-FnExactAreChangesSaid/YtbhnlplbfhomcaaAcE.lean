/-
  FnExactAreChanges: the given statement.
  The frame: lines of the kit's printed shell (proof-skeleton) for a law over a slice, turned to a slice of structs; 'open_slice_fields': the how-to's block.
-/
import Derived.Test.YtbhnlplbfhomcaaAcD
import Derived.Test.YtbhnlplbfhomcaaSxV
import Derived.Test.YtbhnlplbfhomcaaRows
import Derived.WalkKit
import Derived.ProofKit
import Derived.OpenShut
import Derived.ShutString
import Derived.ChangeOld
import Derived.Below
import Derived.Deep.Slices
import Derived.Deep.Fields
import Derived.ChangeSame
namespace Go.Proofs.Ytbhnlplbfhomcaa.fnExactAreChanges
open Go.ChangeShapes Go.WideShapes Go.ChangeAt Go.RowKit
open Go.SX
set_option linter.unusedVariables false

theorem own : ownKnob Try.prog.godebug = none := by kernel_rfl
theorem laidOut : laidOutB Try.prog = true := by kernel_rfl

section
open Go.ChangeShapes Go.WideShapes Go.Deep
variable {H : Type} {enc : TypeId × Value → H} {P : Program} {w : World} {base : Nat} {spare : Nat → Bool} {held : Bool}
theorem open_slice_fields {t e : TypeId} {fs : Array Field} {fuel : Nat} {cs : List Value} {x : DataW H × List MemPlace} (ht : P.underlying t = some (.slice e)) (he : P.underlying e = some (.struct fs))
    (hone : oneCellFields P fs = true) (hC : P.cellsOf e = fs.size) (h : DataW.trod enc P w base spare held fuel t cs = some x) :
    (cs = [.slice none 0 0] ∧ x = (.nil, [])) ∨
    ∃ (a : Addr) (len cap m : Nat) (D : Nat → DataW H) (Pl : Nat → List MemPlace), cs = [.slice (some a) len cap] ∧ base ≤ a.block ∧ len ≤ cap ∧ cap ≤ maxLen ∧ m = (if spare a.block then cap else len) ∧
      x = (.slice ((List.range len).map D) ((List.range (m - len)).map fun j => D (len + j)), MemPlace.row a (m * fs.size) ++ (List.range m).flatMap Pl) ∧
      ∀ i, i < m → ∃ (ys : List (DataW H × List MemPlace)) (n : Nat), D i = .agg (ys.map (·.1)) ∧ Pl i = ys.flatMap (·.2) ∧ ys.length = fs.size ∧
        ∀ (j : Nat) (f : Field), fs[j]? = some f → ∃ (v : Value) (y : DataW H × List MemPlace), w.cell? (a.add (i * fs.size + j)) = some v ∧ ys[j]? = some y ∧ DataW.trod enc P w base spare held n f.type [v] = some y := by
  rcases open_slice ht h with h0 | ⟨a, len, cap, m, n, D, Pl, hcs, hb, hl, hm, hmm, hx, hi⟩
  · exact .inl h0
  · refine .inr ⟨a, len, cap, m, D, Pl, hcs, hb, hl, hm, hmm, by rw [hC] at hx; exact hx, fun i him => ?_⟩
    obtain ⟨cs', hc, ht'⟩ := hi i him
    rw [hC] at hc
    obtain ⟨ys, n', hn', hy, hlen, hyl, hf⟩ := DataW.trod_struct he ht'
    obtain ⟨_, hcl, hat⟩ := World.cells?_some hc
    simp only [Prod.mk.injEq] at hy
    refine ⟨ys, n', hy.1, hy.2, hyl, fun j f hj => ?_⟩
    obtain ⟨ho, hk⟩ := hone_of hone j f hj
    have hjl : j < fs.size := (Array.getElem?_eq_some_iff.1 hj).1
    have hcell := hat j hjl
    have hv : cs'[j]? = some (cs'[j]'(by omega)) := List.getElem?_eq_getElem (by omega)
    have h1 := hf j f hj
    rw [ho, hk] at h1
    have hone' : (cs'.drop j).take 1 = [cs'[j]'(by omega)] := by
      rw [List.drop_eq_getElem_cons (by omega)]
      rfl
    rw [hone'] at h1
    have hys : ys[j]? = some (ys[j]'(by omega)) := List.getElem?_eq_getElem (by omega)
    refine ⟨_, _, ?_, hys, h1.trans hys⟩
    rw [← Go.Deep.add_add, hcell, hv]
end

/-- A slice of changes that came in. -/
def IsChg (w : World) (a : Option Addr) (len cap : Nat) (l : List Chg) : Prop :=
  l.length = len ∧ len ≤ maxLen ∧ len ≤ cap ∧ (len = 0 ∨ ∃ x, a = some x ∧ ∀ (i : Nat) (p : Chg), l[i]? = some p → w.cell? (x.add (i * 2)) = some (.int .i64 p.1) ∧ w.cell? (x.add (i * 2 + 1)) = some (.string p.2))

theorem isChg_IR {w : World} {a : Option Addr} {len cap : Nat} {l : List Chg} (h : IsChg w a len cap l) : IR (stayG w).fz (.sl 2 (rowsOf l)) (.slice a len cap) := by
  obtain ⟨hl, _, hcap, h⟩ := h
  rcases h with h0 | ⟨x, rfl, hx⟩
  · subst h0
    have : l = [] := List.eq_nil_of_length_eq_zero hl
    subst this; exact .sl0 _ _ _
  · by_cases h0 : len = 0
    · subst h0
      have : l = [] := List.eq_nil_of_length_eq_zero hl
      subst this; exact .sl0 _ _ _
    · obtain ⟨p0, hp0⟩ : ∃ p, l[0]? = some p := ⟨_, List.getElem?_eq_getElem (by omega)⟩
      have hspot : x.spot = none := by
        have := (hx 0 p0 hp0).1
        simp only [Nat.zero_mul, Addr.add, if_true] at this
        unfold World.cell? at this
        split at this
        · split at this
          · cases this
          · rename_i hs; simpa using hs
        · cases this
      obtain ⟨b, o, s⟩ := x
      simp only at hspot
      subst hspot
      have key : ∀ (i : Nat) (r : List I) (j : Nat) (y : I), (rowsOf l)[i]? = some r → r[j]? = some y → ∃ v, (stayG w).fz b (o + i * 2 + j) = some v ∧ IR (stayG w).fz y v := by
        intro i r j y hr hy
        simp only [rowsOf, List.getElem?_map, Option.map_eq_some_iff] at hr
        obtain ⟨p, hp, rfl⟩ := hr
        obtain ⟨h1, h2⟩ := hx i p hp
        rw [Go.SX.add_plain] at h1 h2
        match j, hy with
        | 0, hy => simp [rowOf] at hy; subst hy; exact ⟨_, h1, .int _ _⟩
        | 1, hy => simp [rowOf] at hy; subst hy; exact ⟨_, by rw [Nat.add_assoc]; exact h2, .str _⟩
        | j + 2, hy => simp [rowOf] at hy
      obtain ⟨vs, hvs⟩ := rows_choose key
      have := IR.sl (fz := (stayG w).fz) 2 (rowsOf l) b o cap vs (by rw [rowsOf_len, hl]; exact hcap) (fun i r hr => by
        simp only [rowsOf, List.getElem?_map, Option.map_eq_some_iff] at hr
        obtain ⟨p, _, rfl⟩ := hr; rfl) (fun i r j y h1 h2 => (hvs i r j y h1 h2).1) (fun i r j y h1 h2 => (hvs i r j y h1 h2).2)
      rw [rowsOf_len, hl] at this
      exact this

theorem walk (a0 : Option Addr) (len0 cap0 : Nat) (l : List Chg) (w : World) (w0 : IsChg w a0 len0 cap0 l) :
    Calls Try.prog 3 #[.slice a0 len0 cap0] w fun e w' => e = .returned (.bool true) ∧ Below w.heap.size w w' := by
  have hbig : l.length ≤ big := by
    obtain ⟨h1, h2, _⟩ := w0
    simp only [maxLen, big] at h2 ⊢; omega
  refine (law_calls law3 (ds := [.c (.im (.sl 2 (rowsOf l)))]) (args := [.slice a0 len0 cap0]) (i := .bool true) rfl w (by simp [ct3, unRows_of, hbig]) rfl (fun t d v hd hv => ?_)).mono fun e w' ⟨v, he, hir, hb⟩ => ?_
  · cases t with
    | zero => simp at hd hv; subst hd; subst hv; exact .c _ _ (.im _ _ (isChg_IR w0))
    | succ t => simp at hd
  · rw [hir.bool_inv] at he; exact ⟨he, hb⟩

set_option maxRecDepth 100000 in
theorem lifted (os : Os) (started : os.Started) (H : Type) (enc : TypeId × Value → H) :
    ReturnsInHanded {} Try.checked os 3 .any (Rows.fnExactAreChangesSpec.pre6 enc Try.prog Try.f3 Rows.fnExactAreChangesRow.domain false) (Rows.fnExactAreChangesSpec.post enc Try.prog Try.f3 false true false false) := by
  refine returnsInHanded_of_change (C := Try.checked) own started (by kernel_rfl) Try.func3
    (ChangeSpec.witness6 (enc := enc) (C := Try.checked) false ⟨#[], #[.slice none 0 0], []⟩ 8 (by kernel_rfl) (by kernel_rfl) (by kernel_rfl) (by kernel_rfl)) ?_
  intro W base args ds gs before hval0 hW hcnd _
  have hval : ∀ (j : Nat) t v, Try.f3.params[j]? = some t → args[j]? = some v → Value.okWide Try.prog W .any base t v := hval0
  have hW' := hW
  obtain ⟨p, q, hA0, hV, rfl, hfz, hnd⟩ := hW
  have hA : DataW.TrodAll enc Try.prog W 0 (fun _ => true) true Try.f3.params.toList args.toList ds p := hA0
  rw [Try.params3] at hA hval
  obtain ⟨v0, vs0, d0, ds0, p0, q0, hargs, rfl, rfl, h0, r0⟩ := trodAll_cons hA
  obtain ⟨rfl, rfl, rfl⟩ := trodAll_nil r0
  obtain rfl : args = #[v0] := by cases args; simp_all
  obtain ⟨rfl, rfl⟩ := trodVars_none hV
  obtain ⟨a0, len0, cap0, rfl⟩ := okWide_slice Try.underlying22 (hval 0 22 v0 rfl rfl)
  have k0 := h0
  have lt0 : ∀ x ∈ p0, x.block < W.heap.size := by obtain ⟨m, hm⟩ := k0; exact DataW.trod_lt m _ _ _ hm
  obtain ⟨l0, w0⟩ : ∃ l, IsChg W a0 len0 cap0 l := by
    obtain ⟨fuel, hf⟩ := h0
    rcases open_slice_fields Try.underlying22 Try.underlying76 (by kernel_rfl) (by kernel_rfl) hf with ⟨hcs, _⟩ | ⟨x, l, c, m, Dd, Pl, hcs, _, hl, hm, hmm, _, hel⟩
    · simp [Value.cells] at hcs
      obtain ⟨rfl, rfl, rfl⟩ := hcs
      exact ⟨[], rfl, by simp [maxLen], Nat.le_refl _, .inl rfl⟩
    · simp [Value.cells] at hcs
      obtain ⟨rfl, rfl, rfl⟩ := hcs
      have hle : len0 ≤ m := by rw [hmm]; split <;> omega
      have hcell : ∀ i, i < len0 → ∃ p : Chg, W.cell? (x.add (i * 2)) = some (.int .i64 p.1) ∧ W.cell? (x.add (i * 2 + 1)) = some (.string p.2) := fun i hi => by
        obtain ⟨ys, n, _, _, _, hj⟩ := hel i (by omega)
        obtain ⟨v, y, h1, _, h2⟩ := hj 0 _ rfl
        obtain ⟨v', y', h1', _, h2'⟩ := hj 1 _ rfl
        obtain ⟨s, e0, _, _⟩ := DataW.trod_int Try.underlying3 h2
        obtain ⟨s', e0', _⟩ := DataW.trod_string Try.underlying9 h2'
        simp at e0 e0'
        subst e0; subst e0'
        exact ⟨(s, s'), h1, h1'⟩
      refine ⟨(List.range len0).map fun i => Classical.epsilon fun p : Chg => W.cell? (x.add (i * 2)) = some (.int .i64 p.1) ∧ W.cell? (x.add (i * 2 + 1)) = some (.string p.2), by simp, by omega, hl, .inr ⟨x, rfl, fun i p hp => ?_⟩⟩
      simp only [List.getElem?_map, Option.map_eq_some_iff] at hp
      obtain ⟨i', hi', rfl⟩ := hp
      have hlt : i < len0 := by have := (List.getElem?_eq_some_iff.1 hi').1; simpa using this
      have : i' = i := by simp [hlt] at hi'; exact hi'.symm
      subst this
      exact Classical.epsilon_spec (hcell i' hlt)
  clear hA0 hval0
  refine (walk a0 len0 cap0 l0 W w0).mono fun e W' ⟨he, bel⟩ => ?_
  subst he
  exact ⟨_, rfl, _, _, _, [], _, [], hW', trodAll_mk1 (shut_bool Try.underlying4 _), (trodAll_cons_mk (Below.trod laidOut (by kernel_rfl) (of_decide_eq_true (by kernel_rfl)) k0 bel lt0) trodAll_mk0), rfl, bel.frame _, fun h => by cases h⟩

theorem over : Rows.fnExactAreChangesRow.holds Try.pinned (OpenSpec.ofChange Rows.fnExactAreChangesSpec) :=
  OpenClaim.holds_of_wide 3 Try.f3 rfl rfl rfl rfl rfl rfl rfl ⟨rfl, rfl, rfl, rfl, rfl⟩ rfl rfl rfl rfl rfl (by kernel_rfl) Try.func3 (by kernel_rfl)
    (of_decide_eq_true (by kernel_rfl)) (by unfold Func.isWrapper; first | (rw [if_pos (by decide +kernel)]; kernel_rfl) | (rw [if_neg (by decide +kernel)]; exact ⟨rfl, rfl⟩))
    (fun os started H enc _ => lifted os started H enc)

theorem proved : Rows.FnExactAreChangesSaid := over
#print axioms proved
end Go.Proofs.Ytbhnlplbfhomcaa.fnExactAreChanges
