/-
  SX, part E: the quiet operations, continued, and all of them together: 'qv'.
  No condition. Plain definitions and theorems over any program.
-/
import Derived.Test.YtbhnlplbfhomcaaSxD
set_option linter.unusedVariables false
set_option linter.unusedSimpArgs false
namespace Go.SX
open Go Go.RowKit
variable {en : En} {g : Gh} {S : Nat → Option D} {H : Nat → Option Root} {a : Act} {w : World} {P : Program}

theorem IR.sl_inv {fz : Nat → Nat → Option Value} {sz : Nat} {rows : List (List I)} {v : Value} (h : IR fz (.sl sz rows) v) :
    (rows = [] ∧ ∃ A c, v = .slice A 0 c) ∨ ∃ (b off c : Nat) (vs : Nat → Nat → Value), v = .slice (some ⟨b, off, none⟩) rows.length c ∧ rows.length ≤ c ∧ (∀ (i : Nat) (r : List I), rows[i]? = some r → r.length = sz) ∧
      (∀ (i : Nat) (r : List I) (j : Nat) (x : I), rows[i]? = some r → r[j]? = some x → fz b (off + i * sz + j) = some (vs i j)) ∧
      (∀ (i : Nat) (r : List I) (j : Nat) (x : I), rows[i]? = some r → r[j]? = some x → IR fz x (vs i j)) := by
  cases h with
  | sl0 _ a c => exact .inl ⟨rfl, a, c, rfl⟩
  | sl _ _ b off c vs hc hl hx hr => exact .inr ⟨b, off, c, vs, rfl, hc, hl, hx, hr⟩

/-! ### A field of a value -/
def fieldD (P : Program) (s : TypeId) (S : Nat → Option D) (x : Operand) (f : Nat) : Option D :=
  match tfd P s f with
  | some (o, ft) => match tsz P ft, tag P ft with
    | some k, some ag => match ev S x with
      | some (.agg cs) => if o + k ≤ cs.length then mkD ag ((cs.drop o).take k) else none
      | _ => none
    | _, _ => none
  | none => none
theorem fieldD_sound (h : Rel en g S H a w) {s : TypeId} {x : Operand} {f : Nat} {d : D} (hd : fieldD P s S x f = some d) : ∃ v, (Instr.field s (a.eval x) f).run P w = .ok v w ∧ DV g d v := by
  unfold fieldD at hd
  split at hd
  · rename_i o ft hf
    split at hd
    · rename_i k ag hk hag
      split at hd
      · rename_i cs he
        split at hd
        · rename_i hle
          have hv := ev_sound h he
          generalize a.eval x = u at hv
          cases hv with
          | agg _ vs hs hr =>
            obtain ⟨fs, fd, hu, hfd, rfl, rfl⟩ := tfd_under hf
            cases ag with
            | true =>
              simp only [mkD, Option.some.injEq] at hd
              subst hd
              refine ⟨.agg (vs.extract fd.offset (fd.offset + k)), by simp [Instr.field, run_underlying hu, hfd, asAgg, part, run_isAgg hag, run_sizeOf hk], .agg _ _ ?_ (fun j x v hj hv => ?_)⟩
              · simp; omega
              · rw [List.getElem?_take] at hj
                split at hj
                · rw [List.getElem?_drop] at hj
                  refine hr _ x v hj ?_
                  rw [Array.getElem?_extract] at hv
                  split at hv
                  · exact hv
                  · cases hv
                · cases hj
            | false =>
              have hlen : ((cs.drop fd.offset).take k).length = k := by simp; omega
              match hcs : (cs.drop fd.offset).take k, hd with
              | [c], hd =>
                simp only [mkD, Option.some.injEq] at hd
                subst hd
                have hc : cs[fd.offset]? = some c := by
                  have : ((cs.drop fd.offset).take k)[0]? = some c := by rw [hcs]; rfl
                  rw [List.getElem?_take] at this
                  split at this
                  · simpa using this
                  · cases this
                have hlt : fd.offset < vs.size := by rw [hs]; exact (List.getElem?_eq_some_iff.1 hc).1
                refine ⟨vs[fd.offset], ?_, .c _ _ (hr _ _ _ hc (Array.getElem?_eq_getElem hlt))⟩
                simp [Instr.field, run_underlying hu, hfd, asAgg, part, run_isAgg hag, Array.getElem?_eq_getElem hlt]
              | [], hd => simp [mkD] at hd
              | _ :: _ :: _, hd => simp [mkD] at hd
        · cases hd
      · cases hd
    · cases hd
  · cases hd

/-! ### An element's place -/
def indexAddrD (P : Program) (t : TypeId) (S : Nat → Option D) (x i : Operand) : Option D :=
  match tel P t with
  | some e => match tsz P e with
    | some k => match evI S i with
      | some (.int _ n) => match ev S x with
        | some (.c (.view m sz lo len)) => if sz = k ∧ 0 ≤ n ∧ n < (len : Int) then some (.c (.ptr m sz (lo + n.toNat) 0)) else none
        | some (.c (.im (.sl sz rows))) => if sz = k ∧ 0 ≤ n then match rows[n.toNat]? with
            | some row => some (.c (.iptr row 0))
            | none => none
          else none
        | _ => none
      | _ => none
    | none => none
  | none => none
theorem add_plain (b o n : Nat) : (⟨b, o, none⟩ : Addr).add n = ⟨b, o + n, none⟩ := by unfold Addr.add; split <;> simp_all
theorem indexAddrD_sound (h : Rel en g S H a w) {t : TypeId} {x i : Operand} {d : D} (hd : indexAddrD P t S x i = some d) : ∃ v, (Instr.indexAt t (a.eval x) (a.eval i)).run P w = .ok v w ∧ DV g d v := by
  unfold indexAddrD at hd
  split at hd
  · rename_i e ht
    split at hd
    · rename_i k hk
      split at hd
      · rename_i kk n hi
        have hiv := (evI_sound h hi).int_inv
        rw [hiv]
        split at hd
        · rename_i m sz lo len he
          split at hd
          · rename_i hc
            obtain ⟨rfl, h0, h1⟩ := hc
            injection hd with hd
            subst hd
            have hv := ev_sound h he
            cases hv with
            | c _ _ hv =>
              generalize a.eval x = u at hv
              cases hv with
              | view0 => simp at h1; omega
              | view _ _ _ _ cap hu hb hl hc =>
                refine ⟨.pointer (some ⟨g.rb m, lo * sz + n.toNat * sz, none⟩), ?_, .c _ _ ?_⟩
                · simp [Instr.indexAt, run_underlying (tel_under ht), asIntOf, h0, h1, run_sizeOf hk, add_plain]
                · have := CV.ptr (g := g) m sz (lo + n.toNat) 0 hu
                  rwa [hb, Nat.zero_add, Nat.add_zero, Nat.add_mul] at this
          · cases hd
        · rename_i sz rows he
          split at hd
          · rename_i hc
            obtain ⟨rfl, h0⟩ := hc
            split at hd
            · rename_i row hrow
              injection hd with hd
              subst hd
              have hlt : n.toNat < rows.length := (List.getElem?_eq_some_iff.1 hrow).1
              have hv := ev_sound h he
              cases hv with
              | c _ _ hv =>
                generalize a.eval x = u at hv
                cases hv with
                | im _ _ hv =>
                  generalize hrl : rows.length = rl at hv
                  cases hv with
                  | sl0 => simp at hlt
                  | sl _ _ b off c vs hc hl hx hr =>
                    refine ⟨.pointer (some ⟨b, off + n.toNat * sz, none⟩), ?_, .c _ _ ?_⟩
                    · have h1 : n < (rows.length : Int) := by omega
                      simp [Instr.indexAt, run_underlying (tel_under ht), asIntOf, h0, h1, run_sizeOf hk, add_plain]
                    · have := CV.iptr (g := g) row 0 b (off + n.toNat * sz) (fun j => vs n.toNat j) (fun j x hj => hx _ row j x hrow hj) (fun j x hj => hr _ row j x hrow hj)
                      rwa [Nat.add_zero] at this
            · cases hd
          · cases hd
        · cases hd
      · cases hd
    · cases hd
  · cases hd

/-! ### A part of a slice -/
def optI (S : Nat → Option D) : Option Operand → Option (Option Int)
  | none => some none
  | some x => match evI S x with
    | some (.int _ n) => some (some n)
    | _ => none
def sliceD (P : Program) (t : TypeId) (S : Nat → Option D) (x : Operand) (lo hi : Option Operand) : Option D :=
  match tel P t with
  | some e => match tsz P e with
    | some k => match optI S lo, optI S hi with
      | some l?, some h? => match ev S x with
        | some (.c (.view m sz b len)) => if sz = k ∧ 0 ≤ l?.getD 0 ∧ l?.getD 0 ≤ h?.getD len ∧ h?.getD len ≤ len then some (.c (.view m sz (b + (l?.getD 0).toNat) ((h?.getD len).toNat - (l?.getD 0).toNat))) else none
        | some (.c (.im (.sl sz rows))) => if sz = k ∧ 0 ≤ l?.getD 0 ∧ l?.getD 0 ≤ h?.getD rows.length ∧ h?.getD rows.length ≤ rows.length then
            some (.c (.im (.sl sz ((rows.take (h?.getD rows.length).toNat).drop (l?.getD 0).toNat)))) else none
        | some (.c .nil) => if l?.getD 0 = 0 ∧ h?.getD 0 = 0 then some (.c .nil) else none
        | _ => none
      | _, _ => none
    | none => none
  | none => none

theorem optI_sound (h : Rel en g S H a w) {o : Option Operand} {r : Option Int} (hr : optI S o = some r) : (o = none ∧ r = none) ∨ ∃ x k n, o = some x ∧ r = some n ∧ a.eval x = .int k n := by
  cases o with
  | none => simp only [optI, Option.some.injEq] at hr; exact .inl ⟨rfl, hr.symm⟩
  | some x =>
    simp only [optI] at hr
    split at hr
    · rename_i k n hi
      injection hr with hr
      exact .inr ⟨x, k, n, rfl, hr.symm, (evI_sound h hi).int_inv⟩
    · cases hr

theorem run_sliceAt_any {t e : TypeId} {k : Nat} (ht : tel P t = some e) (hk : tsz P e = some k) (A : Option Addr) (len cap : Nat) (lo hi : Option Value) (l? h? : Option Int)
    (hlo : (lo = none ∧ l? = none) ∨ ∃ kk n, lo = some (.int kk n) ∧ l? = some n) (hhi : (hi = none ∧ h? = none) ∨ ∃ kk n, hi = some (.int kk n) ∧ h? = some n)
    (h0 : 0 ≤ l?.getD 0) (h1 : l?.getD 0 ≤ h?.getD len) (h2 : h?.getD len ≤ cap) (h3 : (len : Int) ≤ cap) :
    (Instr.sliceAt t (.slice A len cap) lo hi none).run P w = .ok (.slice (if cap = (l?.getD 0).toNat then A else A.map (·.add ((l?.getD 0).toNat * k))) ((h?.getD len).toNat - (l?.getD 0).toNat) (cap - (l?.getD 0).toNat)) w := by
  have hu := tel_under ht
  rcases hlo with ⟨rfl, rfl⟩ | ⟨kl, l, rfl, rfl⟩ <;> rcases hhi with ⟨rfl, rfl⟩ | ⟨kh, hh, rfl, rfl⟩
  · simp only [Option.getD_none] at *
    simp [Instr.sliceAt, Instr.slice, Instr.sliceBounds, run_underlying hu, run_sizeOf hk]
  · simp only [Option.getD_none, Option.getD_some] at *
    simp [Instr.sliceAt, Instr.slice, Instr.sliceBounds, Instr.sliceBound, asIntOf, run_underlying hu, run_sizeOf hk, h1, h2]
  · simp only [Option.getD_none, Option.getD_some] at *
    simp [Instr.sliceAt, Instr.slice, Instr.sliceBounds, Instr.sliceBound, asIntOf, run_underlying hu, run_sizeOf hk, h0, h1]
  · simp only [Option.getD_some] at *
    have h4 : 0 ≤ hh := by omega
    have h5 : l ≤ (hh.toNat : Int) := by omega
    have h6 : ¬ max hh 0 < l := by omega
    simp [Instr.sliceAt, Instr.slice, Instr.sliceBounds, Instr.sliceBound, asIntOf, run_underlying hu, run_sizeOf hk, h0, h2, h4, h5]
    intro h7; exact absurd h7 h6

theorem optV (h : Rel en g S H a w) {o : Option Operand} {r : Option Int} (hr : optI S o = some r) : (o.map a.eval = none ∧ r = none) ∨ ∃ kk n, o.map a.eval = some (.int kk n) ∧ r = some n := by
  rcases optI_sound h hr with ⟨rfl, rfl⟩ | ⟨x, k, n, rfl, rfl, he⟩
  · exact .inl ⟨rfl, rfl⟩
  · exact .inr ⟨k, n, by simp [he], rfl⟩

theorem sliceD_sound (h : Rel en g S H a w) {t : TypeId} {x : Operand} {lo hi : Option Operand} {d : D} (hd : sliceD P t S x lo hi = some d) :
    ∃ v, (Instr.sliceAt t (a.eval x) (lo.map a.eval) (hi.map a.eval) none).run P w = .ok v w ∧ DV g d v := by
  unfold sliceD at hd
  split at hd
  · rename_i e ht
    split at hd
    · rename_i k hk
      split at hd
      · rename_i l? h? hl hh
        have hL := optV h hl
        have hHi := optV h hh
        split at hd
        · rename_i m sz b len he
          split at hd
          · rename_i hc
            obtain ⟨rfl, h0, h1, h2⟩ := hc
            injection hd with hd
            subst hd
            have hv := ev_sound h he
            cases hv with
            | c _ _ hv =>
              generalize a.eval x = u at hv
              cases hv with
              | view0 _ _ _ A hu =>
                have e1 : (l?.getD 0).toNat = 0 := by omega
                have e2 : (h?.getD ((0 : Nat) : Int)).toNat = 0 := by omega
                refine ⟨_, run_sliceAt_any ht hk A 0 0 _ _ l? h? hL hHi h0 h1 h2 (by omega), .c _ _ ?_⟩
                rw [e1, e2]
                simp only [Nat.sub_self, if_pos]
                exact .view0 m sz _ A hu
              | view _ _ _ _ cap hu hb hl' hc' =>
                refine ⟨_, run_sliceAt_any ht hk _ len cap _ _ l? h? hL hHi h0 h1 (by omega) (by omega), .c _ _ ?_⟩
                by_cases hcap : cap = (l?.getD 0).toNat
                · rw [if_pos hcap]
                  have e1 : (h?.getD (len : Int)).toNat - (l?.getD 0).toNat = 0 := by omega
                  rw [e1, show cap - (l?.getD 0).toNat = 0 by omega]
                  exact .view0 m sz _ _ hu
                · rw [if_neg hcap]
                  simp only [Option.map_some, add_plain]
                  rw [← Nat.add_mul]
                  exact .view m sz (b + (l?.getD 0).toNat) _ _ hu hb (by omega) (by
                    refine Nat.le_trans (Nat.mul_le_mul_right _ ?_) hc'
                    omega)
          · cases hd
        · rename_i sz rows he
          split at hd
          · rename_i hc
            obtain ⟨rfl, h0, h1, h2⟩ := hc
            injection hd with hd
            subst hd
            have hv := ev_sound h he
            cases hv with
            | c _ _ hv =>
              generalize a.eval x = u at hv
              cases hv with
              | im _ _ hv =>
                have hempty : ∀ (A : Option Addr) (c : Nat), (h?.getD (rows.length : Int)).toNat = (l?.getD 0).toNat → DV g (.c (.im (.sl sz ((rows.take (h?.getD rows.length).toNat).drop (l?.getD 0).toNat)))) (.slice A ((h?.getD rows.length).toNat - (l?.getD 0).toNat) c) := by
                  intro A c hq
                  have : (rows.take (h?.getD rows.length).toNat).drop (l?.getD 0).toNat = [] := by
                    apply List.drop_eq_nil_of_le
                    simp; omega
                  rw [this, hq, Nat.sub_self]
                  exact .c _ _ (.im _ _ (.sl0 sz A c))
                rcases hv.sl_inv with ⟨h9, A, c, rfl⟩ | ⟨B, off, c, vs, rfl, hc, hlr, hx, hr⟩
                · have hr0 : rows.length = 0 := by rw [h9]; rfl
                  rw [hr0] at h1 h2 hempty ⊢
                  exact ⟨_, run_sliceAt_any ht hk A 0 c _ _ l? h? hL hHi h0 h1 (by omega) (by omega), hempty _ _ (by omega)⟩
                · refine ⟨_, run_sliceAt_any ht hk _ rows.length c _ _ l? h? hL hHi h0 h1 (by omega) (by omega), ?_⟩
                  by_cases hq : (h?.getD (rows.length : Int)).toNat = (l?.getD 0).toNat
                  · exact hempty _ _ hq
                  · have hcap : ¬ c = (l?.getD 0).toNat := by omega
                    rw [if_neg hcap]
                    simp only [Option.map_some, add_plain]
                    have hlen : ((rows.take (h?.getD rows.length).toNat).drop (l?.getD 0).toNat).length = (h?.getD rows.length).toNat - (l?.getD 0).toNat := by simp; omega
                    rw [← hlen]
                    have hget : ∀ i r, ((rows.take (h?.getD rows.length).toNat).drop (l?.getD 0).toNat)[i]? = some r → rows[(l?.getD 0).toNat + i]? = some r := by
                      intro i r hi'
                      rw [List.getElem?_drop, List.getElem?_take] at hi'
                      split at hi'
                      · exact hi'
                      · cases hi'
                    refine .c _ _ (.im _ _ (.sl sz _ B _ _ (fun i j => vs ((l?.getD 0).toNat + i) j) (by rw [hlen]; omega) (fun i r hi' => hlr _ r (hget i r hi')) (fun i r j x hi' hj => ?_) (fun i r j x hi' hj => hr _ r j x (hget i r hi') hj)))
                    have := hx _ r j x (hget i r hi') hj
                    rw [Nat.add_mul] at this
                    rwa [Nat.add_assoc off]
          · cases hd
        · rename_i he
          split at hd
          · rename_i hc
            obtain ⟨h0, h1⟩ := hc
            injection hd with hd
            subst hd
            have hv := ev_sound h he
            cases hv with
            | c _ _ hv =>
              generalize a.eval x = u at hv
              cases hv with
              | nil =>
                have h1' : h?.getD ((0 : Nat) : Int) = 0 := h1
                refine ⟨_, run_sliceAt_any ht hk none 0 0 _ _ l? h? hL hHi (by omega) (by omega) (by omega) (by omega), .c _ _ ?_⟩
                rw [h0, h1']
                exact .nil
          · cases hd
        · cases hd
      · cases hd
    · cases hd
  · cases hd
end Go.SX
