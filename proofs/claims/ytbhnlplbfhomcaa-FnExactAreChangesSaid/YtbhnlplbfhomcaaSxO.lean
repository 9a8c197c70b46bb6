/-
  SX, part O: one operation, as a law over what it looks at.
  No condition. Plain definitions and theorems over any program.
-/
import Derived.Test.YtbhnlplbfhomcaaSxN
import Derived.Orders
set_option linter.unusedVariables false
set_option linter.unusedSimpArgs false
namespace Go.SX
open Go Go.RowKit
variable {en : En} {g : Gh} {S : Nat → Option D} {H : Nat → Option Root} {a : Act} {w : World} {P : Program}

def evDs (S : Nat → Option D) : List Operand → Option (List D)
  | [] => some []
  | x :: xs => match ev S x with
    | some d => match evDs S xs with
      | some ds => some (d :: ds)
      | none => none
    | none => none
theorem evDs_sound (h : Rel en g S H a w) : ∀ {xs : List Operand} {ds : List D}, evDs S xs = some ds → ds.length = xs.length ∧ ∀ (t : Nat) (d : D) (v : Value), ds[t]? = some d → (xs.map a.eval)[t]? = some v → DV g d v
  | [], ds, hd => by simp only [evDs, Option.some.injEq] at hd; subst hd; exact ⟨rfl, fun t d v h => by simp at h⟩
  | x :: xs, ds, hd => by
    simp only [evDs] at hd
    split at hd
    · rename_i d0 h0
      split at hd
      · rename_i ds' hds
        injection hd with hd; subst hd
        obtain ⟨h1, h2⟩ := evDs_sound h hds
        refine ⟨by simp [h1], fun t d v ht hv => ?_⟩
        cases t with
        | zero => simp at ht hv; subst ht; subst hv; exact ev_sound h h0
        | succ t => simp only [List.getElem?_cons_succ, List.map_cons] at ht hv; exact h2 t d v ht hv
      · cases hd
    · cases hd

def exC1 : C → List Nat
  | .ptr n _ _ _ => [n]
  | _ => []
def exC : C → List Nat
  | .ptr n _ _ _ => [n]
  | .fn _ caps => caps.flatMap exC1
  | _ => []
def exD : D → List Nat
  | .c x => exC x
  | .agg xs => xs.flatMap exC
  | .tup _ => []
def dd : List Nat → List Nat
  | [] => []
  | x :: xs => if x ∈ xs then dd xs else x :: dd xs
/-- The variables that a call may write. -/
def exDs (ds : List D) : List Nat := dd (ds.flatMap exD)

def apH : List (Nat × Option Root) → (Nat → Option Root) → Nat → Option Root
  | [], H => H
  | (n, r) :: l, H => upd (apH l H) n r
def apS (dst : Option Nat) (val : Option D) (S : Nat → Option D) : Nat → Option D := match dst with
  | some t => upd S t val
  | none => S
def addR : Nat → List Root → List (Nat × Option Root)
  | _, [] => []
  | nm, r :: rs => (nm, some r) :: addR (nm + 1) rs
def addP : List Nat → List (List B) → List (Nat × Option Root)
  | [], _ => []
  | n :: ex, c :: cs => (n, some (.box c)) :: addP ex cs
  | n :: ex, [] => (n, none) :: addP ex []

theorem apH_app : ∀ (l k : List (Nat × Option Root)) (H : Nat → Option Root), apH (l ++ k) H = apH l (apH k H)
  | [], _, _ => rfl
  | (n, r) :: l, k, H => by simp only [List.cons_append, apH]; rw [apH_app l k H]
theorem apH_addR : ∀ (rs : List Root) (nm : Nat) (H : Nat → Option Root) (n : Nat), apH (addR nm rs) H n = if nm ≤ n ∧ n < nm + rs.length then rs[n - nm]? else H n
  | [], nm, H, n => by simp only [addR, apH, List.length_nil]; rw [if_neg (by omega)]
  | r :: rs, nm, H, n => by
    simp only [addR, apH, upd]
    by_cases e : n = nm
    · subst e; simp
    · rw [if_neg e, apH_addR rs (nm + 1) H n]
      simp only [List.length_cons]
      by_cases h : nm + 1 ≤ n ∧ n < nm + 1 + rs.length
      · rw [if_pos h, if_pos (by omega), show n - nm = (n - (nm + 1)) + 1 by omega]; simp
      · rw [if_neg h, if_neg (by omega)]
theorem apH_addP : ∀ (ex : List Nat) (cs : List (List B)) (H : Nat → Option Root) (n : Nat), apH (addP ex cs) H n = match pos ex n with
    | some k => (cs[k]?).map Root.box
    | none => H n
  | [], cs, H, n => by cases cs <;> rfl
  | m :: ex, [], H, n => by
    simp only [addP, apH, upd, pos]
    by_cases e : n = m
    · subst e; simp
    · rw [if_neg e, if_neg (Ne.symm e), apH_addP ex [] H n]
      cases pos ex n <;> simp
  | m :: ex, c :: cs, H, n => by
    simp only [addP, apH, upd, pos]
    by_cases e : n = m
    · subst e; simp
    · rw [if_neg e, if_neg (Ne.symm e), apH_addP ex cs H n]
      cases pos ex n <;> simp
theorem backH_ap (H : Nat → Option Root) (ex : List Nat) (nm : Nat) (res : Res) : backH H ex nm res = apH (addR nm res.roots ++ addP ex res.places) H := by
  funext n
  rw [apH_app, apH_addR, apH_addP]
  unfold backH
  rfl

def dropN : Option Nat → List (Nat × Option Root)
  | some n => [(n, none)]
  | none => []

/-- What one operation does; 'nm': from which name on it may name new roots; the last number: how many it names. -/
inductive OpSem (P : Program) (Φ : FuncId → Option Ct) (S : Nat → Option D) (H : Nat → Option Root) (nm : Nat) : Op → Option D → List (Nat × Option Root) → Nat → Prop where
  | q {o : Op} {d : D} (h : qv P S H o = some d) : OpSem P Φ S H nm o (some d) [] 0
  | mk {o : Op} {d : D} {r : Root} (h : mkOp P S o nm = some (d, r)) : OpSem P Φ S H nm o (some d) [(nm, some r)] 1
  | st {t : TypeId} {x y : Operand} {n : Nat} {r : Root} (h : storeH P t S H x y = some (n, r)) : OpSem P Φ S H nm (.store t x y) none [(n, some r)] 0
  | app {t : TypeId} {s x : Operand} {sz bytes : Nat} {rows : List (List T)} {on : Option Nat} (h : appendH P t S H s x = some (sz, bytes, rows, on)) (hb : rows.length * bytes ≤ 140737488355328) :
      OpSem P Φ S H nm (.call { callee := .builtin .append, args := #[s, x], argTypes := #[t, t] }) (some (.c (.view nm sz 0 rows.length))) ((nm, some (.arr sz rows)) :: dropN on) 1
  | call {f : Operand} {args : Array Operand} {ts : Array TypeId} {k : FuncId} {caps : List C} {ct : Ct} {ds ds' : List D} {hs : List (List B)} {res : Res} {d : D} (hf : evC S f = some (.fn (.func k) caps)) (hk : Φ k = some ct)
      (hd : evDs S args.toList = some ds) (hpl : PlOk H (exDs (ds ++ caps.map D.c)) hs) (hlo : mapO (loD (exDs (ds ++ caps.map D.c)) (if ct.sc then H else fun _ => none)) (ds ++ caps.map D.c) = some ds')
      (hrun : ct.run ds' hs = some res) (hre : reD (fun n => nm + n) res.val = some d) :
      OpSem P Φ S H nm (.call { callee := .value f, args := args, argTypes := ts }) (some d) (addR nm res.roots ++ addP (exDs (ds ++ caps.map D.c)) res.places) res.roots.length

/-! ### More is known -/
theorem mapO_mono {α β : Type} {f f' : α → Option β} (h : ∀ x y, f x = some y → f' x = some y) : ∀ {xs : List α} {ys : List β}, mapO f xs = some ys → mapO f' xs = some ys
  | [], ys, hd => hd
  | x :: xs, ys, hd => by
    simp only [mapO] at hd ⊢
    split at hd
    · rename_i y hy
      split at hd
      · rename_i ys' hys
        rw [h x y hy, mapO_mono h hys]; exact hd
      · cases hd
    · cases hd
variable {H' : Nat → Option Root}
theorem toI_mono (hH : ∀ n r, H n = some r → H' n = some r) {ex : List Nat} : ∀ (k : Nat) (t : T) (i : I), toI ex H k t = some i → toI ex H' k t = some i
  | 0, t, i, h => by cases t <;> exact h
  | k + 1, t, i, h => by
    cases t with
    | im => exact h
    | nil => exact h
    | dead => exact h
    | own sz rows =>
      simp only [toI] at h ⊢
      split at h
      · rename_i r hr; rw [mapO_mono (fun x y hx => mapO_mono (toI_mono hH k) hx) hr]; exact h
      · cases h
    | lent n sz len =>
      simp only [toI] at h ⊢
      split at h
      · cases h
      · rename_i hn
        rw [if_neg hn]
        split at h
        · rename_i sz' rows hr
          rw [hH n _ hr]
          simp only []
          split at h
          · rename_i hc
            rw [if_pos hc]
            split at h
            · rename_i r hr'; rw [mapO_mono (fun x y hx => mapO_mono (toI_mono hH k) hx) hr']; exact h
            · cases h
          · cases h
        · cases h
theorem loC_mono (hH : ∀ n r, H n = some r → H' n = some r) {ex : List Nat} : ∀ (k : Nat) (c c' : C), loC ex H k c = some c' → loC ex H' k c = some c' := by
  have hview : ∀ (k n sz lo len : Nat) (c' : C), loC ex H k (.view n sz lo len) = some c' → loC ex H' k (.view n sz lo len) = some c' := by
    intro k n sz lo len c' h
    simp only [loC] at h ⊢
    split at h
    · cases h
    · rename_i hn
      rw [if_neg hn]
      split at h
      · rename_i sz' rows hr
        rw [hH n _ hr]
        simp only []
        split at h
        · rename_i hc
          rw [if_pos hc]
          split at h
          · rename_i r hr'; rw [mapO_mono (fun x y hx => mapO_mono (toI_mono hH 4) hx) hr']; exact h
          · cases h
        · cases h
      · cases h
  intro k
  induction k with
  | zero => intro c c' h; cases c <;> first | exact h | exact hview _ _ _ _ _ _ h
  | succ k ih =>
    intro c c' h
    cases c with
    | fn f caps =>
      simp only [loC] at h ⊢
      split at h
      · rename_i cs hcs; rw [mapO_mono ih hcs]; exact h
      · cases h
    | view n sz lo len => exact hview _ _ _ _ _ _ h
    | _ => exact h
theorem loD_mono (hH : ∀ n r, H n = some r → H' n = some r) {ex : List Nat} (d d' : D) (h : loD ex H d = some d') : loD ex H' d = some d' := by
  cases d with
  | c x =>
    simp only [loD] at h ⊢
    split at h
    · rename_i y hy; rw [loC_mono hH 2 x y hy]; exact h
    · cases h
  | agg xs =>
    simp only [loD] at h ⊢
    split at h
    · rename_i ys hys; rw [mapO_mono (loC_mono hH 2) hys]; exact h
    · cases h
  | tup => exact h
theorem storeH_mono (hH : ∀ n r, H n = some r → H' n = some r) {t : TypeId} {x y : Operand} {z : Nat × Root} (h : storeH P t S H x y = some z) : storeH P t S H' x y = some z := by
  unfold storeH at h ⊢
  split at h
  · split at h
    · split at h
      · split at h
        · split at h
          · rename_i hc
            split at h
            · rename_i r hr
              simp only [*, if_true] at h ⊢
              rw [hH _ _ hr]
              exact h
            · cases h
          · cases h
        · cases h
      · cases h
    · cases h
  · cases h
theorem srcRows_mono (hH : ∀ n r, H n = some r → H' n = some r) {x : Operand} {sz : Nat} {z : List (List T)} (h : srcRows S H x sz = some z) : srcRows S H' x sz = some z := by
  unfold srcRows at h ⊢
  split at h
  · rename_i m sz' lo k hx
    split at h
    · rename_i hc
      split at h
      · rename_i sz2 rows hr
        (try simp only [hx])
        rw [if_pos hc, hH _ _ hr]
        exact h
      · cases h
    · cases h
  · rename_i sz' rows hx; (try simp only [hx]); exact h
  · rename_i hx; (try simp only [hx]); exact h
  · cases h
theorem appendH_mono (hH : ∀ n r, H n = some r → H' n = some r) {t : TypeId} {s x : Operand} {z : Nat × Nat × List (List T) × Option Nat} (h : appendH P t S H s x = some z) : appendH P t S H' s x = some z := by
  unfold appendH at h ⊢
  split at h
  · rename_i e ht
    (try simp only [ht])
    split at h
    · rename_i sz bytes zc h1 h2 h3
      (try simp only [h1, h2, h3])
      split at h
      · rename_i hc
        rw [if_pos hc]
        split at h
        · rename_i src hsrc
          rw [srcRows_mono hH hsrc]
          simp only []
          split at h
          · rename_i n sz' len hs
            (try simp only [hs])
            split at h
            · rename_i hz
              rw [if_pos hz]
              split at h
              · rename_i sz2 rows hr
                rw [hH _ _ hr]
                exact h
              · cases h
            · cases h
          · rename_i hs; (try simp only [hs]); exact h
          · cases h
        · cases h
      · cases h
    · cases h
  · cases h
theorem PlOk_mono (hH : ∀ n r, H n = some r → H' n = some r) {ex : List Nat} {hs : List (List B)} (h : PlOk H ex hs) : PlOk H' ex hs :=
  ⟨h.1, h.2.1, fun k n c h1 h2 => ⟨hH _ _ (h.2.2 k n c h1 h2).1, (h.2.2 k n c h1 h2).2⟩⟩

theorem Rel.moreS {S' : Nat → Option D} (h : Rel en g S H a w) (hs : ∀ t d, S' t = some d → ∃ v, a.tmps[t]? = some v ∧ DV g d v) : Rel en g S' H a w :=
  ⟨h.fr, h.df, h.lt, h.fz, hs, h.roots, h.wd⟩

theorem Rel.putD (h : Rel en g S H a w) {dst : Option Nat} (hdst : ∀ t, dst = some t → t < a.tmps.size) {d : D} {v : Value} (hv : DV g d v) : Rel en g (apS dst (some d) S) H (a.put dst v) w := by
  cases dst with
  | none => exact h
  | some t => exact h.put (hdst t rfl) hv
theorem Rel.putN (h : Rel en g S H a w) (dst : Option Nat) (v : Value) : Rel en g (apS dst none S) H (a.put dst v) w := by
  have := h.putU dst v
  cases dst <;> exact this
theorem put_size (a : Act) (dst : Option Nat) (v : Value) : (a.put dst v).tmps.size = a.tmps.size := by cases dst <;> simp [Act.put]

theorem Good_enter {f : FuncId} (hf : ∃ fn : Func, P.funcs[f]? = some fn ∧ (fn.name == "runtime.NumGoroutine") = false ∧ fn.body.isNone = false) (args : Array Value) (w : World) : (callFunc f args).run P w = .ok (.enter f args) w := by
  obtain ⟨fn, h1, h2, h3⟩ := hf
  have h2' : ¬ fn.name = "runtime.NumGoroutine" := by simpa using h2
  have h3' : fn.body ≠ none := by
    intro h; rw [h] at h3; cases h3
  simp [callFunc, h1, h2', h3', h3]

theorem OpSem.sound {Φ : FuncId → Option Ct} (hΦ : ∀ f ct, Φ f = some ct → Good P f ct ∧ ∃ fn : Func, P.funcs[f]? = some fn ∧ (fn.name == "runtime.NumGoroutine") = false ∧ fn.body.isNone = false) {S' : Nat → Option D} {N nm cnt : Nat}
    {val : Option D} {wr : List (Nat × Option Root)} {Q : Exit → Act → World → Prop} {o : Oper} (h : Rel en g S' H' a w) (hN : a.tmps.size = N) (hS : ∀ t d, S t = some d → S' t = some d) (hH : ∀ n r, H n = some r → H' n = some r)
    (ho : OpSem P Φ S H nm o.op val wr cnt) (hnm : ∀ m, g.used m → ¬ (nm ≤ m ∧ m < nm + cnt)) (hdst : ∀ t, o.dst = some t → t < N) :
    o.wp P a w (fun a' w' => ∃ g', (∀ m, g'.used m → g.used m ∨ (nm ≤ m ∧ m < nm + cnt)) ∧ Rel en g' (apS o.dst val S') (apH wr H') a' w' ∧ a'.tmps.size = N) Q := by
  subst hN
  have hless : Rel en g S H a w := h.less hS hH
  have hlessS : Rel en g S H' a w := h.less hS (fun _ _ h => h)
  have back : ∀ {g' : Gh} {Hn : Nat → Option Root} {w' : World}, g.le g' → Rel en g' S Hn a w' → Rel en g' S' Hn a w' := fun hle hr => hr.moreS (fun t d ht => by
    obtain ⟨v, hv, hd⟩ := h.slots t d ht; exact ⟨v, hv, hd.mono hle⟩)
  generalize hop : o.op = op at ho
  cases ho with
  | q hq =>
    rename_i d
    rw [← hop] at hq
    obtain ⟨v, w', h1, h2, h3⟩ := qv_sound (o := o) hless hq
    simp only [Oper.wp, h1, Oper.upon]
    exact ⟨g, fun m hm => .inl hm, (h.world h2.heap h2.os h2.tape h2.output).putD hdst h3, put_size _ _ _⟩
  | mk hq =>
    rename_i d r
    rw [← hop] at hq
    obtain ⟨v, w', g', h1, h2⟩ := mkOp_sound (o := o) hlessS (fun hu => hnm nm hu ⟨Nat.le_refl _, by omega⟩) hq
    simp only [Oper.wp, h1, Oper.upon]
    refine ⟨g', fun m hm => (h2.us m hm).elim (fun e => .inr (by omega)) .inl, (back h2.le h2.rel).putD hdst h2.val, put_size _ _ _⟩
  | st hq =>
    rename_i t x y n r
    obtain ⟨w', h1, h2⟩ := storeH_sound hlessS (storeH_mono hH hq)
    have h1' : (execOp a.eval o).run P w = .ok .skip w' := by simp [execOp, hop, h1]
    simp only [Oper.wp, h1', Oper.upon]
    exact ⟨g, fun m hm => .inl hm, (back (Gh.le.refl g) h2).putN _ _, put_size _ _ _⟩
  | app hq hb =>
    rename_i t s x sz bytes rows on
    obtain ⟨v, w', h1, g', h2, h3, h4, h5⟩ := appendH_sound (ty := o.type) hlessS (appendH_mono hH hq) (fun hu => hnm nm hu ⟨Nat.le_refl _, by omega⟩) hb
    have h1' : (execOp a.eval o).run P w = .ok (.value v) w' := by simp [execOp, hop, resolve, invoke, builtin, h1]
    simp only [Oper.wp, h1', Oper.upon]
    refine ⟨g', fun m hm => (h3 m hm).elim (fun e => .inr (by omega)) .inl, ?_, put_size _ _ _⟩
    have h4' := (back h2 h4).putD hdst (.c _ _ h5)
    cases on <;> exact h4'
  | call hf hk hd hpl hlo hrun hre =>
    rename_i f args ts k caps ct ds ds' hs res d
    obtain ⟨hG, hent⟩ := hΦ k ct hk
    have hfv := evC_sound hless hf
    obtain ⟨hl1, hl2⟩ := evDs_sound hless hd
    generalize hfe : a.eval f = u at hfv
    cases hfv with
    | fn _ _ vs hvs hvr =>
      have hcr := call_rel hlessS (nm := nm) (res := res) hnm hG (PlOk_mono hH hpl) (br := ct.sc) (fun h => h) (ds := ds ++ caps.map D.c) (args := args.toList.map a.eval ++ vs.toList) (by simp [hl1, hvs]) (fun t d v ht hv => by
          by_cases hlt : t < ds.length
          · rw [List.getElem?_append_left hlt] at ht
            rw [List.getElem?_append_left (by simp [← hl1]; exact hlt)] at hv
            exact hl2 t d v ht hv
          · rw [List.getElem?_append_right (by omega)] at ht
            rw [List.getElem?_append_right (by simp [← hl1]; omega)] at hv
            rw [List.getElem?_map, Option.map_eq_some_iff] at ht
            obtain ⟨c, hc, rfl⟩ := ht
            rw [show (List.map a.eval args.toList).length = ds.length by simp [hl1]] at hv
            exact .c _ _ (hvr _ c v hc (by simpa using hv)))
        (by
          cases hsc : ct.sc with
          | true => rw [hsc] at hlo; simp only [if_true] at hlo ⊢; exact mapO_mono (fun x y => loD_mono hH x y) hlo
          | false => rw [hsc] at hlo; simpa using hlo) hrun hre
      have hargs : (args.toList.map a.eval ++ vs.toList).toArray = args.map a.eval ++ vs := by
        rw [← Array.toList_inj]; simp
      rw [hargs] at hcr
      have h1' : (execOp a.eval o).run P w = .ok (.enter k (args.map a.eval ++ vs)) w := by
        simp [execOp, hop, resolve, hfe, Deferred.ofValue, invoke, Good_enter hent]
      simp only [Oper.wp, h1', Oper.upon]
      refine hcr.mono fun e w' ⟨v, he, g', k1, k2, k3, k4⟩ => ?_
      subst he
      refine ⟨g', k2, ?_, put_size _ _ _⟩
      rw [← backH_ap]
      exact (back k1 k3).putD hdst k4
end Go.SX
