/-
  SX, part T: a function's code, evaluated; its law from that.
  No condition. Plain definitions and theorems over any program.
-/
import Derived.Test.YtbhnlplbfhomcaaSxS
import Derived.Scope
set_option linter.unusedVariables false
set_option linter.unusedSimpArgs false
namespace Go.SX
open Go Go.RowKit
variable {en : En} {g : Gh} {S : Nat → Option D} {H : Nat → Option Root} {a : Act} {w : World} {P : Program}

/-! ### Another state that says less -/
def rho : List (Nat × Option Root) → List Nat → Nat → Nat
  | (k, _) :: h, m :: ρ, n => if n = k then m else rho h ρ n
  | _, _, n => n
def reF (pn : Nat) (h : List (Nat × Option Root)) (ρ : List Nat) : Nat → Nat := fun n => if n < pn then n else rho h ρ n
def sOk (S : Nat → Option D) (H' : Nat → Option Root) (f : Nat → Nat) : List (Nat × Option D) → Prop
  | [] => True
  | (_, none) :: r => sOk S H' f r
  | (t, some d) :: r => S t = some (mapD f d) ∧ NmD H' d ∧ sOk S H' f r
def hOk (H H' : Nat → Option Root) (f : Nat → Nat) : List (Nat × Option Root) → Prop
  | [] => True
  | (_, none) :: r => hOk H H' f r
  | (n, some x) :: r => ((H (f n) = some x ∧ MvR false x) ∨ (H (f n) = some (mapR f x) ∧ NmR H' x)) ∧ hOk H H' f r
def nms : List (Nat × Option Root) → List Nat
  | [] => []
  | (_, none) :: r => nms r
  | (n, some _) :: r => n :: nms r
def subOk (pn : Nat) (st st' : St) (ρ : List Nat) : Prop :=
  sOk (lk st.s) (lk st'.h) (reF pn st'.h ρ) st'.s ∧ hOk (lk st.h) (lk st'.h) (reF pn st'.h ρ) st'.h ∧ ((nms st'.h).map (reF pn st'.h ρ)).Nodup ∧ (∀ n ∈ nms st'.h, pn ≤ n → pn ≤ reF pn st'.h ρ n) ∧ pn ≤ st'.n ∧ (∀ n ∈ nms st'.h, n < st'.n)
def Sub (pn : Nat) (st st' : St) : Prop := ∃ ρ, subOk pn st st' ρ

theorem lk_mem {α : Type} : ∀ {l : List (Nat × Option α)} {t : Nat} {d : α}, lk l t = some d → (t, some d) ∈ l
  | [], t, d, h => by cases h
  | (k, x) :: r, t, d, h => by
    simp only [lk] at h
    split at h
    · rename_i e; subst e; subst h; exact .head _
    · exact .tail _ (lk_mem h)
theorem sOk_at {H' : Nat → Option Root} {f : Nat → Nat} : ∀ {l : List (Nat × Option D)} {t : Nat} {d : D}, sOk S H' f l → (t, some d) ∈ l → S t = some (mapD f d) ∧ NmD H' d
  | (k, none) :: r, t, d, h, hm => by
    rcases List.mem_cons.1 hm with e | hm
    · cases e
    · exact sOk_at (l := r) h hm
  | (k, some x) :: r, t, d, h, hm => by
    rcases List.mem_cons.1 hm with e | hm
    · cases e; exact ⟨h.1, h.2.1⟩
    · exact sOk_at (l := r) h.2.2 hm
theorem hOk_at {H' : Nat → Option Root} {f : Nat → Nat} : ∀ {l : List (Nat × Option Root)} {t : Nat} {d : Root}, hOk H H' f l → (t, some d) ∈ l → (H (f t) = some d ∧ MvR false d) ∨ (H (f t) = some (mapR f d) ∧ NmR H' d)
  | (k, none) :: r, t, d, h, hm => by
    rcases List.mem_cons.1 hm with e | hm
    · cases e
    · exact hOk_at (l := r) h hm
  | (k, some x) :: r, t, d, h, hm => by
    rcases List.mem_cons.1 hm with e | hm
    · cases e; exact h.1
    · exact hOk_at (l := r) h.2 hm
theorem nms_at : ∀ {l : List (Nat × Option Root)} {t : Nat} {d : Root}, (t, some d) ∈ l → t ∈ nms l
  | (k, none) :: r, t, d, hm => by
    rcases List.mem_cons.1 hm with e | hm
    · cases e
    · exact nms_at (l := r) hm
  | (k, some x) :: r, t, d, hm => by
    rcases List.mem_cons.1 hm with e | hm
    · cases e; exact .head _
    · exact .tail _ (nms_at (l := r) hm)
theorem nodup_inj {f : Nat → Nat} : ∀ {l : List Nat} {n m : Nat}, (l.map f).Nodup → n ∈ l → m ∈ l → f n = f m → n = m
  | x :: l, n, m, hd, hn, hm, e => by
    simp only [List.map_cons, List.nodup_cons] at hd
    rcases List.mem_cons.1 hn with hn | hn
    · rcases List.mem_cons.1 hm with hm | hm
      · rw [hn, hm]
      · rw [hn] at e; exact absurd (List.mem_map.2 ⟨m, hm, e.symm⟩) hd.1
    · rcases List.mem_cons.1 hm with hm | hm
      · rw [hm] at e; exact absurd (List.mem_map.2 ⟨n, hn, e⟩) hd.1
      · exact nodup_inj hd.2 hn hm e

theorem RelS.sub {N pn : Nat} {st st' : St} (hpn : ∀ n, en.g0.used n → n < pn) (h : RelS en N st a w) (hs : Sub pn st st') : RelS en N st' a w := by
  obtain ⟨g, hu, hR, hN⟩ := h
  obtain ⟨ρ, h1, h2, h3, h4, h5, h6⟩ := hs
  have hfp : ∀ n, n < pn → reF pn st'.h ρ n = n := fun n hn => by simp only [reF]; rw [if_pos hn]
  obtain ⟨g', k1, k2⟩ := hR.rename (reF pn st'.h ρ) (S' := lk st'.s) (H' := lk st'.h) (fun k hk => hfp k (hpn k hk))
    (fun n m r r' hn hm e => nodup_inj h3 (nms_at (lk_mem hn)) (nms_at (lk_mem hm)) e)
    (fun n r k hn hk e => by
      by_cases hlt : n < pn
      · rw [hfp n hlt] at e; exact e
      · have := h4 n (nms_at (lk_mem hn)) (by omega)
        have := hpn k hk
        omega)
    (fun t d ht => sOk_at h1 (lk_mem ht)) (fun n r hn => hOk_at h2 (lk_mem hn))
  exact ⟨g', fun m hm => (k1 m hm).elim (fun h => by have := hpn m h; omega) (fun ⟨r, hr⟩ => h6 m (nms_at (lk_mem hr))), k2, hN⟩

inductive Ex where
  | norm
  | exit (id : Nat)
  | ret

def thenK (K K' : Ex → St → Prop) : Ex → St → Prop
  | .norm, st => K' .norm st
  | e, st => K e st

/-- A loop: a family of states, one of which holds at each round's head; 'μ' falls. -/
def loopP (pn : Nat) (body : (Ex → St → Prop) → St → Prop) (K : Ex → St → Prop) (_ : Tag body) (_ : Tag K) (st : St) : Prop :=
  ∃ (ι : Type) (F : ι → St) (μ : ι → Nat) (i0 : ι), Sub pn st (F i0) ∧ ∀ i, body (fun e st' => match e with
      | .norm => ∃ j, μ j < μ i ∧ Sub pn st' (F j)
      | e => K e st') (F i)

/-- The code, evaluated. -/
def sx (P : Program) (Φ : FuncId → Option Ct) (N pn : Nat) : Code → (K : Ex → St → Prop) → Tag K → St → Prop
  | .skip, K, _, st => K .norm st
  | .region _ ops draw, K, _, st => match draw with
    | false => regX P Φ N ops.toList ops.toList st (fun st' => K .norm st') .mk
    | true => slotsOk ops.toList = true ∧ drX P Φ N st.n ops.toList ops.toList 0 st [] (fun st' acc => rootsOk ops.toList st.n acc = true ∧ K .norm ⟨st'.s, st'.h, st.n + 8 * ops.toList.length⟩) .mk
  | .seq x y, K, t0, st => sx P Φ N pn x (fun e st' => match e with
      | .norm => sx P Φ N pn y K t0 st'
      | e => K e st') .mk st
  | .cond c x y, K, t0, st => match evI (lk st.s) c with
    | some (.bool b) => gS b true (sx P Φ N pn x K t0 st) (sx P Φ N pn y K t0 st) .mk .mk
    | _ => False
  | .block id c, K, _, st => sx P Φ N pn c (fun e st' => match e with
      | .exit id' => if id' = id then K .norm st' else K (.exit id') st'
      | e => K e st') .mk st
  | .loop c, K, _, st => loopP pn (fun K' st' => sx P Φ N pn c K' .mk st') K .mk .mk st
  | .scope c, K, t0, st => sx P Φ N pn c K t0 st
  | .exit id, K, _, st => K (.exit id) st
  | .ret, K, _, st => K .ret st
  | _, _, _, _ => False

def post (en : En) (N : Nat) (K : Ex → St → Prop) : Exit → Act → World → Prop
  | .normal, a, w => ∃ st, RelS en N st a w ∧ K .norm st
  | .exit id, a, w => ∃ st, RelS en N st a w ∧ K (.exit id) st
  | .ret, a, w => ∃ st, RelS en N st a w ∧ K .ret st
  | _, _, _ => False

theorem RelS.world {N : Nat} {st : St} (h : RelS en N st a w) {w' : World} (h1 : w'.heap = w.heap) (h2 : w'.os = w.os) (h3 : w'.tape = w.tape) (h4 : w'.output = w.output) : RelS en N st a w' := by
  obtain ⟨g, hu, hR, hN⟩ := h
  exact ⟨g, hu, hR.world h1 h2 h3 h4, hN⟩

theorem sx_sound {Φ : FuncId → Option Ct} (hΦ : Env P Φ) (hm : P.follows .mixedOrders = true) {N pn : Nat} (hpn : ∀ n, en.g0.used n → n < pn) :
    ∀ (c : Code) (K : Ex → St → Prop) (t0 : Tag K) (st : St) (a : Act) (w : World), RelS en N st a w → sx P Φ N pn c K t0 st → c.wp P (post en N K) a w
  | .skip, K, t0, st, a, w, h, hx => wp_skip ⟨st, h, hx⟩
  | .region id ops false, K, t0, st, a, w, h, hx => by
    refine wp_region_list (regX_sound hΦ (K := fun st' => K .norm st') (fun st a w h1 h2 => ⟨st, h1, h2⟩) ops.toList st .mk a w h ?_)
    simpa [sx] using hx
  | .region id ops true, K, t0, st, a, w, h, hx => by
    simp only [sx] at hx
    obtain ⟨hsl, hx⟩ := hx
    obtain ⟨es, st', hrun, hro, hk⟩ := drX_ex hx
    have hs := slotsOk_spec hsl
    obtain ⟨g, hu, hR, hN⟩ := h
    obtain ⟨k1, k2, k3⟩ := DRun.all (es := es) (S0 := lk st.s) (H0 := lk st.h) hrun rfl rfl rfl rfl (Nat.zero_le _) (.inr trivial)
    have hlen : ∀ (i : Nat) (o : Oper), ops.toList[i]? = some o → ∃ e, es[i]? = some e := by
      have : ∀ {l : List Oper} {i : Nat} {st st' : St} {es : List EI}, DRun P Φ N st.n ops.toList l i st es st' → True := fun _ => trivial
      have key : ∀ {n0 : Nat} {l : List Oper} {i : Nat} {st st' : St} {es : List EI}, DRun P Φ N n0 ops.toList l i st es st' → es.length = l.length := by
        intro n0 l i st st' es h
        induction h with
        | nil => rfl
        | cons _ _ ih => simp [ih]
      intro i o ho
      have hl := key hrun
      have : i < es.length := by rw [hl]; exact (List.getElem?_eq_some_iff.1 ho).1
      exact ⟨es[i], List.getElem?_eq_getElem this⟩
    have hops : ops = ops.toList.toArray := by simp
    have hdraw := (RelS.world (en := en) (N := N) ⟨g, hu, hR, hN⟩ (w' := { w with drawn := w.drawn + 1 }) rfl rfl rfl rfl)
    obtain ⟨g1, hu1, hR1, hN1⟩ := hdraw
    rw [hops]
    refine wp_region_any hm ?_
    have hrep : ∀ j, Xof (Array.replicate ops.toList.toArray.size false) j = false := fun j => by
      simp only [Xof, Array.getD_eq_getD_getElem?, Array.getElem?_replicate]
      split <;> rfl
    have e1 : ∀ {κ V : Type} (W : Nat → κ → Option V) (init : κ → V) (n : Nat), Fg W (Xof (Array.replicate ops.toList.toArray.size false)) init n = init := fun W init n => by
      funext k
      induction n with
      | zero => rfl
      | succ n ih => simp only [Fg, hrep n]; simp [ih]
    refine order_any (n0 := st.n) (es := es) (S0 := lk st.s) (H0 := lk st.h) (N := N) hΦ hs (fun j o ho => k1 j o (Nat.zero_le _) ho) (fun i j oi oj hi hj hij hb => ?_) (fun g a w hug hRg hNg => ?_) _ _ g1 a _ (by simp) (fun j o _ hx => by rw [hrep] at hx; cases hx) (Nat.le_trans (List.length_filter_le _ _) (by simp)) (by rw [e1, e1]; exact hR1) (fun m hm => .inl (hu1 m hm)) hN1
    · obtain ⟨ei, hei⟩ := hlen i oi hi
      obtain ⟨ej, hej⟩ := hlen j oj hj
      have hmi := (accL_mem (es := es) (i := 0) (acc := [])).2 i ei hei
      have hmj := (accL_mem (es := es) (i := 0) (acc := [])).2 j ej hej
      simp only [rootsOk, List.all_eq_true] at hro
      have := hro _ hmj _ hmi
      simp only [Nat.zero_add, Bool.or_eq_true, decide_eq_true_eq, hb, Bool.false_eq_true, false_or] at this
      have hd1 : es.getD i default = ei := by simp [List.getD, hei]
      have hd2 : es.getD j default = ej := by simp [List.getD, hej]
      rw [hd1, hd2]
      exact this.resolve_left (by omega)
    · refine ⟨_, ⟨g, ?_, ?_, hNg⟩, hk⟩
      · exact hug
      · simp only []
        rw [k2, k3]; exact hRg
  | .seq x y, K, t0, st, a, w, h, hx => by
    refine wp_seq (Code.wp_mono (fun e a w hq => ?_) (sx_sound hΦ hm hpn x _ .mk st a w h hx))
    cases e with
    | normal => obtain ⟨st', h1, h2⟩ := hq; exact sx_sound hΦ hm hpn y K t0 st' a w h1 h2
    | exit id => exact hq
    | ret => exact hq
    | _ => exact hq.elim
  | .cond c x y, K, t0, st, a, w, h, hx => by
    simp only [sx] at hx
    split at hx
    · rename_i b hb
      obtain ⟨g, hu, hR, hN⟩ := h
      have hv := (evI_sound hR hb).bool_inv
      exact wp_cond_split hv (fun ht => sx_sound hΦ hm hpn x K t0 st a w ⟨g, hu, hR, hN⟩ (hx.1 ht)) (fun ht => sx_sound hΦ hm hpn y K t0 st a w ⟨g, hu, hR, hN⟩ (hx.2 ht))
    · exact hx.elim
  | .block id c, K, t0, st, a, w, h, hx => by
    refine wp_block (Code.wp_mono (fun e a w hq => ?_) (sx_sound hΦ hm hpn c _ .mk st a w h hx))
    cases e with
    | normal => exact hq
    | exit id' =>
      obtain ⟨st', h1, h2⟩ := hq
      simp only [Exit.inBlock]
      split
      · rename_i e; simp only [e, if_true] at h2; exact ⟨st', h1, h2⟩
      · rename_i e; simp only [e, if_false] at h2; exact ⟨st', h1, h2⟩
    | ret => exact hq
    | _ => exact hq.elim
  | .loop c, K, t0, st, a, w, h, hx => by
    obtain ⟨ι, F, μ, i0, h0, hr⟩ := hx
    have key : ∀ (n : Nat) (i : ι) (a : Act) (w : World), μ i = n → RelS en N (F i) a w → ∀ (b : Frame) (k : List Item) (cs : List Frame),
        ∃ e a' w', post en N K e a' w' ∧ Arrives P (lone (b.at a (.code c :: .inLoop c :: k)) cs w) b k cs e a' w' := by
      intro n
      induction n using Nat.strongRecOn with
      | _ n ih =>
        intro i a w hn hi b k cs
        obtain ⟨e, a₁, w₁, hq, harr⟩ := sx_sound hΦ hm hpn c _ .mk (F i) a w hi (hr i) b (.inLoop c :: k) cs
        cases e with
        | normal =>
          obtain ⟨st', h1, j, hlt, hsub⟩ := hq
          obtain ⟨e₂, a₂, w₂, hq₂, harr₂⟩ := ih (μ j) (hn ▸ hlt) j a₁ w₁ rfl (h1.sub hpn hsub) b k cs
          exact ⟨e₂, a₂, w₂, hq₂, .of_steps (Steps.trans harr (.one step_inLoop)) harr₂⟩
        | exit id => exact ⟨.exit id, a₁, w₁, hq, .pass (x := .inLoop c) rfl (fun _ _ => .inl (by simp)) harr⟩
        | goto l => exact hq.elim
        | ret => exact ⟨.ret, a₁, w₁, hq, .pass (x := .inLoop c) rfl (fun _ _ => .inl (by simp)) harr⟩
        | panic ch => exact hq.elim
        | outgrown => exact hq.elim
    intro b k cs
    obtain ⟨e, a', w', hq, harr⟩ := key _ i0 a w rfl (h.sub hpn h0) b k cs
    exact ⟨e, a', w', hq, .of_steps (.one step_loop) harr⟩
  | .scope c, K, t0, st, a, w, h, hx => by
    refine wp_scope_straight (Code.wp_mono (fun e a w hq => ?_) (sx_sound hΦ hm hpn c K t0 st a w h hx))
    cases e <;> first | exact hq | exact hq.elim
  | .exit id, K, t0, st, a, w, h, hx => wp_exit ⟨st, h, hx⟩
  | .ret, K, t0, st, a, w, h, hx => wp_ret ⟨st, h, hx⟩
  | .rangeFunc _ _ _ _, K, t0, st, a, w, h, hx => by simp [sx] at hx
  | .label _, K, t0, st, a, w, h, hx => by simp [sx] at hx
  | .goto _, K, t0, st, a, w, h, hx => by simp [sx] at hx
  | .refuse _, K, t0, st, a, w, h, hx => by simp [sx] at hx

/-! ### A function -/
theorem loadAt_as {t : TypeId} {v u : Value} {w' : World} (h : (Instr.loadAt t v).run P w = .ok u w') : (do loadVar t (← asAddr v)).run P w = .ok u w' := by
  cases v with
  | pointer o =>
    cases o with
    | some ad => simpa [Instr.loadAt, Instr.sureAddr, asAddr] using h
    | none => simp [Instr.loadAt, Instr.sureAddr] at h
  | _ => simp [Instr.loadAt, Instr.sureAddr] at h

def resD (P : Program) (S : Nat → Option D) (H : Nat → Option Root) : ResultVar → Option D
  | .tmp t => S t
  | .cell t ty => loadD P ty S H (.tmp t)
def resV : List D → D
  | [d] => d
  | ds => .tup ds

def resM (a : Act) (r : ResultVar) : Sem Value := match r with
  | .tmp t => pure (a.tmps.getD t undef)
  | .cell c t => do loadVar t (← asAddr (a.tmps.getD c undef))

theorem resD_sound (h : Rel en g S H a w) : ∀ {rs : List ResultVar} {ds : List D}, mapO (resD P S H) rs = some ds →
    ∃ vs : List Value, (rs.mapM (resM a)).run P w = .ok vs w ∧ vs.length = ds.length ∧ ∀ (j : Nat) (d : D) (v : Value), ds[j]? = some d → vs[j]? = some v → DV g d v
  | [], ds, hd => by simp only [mapO, Option.some.injEq] at hd; subst hd; exact ⟨[], by simp, rfl, fun j d v h => by simp at h⟩
  | r :: rs, ds, hd => by
    simp only [mapO] at hd
    split at hd
    · rename_i d0 h0
      split at hd
      · rename_i ds' hds
        injection hd with hd
        subst hd
        obtain ⟨vs, h1, h2, h3⟩ := resD_sound h hds
        have hone : ∃ v, (resM a r).run P w = .ok v w ∧ DV g d0 v := by
          cases r with
          | tmp t =>
            obtain ⟨v, hv, hdv⟩ := h.slots t d0 h0
            exact ⟨v, by simp [resM, Array.getD_eq_getD_getElem?, hv], hdv⟩
          | cell c t =>
            obtain ⟨v, k1, k2⟩ := loadD_sound h h0
            exact ⟨v, loadAt_as k1, k2⟩
        obtain ⟨v, k1, k2⟩ := hone
        refine ⟨v :: vs, ?_, by simp [h2], fun j d u hj hu => ?_⟩
        · rw [List.mapM_cons]
          simp only [Sem.run_bind, k1, Result.andThen_ok, h1]
          rfl
        · cases j with
          | zero => simp at hj hu; subst hj; subst hu; exact k2
          | succ j => simp at hj hu; exact h3 j d u hj hu
      · cases hd
    · cases hd

theorem results_run {fn : Func} (h : Rel en g S H a w) {ds : List D} (hd : mapO (resD P S H) fn.results.toList = some ds) : ∃ v, (results fn a.tmps).run P w = .ok v w ∧ DV g (resV ds) v := by
  obtain ⟨vs, h1, h2, h3⟩ := resD_sound h hd
  refine ⟨if h : vs.toArray.size = 1 then vs.toArray[0] else .tuple vs.toArray, ?_, ?_⟩
  · have hr : results fn a.tmps = (do
        let vs ← fn.results.mapM (resM a)
        pure (if h : vs.size = 1 then vs[0] else .tuple vs)) := by
      unfold results
      congr 1
    rw [hr, Array.mapM_eq_mapM_toList]
    simp only [Sem.run_bind, Sem.run_map, h1]
    rfl
  · by_cases e : vs.toArray.size = 1
    · rw [dif_pos e]
      have e1 : vs.length = 1 := by simpa using e
      obtain ⟨v, rfl⟩ := List.length_eq_one_iff.1 e1
      obtain ⟨d, rfl⟩ := List.length_eq_one_iff.1 (h2.symm.trans e1)
      exact h3 0 d v rfl rfl
    · rw [dif_neg e]
      have hne : ds.length ≠ 1 := by rw [← h2]; simpa using e
      have : resV ds = .tup ds := by
        match ds, hne with
        | [], _ => rfl
        | [d], h => simp at h
        | _ :: _ :: _, _ => rfl
      rw [this]
      exact .tup _ _ (by simp [h2]) (fun j x v hj hv => h3 j x v hj (by simpa using hv))

def rtOk (H : Nat → Option Root) : List Root → List Nat → Prop
  | [], [] => True
  | r :: rs, m :: ns => H m = some r ∧ rtOk H rs ns
  | _, _ => False
def plK (H : Nat → Option Root) : Nat → List (List B) → Prop
  | _, [] => True
  | k, c :: cs => H k = some (.box c) ∧ plK H (k + 1) cs
def finX (P : Program) (rs : List ResultVar) (pn : Nat) (res : Res) (st : St) : Prop :=
  mK (mapO (resD P (lk st.s) (lk st.h)) rs) (fun ds => plK (lk st.h) 0 res.places ∧ match res.roots with
    | [] => reD (fun n => ([] : List Nat).getD n 0) res.val = some (resV ds)
    | _ => ∃ ns : List Nat, ns.Nodup ∧ (∀ m ∈ ns, pn ≤ m) ∧ rtOk (lk st.h) res.roots ns ∧ reD (fun n => ns.getD n 0) res.val = some (resV ds)) .mk
theorem rtOk_at : ∀ {rs : List Root} {ns : List Nat}, rtOk H rs ns → ns.length = rs.length ∧ ∀ (k : Nat) (r : Root) (m : Nat), rs[k]? = some r → ns[k]? = some m → H m = some r
  | [], [], _ => ⟨rfl, fun k r m h => by simp at h⟩
  | r :: rs, m :: ns, h => by
    obtain ⟨h1, h2⟩ := rtOk_at h.2
    refine ⟨by simp [h1], fun k r' m' hr hm => ?_⟩
    cases k with
    | zero => simp at hr hm; subst hr; subst hm; exact h.1
    | succ k => simp at hr hm; exact h2 k r' m' hr hm
  | [], _ :: _, h => h.elim
  | _ :: _, [], h => h.elim
theorem plK_at : ∀ {cs : List (List B)} {k : Nat}, plK H k cs → ∀ (j : Nat) (c : List B), cs[j]? = some c → H (k + j) = some (.box c)
  | [], k, _, j, c, h => by simp at h
  | c0 :: cs, k, h, j, c, hc => by
    cases j with
    | zero => simp at hc; subst hc; exact h.1
    | succ j => simp at hc; have := plK_at h.2 j c hc; rw [show k + (j + 1) = k + 1 + j by omega]; exact this

def entS {α β : Type} (f : α → β) : Nat → List α → List (Nat × Option β)
  | _, [] => []
  | i, d :: ds => (i, some (f d)) :: entS f (i + 1) ds
theorem lk_entS {α β : Type} (f : α → β) : ∀ (l : List α) (i t : Nat), lk (entS f i l) t = if i ≤ t then (l[t - i]?).map f else none
  | [], i, t => by simp [entS, lk]
  | d :: l, i, t => by
    simp only [entS, lk]
    by_cases e : t = i
    · subst e; simp
    · rw [if_neg e, lk_entS f l (i + 1) t]
      by_cases h : i + 1 ≤ t
      · rw [if_pos h, if_pos (by omega), show t - i = (t - (i + 1)) + 1 by omega]; simp
      · rw [if_neg h, if_neg (by omega)]
def St.entry (ds : List D) (hs : List (List B)) : St := ⟨entS id 0 ds, entS Root.box 0 hs, hs.length⟩

def finK (P : Program) (rs : List ResultVar) (pn : Nat) (res : Res) : Ex → St → Prop
  | .norm, st => finX P rs pn res st
  | .ret, st => finX P rs pn res st
  | .exit _, _ => False

theorem good_of {Φ : FuncId → Option Ct} (hΦ : Env P Φ) (hm : P.follows .mixedOrders = true) {f : FuncId} {fn : Func} {c : Code} (hf : P.funcs[f]? = some fn) (hb : fn.body = some c) (hnm : (fn.name == "runtime.NumGoroutine") = false) {ct : Ct}
    (h : ∀ ds hs res, ct.run ds hs = some res → OkR ct.sc res ∧ ds.length ≤ fn.ntmps ∧ sx P Φ fn.ntmps hs.length c (finK P fn.results.toList hs.length res) .mk (St.entry ds hs)) :
    Good P f ct ∧ ∃ fn : Func, P.funcs[f]? = some fn ∧ (fn.name == "runtime.NumGoroutine") = false ∧ fn.body.isNone = false := by
  refine ⟨⟨fun ds hs res hr => (h ds hs res hr).1, fun ds hs res hr en args hal hpn hR => ?_⟩, fn, hf, hnm, by rw [hb]; rfl⟩
  obtain ⟨hok, hlen, hx⟩ := h ds hs res hr
  have hN : args.toArray.size ≤ fn.ntmps := by simpa [hal] using hlen
  have hS : RelS en fn.ntmps (St.entry ds hs) { tmps := args.toArray ++ Array.replicate (fn.ntmps - args.toArray.size) undef, defers := [] } en.w0 := by
    refine ⟨en.g0, hpn, ⟨hR.fr, rfl, hR.lt, hR.fz, fun t d ht => ?_, fun n r hn => ?_, fun n r b hn hb => ?_⟩, by simp; omega⟩
    · simp only [St.entry, lk_entS, Nat.zero_le, if_true, Nat.sub_zero] at ht
      obtain ⟨v, hv, hd⟩ := hR.slots t d (by simpa using ht)
      refine ⟨v, ?_, hd⟩
      simp only [] at hv
      have hlt : t < args.toArray.size := (Array.getElem?_eq_some_iff.1 hv).1
      rw [Array.getElem?_append_left hlt]; exact hv
    · simp only [St.entry, lk_entS, Nat.zero_le, if_true, Nat.sub_zero] at hn
      exact hR.roots n r hn
    · simp only [St.entry, lk_entS, Nat.zero_le, if_true, Nat.sub_zero] at hn
      exact hR.wd n r b hn hb
  refine calls_of_wp hf hb (Code.wp_mono (fun e a w hq => ?_) (sx_sound hΦ hm hpn c _ .mk _ _ _ hS hx))
  have fin : ∀ st, RelS en fn.ntmps st a w → finX P fn.results.toList hs.length res st → a.defers = [] ∧ ∃ v, (results fn a.tmps).run P w = .ok v w ∧ ∃ v', Ending.returned v = .returned v' ∧ Done en res v' w := by
    rintro st ⟨g, hu, hRg, hNg⟩ hfin
    obtain ⟨dl, h1, h2, h3⟩ := mK_ex hfin
    obtain ⟨v, k1, k2⟩ := results_run hRg h1
    refine ⟨hRg.df, v, k1, v, rfl, ?_⟩
    split at h3
    · rename_i hr0
      refine ⟨g, [], lk st.s, lk st.h, a, _, hRg, .nil, by simp [hr0], fun m hm => by simp at hm, fun k r m hr _ => ?_, fun k c hc => by have := plK_at h2 k c hc; simpa using this, h3, k2⟩
      rw [hr0] at hr; simp at hr
    · obtain ⟨ns, q1, q2, q3, q4⟩ := h3
      obtain ⟨q5, q6⟩ := rtOk_at q3
      refine ⟨g, ns, lk st.s, lk st.h, a, _, hRg, q1, q5, fun m hm hu' => ?_, q6, fun k c hc => by have := plK_at h2 k c hc; simpa using this, q4, k2⟩
      have := q2 m hm; have := hpn m hu'; omega
  cases e with
  | normal => obtain ⟨st, h1, h2⟩ := hq; exact fin st h1 h2
  | ret => obtain ⟨st, h1, h2⟩ := hq; exact fin st h1 h2
  | exit id => obtain ⟨st, h1, h2⟩ := hq; exact h2.elim
  | _ => exact hq.elim
end Go.SX
