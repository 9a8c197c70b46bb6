/-
  SX, part R: that no order does anything else.
  No condition. Plain definitions and theorems over any program.
-/
import Derived.Test.YtbhnlplbfhomcaaSxQ
set_option linter.unusedVariables false
set_option linter.unusedSimpArgs false
namespace Go.SX
open Go Go.RowKit
variable {en : En} {g : Gh} {S : Nat → Option D} {H : Nat → Option Root} {a : Act} {w : World} {P : Program}

theorem apartT_spec {ops : List Oper} {x y : Oper} (h : apartT ops x y = true) : (∀ d, x.dst = some d → d ∉ lookT ops y) ∧ (∀ d, x.dst = some d → y.dst ≠ some d) ∧ (∀ d, y.dst = some d → d ∉ lookT ops x) := by
  refine ⟨fun d hd hm => ?_, fun d hd he => ?_, fun d hd hm => ?_⟩
  · rw [← memb_iff] at hm; simp [apartT, hd, hm] at h
  · simp [apartT, hd, he] at h
  · rw [← memb_iff] at hm; simp [apartT, hd, hm] at h

/-- What the check of the slots tells. -/
structure SlOk (ops : List Oper) : Prop where
  lt : ∀ (j : Nat) (oj : Oper), ops[j]? = some oj → ∀ e ∈ oj.after, Region.binds .any e = true → e.on < j
  just : ∀ (i j : Nat) (oi oj : Oper), ops[i]? = some oi → ops[j]? = some oj → i < j → bfB (Region.before ops.toArray) i j = true → ∃ e ∈ oj.after, Region.binds .any e = true ∧ (e.on = i ∨ (i < e.on ∧ bfB (Region.before ops.toArray) i e.on = true))
  apart : ∀ (i j : Nat) (oi oj : Oper), ops[i]? = some oi → ops[j]? = some oj → i < j → bfB (Region.before ops.toArray) i j = false → apartT ops oi oj = true
theorem slotsOk_spec {ops : List Oper} (h : slotsOk ops = true) : SlOk ops := by
  simp only [slotsOk, List.all_eq_true] at h
  have hz : ∀ (j : Nat) (o : Oper), ops[j]? = some o → (o, j) ∈ ops.zipIdx := fun j o ho => List.mem_zipIdx_iff_getElem?.2 ho
  refine ⟨fun j oj hj e he hb => ?_, fun i j oi oj hi hj hij hb => ?_, fun i j oi oj hi hj hij hb => ?_⟩
  · have := h _ (hz j oj hj)
    simp only [Bool.and_eq_true, List.all_eq_true] at this
    have := this.1 e (by simpa using he)
    simp [hb] at this
    exact this
  · have := h _ (hz j oj hj)
    simp only [Bool.and_eq_true, List.all_eq_true] at this
    have := this.2 _ (hz i oi hi)
    simp only [hb, if_true, Bool.or_eq_true, decide_eq_true_eq, List.any_eq_true, Bool.and_eq_true] at this
    rcases this with h1 | ⟨e, he, h1, h2⟩
    · omega
    · exact ⟨e, by simpa using he, h1, h2⟩
  · have := h _ (hz j oj hj)
    simp only [Bool.and_eq_true, List.all_eq_true] at this
    have := this.2 _ (hz i oi hi)
    simp only [hb, Bool.false_eq_true, if_false, Bool.or_eq_true, decide_eq_true_eq] at this
    exact this.resolve_left (by omega)

theorem disj_spec {n0 : Nat} {x y : DI} (h : disj n0 x y = true) : (∀ n ∈ x.wr, n ∉ y.wr ∧ n ∉ y.rd ∧ ¬ (y.old = true ∧ n < n0)) ∧ (∀ n ∈ y.wr, n ∉ x.rd ∧ ¬ (x.old = true ∧ n < n0)) := by
  simp only [disj, Bool.and_eq_true, List.all_eq_true, Bool.not_eq_true', Bool.and_eq_false_iff, decide_eq_false_iff_not] at h
  have hm : ∀ {n : Nat} {l : List Nat}, memb n l = false → n ∉ l := fun h hm => by rw [memb_iff.2 hm] at h; cases h
  refine ⟨fun n hn => ?_, fun n hn => ?_⟩
  · obtain ⟨h1, h2, h3⟩ := h.1 n hn
    refine ⟨hm h1, hm h2, fun hc => ?_⟩
    rcases h3 with h3 | h3
    · rw [hc.1] at h3; cases h3
    · exact h3 hc.2
  · obtain ⟨h1, h3⟩ := h.2 n hn
    refine ⟨hm h1, fun hc => ?_⟩
    rcases h3 with h3 | h3
    · rw [hc.1] at h3; cases h3
    · exact h3 hc.2

theorem disj_symm {n0 : Nat} {x y : DI} (h : (∀ n ∈ x.wr, n ∉ y.wr ∧ n ∉ y.rd ∧ ¬ (y.old = true ∧ n < n0)) ∧ (∀ n ∈ y.wr, n ∉ x.rd ∧ ¬ (x.old = true ∧ n < n0))) :
    (∀ n ∈ y.wr, n ∉ x.wr ∧ n ∉ x.rd ∧ ¬ (x.old = true ∧ n < n0)) ∧ (∀ n ∈ x.wr, n ∉ y.rd ∧ ¬ (y.old = true ∧ n < n0)) :=
  ⟨fun n hn => ⟨fun hx => (h.1 n hx).1 hn, h.2 n hn⟩, fun n hn => (h.1 n hn).2⟩

section order
variable {Φ : FuncId → Option Ct} {N n0 : Nat} {ops : List Oper} {es : List EI} {S0 : Nat → Option D} {H0 : Nat → Option Root} {Q : Exit → Act → World → Prop}

def Xof (listed : Array Bool) : Nat → Bool := fun i => listed.getD i false

/-- Everything that is listed has what it waits for listed. -/
def Dc (ops : List Oper) (X : Nat → Bool) : Prop := ∀ (j : Nat) (o : Oper), ops[j]? = some o → X j = true → ∀ e ∈ o.after, Region.binds .any e = true → X e.on = true

theorem Dc.anc (hs : SlOk ops) {X : Nat → Bool} (hd : Dc ops X) : ∀ (j i : Nat) (oi oj : Oper), ops[i]? = some oi → ops[j]? = some oj → i < j → X j = true → bfB (Region.before ops.toArray) i j = true → X i = true := by
  intro j
  induction j using Nat.strongRecOn with
  | _ j ih =>
    intro i oi oj hi hj hij hx hb
    obtain ⟨e, he, hbd, h⟩ := hs.just i j oi oj hi hj hij hb
    have hxe := hd j oj hj hx e he hbd
    rcases h with h | ⟨h1, h⟩
    · rw [← h]; exact hxe
    · have hlt := hs.lt j oj hj e he hbd
      have hjl : j < ops.length := (List.getElem?_eq_some_iff.1 hj).1
      exact ih e.on hlt i oi ops[e.on] hi (List.getElem?_eq_getElem (by omega)) h1 hxe h

theorem count_drop {p q : Nat → Bool} {i : Nat} (hq : ∀ j, q j = true → p j = true) (hi : p i = true) (hqi : q i = false) : ∀ {l : List Nat}, i ∈ l → (l.filter q).length < (l.filter p).length := by
  have hle : ∀ l : List Nat, (l.filter q).length ≤ (l.filter p).length := by
    intro l
    induction l with
    | nil => simp
    | cons x l ih =>
      simp only [List.filter_cons]
      by_cases h : q x = true
      · rw [if_pos h, if_pos (hq x h)]; simp; exact ih
      · rw [if_neg h]; split <;> (try simp) <;> omega
  intro l
  induction l with
  | nil => intro h; cases h
  | cons x l ih =>
    intro h
    simp only [List.filter_cons]
    by_cases e : x = i
    · subst e
      rw [if_pos hi, if_neg (by rw [hqi]; simp)]
      have := hle l
      simp; omega
    · have hm : i ∈ l := by
        rcases List.mem_cons.1 h with h | h
        · exact absurd h.symm e
        · exact h
      have := ih hm
      by_cases h2 : q x = true
      · rw [if_pos h2, if_pos (hq x h2)]; simp; exact this
      · rw [if_neg h2]; split <;> (try simp) <;> omega

/-- All of the region's operations have come up. -/
theorem ready_full (hs : SlOk ops) {listed : Array Bool} (hsz : listed.size = ops.length) (hr : Region.ready .any ops.toArray listed = []) : ∀ i, i < ops.length → Xof listed i = true := by
  intro i
  induction i using Nat.strongRecOn with
  | _ i ih =>
    intro hi
    cases hx : Xof listed i with
    | true => rfl
    | false =>
      have hm : i ∈ Region.ready .any ops.toArray listed := by
        have hoi : ops[i]? = some ops[i] := List.getElem?_eq_getElem hi
        refine mem_ready.2 ⟨?_, ops[i], by simp, fun e he hb => ?_⟩
        · simp only [Xof] at hx
          have hlt : i < listed.size := by omega
          simp [hlt] at hx ⊢; exact hx
        · have hlt := hs.lt i _ hoi e he hb
          exact ih e.on hlt (by omega)
      rw [hr] at hm; cases hm

theorem order_any (hΦ : Env P Φ) (hs : SlOk ops)
    (hall : ∀ j o, ops[j]? = some o → ∃ stj, Ok1 P Φ N n0 ops o j stj (es.getD j default) ∧ lk stj.s = Fg (Ws ops es) allT S0 j ∧ lk stj.h = Fg (Wh es) allT H0 j)
    (hdis : ∀ i j oi oj, ops[i]? = some oi → ops[j]? = some oj → i < j → bfB (Region.before ops.toArray) i j = false →
      disj n0 ⟨i, (es.getD i default).old, (es.getD i default).rd, (es.getD i default).wr.map (·.1)⟩ ⟨j, (es.getD j default).old, (es.getD j default).rd, (es.getD j default).wr.map (·.1)⟩ = true)
    (hQ : ∀ g a w, (∀ m, g.used m → m < n0 + 8 * ops.length) → Rel en g (Fg (Ws ops es) allT S0 ops.length) (Fg (Wh es) allT H0 ops.length) a w → a.tmps.size = N → Q .normal a w) :
    ∀ (fuel : Nat) (listed : Array Bool) (g : Gh) (a : Act) (w : World), listed.size = ops.length → Dc ops (Xof listed) → ((List.range ops.length).filter fun i => !Xof listed i).length ≤ fuel →
      Rel en g (Fg (Ws ops es) (Xof listed) S0 ops.length) (Fg (Wh es) (Xof listed) H0 ops.length) a w → (∀ m, g.used m → m < n0 ∨ ∃ i, i < ops.length ∧ Xof listed i = true ∧ n0 + 8 * i ≤ m ∧ m < n0 + 8 * i + 8) → a.tmps.size = N →
      wpAny P .any ops.toArray Q fuel listed a w := by
  have hfull : ∀ (listed : Array Bool) (g : Gh) (a : Act) (w : World), listed.size = ops.length → Rel en g (Fg (Ws ops es) (Xof listed) S0 ops.length) (Fg (Wh es) (Xof listed) H0 ops.length) a w →
      (∀ m, g.used m → m < n0 ∨ ∃ i, i < ops.length ∧ Xof listed i = true ∧ n0 + 8 * i ≤ m ∧ m < n0 + 8 * i + 8) → a.tmps.size = N → Region.ready .any ops.toArray listed = [] → Q .normal a w := by
    intro listed g a w hsz h hu hN hr
    have hX := ready_full hs hsz hr
    refine hQ g a w (fun m hm => ?_) ?_ hN
    · rcases hu m hm with h1 | ⟨i, h1, _, _, h2⟩ <;> omega
    · have e1 : ∀ t, Fg (Ws ops es) (Xof listed) S0 ops.length t = Fg (Ws ops es) allT S0 ops.length t := fun t => Fg_same _ (Nat.le_refl _) (fun j hj hj' => by omega) (fun j hj hne => absurd (hX j hj) hne)
      have e2 : ∀ t, Fg (Wh es) (Xof listed) H0 ops.length t = Fg (Wh es) allT H0 ops.length t := fun t => Fg_same _ (Nat.le_refl _) (fun j hj hj' => by omega) (fun j hj hne => absurd (hX j hj) hne)
      exact h.less (fun t d ht => by rw [e1]; exact ht) (fun t d ht => by rw [e2]; exact ht)
  intro fuel
  induction fuel with
  | zero =>
    intro listed g a w hsz hd hc h hu hN
    have hr : Region.ready .any ops.toArray listed = [] := by
      cases hr : Region.ready .any ops.toArray listed with
      | nil => rfl
      | cons i l =>
        exfalso
        have hm : i ∈ Region.ready .any ops.toArray listed := by rw [hr]; exact .head _
        obtain ⟨h1, o, ho, _⟩ := mem_ready.1 hm
        have hi : i < ops.length := by simpa using (Array.getElem?_eq_some_iff.1 ho).1
        have : i ∈ (List.range ops.length).filter fun i => !Xof listed i := by
          refine List.mem_filter.2 ⟨List.mem_range.2 hi, ?_⟩
          have hlt : i < listed.size := by omega
          simp [hlt] at h1
          simp [Xof, hlt, h1]
        have hl := List.length_pos_of_mem this
        omega
    exact ⟨hr, hfull listed g a w hsz h hu hN hr⟩
  | succ fuel ih =>
    intro listed g a w hsz hd hc h hu hN
    refine ⟨fun hr => hfull listed g a w hsz h hu hN hr, fun i hi => ?_⟩
    obtain ⟨h1, o, ho', hpre⟩ := mem_ready.1 hi
    have ho : ops[i]? = some o := by simpa using ho'
    have hil : i < ops.length := (List.getElem?_eq_some_iff.1 ho).1
    have hxi : Xof listed i = false := by
      have hlt : i < listed.size := by omega
      simp [hlt] at h1
      simp [Xof, hlt, h1]
    -- what is not ordered against i
    have hafter : ∀ j oj, ops[j]? = some oj → i < j → Xof listed j = true → bfB (Region.before ops.toArray) i j = false := fun j oj hj hij hxj => by
      cases hb : bfB (Region.before ops.toArray) i j with
      | false => rfl
      | true => have := Dc.anc hs hd j i o oj ho hj hij hxj hb; rw [hxi] at this; cases this
    have hbefore : ∀ j oj, ops[j]? = some oj → j < i → Xof listed j = false → bfB (Region.before ops.toArray) j i = false := fun j oj hj hij hxj => by
      cases hb : bfB (Region.before ops.toArray) j i with
      | false => rfl
      | true =>
        obtain ⟨e, he, hbd, h2⟩ := hs.just j i oj o hj ho hij hb
        have hxe : Xof listed e.on = true := hpre e he hbd
        rcases h2 with h2 | ⟨h2, h3⟩
        · rw [h2] at hxe; rw [hxe] at hxj; cases hxj
        · have hlt := hs.lt i o ho e he hbd
          have := Dc.anc hs hd e.on j oj ops[e.on] hj (List.getElem?_eq_getElem (by omega)) h2 hxe h3
          rw [this] at hxj; cases hxj
    have hslot : ∀ j t, j < ops.length → j ≠ i → ((i < j ∧ Xof listed j = true) ∨ (j < i ∧ Xof listed j = false)) → (t ∈ lookT ops o ∨ o.dst = some t) → Ws ops es j t = none := fun j t hj hne hc' ht => by
      have hoj : ops[j]? = some ops[j] := List.getElem?_eq_getElem hj
      have key : ∀ d, ops[j].dst = some d → t ≠ d := fun d hdj htd => by
        subst htd
        rcases hc' with ⟨hlt, hx⟩ | ⟨hlt, hx⟩
        · obtain ⟨k1, k2, k3⟩ := apartT_spec (hs.apart i j o _ ho hoj hlt (hafter j _ hoj hlt hx))
          rcases ht with ht | ht
          · exact k3 t hdj ht
          · exact k2 t ht hdj
        · obtain ⟨k1, k2, k3⟩ := apartT_spec (hs.apart j i _ o hoj ho hlt (hbefore j _ hoj hlt hx))
          rcases ht with ht | ht
          · exact k1 t hdj ht
          · exact k2 t hdj ht
      have hg : gSlot ops j = ops[j].dst := by simp [gSlot, hoj]
      simp only [Ws, hg]
      cases hdj : ops[j].dst with
      | none => rfl
      | some d => simp only []; rw [if_neg (key d hdj)]
    have hroot : ∀ j, j < ops.length → j ≠ i → ((i < j ∧ Xof listed j = true) ∨ (j < i ∧ Xof listed j = false)) →
        (∀ n ∈ (es.getD j default).wr.map (·.1), n ∉ (es.getD i default).wr.map (·.1) ∧ n ∉ (es.getD i default).rd ∧ ¬ ((es.getD i default).old = true ∧ n < n0)) := fun j hj hne hc' n hn => by
      have hoj : ops[j]? = some ops[j] := List.getElem?_eq_getElem hj
      rcases hc' with ⟨hlt, hx⟩ | ⟨hlt, hx⟩
      · exact (disj_symm (disj_spec (hdis i j o _ ho hoj hlt (hafter j _ hoj hlt hx)))).1 n hn
      · exact (disj_spec (hdis j i _ o hoj ho hlt (hbefore j _ hoj hlt hx))).1 n hn
    obtain ⟨sti, hok, hss, hhh⟩ := hall i o ho
    have hXY : ∀ j, j < i → Xof listed j ≠ allT j → Xof listed j = false := fun j _ hne => by
      cases hx : Xof listed j with
      | false => rfl
      | true => exact absurd hx hne
    have hSp : ∀ t d, resF (lookT ops o) (lk sti.s) t = some d → Fg (Ws ops es) (Xof listed) S0 ops.length t = some d := fun t d ht => by
      simp only [resF] at ht
      split at ht
      · rename_i hm
        rw [memb_iff] at hm
        rw [hss] at ht
        rw [← ht]
        refine Fg_same _ (Nat.le_of_lt hil) (fun j hj hij hx => ?_) (fun j hj hne => ?_)
        · have hne : j ≠ i := fun e => by subst e; rw [hxi] at hx; cases hx
          exact hslot j t hj hne (.inl ⟨by omega, hx⟩) (.inl hm)
        · exact hslot j t (by omega) (by omega) (.inr ⟨hj, hXY j hj hne⟩) (.inl hm)
      · cases ht
    have hHp : ∀ n r, resH n0 (es.getD i default).old (es.getD i default).rd (lk sti.h) n = some r → Fg (Wh es) (Xof listed) H0 ops.length n = some r := fun n r ht => by
      simp only [resH] at ht
      split at ht
      · rename_i hm
        rw [memb_iff] at hm
        rw [hhh] at ht
        rw [← ht]
        have hw : ∀ j, j < ops.length → j ≠ i → ((i < j ∧ Xof listed j = true) ∨ (j < i ∧ Xof listed j = false)) → Wh es j n = none := fun j hj hne hc' => wlk_none (fun hn => by
          obtain ⟨_, k2, k3⟩ := hroot j hj hne hc' n hn
          rcases hm with hm | hm
          · exact k3 hm
          · exact k2 hm)
        refine Fg_same _ (Nat.le_of_lt hil) (fun j hj hij hx => ?_) (fun j hj hne => ?_)
        · have hne : j ≠ i := fun e => by subst e; rw [hxi] at hx; cases hx
          exact hw j hj hne (.inl ⟨by omega, hx⟩)
        · exact hw j (by omega) (by omega) (.inr ⟨hj, hXY j hj hne⟩)
      · cases ht
    -- the state behind it
    have hX' : ∀ j, Xof (listed.setIfInBounds i true) j = if j = i then true else Xof listed j := fun j => by
      simp only [Xof, Array.getD_eq_getD_getElem?, Array.getElem?_setIfInBounds]
      by_cases e : i = j
      · subst e; simp [show i < listed.size by omega]
      · simp [e, Ne.symm e]
    have hS' : Fg (Ws ops es) (Xof (listed.setIfInBounds i true)) S0 ops.length = apS o.dst (es.getD i default).val (Fg (Ws ops es) (Xof listed) S0 ops.length) := by
      funext t
      have hg : gSlot ops i = o.dst := by simp [gSlot, ho]
      rw [Fg_add hX' hxi ops.length (fun j hj hij hx => by
        by_cases hw : Ws ops es i t = none
        · exact .inl hw
        · refine .inr (hslot j t hj (by omega) (.inl ⟨hij, hx⟩) (.inr ?_))
          simp only [Ws, hg] at hw
          cases hd : o.dst with
          | none => simp [hd] at hw
          | some d =>
            simp only [hd] at hw
            by_cases e : t = d
            · rw [e]
            · rw [if_neg e] at hw; exact absurd rfl hw), if_pos hil]
      simp only [Ws, hg]
      cases hd : o.dst with
      | none => rfl
      | some d =>
        simp only [apS, upd]
        by_cases e : t = d
        · rw [if_pos e, if_pos e]
        · rw [if_neg e, if_neg e]
    have hH' : Fg (Wh es) (Xof (listed.setIfInBounds i true)) H0 ops.length = apH (es.getD i default).wr (Fg (Wh es) (Xof listed) H0 ops.length) := by
      funext n
      rw [Fg_add hX' hxi ops.length (fun j hj hij hx => by
        by_cases hw : n ∈ (es.getD i default).wr.map (·.1)
        · exact .inr (wlk_none (fun hn => (hroot j hj (by omega) (.inl ⟨hij, hx⟩) n hn).1 hw))
        · exact .inl (wlk_none hw)), if_pos hil, apH_wlk]
      simp only [Wh]
      cases wlk (es.getD i default).wr n <;> rfl
    have hsz' : (listed.setIfInBounds i true).size = ops.length := by simpa using hsz
    have hd' : Dc ops (Xof (listed.setIfInBounds i true)) := fun j oj hj hx e he hb => by
      rw [hX'] at hx ⊢
      by_cases e1 : e.on = i
      · rw [if_pos e1]
      · rw [if_neg e1]
        by_cases e2 : j = i
        · subst e2
          rw [ho] at hj; injection hj with hj; subst hj
          exact hpre e he hb
        · rw [if_neg e2] at hx; exact hd j oj hj hx e he hb
    have hc' : ((List.range ops.length).filter fun i_1 => !Xof (listed.setIfInBounds i true) i_1).length ≤ fuel := by
      have := count_drop (p := fun j => !Xof listed j) (q := fun j => !Xof (listed.setIfInBounds i true) j) (i := i) (fun j hj => by
        simp only [hX'] at hj
        by_cases e : j = i
        · simp [e] at hj
        · simpa [e] using hj) (by simp [hxi]) (by simp [hX']) (l := List.range ops.length) (List.mem_range.2 hil)
      omega
    have hnext : ∀ {g' : Gh} {a' : Act} {w' : World}, (∀ m, g'.used m → g.used m ∨ (n0 + 8 * i ≤ m ∧ m < n0 + 8 * i + 8)) → Rel en g' (apS o.dst (es.getD i default).val (Fg (Ws ops es) (Xof listed) S0 ops.length)) (apH (es.getD i default).wr (Fg (Wh es) (Xof listed) H0 ops.length)) a' w' → a'.tmps.size = N →
        wpAny P .any ops.toArray Q fuel (listed.setIfInBounds i true) a' w' := fun k1 k2 k3 => by
      refine ih (listed.setIfInBounds i true) _ _ _ hsz' hd' hc' (by rw [hS', hH']; exact k2) (fun m hm => ?_) k3
      rcases k1 m hm with hm | hm
      · rcases hu m hm with hm | ⟨j, h1, h2, h3⟩
        · exact .inl hm
        · exact .inr ⟨j, h1, by rw [hX']; split <;> simp [h2], h3⟩
      · exact .inr ⟨i, hil, by rw [hX']; simp, hm⟩
    have hdst : ∀ t, o.dst = some t → t < N := fun t ht => by have := hok.dst; rw [ht] at this; exact this
    have hgd : ∀ b, gOk ops sti.s o b → Region.wanted o (yielded ops.toArray a.tmps) = b := fun b hg => by
      unfold gOk at hg
      cases hgu : o.guard with
      | none => rw [hgu] at hg; simp only [] at hg; simp [Region.wanted, hgu, hg]
      | some jw =>
        obtain ⟨j, want⟩ := jw
        rw [hgu] at hg
        obtain ⟨t, b', ht, hb', rfl⟩ := hg
        have hlt : t ∈ lookT ops o := by simp [lookT, hgu, ht]
        have hv := hSp t _ (by simp only [resF]; rw [if_pos (memb_iff.2 hlt)]; exact hb')
        have hy := yielded_slot h ht hv
        simp [Region.wanted, hgu, hy]
    unfold wpOp
    simp only [ho']
    rcases hok.run with ⟨hg, cnt, hcnt, hop⟩ | ⟨hg, hval, hwr⟩
    · rw [if_pos (hgd true hg)]
      refine .inl (Oper.wp_mono (fun a' w' ⟨g', k1, k2, k3⟩ => hnext (fun m hm => (k1 m hm).imp id (fun h => ⟨h.1, by omega⟩)) k2 k3) (OpSem.sound hΦ h hN hSp hHp hop (fun m hm hc => ?_) hdst))
      rcases hu m hm with hm | ⟨j, h1, h2, h3, h4⟩
      · omega
      · have : j = i := by omega
        subst this; rw [hxi] at h2; cases h2
    · rw [if_neg (by rw [hgd false hg]; simp)]
      refine hnext (fun m hm => .inl hm) ?_ ((put_size _ _ _).trans hN)
      rw [hval, hwr]
      exact h.putN _ _
end order
end Go.SX
