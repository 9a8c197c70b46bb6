/-
  SX, part Q: a region whose order is drawn: evaluated once, in the listed order; that no order does anything else.
  No condition. Plain definitions and theorems over any program.
-/
import Derived.Test.YtbhnlplbfhomcaaSxP
set_option linter.unusedVariables false
set_option linter.unusedSimpArgs false
namespace Go.SX
open Go Go.RowKit
variable {en : En} {g : Gh} {S : Nat → Option D} {H : Nat → Option Root} {a : Act} {w : World} {P : Program}

/-! ### Writes, each by its number -/
def Fg {κ V : Type} (W : Nat → κ → Option V) (X : Nat → Bool) (init : κ → V) : Nat → κ → V
  | 0, k => init k
  | n + 1, k => if X n = true then (match W n k with
      | some v => v
      | none => Fg W X init n k) else Fg W X init n k
theorem Fg_same {κ V : Type} {W : Nat → κ → Option V} {X Y : Nat → Bool} {init : κ → V} {k : κ} {i : Nat} : ∀ (n : Nat), i ≤ n → (∀ j, j < n → i ≤ j → X j = true → W j k = none) → (∀ j, j < i → X j ≠ Y j → W j k = none) →
    Fg W X init n k = Fg W Y init i k
  | 0, hi, h1, h2 => by
    have : i = 0 := by omega
    subst this; rfl
  | n + 1, hi, h1, h2 => by
    by_cases e : i = n + 1
    · subst e
      simp only [Fg]
      have ih := Fg_same (W := W) (X := X) (Y := Y) (init := init) (k := k) (i := n) n (Nat.le_refl _) (fun j hj hj' => by omega) (fun j hj => h2 j (by omega))
      rw [ih]
      by_cases hxy : X n = Y n
      · rw [hxy]
      · have := h2 n (by omega) hxy
        rw [this]
        simp
    · have ih := Fg_same (W := W) (X := X) (Y := Y) (init := init) (k := k) (i := i) n (by omega) (fun j hj => h1 j (by omega)) h2
      simp only [Fg]
      split
      · rename_i hx
        rw [h1 n (by omega) (by omega) hx]; exact ih
      · exact ih
theorem Fg_add {κ V : Type} {W : Nat → κ → Option V} {X X' : Nat → Bool} {init : κ → V} {k : κ} {i : Nat} (hX' : ∀ j, X' j = if j = i then true else X j) (hi : X i = false) : ∀ (n : Nat), (∀ j, j < n → i < j → X j = true → W i k = none ∨ W j k = none) →
    Fg W X' init n k = if i < n then (match W i k with
      | some v => v
      | none => Fg W X init n k) else Fg W X init n k
  | 0, h => by simp [Fg]
  | n + 1, h => by
    have ih := Fg_add (W := W) (init := init) (k := k) hX' hi n (fun j hj => h j (by omega))
    simp only [Fg]
    by_cases e : n = i
    · subst e
      have h1 : X' n = true := by rw [hX']; simp
      rw [if_neg (Nat.lt_irrefl _)] at ih
      rw [h1, hi, ih, if_pos (Nat.lt_succ_self _)]
      simp
    · have h1 : X' n = X n := by rw [hX', if_neg e]
      rw [h1]
      by_cases hx : X n = true
      · rw [if_pos hx, if_pos hx, ih]
        by_cases hin : i < n
        · rw [if_pos hin, if_pos (by omega)]
          rcases h n (by omega) hin hx with h2 | h2
          · rw [h2]
          · rw [h2]
        · rw [if_neg hin, if_neg (by omega)]
      · rw [if_neg hx, if_neg hx, ih]
        by_cases hin : i < n
        · rw [if_pos hin, if_pos (by omega)]
        · rw [if_neg hin, if_neg (by omega)]

/-! ### What an operation looks at -/
def memb (t : Nat) : List Nat → Bool
  | [] => false
  | x :: xs => if t = x then true else memb t xs
theorem memb_iff {t : Nat} : ∀ {l : List Nat}, memb t l = true ↔ t ∈ l
  | [] => by simp [memb]
  | x :: xs => by
    simp only [memb]
    split
    · rename_i e; simp [e]
    · rename_i e; rw [memb_iff]; simp [e]
def oT : Operand → List Nat
  | .tmp t => [t]
  | _ => []
def opTm : Op → List Nat
  | .build _ ps => ps.toList.flatMap (fun p => oT p.2)
  | .buildSlice _ _ ps => ps.toList.flatMap (fun p => oT p.2)
  | .call { callee := .value f, args := args, argTypes := _ } => oT f ++ args.toList.flatMap oT
  | .call { callee := .builtin _, args := args, argTypes := _ } => args.toList.flatMap oT
  | .move x | .assign x | .box _ x | .load _ x | .nilCheck x | .unOp _ _ x | .convert _ _ x | .fieldAddr _ x _ | .field _ x _ | .extract x _ => oT x
  | .pick c x y => oT c ++ (oT x ++ oT y)
  | .store _ x y | .binOp _ _ x y _ | .makeSlice _ x y | .indexAddr _ x y => oT x ++ oT y
  | .slice _ x lo hi _ => oT x ++ ((match lo with | some y => oT y | none => []) ++ (match hi with | some y => oT y | none => []))
  | .makeFunc _ _ caps => caps.toList.flatMap oT
  | _ => []
def lookT (ops : List Oper) (o : Oper) : List Nat := opTm o.op ++ (match o.guard with
  | some (j, _) => (match gSlot ops j with | some t => [t] | none => [])
  | none => [])
def vwC1 : C → List Nat
  | .view n _ _ _ => [n]
  | .ptr n _ _ _ => [n]
  | _ => []
def vwC : C → List Nat
  | .view n _ _ _ => [n]
  | .ptr n _ _ _ => [n]
  | .fn _ caps => caps.flatMap vwC1
  | _ => []
def vwO (S : Nat → Option D) (x : Operand) : List Nat := match ev S x with
  | some (.c c) => vwC c
  | some (.agg cs) => cs.flatMap vwC
  | _ => []
def rdN (S : Nat → Option D) : Op → List Nat
  | .load _ x => vwO S x
  | .store _ x _ => vwO S x
  | .call { callee := .value f, args := args, argTypes := _ } => vwO S f ++ args.toList.flatMap (vwO S)
  | .call { callee := .builtin _, args := args, argTypes := _ } => args.toList.flatMap (vwO S)
  | _ => []
def isCallO : Op → Bool
  | .call { callee := .value _, args := _, argTypes := _ } => true
  | _ => false
def resF {α : Type} (L : List Nat) (S : Nat → Option α) : Nat → Option α := fun t => if memb t L = true then S t else none
def resH (n0 : Nat) (old : Bool) (L : List Nat) (H : Nat → Option Root) : Nat → Option Root := fun n => if (old = true ∧ n < n0) ∨ memb n L = true then H n else none

structure DI where
  i : Nat
  old : Bool
  rd : List Nat
  wr : List Nat
  deriving Inhabited
def disj (n0 : Nat) (x y : DI) : Bool :=
  x.wr.all (fun n => !(memb n y.wr) && (!(memb n y.rd) && !(y.old && decide (n < n0)))) && y.wr.all (fun n => !(memb n x.rd) && !(x.old && decide (n < n0)))
def bfB (bf : Array Nat) (i j : Nat) : Bool := (bf.getD j 0).testBit i
def rootsOk (ops : List Oper) (n0 : Nat) (acc : List DI) : Bool :=
  let bf := Region.before ops.toArray
  acc.all fun y => acc.all fun x => decide (y.i ≤ x.i) || (bfB bf x.i y.i || disj n0 x y)
def apartT (ops : List Oper) (x y : Oper) : Bool :=
  (match x.dst with
    | some d => !(memb d (lookT ops y)) && (match y.dst with | some d' => decide (d ≠ d') | none => true)
    | none => true) &&
  (match y.dst with
    | some d => !(memb d (lookT ops x))
    | none => true)
def slotsOk (ops : List Oper) : Bool :=
  let bf := Region.before ops.toArray
  ops.zipIdx.all fun (oj, j) =>
    (oj.after.toList.all fun e => !(Region.binds .any e) || decide (e.on < j)) &&
    ops.zipIdx.all fun (oi, i) => decide (j ≤ i) ||
      (if bfB bf i j then oj.after.toList.any fun e => Region.binds .any e && (decide (e.on = i) || (decide (i < e.on) && bfB bf i e.on)) else apartT ops oi oj)

/-- A region with a draw, evaluated in the listed order. -/
def drX (P : Program) (Φ : FuncId → Option Ct) (N n0 : Nat) (ops : List Oper) : List Oper → Nat → St → List DI → (K : St → List DI → Prop) → Tag K → Prop
  | [], _, st, acc, K, _ => K st acc
  | o :: r, i, st, acc, K, t0 => dOk N o.dst ∧ match o.guard with
    | none => opR P Φ (n0 + 8 * i) (resF (lookT ops o) (lk st.s)) (resH n0 (isCallO o.op) (rdN (lk st.s) o.op) (lk st.h)) o.op (fun val wr cnt => cnt ≤ 8 ∧ drX P Φ N n0 ops r (i + 1) (st.eff o.dst val wr 0) (⟨i, isCallO o.op, rdN (lk st.s) o.op, wr.map (·.1)⟩ :: acc) K t0) .mk
    | some (j, want) => match gSlot ops j with
      | some t => match lk st.s t with
        | some (.c (.im (.bool b))) => gS b want (opR P Φ (n0 + 8 * i) (resF (lookT ops o) (lk st.s)) (resH n0 (isCallO o.op) (rdN (lk st.s) o.op) (lk st.h)) o.op (fun val wr cnt => cnt ≤ 8 ∧ drX P Φ N n0 ops r (i + 1) (st.eff o.dst val wr 0) (⟨i, isCallO o.op, rdN (lk st.s) o.op, wr.map (·.1)⟩ :: acc) K t0) .mk)
            (drX P Φ N n0 ops r (i + 1) (st.eff o.dst none [] 0) (⟨i, false, [], []⟩ :: acc) K t0) .mk .mk
        | _ => False
      | none => False

structure EI where
  val : Option D
  wr : List (Nat × Option Root)
  old : Bool
  rd : List Nat
  deriving Inhabited

def gOk (ops : List Oper) (s : List (Nat × Option D)) (o : Oper) (b : Bool) : Prop := match o.guard with
  | none => b = true
  | some (j, want) => ∃ t b', gSlot ops j = some t ∧ lk s t = some (.c (.im (.bool b'))) ∧ b = (b' == want)

structure Ok1 (P : Program) (Φ : FuncId → Option Ct) (N n0 : Nat) (ops : List Oper) (o : Oper) (i : Nat) (st : St) (e : EI) : Prop where
  dst : dOk N o.dst
  run : (gOk ops st.s o true ∧ ∃ cnt, cnt ≤ 8 ∧ OpSem P Φ (resF (lookT ops o) (lk st.s)) (resH n0 e.old e.rd (lk st.h)) (n0 + 8 * i) o.op e.val e.wr cnt) ∨ (gOk ops st.s o false ∧ e.val = none ∧ e.wr = [])

inductive DRun (P : Program) (Φ : FuncId → Option Ct) (N n0 : Nat) (ops : List Oper) : List Oper → Nat → St → List EI → St → Prop where
  | nil (i : Nat) (st : St) : DRun P Φ N n0 ops [] i st [] st
  | cons {o : Oper} {r : List Oper} {i : Nat} {st st' : St} {e : EI} {es : List EI} (h : Ok1 P Φ N n0 ops o i st e) (hr : DRun P Φ N n0 ops r (i + 1) (st.eff o.dst e.val e.wr 0) es st') : DRun P Φ N n0 ops (o :: r) i st (e :: es) st'

def accL : Nat → List EI → List DI → List DI
  | _, [], acc => acc
  | i, e :: es, acc => accL (i + 1) es (⟨i, e.old, e.rd, e.wr.map (·.1)⟩ :: acc)

theorem drX_ex {Φ : FuncId → Option Ct} {N n0 : Nat} {ops : List Oper} {K : St → List DI → Prop} : ∀ {l : List Oper} {i : Nat} {st : St} {acc : List DI} {t0 : Tag K}, drX P Φ N n0 ops l i st acc K t0 →
    ∃ es st', DRun P Φ N n0 ops l i st es st' ∧ K st' (accL i es acc)
  | [], i, st, acc, _, h => ⟨[], st, .nil i st, h⟩
  | o :: r, i, st, acc, t0, h => by
    obtain ⟨hd, h⟩ := h
    have run : gOk ops st.s o true → opR P Φ (n0 + 8 * i) (resF (lookT ops o) (lk st.s)) (resH n0 (isCallO o.op) (rdN (lk st.s) o.op) (lk st.h)) o.op (fun val wr cnt => cnt ≤ 8 ∧ drX P Φ N n0 ops r (i + 1) (st.eff o.dst val wr 0) (⟨i, isCallO o.op, rdN (lk st.s) o.op, wr.map (·.1)⟩ :: acc) K t0) .mk → ∃ es st', DRun P Φ N n0 ops (o :: r) i st es st' ∧ K st' (accL i es acc) := by
      intro hg hr
      obtain ⟨val, wr, cnt, ho, hc, hk⟩ := opR_ex hr
      obtain ⟨es, st', h1, h2⟩ := drX_ex hk
      exact ⟨⟨val, wr, isCallO o.op, rdN (lk st.s) o.op⟩ :: es, st', .cons ⟨hd, .inl ⟨hg, cnt, hc, ho⟩⟩ h1, h2⟩
    split at h
    · rename_i hg; exact run (by simp [gOk, hg]) h
    · rename_i j want hg
      split at h
      · rename_i t ht
        split at h
        · rename_i b hb
          by_cases e : b = want
          · exact run (by simp only [gOk, hg]; exact ⟨t, b, ht, hb, by simp [e]⟩) (h.1 e)
          · have e' : b = (!want) := by cases b <;> cases want <;> simp_all
            obtain ⟨es, st', h1, h2⟩ := drX_ex (h.2 e')
            exact ⟨⟨none, [], false, []⟩ :: es, st', .cons ⟨hd, .inr ⟨by simp only [gOk, hg]; exact ⟨t, b, ht, hb, by simp [e]⟩, rfl, rfl⟩⟩ h1, h2⟩
        · exact h.elim
      · exact h.elim

/-! ### The state after some of them -/
def wlk : List (Nat × Option Root) → Nat → Option (Option Root)
  | [], _ => none
  | (n, r) :: l, m => if m = n then some r else wlk l m
theorem apH_wlk : ∀ (l : List (Nat × Option Root)) (H : Nat → Option Root) (m : Nat), apH l H m = match wlk l m with
    | some r => r
    | none => H m
  | [], H, m => rfl
  | (n, r) :: l, H, m => by
    simp only [apH, upd, wlk]
    split
    · rfl
    · exact apH_wlk l H m
theorem wlk_none : ∀ {l : List (Nat × Option Root)} {m : Nat}, m ∉ l.map (·.1) → wlk l m = none
  | [], m, h => rfl
  | (n, r) :: l, m, h => by
    simp only [List.map_cons, List.mem_cons, not_or] at h
    simp only [wlk]
    rw [if_neg h.1]
    exact wlk_none h.2
def Ws (ops : List Oper) (es : List EI) (k : Nat) (t : Nat) : Option (Option D) := match gSlot ops k with
  | some d => if t = d then some (es.getD k default).val else none
  | none => none
def Wh (es : List EI) (k : Nat) (n : Nat) : Option (Option Root) := wlk (es.getD k default).wr n
abbrev allT : Nat → Bool := fun _ => true

theorem DRun.all {Φ : FuncId → Option Ct} {N n0 : Nat} {ops : List Oper} {es : List EI} {S0 : Nat → Option D} {H0 : Nat → Option Root} {l : List Oper} {k : Nat} {st st' : St} {es' : List EI} (h : DRun P Φ N n0 ops l k st es' st') :
    l = ops.drop k → es' = es.drop k → lk st.s = Fg (Ws ops es) allT S0 k → lk st.h = Fg (Wh es) allT H0 k → k ≤ ops.length → es.length = ops.length ∨ True →
    (∀ j o, k ≤ j → ops[j]? = some o → ∃ stj, Ok1 P Φ N n0 ops o j stj (es.getD j default) ∧ lk stj.s = Fg (Ws ops es) allT S0 j ∧ lk stj.h = Fg (Wh es) allT H0 j) ∧
    lk st'.s = Fg (Ws ops es) allT S0 ops.length ∧ lk st'.h = Fg (Wh es) allT H0 ops.length := by
  induction h with
  | nil i st =>
    intro hl he hs hh hk _
    have : ops.length ≤ i := by
      have := congrArg List.length hl; simp at this; omega
    have hi : i = ops.length := by omega
    subst hi
    exact ⟨fun j o hj ho => by have := (List.getElem?_eq_some_iff.1 ho).1; omega, hs, hh⟩
  | @cons o r i st st' e es'' h hr ih =>
    intro hl he hs hh hk _
    have hoi : ops[i]? = some o := by
      have := congrArg (·[0]?) hl; simpa using this.symm
    have hei : es[i]? = some e := by
      have := congrArg (·[0]?) he; simpa using this.symm
    have hed : es.getD i default = e := by simp [List.getD, hei]
    have hgs : gSlot ops i = o.dst := by simp [gSlot, hoi]
    have hs' : lk (st.eff o.dst e.val e.wr 0).s = Fg (Ws ops es) allT S0 (i + 1) := by
      funext t
      simp only [St.eff, lk_putS, Fg, if_true, Ws, hgs, hed, hs]
      cases o.dst with
      | none => rfl
      | some d =>
        simp only [apS, upd]
        split <;> rfl
    have hh' : lk (st.eff o.dst e.val e.wr 0).h = Fg (Wh es) allT H0 (i + 1) := by
      funext t
      simp only [St.eff, lk_insW, Fg, if_true, Wh, hed, hh, apH_wlk]
      cases wlk e.wr t <;> rfl
    have hlt : i < ops.length := (List.getElem?_eq_some_iff.1 hoi).1
    obtain ⟨h1, h2⟩ := ih (by rw [← List.drop_drop, ← hl]; rfl) (by rw [← List.drop_drop, ← he]; rfl) hs' hh' (by omega) (.inr trivial)
    refine ⟨fun j o' hj ho' => ?_, h2⟩
    by_cases e1 : j = i
    · subst e1
      rw [hoi] at ho'; injection ho' with ho'; subst ho'
      exact ⟨st, by rw [hed]; exact h, hs, hh⟩
    · exact h1 j o' (by omega) ho'

theorem accL_mem : ∀ {es : List EI} {i : Nat} {acc : List DI}, (∀ x ∈ acc, x ∈ accL i es acc) ∧ ∀ (k : Nat) (e : EI), es[k]? = some e → (⟨i + k, e.old, e.rd, e.wr.map (·.1)⟩ : DI) ∈ accL i es acc
  | [], i, acc => ⟨fun x h => h, fun k e h => by simp at h⟩
  | e0 :: es, i, acc => by
    obtain ⟨h1, h2⟩ := accL_mem (es := es) (i := i + 1) (acc := ⟨i, e0.old, e0.rd, e0.wr.map (·.1)⟩ :: acc)
    refine ⟨fun x hx => h1 x (.tail _ hx), fun k e he => ?_⟩
    cases k with
    | zero => simp at he; subst he; exact h1 _ (.head _)
    | succ k => simp at he; have := h2 k e he; rw [show i + (k + 1) = i + 1 + k by omega]; exact this
end Go.SX
