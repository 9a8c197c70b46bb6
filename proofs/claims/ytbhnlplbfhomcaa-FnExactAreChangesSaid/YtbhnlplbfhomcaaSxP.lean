/-
  SX, part P: an ideal state as lists; one operation and a straight region, evaluated.
  No condition. Plain definitions and theorems over any program.
-/
import Derived.Test.YtbhnlplbfhomcaaSxO
import Derived.Tactics
set_option linter.unusedVariables false
set_option linter.unusedSimpArgs false
namespace Go.SX
open Go Go.RowKit
variable {en : En} {g : Gh} {S : Nat → Option D} {H : Nat → Option Root} {a : Act} {w : World} {P : Program}

def lk {α : Type} : List (Nat × Option α) → Nat → Option α
  | [], _ => none
  | (k, x) :: r, t => if t = k then x else lk r t
theorem lk_cons {α : Type} (k : Nat) (x : Option α) (r : List (Nat × Option α)) : lk ((k, x) :: r) = upd (lk r) k x := by funext t; simp [lk, upd]
def ins {α : Type} (n : Nat) (x : Option α) : List (Nat × Option α) → List (Nat × Option α)
  | [] => [(n, x)]
  | (k, y) :: r => if k = n then (n, x) :: r else (k, y) :: ins n x r
theorem lk_ins {α : Type} (n : Nat) (x : Option α) : ∀ l : List (Nat × Option α), lk (ins n x l) = upd (lk l) n x
  | [] => by funext t; simp [ins, lk, upd]
  | (k, y) :: r => by
    simp only [ins]
    split
    · rename_i e; subst e; funext t; simp only [lk, upd]; split <;> rfl
    · rename_i e
      rw [lk_cons, lk_ins n x r, lk_cons]
      funext t
      simp only [upd]
      by_cases h1 : t = k
      · subst h1; simp [e]
      · simp [h1]
def insW : List (Nat × Option Root) → List (Nat × Option Root) → List (Nat × Option Root)
  | [], h => h
  | (n, r) :: l, h => ins n r (insW l h)
theorem lk_insW : ∀ (l h : List (Nat × Option Root)), lk (insW l h) = apH l (lk h)
  | [], h => rfl
  | (n, r) :: l, h => by simp only [insW, apH]; rw [lk_ins, lk_insW l h]

structure St where
  s : List (Nat × Option D)
  h : List (Nat × Option Root)
  n : Nat
  deriving Inhabited

def putS (dst : Option Nat) (val : Option D) (s : List (Nat × Option D)) : List (Nat × Option D) := match dst with
  | some t => (t, val) :: s
  | none => s
theorem lk_putS (dst : Option Nat) (val : Option D) (s : List (Nat × Option D)) : lk (putS dst val s) = apS dst val (lk s) := by
  cases dst with
  | none => rfl
  | some t => exact lk_cons t val s

/-- So that an evaluation does not look into the rest before its turn. -/
inductive Tag.{u} {α : Sort u} (K : α) : Type where
  | mk : Tag K

def mK {α : Type} (o : Option α) (K : α → Prop) (t : Tag K) : Prop := match o with
  | some x => K x
  | none => False
theorem mK_some {α : Type} (x : α) (K : α → Prop) (t : Tag K) : mK (some x) K t = K x := rfl
theorem mK_none {α : Type} (K : α → Prop) (t : Tag K) : mK none K t = False := rfl
theorem mK_ite {α : Type} (c : Prop) [Decidable c] (x : Option α) (K : α → Prop) (t : Tag K) : mK (if c then x else none) K t = (c ∧ mK x K t) := by
  by_cases h : c
  · simp [h]
  · simp [h, mK]
theorem mK_ex {α : Type} {o : Option α} {K : α → Prop} {t : Tag K} (h : mK o K t) : ∃ x, o = some x ∧ K x := by
  cases o with
  | none => exact h.elim
  | some x => exact ⟨x, rfl, h⟩

/-- Both ways of a bool. -/
def gS (b want : Bool) (A B : Prop) (tA : Tag A) (tB : Tag B) : Prop := (b = want → A) ∧ (b = (!want) → B)

/-- Each place, with what it holds. -/
def plX (H : Nat → Option Root) : List Nat → (K : List (List B) → Prop) → Tag K → Prop
  | [], K, _ => K []
  | n :: ex, K, _ => match H n with
    | some (.box c) => (∀ x ∈ c, MvB false x) ∧ plX H ex (fun hs => K (c :: hs)) .mk
    | _ => False
theorem plX_ex : ∀ {ex : List Nat} {K : List (List B) → Prop} {t : Tag K}, plX H ex K t → ∃ hs, (hs.length = ex.length ∧ ∀ (k n : Nat) (c : List B), ex[k]? = some n → hs[k]? = some c → H n = some (.box c) ∧ ∀ x ∈ c, MvB false x) ∧ K hs
  | [], K, _, h => ⟨[], ⟨rfl, fun k n c hk => by simp at hk⟩, h⟩
  | n :: ex, K, _, h => by
    simp only [plX] at h
    split at h
    · rename_i c hc
      obtain ⟨h1, h2⟩ := h
      obtain ⟨hs, ⟨h3, h4⟩, h5⟩ := plX_ex h2
      refine ⟨c :: hs, ⟨by simp [h3], fun k m c' hk hc' => ?_⟩, h5⟩
      cases k with
      | zero => simp at hk hc'; subst hk; subst hc'; exact ⟨hc, h1⟩
      | succ k => simp at hk hc'; exact h4 k m c' hk hc'
    · exact h.elim
theorem dd_mem : ∀ {l : List Nat} {x : Nat}, x ∈ dd l → x ∈ l
  | [], x, h => h
  | y :: l, x, h => by
    simp only [dd] at h
    split at h
    · exact .tail _ (dd_mem h)
    · rcases List.mem_cons.1 h with h | h
      · subst h; exact .head _
      · exact .tail _ (dd_mem h)
theorem dd_nodup : ∀ l : List Nat, (dd l).Nodup
  | [] => .nil
  | y :: l => by
    simp only [dd]
    split
    · exact dd_nodup l
    · rename_i h; exact List.nodup_cons.2 ⟨fun hm => h (dd_mem hm), dd_nodup l⟩

/-- One operation, evaluated. -/
def opR (P : Program) (Φ : FuncId → Option Ct) (nm : Nat) (S : Nat → Option D) (H : Nat → Option Root) (o : Op) (K : Option D → List (Nat × Option Root) → Nat → Prop) (_ : Tag K) : Prop :=
  match o with
  | .store t x y => mK (storeH P t S H x y) (fun p => K none [(p.1, some p.2)] 0) .mk
  | .alloc t => mK (mkOp P S (.alloc t) nm) (fun p => K (some p.1) [(nm, some p.2)] 1) .mk
  | .box t x => mK (mkOp P S (.box t x) nm) (fun p => K (some p.1) [(nm, some p.2)] 1) .mk
  | .buildSlice t l ps => mK (mkOp P S (.buildSlice t l ps) nm) (fun p => K (some p.1) [(nm, some p.2)] 1) .mk
  | .makeSlice t l c => mK (mkOp P S (.makeSlice t l c) nm) (fun p => K (some p.1) [(nm, some p.2)] 1) .mk
  | .call { callee := .builtin .append, args := args, argTypes := ts } => match args.toList, ts.toList with
    | [s, x], [t, t'] => t = t' ∧ mK (appendH P t S H s x) (fun p => p.2.2.1.length * p.2.1 ≤ 140737488355328 ∧
        K (some (.c (.view nm p.1 0 p.2.2.1.length))) ((nm, some (.arr p.1 p.2.2.1)) :: dropN p.2.2.2) 1) .mk
    | _, _ => False
  | .call { callee := .value f, args := args, argTypes := _ } => match evC S f with
    | some (.fn (.func k) caps) => mK (Φ k) (fun ct => mK (evDs S args.toList) (fun ds => plX H (exDs (ds ++ caps.map D.c)) (fun hs =>
        mK (mapO (loD (exDs (ds ++ caps.map D.c)) (if ct.sc then H else fun _ => none)) (ds ++ caps.map D.c)) (fun ds' => mK (ct.run ds' hs) (fun res => mK (reD (fun n => nm + n) res.val) (fun d =>
          K (some d) (addR nm res.roots ++ addP (exDs (ds ++ caps.map D.c)) res.places) res.roots.length) .mk) .mk) .mk) .mk) .mk) .mk
    | _ => False
  | o => mK (qv P S H o) (fun d => K (some d) [] 0) .mk

theorem opR_ex {Φ : FuncId → Option Ct} {nm : Nat} {o : Op} {K : Option D → List (Nat × Option Root) → Nat → Prop} {tg : Tag K} (h : opR P Φ nm S H o K tg) :
    ∃ val wr cnt, OpSem P Φ S H nm o val wr cnt ∧ K val wr cnt := by
  unfold opR at h
  split at h
  · obtain ⟨p, h1, h2⟩ := mK_ex h; exact ⟨_, _, _, .st h1, h2⟩
  · obtain ⟨p, h1, h2⟩ := mK_ex h; exact ⟨_, _, _, .mk h1, h2⟩
  · obtain ⟨p, h1, h2⟩ := mK_ex h; exact ⟨_, _, _, .mk h1, h2⟩
  · obtain ⟨p, h1, h2⟩ := mK_ex h; exact ⟨_, _, _, .mk h1, h2⟩
  · obtain ⟨p, h1, h2⟩ := mK_ex h; exact ⟨_, _, _, .mk h1, h2⟩
  · rename_i args ts
    split at h
    · rename_i s x t t' ha ht
      obtain ⟨rfl, h⟩ := h
      obtain ⟨⟨sz, bytes, rows, on⟩, h1, h2, h3⟩ := mK_ex h
      have ha' : args = #[s, x] := by rw [← Array.toList_inj]; simpa using ha
      have ht' : ts = #[t, t] := by rw [← Array.toList_inj]; simpa using ht
      subst ha'; subst ht'
      exact ⟨_, _, _, .app h1 h2, h3⟩
    · exact h.elim
  · rename_i f args ts
    split at h
    · rename_i k caps hf
      obtain ⟨ct, h1, h⟩ := mK_ex h
      obtain ⟨ds, h2, h⟩ := mK_ex h
      obtain ⟨hs, h3, h⟩ := plX_ex h
      obtain ⟨ds', h4, h⟩ := mK_ex h
      obtain ⟨res, h5, h⟩ := mK_ex h
      obtain ⟨d, h6, h⟩ := mK_ex h
      exact ⟨_, _, _, .call hf h1 h2 ⟨dd_nodup _, h3.1, h3.2⟩ h4 h5 h6, h⟩
    · exact h.elim
  · obtain ⟨d, h1, h2⟩ := mK_ex h; exact ⟨_, _, _, .q h1, h2⟩

def St.eff (st : St) (dst : Option Nat) (val : Option D) (wr : List (Nat × Option Root)) (cnt : Nat) : St := ⟨putS dst val st.s, insW wr st.h, st.n + cnt⟩
def dOk (N : Nat) : Option Nat → Prop
  | some t => t < N
  | none => True
def gSlot (ops : List Oper) (j : Nat) : Option Nat := match ops[j]? with
  | some o => o.dst
  | none => none

/-- A region without a draw. -/
def regX (P : Program) (Φ : FuncId → Option Ct) (N : Nat) (ops : List Oper) : List Oper → St → (K : St → Prop) → Tag K → Prop
  | [], st, K, _ => K st
  | o :: r, st, K, t0 => dOk N o.dst ∧ match o.guard with
    | none => opR P Φ st.n (lk st.s) (lk st.h) o.op (fun val wr cnt => regX P Φ N ops r (st.eff o.dst val wr cnt) K t0) .mk
    | some (j, want) => match gSlot ops j with
      | some t => match lk st.s t with
        | some (.c (.im (.bool b))) => gS b want (opR P Φ st.n (lk st.s) (lk st.h) o.op (fun val wr cnt => regX P Φ N ops r (st.eff o.dst val wr cnt) K t0) .mk)
            (regX P Φ N ops r (st.eff o.dst none [] 0) K t0) .mk .mk
        | _ => False
      | none => False

/-- An ideal state and a real one. -/
def RelS (en : En) (N : Nat) (st : St) (a : Act) (w : World) : Prop := ∃ g, (∀ m, g.used m → m < st.n) ∧ Rel en g (lk st.s) (lk st.h) a w ∧ a.tmps.size = N

/-- The functions' laws. -/
def Env (P : Program) (Φ : FuncId → Option Ct) : Prop := ∀ f ct, Φ f = some ct → Good P f ct ∧ ∃ fn : Func, P.funcs[f]? = some fn ∧ (fn.name == "runtime.NumGoroutine") = false ∧ fn.body.isNone = false

theorem RelS.eff {N : Nat} {st : St} {dst : Option Nat} {val : Option D} {wr : List (Nat × Option Root)} {cnt : Nat} (hu : ∀ m, g.used m → m < st.n + cnt) (h : Rel en g (apS dst val (lk st.s)) (apH wr (lk st.h)) a w) {N : Nat} (hN : a.tmps.size = N) :
    RelS en N (st.eff dst val wr cnt) a w := by
  refine ⟨g, hu, ?_, hN⟩
  simp only [St.eff]
  rw [lk_putS, lk_insW]; exact h

theorem yielded_slot {ops : List Oper} {j t : Nat} {b : Bool} (h : Rel en g S H a w) (hg : gSlot ops j = some t) (hs : S t = some (.c (.im (.bool b)))) : yielded ops.toArray a.tmps j = some b := by
  unfold gSlot at hg
  split at hg
  · rename_i o ho
    obtain ⟨v, hv, hd⟩ := h.slots t _ hs
    have hvb : v = .bool b := by
      cases hd with | c _ _ hc => cases hc with | im _ _ hi => exact hi.bool_inv
    subst hvb
    simp [yielded, ho, hg, hv]
  · cases hg

theorem regX_sound {Φ : FuncId → Option Ct} (hΦ : Env P Φ) {N : Nat} {ops : List Oper} {Q : Exit → Act → World → Prop} {K : St → Prop} (hK : ∀ st a w, RelS en N st a w → K st → Q .normal a w) :
    ∀ (l : List Oper) (st : St) (tg : Tag K) (a : Act) (w : World), RelS en N st a w → regX P Φ N ops l st K tg → wpList P ops.toArray Q l a w
  | [], st, _, a, w, h, hx => hK st a w h hx
  | o :: r, st, tg, a, w, ⟨g, hu, h, hN⟩, hx => by
    obtain ⟨hd, hx⟩ := hx
    have hdst : ∀ t, o.dst = some t → t < N := fun t ht => by rw [ht] at hd; exact hd
    have run : opR P Φ st.n (lk st.s) (lk st.h) o.op (fun val wr cnt => regX P Φ N ops r (st.eff o.dst val wr cnt) K tg) .mk → o.wp P a w (wpList P ops.toArray Q r) Q := by
      intro hr
      obtain ⟨val, wr, cnt, ho, hk⟩ := opR_ex hr
      refine Oper.wp_mono (fun a' w' ⟨g', k1, k2, k3⟩ => ?_) (OpSem.sound hΦ h hN (fun _ _ h => h) (fun _ _ h => h) ho (fun m hm hc => by have := hu m hm; omega) hdst)
      exact regX_sound hΦ hK r _ tg a' w' (RelS.eff (N := N) (fun m hm => (k1 m hm).elim (fun h => by have := hu m h; omega) (fun h => h.2)) k2 k3) hk
    unfold wpList
    cases hg : o.guard with
    | none =>
      simp only [hg] at hx
      rw [if_pos (by simp [Region.wanted, hg])]
      exact .inl (run hx)
    | some jw =>
      obtain ⟨j, want⟩ := jw
      simp only [hg] at hx
      split at hx
      · rename_i t ht
        split at hx
        · rename_i b hb
          have hy := yielded_slot h ht hb
          by_cases e : b = want
          · rw [if_pos (by simp [Region.wanted, hg, hy, e])]
            exact .inl (run (hx.1 e))
          · rw [if_neg (by simp [Region.wanted, hg, hy, e])]
            have e' : b = (!want) := by cases b <;> cases want <;> simp_all
            exact regX_sound hΦ hK r _ tg _ w (RelS.eff (N := N) (cnt := 0) (fun m hm => hu m hm) (h.putN o.dst undef) ((put_size _ _ _).trans hN)) (hx.2 e')
        · exact hx.elim
      · exact hx.elim
end Go.SX
