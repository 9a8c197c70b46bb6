/-
  SX, part C: operations that touch no memory but to read it: what they give in the ideal state, and that the machine's operation gives it.
  No condition. Plain definitions and theorems over any program.
-/
import Derived.Test.YtbhnlplbfhomcaaSxB
set_option linter.unusedVariables false
set_option linter.unusedSimpArgs false
namespace Go.SX
open Go Go.RowKit

/-- The world is as it was but for what has been drawn. -/
structure Qt (w w' : World) : Prop where
  heap : w'.heap = w.heap
  os : w'.os = w.os
  tape : w'.tape = w.tape
  output : w'.output = w.output
theorem Qt.refl (w : World) : Qt w w := ⟨rfl, rfl, rfl, rfl⟩
theorem Qt.trans {a b c : World} (h : Qt a b) (k : Qt b c) : Qt a c := ⟨k.heap.trans h.heap, k.os.trans h.os, k.tape.trans h.tape, k.output.trans h.output⟩
theorem Rel.qt {en : En} {g : Gh} {S : Nat → Option D} {H : Nat → Option Root} {a : Act} {w w' : World} (h : Rel en g S H a w) (q : Qt w w') : Rel en g S H a w' := h.world q.heap q.os q.tape q.output

/-! ### Floats -/
def qn : FloatKind → Nat
  | .f32 => 0x7fc00000
  | .f64 => 0x7ff8000000000000
theorem qn_nan (k : FloatKind) : isNaNb k (qn k) = true := by cases k <;> decide

def fraw (op : BinOp) (k : FloatKind) (x y : Nat) : Option Nat :=
  match op with
  | .add => k.format.add x y
  | .sub => k.format.sub x y
  | .mul => k.format.mul x y
  | .quo => k.format.div x y
  | _ => some 0
def fop (op : BinOp) (k : FloatKind) (x y : Nat) : Nat := (fraw op k x y).getD (qn k)

theorem read_nan {k : FloatKind} {x : Nat} (h : isNaNb k x = true) : ∃ s t, k.format.read x = .nan s t := by
  unfold isNaNb Ieee.Datum.isNaN at h
  cases hr : k.format.read x with
  | nan s t => exact ⟨s, t, rfl⟩
  | number => simp [hr] at h
  | infinity => simp [hr] at h

theorem fraw_nan_l {op : BinOp} {k : FloatKind} {x : Nat} (y : Nat) (h : isNaNb k x = true) (ho : op = .add ∨ op = .sub ∨ op = .mul ∨ op = .quo) : fraw op k x y = none := by
  obtain ⟨s, t, hr⟩ := read_nan h
  rcases ho with rfl | rfl | rfl | rfl <;> simp [fraw, Ieee.Format.add, Ieee.Format.sub, Ieee.Format.mul, Ieee.Format.div, hr, Ieee.Datum.sum, Ieee.Datum.product, Ieee.Datum.quotient]
theorem fraw_nan_r {op : BinOp} {k : FloatKind} (x : Nat) {y : Nat} (h : isNaNb k y = true) (ho : op = .add ∨ op = .sub ∨ op = .mul ∨ op = .quo) : fraw op k x y = none := by
  obtain ⟨s, t, hr⟩ := read_nan h
  rcases ho with rfl | rfl | rfl | rfl <;> simp only [fraw, Ieee.Format.add, Ieee.Format.sub, Ieee.Format.mul, Ieee.Format.div, hr] <;> cases k.format.read x <;> simp [Ieee.Datum.opposite, Ieee.Datum.sum, Ieee.Datum.product, Ieee.Datum.quotient]

theorem order_nan_l {k : FloatKind} {x : Nat} (y : Nat) (h : isNaNb k x = true) : k.format.order x y = none := by
  obtain ⟨s, t, hr⟩ := read_nan h
  simp [Ieee.Format.order, hr, Ieee.Datum.order]
theorem order_nan_r {k : FloatKind} (x : Nat) {y : Nat} (h : isNaNb k y = true) : k.format.order x y = none := by
  obtain ⟨s, t, hr⟩ := read_nan h
  simp only [Ieee.Format.order, hr]
  cases k.format.read x <;> simp [Ieee.Datum.order]

theorem order_congr {k : FloatKind} {x y x' y' : Nat} (h : FEq k x x') (h' : FEq k y y') : k.format.order x' y' = k.format.order x y := by
  rcases h with rfl | ⟨h1, h2⟩
  · rcases h' with rfl | ⟨h3, h4⟩
    · rfl
    · rw [order_nan_r _ h3, order_nan_r _ h4]
  · rw [order_nan_l _ h1, order_nan_l _ h2]

theorem nan_of_rung {k : FloatKind} {x : Nat} (h : k.format.infRung < x % k.format.signWeight) : isNaNb k x = true := by
  unfold isNaNb Ieee.Format.read
  have h1 : ¬ x % k.format.signWeight < k.format.binade := by
    have : k.format.binade ≤ k.format.infRung := by cases k <;> decide
    omega
  simp [h1, show ¬ x % k.format.signWeight < k.format.infRung by omega, show ¬ x % k.format.signWeight = k.format.infRung by omega, Ieee.Datum.isNaN]
theorem rung_of_nan {k : FloatKind} {x : Nat} (h : isNaNb k x = true) : k.format.infRung < x % k.format.signWeight := by
  unfold isNaNb Ieee.Format.read at h
  simp only at h
  split at h
  · simp [Ieee.Datum.isNaN] at h
  · split at h
    · simp [Ieee.Datum.isNaN] at h
    · split at h
      · simp [Ieee.Datum.isNaN] at h
      · omega

theorem nan_bits (k : FloatKind) (t : Nat) : isNaNb k (match k with
    | .f32 => (t % 2) * 2 ^ 31 + 0x7f800000 + 1 + (t / 2) % (2 ^ 23 - 1)
    | .f64 => (t % 2) * 2 ^ 63 + 0x7ff0000000000000 + 1 + (t / 2) % (2 ^ 52 - 1)) = true := by
  apply nan_of_rung
  cases k
  · show 2139095040 < ((t % 2) * 2 ^ 31 + 0x7f800000 + 1 + (t / 2) % (2 ^ 23 - 1)) % 2147483648
    rcases Nat.mod_two_eq_zero_or_one t with h | h <;> rw [h] <;> omega
  · show 9218868437227405312 < ((t % 2) * 2 ^ 63 + 0x7ff0000000000000 + 1 + (t / 2) % (2 ^ 52 - 1)) % 9223372036854775808
    rcases Nat.mod_two_eq_zero_or_one t with h | h <;> rw [h] <;> omega
theorem nanBits_cut (k : FloatKind) (x y t : Nat) : isNaNb k ((Question.nanBits k x y).cut t) = true := by have := nan_bits k t; cases k <;> exact this
theorem nanConv_cut (k : FloatKind) (x t : Nat) : isNaNb k ((Question.nanConv k x).cut t) = true := by have := nan_bits k t; cases k <;> exact this

theorem run_floatArith_any {P : Program} {w : World} {op : BinOp} {k : FloatKind} {x y x' y' : Nat} (ho : op = .add ∨ op = .sub ∨ op = .mul ∨ op = .quo) (h : FEq k x x') (h' : FEq k y y') :
    ∃ r w', (Op.floatArith op k x' y').run P w = .ok (.float k r) w' ∧ Qt w w' ∧ FEq k (fop op k x y) r := by
  have hrun : ∀ z, fraw op k x' y' = some z → (Op.floatArith op k x' y').run P w = .ok (.float k z) w := by
    intro z hz
    rcases ho with rfl | rfl | rfl | rfl <;> simp only [fraw] at hz <;> simp [Op.floatArith, hz]
  have hnone : fraw op k x' y' = none → ∃ r w', (Op.floatArith op k x' y').run P w = .ok (.float k r) w' ∧ Qt w w' ∧ isNaNb k r = true := by
    intro hz
    refine ⟨(Question.nanBits k x' y').cut (w.tape w.drawn (.nanBits k x' y')), w.drew, ?_, ⟨rfl, rfl, rfl, rfl⟩, nanBits_cut _ _ _ _⟩
    rcases ho with rfl | rfl | rfl | rfl <;> simp only [fraw] at hz <;> simp [Op.floatArith, hz, Question.forced] <;> rfl
  by_cases hn : isNaNb k x = true ∨ isNaNb k y = true
  · have h0 : fraw op k x y = none := by
      rcases hn with hn | hn
      · exact fraw_nan_l y hn ho
      · exact fraw_nan_r x hn ho
    have h1 : fraw op k x' y' = none := by
      rcases hn with hn | hn
      · refine fraw_nan_l y' ?_ ho
        rcases h with rfl | ⟨_, h2⟩
        · exact hn
        · exact h2
      · refine fraw_nan_r x' ?_ ho
        rcases h' with rfl | ⟨_, h2⟩
        · exact hn
        · exact h2
    obtain ⟨r, w', hr, hq, hn'⟩ := hnone h1
    exact ⟨r, w', hr, hq, .inr ⟨by simp [fop, h0, qn_nan], hn'⟩⟩
  · have hx : x = x' := by rcases h with h | ⟨h, _⟩; exact h; exact absurd (.inl h) hn
    have hy : y = y' := by rcases h' with h | ⟨h, _⟩; exact h; exact absurd (.inr h) hn
    subst hx; subst hy
    cases hz : fraw op k x y with
    | some z => exact ⟨z, w, hrun z hz, Qt.refl w, .inl (by simp [fop, hz])⟩
    | none =>
      obtain ⟨r, w', hr, hq, hn'⟩ := hnone hz
      exact ⟨r, w', hr, hq, .inr ⟨by simp [fop, hz, qn_nan], hn'⟩⟩

def fcmp (op : BinOp) (k : FloatKind) (x y : Nat) : Bool :=
  match op with
  | .eql => k.format.order x y == some .eq
  | .neq => k.format.order x y != some .eq
  | .lss => k.format.order x y == some .lt
  | .leq => k.format.order x y == some .lt || k.format.order x y == some .eq
  | .gtr => k.format.order x y == some .gt
  | .geq => k.format.order x y == some .gt || k.format.order x y == some .eq
  | _ => false
theorem run_floatCmp_any {P : Program} {w : World} {op : BinOp} {k : FloatKind} {x y x' y' : Nat} (ho : op = .eql ∨ op = .neq ∨ op = .lss ∨ op = .leq ∨ op = .gtr ∨ op = .geq) (h : FEq k x x') (h' : FEq k y y') :
    (Op.floatCmp op k x' y').run P w = .ok (.bool (fcmp op k x y)) w := by
  rcases ho with rfl | rfl | rfl | rfl | rfl | rfl <;> simp [Op.floatCmp, fcmp, order_congr h h']

theorem negFloat_nan {k : FloatKind} {x : Nat} (h : isNaNb k x = true) : isNaNb k (Op.negFloat k x) = true := by
  have h1 := rung_of_nan h
  apply nan_of_rung
  have : Op.negFloat k x % k.format.signWeight = x % k.format.signWeight := by
    unfold Op.negFloat Ieee.Format.signWeight
    rw [Nat.xor_mod_two_pow]
    simp
  rw [this]; exact h1
theorem negFloat_feq {k : FloatKind} {x y : Nat} (h : FEq k x y) : FEq k (Op.negFloat k x) (Op.negFloat k y) := by
  rcases h with rfl | ⟨h1, h2⟩
  · exact .inl rfl
  · exact .inr ⟨negFloat_nan h1, negFloat_nan h2⟩

/-- float to float; 'none': what comes of it is open. -/
def fconv (s : FloatKind) (b : Nat) (k : FloatKind) : Option Nat :=
  if s = k then some b else
  match s.decode b with
  | .nan _ _ => some (qn k)
  | .infinity sg => some (k.encode (.infinity sg))
  | .number sg m e => if (k.decode (k.encode (.number sg m e))).isInfinity then none else some (k.encode (.number sg m e))
theorem run_fconv {P : Program} {w : World} {s k : FloatKind} {b b' r : Nat} (h : FEq s b b') (hc : fconv s b k = some r) :
    ∃ r' w', (Conv.floatToFloat s b' k).run P w = .ok (.float k r') w' ∧ Qt w w' ∧ FEq k r r' := by
  unfold fconv at hc
  by_cases hs : s = k
  · subst hs
    simp only [if_pos] at hc
    injection hc with hc
    subst hc
    exact ⟨b', w, by simp [Conv.floatToFloat], Qt.refl w, h⟩
  · rw [if_neg hs] at hc
    rcases h with rfl | ⟨h1, h2⟩
    · cases hd : s.decode b with
      | nan a c =>
        rw [hd] at hc
        injection hc with hc
        subst hc
        exact ⟨_, w.drew, by simp [Conv.floatToFloat, hs, hd, Question.forced], ⟨rfl, rfl, rfl, rfl⟩, .inr ⟨qn_nan k, nanConv_cut k b (w.tape w.drawn (.nanConv k b))⟩⟩
      | infinity sg =>
        rw [hd] at hc
        injection hc with hc
        subst hc
        exact ⟨_, w, by simp [Conv.floatToFloat, hs, hd], Qt.refl w, .inl rfl⟩
      | number sg m e =>
        rw [hd] at hc
        simp only at hc
        split at hc
        · cases hc
        · rename_i hi
          injection hc with hc
          subst hc
          exact ⟨_, w, by simp [Conv.floatToFloat, hs, hd, hi], Qt.refl w, .inl rfl⟩
    · obtain ⟨s1, t1, hr1⟩ := read_nan h1
      obtain ⟨s2, t2, hr2⟩ := read_nan h2
      have hd1 : s.decode b = .nan s1 t1 := hr1
      have hd2 : s.decode b' = .nan s2 t2 := hr2
      rw [hd1] at hc
      injection hc with hc
      subst hc
      exact ⟨_, w.drew, by simp [Conv.floatToFloat, hs, hd2, Question.forced], ⟨rfl, rfl, rfl, rfl⟩, .inr ⟨qn_nan k, nanConv_cut k b' (w.tape w.drawn (.nanConv k b'))⟩⟩

/-! ### Operators -/
def bitsI (op : BinOp) (k : IntKind) (x y : Int) : Int :=
  match op with
  | .and => k.wrap ((BitVec.ofInt k.bits x &&& BitVec.ofInt k.bits y).toNat)
  | .or => k.wrap ((BitVec.ofInt k.bits x ||| BitVec.ofInt k.bits y).toNat)
  | .xor => k.wrap ((BitVec.ofInt k.bits x ^^^ BitVec.ofInt k.bits y).toNat)
  | _ => k.wrap ((BitVec.ofInt k.bits x &&& ~~~BitVec.ofInt k.bits y).toNat)

def binI (op : BinOp) (x y : I) : Option I :=
  match x, y with
  | .int k a, .int k' b =>
    match op with
    | .shl => if b < 0 then none else some (.int k (k.wrap (a * 2 ^ min b.toNat k.bits)))
    | .shr => if b < 0 then none else some (.int k (a.fdiv (2 ^ min b.toNat k.bits)))
    | .add => if k = k' then some (.int k (k.wrap (a + b))) else none
    | .sub => if k = k' then some (.int k (k.wrap (a - b))) else none
    | .mul => if k = k' then some (.int k (k.wrap (a * b))) else none
    | .quo => if k = k' then if b = 0 then none else some (.int k (k.wrap (a.tdiv b))) else none
    | .rem => if k = k' then if b = 0 then none else some (.int k (a.tmod b)) else none
    | .and => if k = k' then some (.int k (bitsI .and k a b)) else none
    | .or => if k = k' then some (.int k (bitsI .or k a b)) else none
    | .xor => if k = k' then some (.int k (bitsI .xor k a b)) else none
    | .andNot => if k = k' then some (.int k (bitsI .andNot k a b)) else none
    | .eql => if k = k' then some (.bool (decide (a = b))) else none
    | .neq => if k = k' then some (.bool (!decide (a = b))) else none
    | .lss => if k = k' then some (.bool (decide (a < b))) else none
    | .leq => if k = k' then some (.bool (decide (a ≤ b))) else none
    | .gtr => if k = k' then some (.bool (decide (b < a))) else none
    | .geq => if k = k' then some (.bool (decide (b ≤ a))) else none
  | .flt k a, .flt k' b =>
    if k = k' then
      match op with
      | .add => some (.flt k (fop .add k a b))
      | .sub => some (.flt k (fop .sub k a b))
      | .mul => some (.flt k (fop .mul k a b))
      | .quo => some (.flt k (fop .quo k a b))
      | .eql => some (.bool (fcmp .eql k a b))
      | .neq => some (.bool (fcmp .neq k a b))
      | .lss => some (.bool (fcmp .lss k a b))
      | .leq => some (.bool (fcmp .leq k a b))
      | .gtr => some (.bool (fcmp .gtr k a b))
      | .geq => some (.bool (fcmp .geq k a b))
      | _ => none
    else none
  | .cpx k a b, .cpx k' c d =>
    if k = k' then
      match op with
      | .eql => some (.bool (fcmp .eql k a c && fcmp .eql k b d))
      | .neq => some (.bool (!(fcmp .eql k a c && fcmp .eql k b d)))
      | .sub => some (.cpx k (fop .sub k a c) (fop .sub k b d))
      | .add => some (.cpx k (fop .add k a c) (fop .add k b d))
      | _ => none
    else none
  | .str a, .str b =>
    match op with
    | .eql => some (.bool (a.toList == b.toList))
    | .neq => some (.bool (!(a.toList == b.toList)))
    | _ => none
  | _, _ => none

theorem IR.int_inv {fz : Nat → Nat → Option Value} {k : IntKind} {n : Int} {v : Value} (h : IR fz (.int k n) v) : v = .int k n := by cases h; rfl
theorem IR.bool_inv {fz : Nat → Nat → Option Value} {b : Bool} {v : Value} (h : IR fz (.bool b) v) : v = .bool b := by cases h; rfl
theorem IR.flt_inv {fz : Nat → Nat → Option Value} {k : FloatKind} {x : Nat} {v : Value} (h : IR fz (.flt k x) v) : ∃ y, v = .float k y ∧ FEq k x y := by cases h with | flt _ _ y h => exact ⟨y, rfl, h⟩
theorem IR.cpx_inv {fz : Nat → Nat → Option Value} {k : FloatKind} {x y : Nat} {v : Value} (h : IR fz (.cpx k x y) v) : ∃ x' y', v = .complex k x' y' ∧ FEq k x x' ∧ FEq k y y' := by
  cases h with | cpx _ _ _ x' y' h h' => exact ⟨x', y', rfl, h, h'⟩
theorem IR.str_inv {fz : Nat → Nat → Option Value} {s : ByteArray} {v : Value} (h : IR fz (.str s) v) : v = .string s := by cases h; rfl

theorem decide_eq_beq (a b : Int) : (a == b) = decide (a = b) := by rw [Bool.eq_iff_iff]; simp

theorem bin_int {fz : Nat → Nat → Option Value} {P : Program} {w : World} {op : BinOp} {t : TypeId} {k k' : IntKind} {a b : Int} {z : I} (hz : binI op (.int k a) (.int k' b) = some z) :
    ∃ v, (binOp op t (.int k a) (.int k' b)).run P w = .ok v w ∧ IR fz z v := by
  cases op <;> simp only [binI] at hz <;> (repeat' (first | (split at hz)))
  all_goals first
    | (cases hz; done)
    | (injection hz with hz; subst hz; (try subst_vars); first
        | (refine ⟨_, ?_, .int _ _⟩; simp [binOp, Op.intArith]; done)
        | (refine ⟨_, ?_, .int _ _⟩; simp [binOp, Op.intDiv, *]; done)
        | (refine ⟨_, ?_, .int _ _⟩; simp [binOp, Op.shift, *]; done)
        | (refine ⟨_, ?_, .int _ _⟩; simp [binOp, Op.intBits, bitsI]; done)
        | (refine ⟨_, ?_, .bool _⟩; simp [binOp, Op.intCmp, decide_eq_beq, bne]; done))


theorem run_bin {fz : Nat → Nat → Option Value} {P : Program} {w : World} {op : BinOp} {t : TypeId} {x y z : I} {u v : Value} (hu : IR fz x u) (hv : IR fz y v) (hz : binI op x y = some z) :
    ∃ v' w', (binOp op t u v).run P w = .ok v' w' ∧ Qt w w' ∧ IR fz z v' := by
  cases x with
  | int k a =>
    cases y with
    | int k' b =>
      cases hu.int_inv; cases hv.int_inv
      obtain ⟨v', h1, h2⟩ := bin_int (fz := fz) (P := P) (w := w) (t := t) hz
      exact ⟨v', w, h1, Qt.refl w, h2⟩
    | _ => simp [binI] at hz
  | flt k a =>
    cases y with
    | flt k' b =>
      obtain ⟨a', rfl, ha⟩ := hu.flt_inv
      obtain ⟨b', rfl, hb⟩ := hv.flt_inv
      simp only [binI] at hz
      split at hz
      · rename_i hk
        subst hk
        have har : ∀ o : BinOp, (o = .add ∨ o = .sub ∨ o = .mul ∨ o = .quo) → op = o → z = .flt k (fop o k a b) → ∃ v' w', (binOp op t (.float k a') (.float k b')).run P w = .ok v' w' ∧ Qt w w' ∧ IR fz z v' := by
          intro o ho h1 h2
          subst h1; subst h2
          obtain ⟨r, w', h1, h2, h3⟩ := run_floatArith_any (P := P) (w := w) ho ha hb
          refine ⟨_, w', ?_, h2, .flt _ _ _ h3⟩
          rcases ho with rfl | rfl | rfl | rfl <;> simpa [binOp] using h1
        have hcm : ∀ o : BinOp, (o = .eql ∨ o = .neq ∨ o = .lss ∨ o = .leq ∨ o = .gtr ∨ o = .geq) → op = o → z = .bool (fcmp o k a b) → ∃ v' w', (binOp op t (.float k a') (.float k b')).run P w = .ok v' w' ∧ Qt w w' ∧ IR fz z v' := by
          intro o ho h1 h2
          subst h1; subst h2
          refine ⟨_, w, ?_, Qt.refl w, .bool _⟩
          have := run_floatCmp_any (P := P) (w := w) ho ha hb
          rcases ho with rfl | rfl | rfl | rfl | rfl | rfl <;> simpa [binOp] using this
        cases op <;> simp only at hz <;> first
          | (cases hz; done)
          | (injection hz with hz; first | exact har _ (by simp) rfl hz.symm | exact hcm _ (by simp) rfl hz.symm)
      · cases hz
    | _ => simp [binI] at hz
  | cpx k a b =>
    cases y with
    | cpx k' c d =>
      obtain ⟨a', b', rfl, ha, hb⟩ := hu.cpx_inv
      obtain ⟨c', d', rfl, hc, hd⟩ := hv.cpx_inv
      simp only [binI] at hz
      split at hz
      · rename_i hk
        subst hk
        have e1 := run_floatCmp_any (P := P) (w := w) (op := .eql) (by simp) ha hc
        have e2 := run_floatCmp_any (P := P) (w := w) (op := .eql) (by simp) hb hd
        have har : ∀ o : BinOp, (o = .add ∨ o = .sub) → op = o → z = .cpx k (fop o k a c) (fop o k b d) → ∃ v' w', (binOp op t (.complex k a' b') (.complex k c' d')).run P w = .ok v' w' ∧ Qt w w' ∧ IR fz z v' := by
          intro o ho h1 h2
          subst h1; subst h2
          obtain ⟨r, w1, h1, h2, h3⟩ := run_floatArith_any (P := P) (w := w) (op := op) (by rcases ho with rfl | rfl <;> simp) ha hc
          obtain ⟨s, w2, h4, h5, h6⟩ := run_floatArith_any (P := P) (w := w1) (op := op) (by rcases ho with rfl | rfl <;> simp) hb hd
          refine ⟨.complex k r s, w2, ?_, h2.trans h5, .cpx _ _ _ _ _ h3 h6⟩
          rcases ho with rfl | rfl <;> simp [binOp, Op.complexOp, Op.Complex.arith, h1, h4]
        cases op <;> simp only at hz <;> first
          | (cases hz; done)
          | (injection hz with hz; first
              | exact har _ (by simp) rfl hz.symm
              | (subst hz; refine ⟨_, w, ?_, Qt.refl w, .bool _⟩; cases hf : fcmp .eql k a c <;> simp [binOp, Op.complexOp, Op.Complex.cmp, e1, e2, asBool, hf]; done))
      · cases hz
    | _ => simp [binI] at hz
  | str a =>
    cases y with
    | str b =>
      cases hu.str_inv; cases hv.str_inv
      simp only [binI] at hz
      cases op <;> simp only at hz <;> first
        | (cases hz; done)
        | (injection hz with hz; subst hz; refine ⟨_, w, ?_, Qt.refl w, .bool _⟩; simp [binOp, Op.stringOp]; done)
    | _ => simp [binI] at hz
  | _ => cases y <;> simp [binI] at hz

def unI (op : UnOp) (x : I) : Option I :=
  match op, x with
  | .neg, .int k n => some (.int k (k.wrap (0 - n)))
  | .neg, .flt k x => some (.flt k (Op.negFloat k x))
  | .neg, .cpx k x y => some (.cpx k (Op.negFloat k x) (Op.negFloat k y))
  | .not, .bool b => some (.bool (!b))
  | _, _ => none
theorem run_un {fz : Nat → Nat → Option Value} {P : Program} {w : World} {op : UnOp} {x z : I} {u : Value} (hu : IR fz x u) (hz : unI op x = some z) :
    ∃ v', (Op.unary op u).run P w = .ok v' w ∧ IR fz z v' := by
  cases x with
  | int k a =>
    cases hu.int_inv
    cases op <;> simp only [unI] at hz <;> first
      | (cases hz; done)
      | (injection hz with hz; subst hz; exact ⟨_, by simp [Op.unary, Op.intArith], .int _ _⟩)
  | flt k a =>
    obtain ⟨a', rfl, ha⟩ := hu.flt_inv
    cases op <;> simp only [unI] at hz <;> first
      | (cases hz; done)
      | (injection hz with hz; subst hz; exact ⟨_, by simp [Op.unary], .flt _ _ _ (negFloat_feq ha)⟩)
  | cpx k a b =>
    obtain ⟨a', b', rfl, ha, hb⟩ := hu.cpx_inv
    cases op <;> simp only [unI] at hz <;> first
      | (cases hz; done)
      | (injection hz with hz; subst hz; exact ⟨_, by simp [Op.unary], .cpx _ _ _ _ _ (negFloat_feq ha) (negFloat_feq hb)⟩)
  | bool b =>
    cases hu.bool_inv
    cases op <;> simp only [unI] at hz <;> first
      | (cases hz; done)
      | (injection hz with hz; subst hz; exact ⟨_, by simp [Op.unary], .bool _⟩)
  | _ => cases op <;> simp [unI] at hz

/-- A conversion between kinds of numbers; of a float that the other kind can't hold nothing is told. -/
def convI (d : TypeDesc) (x : I) : Option I :=
  match d, x with
  | .int k, .int _ n => some (.int k (k.wrap n))
  | .float k, .int _ n => some (.flt k (k.nearest n))
  | .float k, .flt s b => match fconv s b k with
    | some r => some (.flt k r)
    | none => none
  | .int k, .flt s b => if isNaNb s b then none else match (s.decode b).toInt .zero with
    | some n => if k.min ≤ n ∧ n ≤ k.max then some (.int k n) else none
    | none => none
  | _, _ => none
theorem run_conv {fz : Nat → Nat → Option Value} {P : Program} {w : World} {src dst : TypeId} {ds d : TypeDesc} {x z : I} {u : Value} (hs : P.underlying src = some ds) (hd : P.underlying dst = some d) (hu : IR fz x u) (hz : convI d x = some z) :
    ∃ v' w', (convert src dst u).run P w = .ok v' w' ∧ Qt w w' ∧ IR fz z v' := by
  cases x with
  | int k n =>
    cases hu.int_inv
    cases d <;> simp only [convI] at hz <;> first
      | (cases hz; done)
      | (injection hz with hz; subst hz; refine ⟨_, w, ?_, Qt.refl w, .int _ _⟩; simp [convert, run_underlying hs, run_underlying hd, Conv.intToInt]; done)
      | (injection hz with hz; subst hz; refine ⟨_, w, ?_, Qt.refl w, .flt _ _ _ (.inl rfl)⟩; simp [convert, run_underlying hs, run_underlying hd, Conv.intToFloat]; done)
  | flt s b =>
    obtain ⟨b', rfl, hb⟩ := hu.flt_inv
    cases d with
    | float k =>
      simp only [convI] at hz
      cases hc : fconv s b k with
      | none => simp [hc] at hz
      | some r =>
        simp only [hc, Option.some.injEq] at hz
        subst hz
        obtain ⟨r', w', h1, h2, h3⟩ := run_fconv (P := P) (w := w) hb hc
        exact ⟨_, w', by simp [convert, run_underlying hs, run_underlying hd, h1], h2, .flt _ _ _ h3⟩
    | int k =>
      simp only [convI] at hz
      split at hz
      · cases hz
      · rename_i hn
        have : b = b' := by rcases hb with h | ⟨h, _⟩; exact h; exact absurd h hn
        subst this
        cases hc : (s.decode b).toInt .zero with
        | none => simp [hc] at hz
        | some n =>
          simp only [hc] at hz
          split at hz
          · rename_i hr
            injection hz with hz
            subst hz
            exact ⟨_, w, by simp [convert, run_underlying hs, run_underlying hd, Conv.floatToInt, hc, hr], Qt.refl w, .int _ _⟩
          · cases hz
    | _ => simp [convI] at hz
  | _ => cases d <;> simp [convI] at hz
end Go.SX
