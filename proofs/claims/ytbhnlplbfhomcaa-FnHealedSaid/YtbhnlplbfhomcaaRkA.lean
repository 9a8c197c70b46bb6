/-
  Numbers and points of single precision: the small functions.
  No condition.
-/
import Derived.Test.YtbhnlplbfhomcaaRkTypes
import Derived.Test.YtbhnlplbfhomcaaSyC
import Derived.Laws.Externs
set_option linter.unusedVariables false
set_option linter.unusedSimpArgs false
namespace Go.SX
open Go Go.Proofs
theorem hmixA : Try.prog.follows .mixedOrders = true := rfl

abbrev Pt := Nat × Nat
def rowsZ (l : List Pt) : List (List I) := l.map fun z => [.cpx .f32 z.1 z.2]
theorem rowsZ_len (l : List Pt) : (rowsZ l).length = l.length := by simp [rowsZ]
theorem rowsZ_at {l : List Pt} {k : Nat} {p : Pt} (h : l[k]? = some p) : (rowsZ l)[k]? = some [.cpx .f32 p.1 p.2] := by simp [rowsZ, h]
theorem rowsZ_inj {l m : List Pt} (h : rowsZ l = rowsZ m) : l = m := by
  induction l generalizing m with
  | nil => cases m with | nil => rfl | cons => simp [rowsZ] at h
  | cons p l ih =>
    cases m with
    | nil => simp [rowsZ] at h
    | cons q m =>
      simp only [rowsZ, List.map_cons, List.cons.injEq, I.cpx.injEq, true_and, and_true] at h
      rw [ih h.2, show p = q from Prod.ext h.1.1 h.1.2]
theorem rowsZ_eq {l m : List Pt} : (rowsZ l = rowsZ m) = (l = m) := propext ⟨rowsZ_inj, fun h => by rw [h]⟩
def rowsN (l : List Int) : List (List I) := l.map fun n => [.int .i64 n]
theorem rowsN_len (l : List Int) : (rowsN l).length = l.length := by simp [rowsN]
theorem rowsN_at {l : List Int} {k : Nat} {p : Int} (h : l[k]? = some p) : (rowsN l)[k]? = some [.int .i64 p] := by simp [rowsN, h]
theorem rowsN_inj {l m : List Int} (h : rowsN l = rowsN m) : l = m := by
  induction l generalizing m with
  | nil => cases m with | nil => rfl | cons => simp [rowsN] at h
  | cons p l ih =>
    cases m with
    | nil => simp [rowsN] at h
    | cons q m =>
      simp only [rowsN, List.map_cons, List.cons.injEq, I.int.injEq, true_and, and_true] at h
      rw [ih h.2, h.1]

theorem rowsN_eq {l m : List Int} : (rowsN l = rowsN m) = (l = m) := propext ⟨rowsN_inj, fun h => by rw [h]⟩

/-! ### Bits -/
theorem bits_low (x : Nat) : bitsI .and .u32 (x : Int) 2147483647 = ((x % 2147483648 : Nat) : Int) := by
  have h : (BitVec.ofInt 32 (x : Int) &&& BitVec.ofInt 32 2147483647).toNat = x % 2147483648 := by
    rw [BitVec.toNat_and]
    have e1 : (BitVec.ofInt 32 (x : Int)).toNat = x % 2 ^ 32 := by simp
    have e2 : (BitVec.ofInt 32 2147483647).toNat = 2 ^ 31 - 1 := by decide
    rw [e1, e2, Nat.and_two_pow_sub_one_eq_mod]
    omega
  show IntKind.u32.wrap _ = _
  rw [show (IntKind.u32.bits) = 32 from rfl, h]
  show (((x % 2147483648 : Nat) : Int) % 4294967296) = _
  omega
theorem bits_high (x : Nat) : bitsI .and .u32 (x : Int) 2147483648 = ((x / 2147483648 % 2 * 2147483648 : Nat) : Int) := by
  have h : (BitVec.ofInt 32 (x : Int) &&& BitVec.ofInt 32 2147483648).toNat = x / 2147483648 % 2 * 2147483648 := by
    rw [BitVec.toNat_and]
    have e1 : (BitVec.ofInt 32 (x : Int)).toNat = x % 2 ^ 32 := by simp
    have e2 : (BitVec.ofInt 32 2147483648).toNat = 2 ^ 31 := by decide
    rw [e1, e2]
    have h3 : ∀ y : Nat, y &&& 2 ^ 31 = y / 2 ^ 31 % 2 * 2 ^ 31 := fun y => by
      apply Nat.eq_of_testBit_eq
      intro i
      rw [Nat.testBit_and, Nat.testBit_two_pow]
      have h4 : y.testBit 31 = decide (y / 2 ^ 31 % 2 = 1) := by rw [Nat.testBit_eq_decide_div_mod_eq]
      rcases Nat.mod_two_eq_zero_or_one (y / 2 ^ 31) with h | h
      · rw [h, Nat.zero_mul, Nat.zero_testBit]
        by_cases e : 31 = i
        · subst e; rw [h4, h]; rfl
        · simp [e]
      · rw [h, Nat.one_mul, Nat.testBit_two_pow]
        by_cases e : 31 = i
        · subst e; rw [h4, h]; rfl
        · simp [e]
    rw [h3]
    omega
  show IntKind.u32.wrap _ = _
  rw [show (IntKind.u32.bits) = 32 from rfl, h]
  show (((x / 2147483648 % 2 * 2147483648 : Nat) : Int) % 4294967296) = _
  omega
theorem nan_low {x : Nat} (h : isNaNb .f32 x = true) : 2139095040 < x % 2147483648 := rung_of_nan h

def isFin (x : Nat) : Bool := decide (x % 2147483648 ≤ 2139095039)
def isSubn (x : Nat) : Bool := decide (0 < x % 2147483648) && decide (x % 2147483648 < 8388608)
def flushF (x : Nat) : Nat := if isSubn x = true then x / 2147483648 % 2 * 2147483648 else x
theorem isFin_nan {x : Nat} (h : isNaNb .f32 x = true) : isFin x = false := by have := nan_low h; simp [isFin]; omega
theorem isSubn_nan {x : Nat} (h : isNaNb .f32 x = true) : isSubn x = false := by have := nan_low h; simp [isSubn]; omega

/-! ### math.Float32bits, math.Float32frombits -/
def oBits (x : Nat) : Outs := if isNaNb .f32 x = true then .any { y : Nat // isNaNb .f32 y = true } (fun y => { val := .c (.im (.int .u32 y.1)) }) else .one { val := .c (.im (.int .u32 x)) }
noncomputable def ct_bits : Ct := fam true (fun x : Nat => ([.c (.im (.flt .f32 x))], [])) oBits
theorem run_bits {x : Nat} (h : isNaNb .f32 x = false) : ct_bits.run [.c (.im (.flt .f32 x))] [] = some (.one { val := .c (.im (.int .u32 x)) }) := by
  have := fam_run' (sc := true) (args := fun x : Nat => ([D.c (.im (.flt .f32 x))], ([] : List (List B)))) (out := oBits) (fun a b h => by simpa using h) x
  simpa [oBits, h, ct_bits] using this
theorem run_bitsN {x : Nat} (h : isNaNb .f32 x = true) : ct_bits.run [.c (.im (.flt .f32 x))] [] = some (.any { y : Nat // isNaNb .f32 y = true } (fun y => { val := .c (.im (.int .u32 y.1)) })) := by
  have := fam_run' (sc := true) (args := fun x : Nat => ([D.c (.im (.flt .f32 x))], ([] : List (List B)))) (out := oBits) (fun a b h => by simpa using h) x
  simpa [oBits, h, ct_bits] using this
theorem ne_nan : Nonempty { y : Nat // isNaNb .f32 y = true } = True := by
  simp only [eq_iff_iff, iff_true]
  exact ⟨⟨qn .f32, qn_nan .f32⟩⟩
theorem law_bits : ExtLaw Try.prog 73 ct_bits := by
  refine fam_ext (fun x => ⟨rfl, by simp [scI], fun fz vs w hl hv => ?_⟩)
  match vs, hl with
  | [v], _ =>
    have h1 := hv 0 _ v rfl rfl
    obtain ⟨y, rfl, he⟩ := h1.flt_inv
    refine ⟨.int .u32 y, .int .u32 y, ?_, ?_, .int _ _⟩
    · rw [run_callFunc_extern (e := Extern.MathFloatBits.float32bits) Try.func73 (by kernel_rfl) (by kernel_rfl) (by kernel_rfl) (by kernel_rfl)]
      rfl
    · unfold oBits
      rcases he with rfl | ⟨h2, h3⟩
      · split
        · rename_i hn; exact ⟨⟨x, hn⟩, rfl⟩
        · rfl
      · rw [if_pos h2]; exact ⟨⟨y, h3⟩, rfl⟩

noncomputable def ct_frombits : Ct := fam true (fun x : Nat => ([.c (.im (.int .u32 x))], [])) (fun x => .one { val := .c (.im (.flt .f32 x)) })
theorem run_frombits (x : Nat) : ct_frombits.run [.c (.im (.int .u32 (x : Int)))] [] = some (.one { val := .c (.im (.flt .f32 x)) }) :=
  fam_run' (fun a b h => by simp only [Prod.mk.injEq, List.cons.injEq, D.c.injEq, C.im.injEq, I.int.injEq] at h; omega) x
theorem law_frombits : ExtLaw Try.prog 72 ct_frombits := by
  refine fam_ext (fun x => ⟨rfl, by simp [scI], fun fz vs w hl hv => ?_⟩)
  match vs, hl with
  | [v], _ =>
    have h1 := hv 0 _ v rfl rfl
    cases h1.int_inv
    refine ⟨.float .f32 x, .flt .f32 x, ?_, rfl, .flt _ _ _ (.inl rfl)⟩
    rw [run_callFunc_extern (e := Extern.MathFloatBits.float32frombits) Try.func72 (by kernel_rfl) (by kernel_rfl) (by kernel_rfl) (by kernel_rfl)]
    rfl

/-! ### isNought, isFinite, IsSubnormal, FlushSmall -/
noncomputable def ct_isNought : Ct := fam true (fun x : Nat => ([.c (.im (.flt .f32 x))], [])) (fun x => .one { val := .c (.im (.bool (decide ((x : Int) = 0)))) })
theorem run_isNought (x : Nat) : ct_isNought.run [.c (.im (.flt .f32 x))] [] = some (.one { val := .c (.im (.bool (decide ((x : Int) = 0)))) }) := fam_run' (fun a b h => by simpa using h) x
theorem nan_ne0 {x : Nat} (h : isNaNb .f32 x = true) : ((x : Int) = 0) = False := by have := nan_low h; simp; omega
set_option maxRecDepth 100000 in
theorem law_isNought : Law Try.prog 81 ct_isNought := by
  refine fam_law (Env_consX law_bits Env_nil) hmixA Try.func81 rfl rfl (fun x => ⟨okO_im rfl, by simp [Try.f81], ?_⟩)
  cases hn : isNaNb .f32 x with
  | false =>
    try simp -dsimp (maxSteps := 1000000) only [go_sem, List.forall_mem_nil, ↓reduceIte, Nat.reduceEqDiff, Nat.reduceLT, Nat.reduceLeDiff, Nat.reduceAdd, Nat.reduceMul, reduceCtorEq, Try.f81, run_bits hn]
    repeat' (first
      | ((with_reducible refine sl_i ?_ ?_); focus kernel_rfl)
      | ((with_reducible refine ro_i ?_ ?_); focus kernel_rfl)
      | ((with_reducible refine sl_e ?_); kernel_rfl)
      | ((with_reducible refine ro_e ?_); kernel_rfl)
      | ((first | (with_reducible refine gS_d ?_ ?_) | (with_reducible refine gS_dn ?_ ?_) | (with_reducible refine gS_i ?_ ?_)) <;> intro hg <;> (try simp -dsimp (maxSteps := 1000000) only [go_sem, List.forall_mem_nil, ↓reduceIte, Nat.reduceEqDiff, Nat.reduceLT, Nat.reduceLeDiff, Nat.reduceAdd, Nat.reduceMul, reduceCtorEq, Try.f81, run_bits hn, *])))
  | true =>
    try simp -dsimp (maxSteps := 1000000) only [go_sem, List.forall_mem_nil, ↓reduceIte, Nat.reduceEqDiff, Nat.reduceLT, Nat.reduceLeDiff, Nat.reduceAdd, Nat.reduceMul, reduceCtorEq, Try.f81, run_bitsN hn, ne_nan, nan_ne0 hn]
    repeat' (first
      | ((with_reducible refine sl_i ?_ ?_); focus kernel_rfl)
      | ((with_reducible refine ro_i ?_ ?_); focus kernel_rfl)
      | ((with_reducible refine sl_e ?_); kernel_rfl)
      | ((with_reducible refine ro_e ?_); kernel_rfl)
      | ((first | (with_reducible refine gS_d ?_ ?_) | (with_reducible refine gS_dn ?_ ?_) | (with_reducible refine gS_i ?_ ?_)) <;> intro hg <;> (try simp -dsimp (maxSteps := 1000000) only [go_sem, List.forall_mem_nil, ↓reduceIte, Nat.reduceEqDiff, Nat.reduceLT, Nat.reduceLeDiff, Nat.reduceAdd, Nat.reduceMul, reduceCtorEq, Try.f81, run_bitsN hn, ne_nan, nan_ne0 hn, *])))
    rintro ⟨y, hy⟩
    have := nan_low hy
    simp [nan_ne0 hy]
    try omega
noncomputable def ct_isFinite : Ct := fam true (fun x : Nat => ([.c (.im (.flt .f32 x))], [])) (fun x => .one { val := .c (.im (.bool (isFin x))) })
theorem run_isFinite (x : Nat) : ct_isFinite.run [.c (.im (.flt .f32 x))] [] = some (.one { val := .c (.im (.bool (isFin x))) }) := fam_run' (fun a b h => by simpa using h) x
theorem low_le (x : Nat) : decide (((x % 2147483648 : Nat) : Int) ≤ 2139095039) = isFin x := by unfold isFin; rw [decide_eq_decide]; omega
set_option maxRecDepth 100000 in
theorem law_isFinite : Law Try.prog 107 ct_isFinite := by
  refine fam_law (Env_consX law_bits Env_nil) hmixA Try.func107 rfl rfl (fun x => ⟨okO_im rfl, by simp [Try.f107], ?_⟩)
  cases hn : isNaNb .f32 x with
  | false =>
    try simp -dsimp (maxSteps := 1000000) only [go_sem, List.forall_mem_nil, ↓reduceIte, Nat.reduceEqDiff, Nat.reduceLT, Nat.reduceLeDiff, Nat.reduceAdd, Nat.reduceMul, reduceCtorEq, Try.f107, run_bits hn, bits_low, low_le]
    repeat' (first
      | ((with_reducible refine sl_i ?_ ?_); focus kernel_rfl)
      | ((with_reducible refine ro_i ?_ ?_); focus kernel_rfl)
      | ((with_reducible refine sl_e ?_); kernel_rfl)
      | ((with_reducible refine ro_e ?_); kernel_rfl)
      | ((first | (with_reducible refine gS_d ?_ ?_) | (with_reducible refine gS_dn ?_ ?_) | (with_reducible refine gS_i ?_ ?_)) <;> intro hg <;> (try simp -dsimp (maxSteps := 1000000) only [go_sem, List.forall_mem_nil, ↓reduceIte, Nat.reduceEqDiff, Nat.reduceLT, Nat.reduceLeDiff, Nat.reduceAdd, Nat.reduceMul, reduceCtorEq, Try.f107, run_bits hn, bits_low, low_le, *])))
  | true =>
    try simp -dsimp (maxSteps := 1000000) only [go_sem, List.forall_mem_nil, ↓reduceIte, Nat.reduceEqDiff, Nat.reduceLT, Nat.reduceLeDiff, Nat.reduceAdd, Nat.reduceMul, reduceCtorEq, Try.f107, run_bitsN hn, ne_nan, bits_low, low_le, isFin_nan hn]
    repeat' (first
      | ((with_reducible refine sl_i ?_ ?_); focus kernel_rfl)
      | ((with_reducible refine ro_i ?_ ?_); focus kernel_rfl)
      | ((with_reducible refine sl_e ?_); kernel_rfl)
      | ((with_reducible refine ro_e ?_); kernel_rfl)
      | ((first | (with_reducible refine gS_d ?_ ?_) | (with_reducible refine gS_dn ?_ ?_) | (with_reducible refine gS_i ?_ ?_)) <;> intro hg <;> (try simp -dsimp (maxSteps := 1000000) only [go_sem, List.forall_mem_nil, ↓reduceIte, Nat.reduceEqDiff, Nat.reduceLT, Nat.reduceLeDiff, Nat.reduceAdd, Nat.reduceMul, reduceCtorEq, Try.f107, run_bitsN hn, ne_nan, bits_low, low_le, isFin_nan hn, *])))
    rintro ⟨y, hy⟩
    simp [isFin_nan hy]
noncomputable def ct_isSubnormal : Ct := fam true (fun x : Nat => ([.c (.im (.flt .f32 x))], [])) (fun x => .one { val := .c (.im (.bool (isSubn x))) })
theorem run_isSubnormal (x : Nat) : ct_isSubnormal.run [.c (.im (.flt .f32 x))] [] = some (.one { val := .c (.im (.bool (isSubn x))) }) := fam_run' (fun a b h => by simpa using h) x
theorem low_gt (x : Nat) : decide ((0 : Int) < ((x % 2147483648 : Nat) : Int)) = decide (0 < x % 2147483648) := by rw [decide_eq_decide]; omega
theorem low_lt (x : Nat) : decide (((x % 2147483648 : Nat) : Int) < 8388608) = decide (x % 2147483648 < 8388608) := by rw [decide_eq_decide]; omega
set_option maxRecDepth 100000 in
theorem law_isSubnormal : Law Try.prog 71 ct_isSubnormal := by
  refine fam_law (Env_consX law_bits Env_nil) hmixA Try.func71 rfl rfl (fun x => ⟨okO_im rfl, by simp [Try.f71], ?_⟩)
  cases hn : isNaNb .f32 x with
  | false =>
    simp only [isSubn]
    try simp -dsimp (maxSteps := 1000000) only [go_sem, List.forall_mem_nil, ↓reduceIte, Nat.reduceEqDiff, Nat.reduceLT, Nat.reduceLeDiff, Nat.reduceAdd, Nat.reduceMul, reduceCtorEq, Try.f71, run_bits hn, bits_low, low_gt, low_lt]
    repeat' (first
      | ((with_reducible refine sl_i ?_ ?_); focus kernel_rfl)
      | ((with_reducible refine ro_i ?_ ?_); focus kernel_rfl)
      | ((with_reducible refine sl_e ?_); kernel_rfl)
      | ((with_reducible refine ro_e ?_); kernel_rfl)
      | ((first | (with_reducible refine gS_d ?_ ?_) | (with_reducible refine gS_dn ?_ ?_) | (with_reducible refine gS_i ?_ ?_)) <;> intro hg <;> (try simp -dsimp (maxSteps := 1000000) only [go_sem, List.forall_mem_nil, ↓reduceIte, Nat.reduceEqDiff, Nat.reduceLT, Nat.reduceLeDiff, Nat.reduceAdd, Nat.reduceMul, reduceCtorEq, Try.f71, run_bits hn, bits_low, low_gt, low_lt, *])))
    all_goals simp_all
  | true =>
    try simp -dsimp (maxSteps := 1000000) only [go_sem, List.forall_mem_nil, ↓reduceIte, Nat.reduceEqDiff, Nat.reduceLT, Nat.reduceLeDiff, Nat.reduceAdd, Nat.reduceMul, reduceCtorEq, Try.f71, run_bitsN hn, ne_nan, bits_low, low_gt, low_lt, isSubn_nan hn]
    repeat' (first
      | ((with_reducible refine sl_i ?_ ?_); focus kernel_rfl)
      | ((with_reducible refine ro_i ?_ ?_); focus kernel_rfl)
      | ((with_reducible refine sl_e ?_); kernel_rfl)
      | ((with_reducible refine ro_e ?_); kernel_rfl)
      | ((first | (with_reducible refine gS_d ?_ ?_) | (with_reducible refine gS_dn ?_ ?_) | (with_reducible refine gS_i ?_ ?_)) <;> intro hg <;> (try simp -dsimp (maxSteps := 1000000) only [go_sem, List.forall_mem_nil, ↓reduceIte, Nat.reduceEqDiff, Nat.reduceLT, Nat.reduceLeDiff, Nat.reduceAdd, Nat.reduceMul, reduceCtorEq, Try.f71, run_bitsN hn, ne_nan, bits_low, low_gt, low_lt, isSubn_nan hn, *])))
    rintro ⟨y, hy⟩
    have := nan_low hy
    have e1 : decide (0 < y % 2147483648) = true := by simp; omega
    have e2 : decide (y % 2147483648 < 8388608) = false := by simp; omega
    try simp -dsimp (maxSteps := 1000000) only [go_sem, List.forall_mem_nil, ↓reduceIte, Nat.reduceEqDiff, Nat.reduceLT, Nat.reduceLeDiff, Nat.reduceAdd, Nat.reduceMul, reduceCtorEq, Try.f71, e1, e2, low_lt, low_gt, isSubn_nan hn]
    repeat' (first
      | ((with_reducible refine sl_i ?_ ?_); focus kernel_rfl)
      | ((with_reducible refine ro_i ?_ ?_); focus kernel_rfl)
      | ((with_reducible refine sl_e ?_); kernel_rfl)
      | ((with_reducible refine ro_e ?_); kernel_rfl)
      | ((first | (with_reducible refine gS_d ?_ ?_) | (with_reducible refine gS_dn ?_ ?_) | (with_reducible refine gS_i ?_ ?_)) <;> intro hg <;> (try simp -dsimp (maxSteps := 1000000) only [go_sem, List.forall_mem_nil, ↓reduceIte, Nat.reduceEqDiff, Nat.reduceLT, Nat.reduceLeDiff, Nat.reduceAdd, Nat.reduceMul, reduceCtorEq, Try.f71, e1, e2, low_lt, low_gt, isSubn_nan hn, *])))
noncomputable def ct_flush : Ct := fam true (fun x : Nat => ([.c (.im (.flt .f32 x))], [])) (fun x => .one { val := .c (.im (.flt .f32 (flushF x))) })
theorem run_flush (x : Nat) : ct_flush.run [.c (.im (.flt .f32 x))] [] = some (.one { val := .c (.im (.flt .f32 (flushF x))) }) := fam_run' (fun a b h => by simpa using h) x
set_option maxRecDepth 100000 in
theorem law_flush : Law Try.prog 53 ct_flush := by
  refine fam_law (Env_cons law_isSubnormal (Env_consX law_bits (Env_consX law_frombits Env_nil))) hmixA Try.func53 rfl rfl (fun x => ⟨okO_im rfl, by simp [Try.f53], ?_⟩)
  cases hs : isSubn x with
  | false =>
    simp only [flushF, hs]
    try simp -dsimp (maxSteps := 1000000) only [go_sem, List.forall_mem_nil, ↓reduceIte, Nat.reduceEqDiff, Nat.reduceLT, Nat.reduceLeDiff, Nat.reduceAdd, Nat.reduceMul, reduceCtorEq, Try.f53, run_isSubnormal, hs]
    repeat' (first
      | ((with_reducible refine sl_i ?_ ?_); focus kernel_rfl)
      | ((with_reducible refine ro_i ?_ ?_); focus kernel_rfl)
      | ((with_reducible refine sl_e ?_); kernel_rfl)
      | ((with_reducible refine ro_e ?_); kernel_rfl)
      | ((first | (with_reducible refine gS_d ?_ ?_) | (with_reducible refine gS_dn ?_ ?_) | (with_reducible refine gS_i ?_ ?_)) <;> intro hg <;> (try simp -dsimp (maxSteps := 1000000) only [go_sem, List.forall_mem_nil, ↓reduceIte, Nat.reduceEqDiff, Nat.reduceLT, Nat.reduceLeDiff, Nat.reduceAdd, Nat.reduceMul, reduceCtorEq, Try.f53, run_isSubnormal, hs, *])))
  | true =>
    have hn : isNaNb .f32 x = false := by
      cases hn : isNaNb .f32 x with
      | false => rfl
      | true => rw [isSubn_nan hn] at hs; cases hs
    simp only [flushF, hs]
    try simp -dsimp (maxSteps := 1000000) only [go_sem, List.forall_mem_nil, ↓reduceIte, Nat.reduceEqDiff, Nat.reduceLT, Nat.reduceLeDiff, Nat.reduceAdd, Nat.reduceMul, reduceCtorEq, Try.f53, run_isSubnormal, run_bits hn, run_frombits, bits_high, hs]
    repeat' (first
      | ((with_reducible refine sl_i ?_ ?_); focus kernel_rfl)
      | ((with_reducible refine ro_i ?_ ?_); focus kernel_rfl)
      | ((with_reducible refine sl_e ?_); kernel_rfl)
      | ((with_reducible refine ro_e ?_); kernel_rfl)
      | ((first | (with_reducible refine gS_d ?_ ?_) | (with_reducible refine gS_dn ?_ ?_) | (with_reducible refine gS_i ?_ ?_)) <;> intro hg <;> (try simp -dsimp (maxSteps := 1000000) only [go_sem, List.forall_mem_nil, ↓reduceIte, Nat.reduceEqDiff, Nat.reduceLT, Nat.reduceLeDiff, Nat.reduceAdd, Nat.reduceMul, reduceCtorEq, Try.f53, run_isSubnormal, run_bits hn, run_frombits, bits_high, hs, *])))
end Go.SX
