/-
  RunRack without input; plain words of FnTwoOrders.
  No condition.
-/
import Derived.Test.YtbhnlplbfhomcaaRlC
import Derived.Test.YtbhnlplbfhomcaaRlD
set_option linter.unusedVariables false
set_option linter.unusedSimpArgs false
namespace Go.SX
open Go Go.Proofs

theorem run_ARun (a : ARun) : ct_RunRack.run [.agg [.im (.sl 11 (rowsM a.ms)), .im (.sl 2 (rowsC a.cs))], .agg [.im (.int .i64 a.a), .im (.int .i64 a.b)], .c (.im (.sl 1 (rowsZ a.xs))), .c (.im (.int .i64 a.n))] [] = some (oRun a.ms a.cs a.a a.b a.xs a.n) := run_RunRack a.ml a.cl a.xl a.ok a.a a.b a.n
/-- RunRack with nil for its input. -/
structure ARun0 where
  ms : List Mod
  cs : List Cbl
  a : Int
  b : Int
  n : Int
  ml : ms.length ≤ sm
  cl : cs.length ≤ sm
  ok : ∀ m ∈ ms, OkM m
noncomputable def ct_RunRack0 : Ct := fam true (fun x : ARun0 => ([.agg [.im (.sl 11 (rowsM x.ms)), .im (.sl 2 (rowsC x.cs))], .agg [.im (.int .i64 x.a), .im (.int .i64 x.b)], .c .nil, .c (.im (.int .i64 x.n))], [])) (fun x => oRun x.ms x.cs x.a x.b [] x.n)
theorem run_RunRack0 {ms : List Mod} {cs : List Cbl} (h1 : ms.length ≤ sm) (h2 : cs.length ≤ sm) (h5 : ∀ m ∈ ms, OkM m) (a b n : Int) : ct_RunRack0.run [.agg [.im (.sl 11 (rowsM ms)), .im (.sl 2 (rowsC cs))], .agg [.im (.int .i64 a), .im (.int .i64 b)], .c .nil, .c (.im (.int .i64 n))] [] = some (oRun ms cs a b [] n) := by
  refine fam_run' (args := fun x : ARun0 => ([D.agg [.im (.sl 11 (rowsM x.ms)), .im (.sl 2 (rowsC x.cs))], .agg [.im (.int .i64 x.a), .im (.int .i64 x.b)], .c .nil, .c (.im (.int .i64 x.n))], [])) ?_ ⟨ms, cs, a, b, n, h1, h2, h5⟩
  rintro ⟨a, b, c, d, e, _, _, _⟩ ⟨a', b', c', d', e', _, _, _⟩ h
  simp [rowsM_eq, rowsC_eq] at h ⊢
  simp [h]
theorem law_RunRack0 : Law Try.prog 25 ct_RunRack0 :=
  fam_nil law_RunRack run_ARun (fun x => ⟨x.ms, x.cs, x.a, x.b, [], x.n, x.ml, x.cl, by simp, x.ok⟩)
    (fun x => ⟨.cons (.same _) (.cons (.same _) (.cons (.c _ _ (.nil 1)) (.cons (.same _) .nil))), rfl⟩) (fun x => rfl)
theorem sc_RunRack0 : (ct_RunRack0.sc = true) = True := by simp [ct_RunRack0, fam]
theorem sc_RunRack : (ct_RunRack.sc = true) = True := by simp [ct_RunRack, fam]

/-! ### FnTwoOrders -/
def lsA (n : Nat) : List Nat := 1266679808 :: List.replicate n 1065353216
def lsB (n : Nat) : List Nat := List.replicate n 1065353216 ++ [1266679808]
theorem two_c1 : fop .add .f32 0 1266679808 = 1266679808 := by kernel_rfl
theorem two_c2 : fop .add .f32 1266679808 1065353216 = 1266679808 := by kernel_rfl
theorem fw_A (n : Nat) : fwF (lsA n) = 1266679808 := by
  have h : ∀ n, (List.replicate n 1065353216).foldl (fun s x => fop .add .f32 s x) 1266679808 = 1266679808 := by
    intro n
    induction n with
    | zero => rfl
    | succ n ih => rw [List.replicate_succ, List.foldl_cons, two_c2, ih]
  rw [fwF, lsA, List.foldl_cons, two_c1, h]
theorem two_st : (List.range 100).all (fun j => decide (stG (stG (1266679808 + j, 0) 1065353216) 1065353216 = (1266679808 + (j + 1), 0))) = true := by kernel_rfl
theorem two_st0 : stG (0, 0) 1266679808 = (1266679808, 0) := by kernel_rfl
theorem st_A : ∀ m, m ≤ 100 → stF (lsA (2 * m)) = (1266679808 + m, 0)
  | 0, _ => by simp only [stF, lsA, List.replicate, Nat.mul_zero, List.foldl_cons, List.foldl_nil, two_st0]
  | m + 1, h => by
    have ih := st_A m (by omega)
    have e : lsA (2 * (m + 1)) = lsA (2 * m) ++ [1065353216, 1065353216] := by
      rw [lsA, lsA, show 2 * (m + 1) = 2 * m + 1 + 1 by omega, List.replicate_succ', List.replicate_succ', List.append_assoc]; rfl
    have hk := List.all_eq_true.1 two_st m (by simp; omega)
    simp only [stF] at ih ⊢
    rw [e, List.foldl_append, ih]
    simpa using hk
def gD (k : Nat) : Nat := 4715268809856909312 + k * 268435456
theorem two_db : (List.range 200).all (fun k => Nat.beq (fop .add .f64 (gD k) (w64 1065353216)) (gD (k + 1))) = true := by kernel_rfl
theorem two_db0 : fop .add .f64 0 (w64 1266679808) = gD 0 := by kernel_rfl
theorem fold_g {f : Nat → Nat → Nat} {g : Nat → Nat} {x y : Nat} {N : Nat} (h0 : f 0 y = g 0) (h : ∀ k, k < N → f (g k) x = g (k + 1)) (n : Nat) (hn : n ≤ N) : (y :: List.replicate n x).foldl f 0 = g n := by
  induction n with
  | zero => simpa using h0
  | succ n ih =>
    rw [List.replicate_succ', ← List.cons_append, List.foldl_append, ih (by omega)]
    exact h n (by omega)
theorem db_A (n : Nat) (hn : n ≤ 200) : dbF (lsA n) = gD n :=
  fold_g (f := fun s x => fop .add .f64 s (w64 x)) (N := 200) two_db0 (fun k hk => Nat.eq_of_beq_eq_true (List.all_eq_true.1 two_db k (by simp; omega))) n hn
theorem two_fw : (List.range 200).all (fun k => Nat.beq (fop .add .f32 (FloatKind.f32.nearest (k : Int)) 1065353216) (FloatKind.f32.nearest ((k + 1 : Nat) : Int))) = true := by kernel_rfl
theorem fw_ones : ∀ n, n ≤ 200 → (List.replicate n 1065353216).foldl (fun s x => fop .add .f32 s x) 0 = FloatKind.f32.nearest (n : Int)
  | 0, _ => by kernel_rfl
  | n + 1, h => by
    have hk := Nat.eq_of_beq_eq_true (List.all_eq_true.1 two_fw n (by simp; omega))
    rw [List.replicate_succ', List.foldl_append, fw_ones n (by omega)]
    exact hk
def twoB (m : Nat) : Bool := !(fcmp .neq .f32 (1266679808 + m) (fop .add .f32 1266679808 (FloatKind.f32.nearest (2 * (m : Int))))) &&
  (!(fcmp .neq .f64 (gD (2 * m)) (fop .add .f64 4715268809856909312 (FloatKind.f64.nearest (2 * (m : Int))))) && !(fcmp .neq .f32 (fop .add .f32 (FloatKind.f32.nearest ((2 * m : Nat) : Int)) 1266679808) (fop .add .f32 1266679808 (FloatKind.f32.nearest (2 * (m : Int))))))
theorem two_all : (List.range 101).all twoB = true := by kernel_rfl
theorem two_neq : fcmp .neq .f32 1266679808 1266679808 = false := by kernel_rfl
theorem two_at {m : Nat} (h : m ≤ 100) : fcmp .neq .f32 (fwF (lsA (2 * m))) 1266679808 = false ∧ fcmp .neq .f32 (stF (lsA (2 * m))).1 (fop .add .f32 1266679808 (FloatKind.f32.nearest (2 * (m : Int)))) = false ∧
    fcmp .neq .f64 (dbF (lsA (2 * m))) (fop .add .f64 4715268809856909312 (FloatKind.f64.nearest (2 * (m : Int)))) = false ∧ fcmp .neq .f32 (fwF (lsB (2 * m))) (fop .add .f32 1266679808 (FloatKind.f32.nearest (2 * (m : Int)))) = false := by
  have hB : fwF (lsB (2 * m)) = fop .add .f32 (FloatKind.f32.nearest ((2 * m : Nat) : Int)) 1266679808 := by
    rw [fwF, lsB, List.foldl_append, fw_ones _ (by omega)]; rfl
  have h1 := List.all_eq_true.1 two_all m (by simp; omega)
  simp only [twoB, Bool.and_eq_true, Bool.not_eq_true'] at h1
  rw [fw_A, st_A m h, db_A _ (by omega), hB]
  exact ⟨two_neq, h1.1, h1.2.1, h1.2.2⟩
def msT : List Mod := [mSrc (1065353216, 0) (1266679808, 0), mSrc (1065353216, 0) (1065353216, 0), mSum]
def csT : List Cbl := [(0, 2), (1, 2), (1, 2)]
def csU : List Cbl := [(1, 2), (1, 2), (0, 2)]
theorem canT : canRunF msT csT (-1) 2 1 = true := by kernel_rfl
theorem canU : canRunF msT csU (-1) 2 1 = true := by kernel_rfl
theorem ordT : ordL msT csT = [0, 1, 2] := rfl
theorem ordU : ordL msT csU = [0, 1, 2] := rfl
theorem sumT : addPt (addPt (addPt (0, 0) (1266679808, 0)) (1065353216, 0)) (1065353216, 0) = (1266679808, 0) := by kernel_rfl
theorem sumU : addPt (addPt (addPt (0, 0) (1065353216, 0)) (1065353216, 0)) (1266679808, 0) = (1266679809, 0) := by kernel_rfl
theorem runT (O : Nat → Nat → Or) : (runS O csT (-1) 2 [] msT 1).2 = [(1266679808, 0)] := by
  simp only [runS, stepRackF, ordT]
  simp [sweep, sweep1, msT, outs0, inSum, feedsF, csT, stepF, mSrc, mSum]
  exact sumT
theorem runU (O : Nat → Nat → Or) : (runS O csU (-1) 2 [] msT 1).2 = [(1266679809, 0)] := by
  simp only [runS, stepRackF, ordU]
  simp [sweep, sweep1, msT, outs0, inSum, feedsF, csU, stepF, mSrc, mSum]
  exact sumU
end Go.SX
