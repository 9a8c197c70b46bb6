/-
  impl.ParseSingle, singleOf.
  impl.singleOf; the reader: take, integer, single, point.
  impl.ParseModule.
  Double precision: halves, doubles, whole parts, comparisons of m * 2 ^ e.
  No condition.
-/
import Derived.Test.YtfmpjhjnpeheeaaGreatDoorPkJ
set_option linter.unusedVariables false
set_option linter.unusedSimpArgs false
namespace Go.SX
open Go Go.Proofs Ieee
theorem eql0_no {r : Nat} (h0 : 0 < r) (h1 : r < 2139095040) (s : Bool) : fcmp .eql .f32 (single.word s r) 0 = false := by
 have hr := zEn (f := single) (by decide) (r := r) (by rw [ir1]; exact h1) s
 have hz : single.read 0 = .number false 0 (-149) := by decide
 show (single.order (single.word s r) 0 == some .eq) = false
 unfold Format.order
 rw [hr, hz]
 simp only [Datum.order]
 have hp := zFf h0
 have h2 : ∀ k, signed false 0 k = 0 := fun k => by simp [signed]
 rw [h2]
 obtain ⟨k, hk⟩ : ∃ k, (rgE single r - min (rgE single r) (-149)).toNat = k := ⟨_, rfl⟩
 rw [hk]
 have hX := Nat.mul_pos hp (Nat.two_pow_pos k)
 generalize hx : rgM single r * 2 ^ k = X at hX
 have hne : signed s (rgM single r) k ≠ 0 := by
   cases s <;> simp [signed, zEc, hx] <;> omega
 have : compare (signed s (rgM single r) k) 0 ≠ .eq := by
   simp only [compare, compareOfLessAndEq]
   split
   · simp
   · simp [hne]
 cases hc : compare (signed s (rgM single r) k) 0 with
 | lt => rfl
 | eq => exact absurd hc this
 | gt => rfl
set_option maxRecDepth 100000 in
set_option maxHeartbeats 8000000 in
theorem law_ParseSingle : Law Tryz.prog 185 ct_ParseSingle := by
 refine zAf (zAc law_CutPrefix (zAc law_Cut (zAc law_number (zAc law_Ldexp (zAc zHe (zCn law_frombits zAe)))))) hmixA Tryz.func185 rfl rfl (fun ⟨s, hs⟩ => ⟨okO_ps s, by simp [Tryz.f185], ?_⟩)
 simp only [oPs] at hs ⊢
 have rcp := run_CutPrefix hs 45
 have hcl := cutP_len 45 s
 have rfb : ct_frombits.run [.c (.im (.int .u32 2147483648))] [] = some (.one { val := .c (.im (.flt .f32 2147483648)) }) := run_frombits 2147483648
 simp only [oCp] at rcp
 cases hp : prsT s with
 | some w =>
   obtain ⟨hw, hT⟩ := prsT_some hp
   have ho : prsO s = (w, true) := by simp [prsO, hp]
   rw [ho]
   rw [← hT, cutP_fmt hw, hT] at rcp
   have rfs := zAu hw.lt
   rw [fsT_fin hw, hT] at rfs
   have hse : (s = s) = True := eq_self s
   by_cases hr0 : w % 2147483648 = 0
   · have hm : magT (w % 2147483648) = [48] := by rw [hr0]; rfl
     rw [hm] at rcp
     have t48 : (([48] : Txt) = [48]) = True := eq_self _
     by_cases hneg : 2147483648 ≤ w
     · have hw0 : w = 2147483648 := by have := hw.lt; omega
       subst hw0
       have n0 : fcmp .eql .f32 (Op.negFloat .f32 0) 0 = true := by decide +kernel
       obtain ⟨z, hz⟩ : ∃ z, Op.negFloat .f32 0 = z := ⟨_, rfl⟩
       rw [hz] at n0
       rw [decide_eq_true hneg] at rcp
       generalize (2147483648 : Nat) = w at *
       try simp -dsimp (maxSteps := 1000000) only [go_sem, List.forall_mem_nil, ↓reduceIte, Nat.reduceEqDiff, Nat.reduceLT, Nat.reduceLeDiff, Nat.reduceAdd, Nat.reduceMul, reduceCtorEq, Tryz.f185, rcp, zAz, t48, hz, n0, rfb, rfs, hse, Bool.not_true]
     · have hw0 : w = 0 := by have := hw.lt; omega
       subst hw0
       rw [decide_eq_false hneg] at rcp
       try simp -dsimp (maxSteps := 1000000) only [go_sem, List.forall_mem_nil, ↓reduceIte, Nat.reduceEqDiff, Nat.reduceLT, Nat.reduceLeDiff, Nat.reduceAdd, Nat.reduceMul, reduceCtorEq, Tryz.f185, rcp, zAz, t48, rfs, hse, Bool.not_true]
   · obtain ⟨r, hr⟩ : ∃ r, w % 2147483648 = r := ⟨_, rfl⟩
     have hrf := hw.fin
     rw [hr] at hr0 hrf rcp
     have hrp := Nat.pos_of_ne_zero hr0
     have hmd := md_of hrp hrf
     have hmag : magT r = Lib.itoa (mdM r) ++ 112 :: Lib.itoa (mdE r) := by simp [magT, hr0]
     have b1 : i64B ((mdM r : Nat) : Int) := ⟨by omega, by have := hmd.lt; omega⟩
     have b2 : i64B (mdE r) := ⟨by have := hmd.lo; omega, by have := hmd.hi; omega⟩
     have hml : (magT r).length ≤ 2097152 := by
       rw [hmag, List.length_append, List.length_cons]
       have := zBv b1
       have := zBv b2
       omega
     have rc := run_Cut hml 112
     simp only [oCut] at rc
     have hcut : Lib.cut (magT r) [112] = (Lib.itoa (mdM r), Lib.itoa (mdE r), true) := by rw [hmag]; exact cut_at (itoa_noP _)
     rw [hcut] at rc
     have rn1 := zFd (s := Lib.itoa (mdM r)) (by have := zBv b1; omega)
     have rn2 := zFd (s := Lib.itoa (mdE r)) (by have := zBv b2; omega)
     rw [numF_itoa b1.1 b1.2] at rn1
     rw [numF_itoa b2.1 b2.2] at rn2
     have hne48 : (magT r = [48]) = False := eq_false (fun e => by
       have : (112 : UInt8) ∈ magT r := by rw [hmag]; simp
       rw [e] at this; simp at this)
     have rl := run_Ldexp (m := mdM r) (e := mdE r) hmd.pos hmd.lt (by have := hmd.lo; omega) (by have := hmd.hi; omega)
     have hfl := nearest_dW (m := mdM r)
     have hfc := fconv_narrow (m := mdM r) (e := mdE r) ⟨hmd.pos, by have := hmd.lt; omega, by have := hmd.lo; omega, by have := hmd.hi; omega⟩ hrp hrf hmd.sv
     have k1 : (((mdM r : Nat) : Int) < 1) = False := eq_false (by have := hmd.pos; omega)
     have k2 : ((16777216 : Int) ≤ ((mdM r : Nat) : Int)) = False := eq_false (by have := hmd.lt; omega)
     have k3 : (mdE r < -200) = False := eq_false (by have := hmd.lo; omega)
     have k4 : ((200 : Int) < mdE r) = False := eq_false (by have := hmd.hi; omega)
     clear hmag hcut hmd hml b1 b2
     generalize Lib.itoa (mdM r) = A at *
     generalize Lib.itoa (mdE r) = B at *
     generalize magT r = T at *
     generalize dW (mdM r) (mdE r) = y at *
     generalize dW (mdM r) 0 = y0 at *
     generalize mdE r = E at *
     by_cases hneg : 2147483648 ≤ w
     · have hx : Op.negFloat .f32 r = w := by rw [neg32 (by omega)]; have := hw.lt; omega
       have e0 : fcmp .eql .f32 w 0 = false := by
         have := eql0_no hrp hrf true
         have hww : single.word true r = w := by
           unfold Format.word; rw [sw1, if_pos rfl]; have := hw.lt; omega
         rw [hww] at this; exact this
       rw [decide_eq_true hneg] at rcp
       try simp -dsimp (maxSteps := 1000000) only [go_sem, List.forall_mem_nil, ↓reduceIte, Nat.reduceEqDiff, Nat.reduceLT, Nat.reduceLeDiff, Nat.reduceAdd, Nat.reduceMul, reduceCtorEq, Tryz.f185, rcp, zAz, hne48, rc, rn1, rn2, k1, k2, k3, k4, hfl, rl, hfc, hx, e0, rfs, hse, Bool.not_true, Bool.not_false, Bool.or_self, Int.reduceNeg]
     · have hx : r = w := by have := hw.lt; omega
       subst hx
       rw [decide_eq_false hneg] at rcp
       try simp -dsimp (maxSteps := 1000000) only [go_sem, List.forall_mem_nil, ↓reduceIte, Nat.reduceEqDiff, Nat.reduceLT, Nat.reduceLeDiff, Nat.reduceAdd, Nat.reduceMul, reduceCtorEq, Tryz.f185, rcp, zAz, hne48, rc, rn1, rn2, k1, k2, k3, k4, hfl, rl, hfc, rfs, hse, Bool.not_true, Bool.not_false, Bool.or_self, Int.reduceNeg]
 | none =>
   have ho : prsO s = (0, false) := by simp [prsO, hp]
   rw [ho]
   obtain ⟨T, ng, hcp⟩ : ∃ T ng, cutP 45 s = (T, ng) := ⟨_, _, rfl⟩
   rw [hcp] at rcp hcl
   simp only at rcp hcl
   have h48 : T ≠ [48] := fun e => by
     subst e
     have hsT : s = [48] ∨ s = [45, 48] := by
       cases s with
       | nil => simp [cutP] at hcp
       | cons b t =>
         simp only [cutP] at hcp
         split at hcp
         · rename_i hb
           simp only [Prod.mk.injEq] at hcp
           right; rw [hb, hcp.1]
         · simp only [Prod.mk.injEq] at hcp
           left; exact hcp.1
     rcases hsT with e | e
     · exact prsT_none hp (w := 0) ⟨by omega, by omega⟩ (by rw [e]; decide)
     · exact prsT_none hp (w := 2147483648) ⟨by omega, by omega⟩ (by rw [e]; decide)
   have hne48 := eq_false h48
   have rc := run_Cut (s := T) (by omega) 112
   simp only [oCut] at rc
   obtain ⟨cl1, cl2⟩ := cut_len T 112
   obtain ⟨A, B, f, hcut⟩ : ∃ A B f, Lib.cut T [112] = (A, B, f) := ⟨_, _, _, rfl⟩
   rw [hcut] at rc cl1 cl2
   simp only at rc cl1 cl2
   have rn1 := zFd (s := A) (by omega)
   have rn2 := zFd (s := B) (by omega)
   cases o1 : (numF A).2 with
   | false =>
     rw [o1] at rn1
     try simp -dsimp (maxSteps := 1000000) only [go_sem, List.forall_mem_nil, ↓reduceIte, Nat.reduceEqDiff, Nat.reduceLT, Nat.reduceLeDiff, Nat.reduceAdd, Nat.reduceMul, reduceCtorEq, Tryz.f185, rcp, zAz, hne48, rc, rn1, rn2, Bool.not_true, Bool.not_false]
   | true =>
   cases o2 : (numF B).2 with
   | false =>
     rw [o1] at rn1
     rw [o2] at rn2
     try simp -dsimp (maxSteps := 1000000) only [go_sem, List.forall_mem_nil, ↓reduceIte, Nat.reduceEqDiff, Nat.reduceLT, Nat.reduceLeDiff, Nat.reduceAdd, Nat.reduceMul, reduceCtorEq, Tryz.f185, rcp, zAz, hne48, rc, rn1, rn2, Bool.not_true, Bool.not_false]
   | true =>
   have hse : s ≠ [] := fun e => by
     subst e
     simp [cutP] at hcp
     obtain ⟨rfl, rfl⟩ := hcp
     have : Lib.cut [] [112] = ([], [], false) := cut_none (by simp)
     rw [this] at hcut
     simp only [Prod.mk.injEq] at hcut
     obtain ⟨rfl, -, -⟩ := hcut
     have : numF [] = (0, false) := by decide
     rw [this] at o1; cases o1
   rw [o1] at rn1
   rw [o2] at rn2
   generalize (numF A).1 = m at *
   generalize (numF B).1 = E at *
   have key : ∀ x, x < 4294967296 → ((fsT x = s) = False) ∧ zDz.run [.c (.im (.flt .f32 x))] [] = some (.one { val := .c (.im (.str ⟨(fsT x).toArray⟩)) }) := fun x hx => ⟨eq_false (fsT_none hp hse hx), zAu hx⟩
   by_cases k1 : m < 1
   · have k1 := eq_true k1
     try simp -dsimp (maxSteps := 1000000) only [go_sem, List.forall_mem_nil, ↓reduceIte, Nat.reduceEqDiff, Nat.reduceLT, Nat.reduceLeDiff, Nat.reduceAdd, Nat.reduceMul, reduceCtorEq, Tryz.f185, rcp, zAz, hne48, rc, rn1, rn2, k1, Bool.not_true, Bool.not_false, Bool.or_self, Int.reduceNeg]
   by_cases k2 : 16777216 ≤ m
   · have k1 := eq_false k1
     have k2 := eq_true k2
     try simp -dsimp (maxSteps := 1000000) only [go_sem, List.forall_mem_nil, ↓reduceIte, Nat.reduceEqDiff, Nat.reduceLT, Nat.reduceLeDiff, Nat.reduceAdd, Nat.reduceMul, reduceCtorEq, Tryz.f185, rcp, zAz, hne48, rc, rn1, rn2, k1, k2, Bool.not_true, Bool.not_false, Bool.or_self, Int.reduceNeg]
   by_cases k3 : E < -200
   · have k1 := eq_false k1
     have k2 := eq_false k2
     have k3 := eq_true k3
     try simp -dsimp (maxSteps := 1000000) only [go_sem, List.forall_mem_nil, ↓reduceIte, Nat.reduceEqDiff, Nat.reduceLT, Nat.reduceLeDiff, Nat.reduceAdd, Nat.reduceMul, reduceCtorEq, Tryz.f185, rcp, zAz, hne48, rc, rn1, rn2, k1, k2, k3, Bool.not_true, Bool.not_false, Bool.or_self, Int.reduceNeg]
   by_cases k4 : 200 < E
   · have k1 := eq_false k1
     have k2 := eq_false k2
     have k3 := eq_false k3
     have k4 := eq_true k4
     try simp -dsimp (maxSteps := 1000000) only [go_sem, List.forall_mem_nil, ↓reduceIte, Nat.reduceEqDiff, Nat.reduceLT, Nat.reduceLeDiff, Nat.reduceAdd, Nat.reduceMul, reduceCtorEq, Tryz.f185, rcp, zAz, hne48, rc, rn1, rn2, k1, k2, k3, k4, Bool.not_true, Bool.not_false, Bool.or_self, Int.reduceNeg]
   obtain ⟨mn, rfl⟩ : ∃ n : Nat, m = (n : Int) := ⟨m.toNat, by omega⟩
   have rl := run_Ldexp (m := mn) (e := E) (by omega) (by omega) (by omega) (by omega)
   have hfl := nearest_dW (m := mn)
   have k1 := eq_false k1
   have k2 := eq_false k2
   have k3 := eq_false k3
   have k4 := eq_false k4
   generalize dW mn E = y at *
   generalize dW mn 0 = y0 at *
   clear hcp hcut h48 o1 o2
   have fin : ∀ x, x < 4294967296 → ∃ x', x' = Op.negFloat .f32 x ∧ x' < 4294967296 := fun x hx => ⟨_, rfl, zEw hx⟩
   cases hfc : fconv .f64 y .f32 with
   | some x =>
     have hx := fconv_lt hfc
     obtain ⟨q1, q2⟩ := key x hx
     cases ng with
     | false =>
       try simp -dsimp (maxSteps := 1000000) only [go_sem, List.forall_mem_nil, ↓reduceIte, Nat.reduceEqDiff, Nat.reduceLT, Nat.reduceLeDiff, Nat.reduceAdd, Nat.reduceMul, reduceCtorEq, Tryz.f185, rcp, zAz, hne48, rc, rn1, rn2, k1, k2, k3, k4, hfl, rl, hfc, q1, q2, Bool.not_true, Bool.not_false, Bool.or_self, Int.reduceNeg]
     | true =>
       obtain ⟨x', hx', hl'⟩ := fin x hx
       obtain ⟨q3, q4⟩ := key x' hl'
       have hx'' := hx'.symm
       cases hz : fcmp .eql .f32 x' 0 with
       | false =>
         try simp -dsimp (maxSteps := 1000000) only [go_sem, List.forall_mem_nil, ↓reduceIte, Nat.reduceEqDiff, Nat.reduceLT, Nat.reduceLeDiff, Nat.reduceAdd, Nat.reduceMul, reduceCtorEq, Tryz.f185, rcp, zAz, hne48, rc, rn1, rn2, k1, k2, k3, k4, hfl, rl, hfc, hx'', hz, q3, q4, Bool.not_true, Bool.not_false, Bool.or_self, Int.reduceNeg]
       | true =>
         obtain ⟨q5, q6⟩ := key 2147483648 (by omega)
         generalize (2147483648 : Nat) = z at *
         try simp -dsimp (maxSteps := 1000000) only [go_sem, List.forall_mem_nil, ↓reduceIte, Nat.reduceEqDiff, Nat.reduceLT, Nat.reduceLeDiff, Nat.reduceAdd, Nat.reduceMul, reduceCtorEq, Tryz.f185, rcp, zAz, hne48, rc, rn1, rn2, k1, k2, k3, k4, hfl, rl, hfc, hx'', hz, rfb, q5, q6, Bool.not_true, Bool.not_false, Bool.or_self, Int.reduceNeg]
   | none =>
     cases ng with
     | false =>
       try simp -dsimp (maxSteps := 1000000) only [go_sem, List.forall_mem_nil, ↓reduceIte, Nat.reduceEqDiff, Nat.reduceLT, Nat.reduceLeDiff, Nat.reduceAdd, Nat.reduceMul, reduceCtorEq, Tryz.f185, rcp, zAz, hne48, rc, rn1, rn2, k1, k2, k3, k4, hfl, rl, hfc, cKn, Bool.not_true, Bool.not_false, Bool.or_self, Int.reduceNeg]
       intro x hx
       obtain ⟨q1, q2⟩ := key x hx
       try simp -dsimp (maxSteps := 1000000) only [go_sem, List.forall_mem_nil, ↓reduceIte, Nat.reduceEqDiff, Nat.reduceLT, Nat.reduceLeDiff, Nat.reduceAdd, Nat.reduceMul, reduceCtorEq, Tryz.f185, q1, q2, zAz, Bool.not_true, Bool.not_false]
     | true =>
       try simp -dsimp (maxSteps := 1000000) only [go_sem, List.forall_mem_nil, ↓reduceIte, Nat.reduceEqDiff, Nat.reduceLT, Nat.reduceLeDiff, Nat.reduceAdd, Nat.reduceMul, reduceCtorEq, Tryz.f185, rcp, zAz, hne48, rc, rn1, rn2, k1, k2, k3, k4, hfl, rl, hfc, cKn, Bool.not_true, Bool.not_false, Bool.or_self, Int.reduceNeg]
       intro x hx
       obtain ⟨x', hx', hl'⟩ := fin x hx
       obtain ⟨q3, q4⟩ := key x' hl'
       have hx'' := hx'.symm
       cases hz : fcmp .eql .f32 x' 0 with
       | false =>
         try simp -dsimp (maxSteps := 1000000) only [go_sem, List.forall_mem_nil, ↓reduceIte, Nat.reduceEqDiff, Nat.reduceLT, Nat.reduceLeDiff, Nat.reduceAdd, Nat.reduceMul, reduceCtorEq, Tryz.f185, hx'', hz, q3, q4, zAz, Bool.not_true, Bool.not_false]
       | true =>
         obtain ⟨q5, q6⟩ := key 2147483648 (by omega)
         generalize (2147483648 : Nat) = z at *
         try simp -dsimp (maxSteps := 1000000) only [go_sem, List.forall_mem_nil, ↓reduceIte, Nat.reduceEqDiff, Nat.reduceLT, Nat.reduceLeDiff, Nat.reduceAdd, Nat.reduceMul, reduceCtorEq, Tryz.f185, hx'', hz, rfb, q5, q6, zAz, Bool.not_true, Bool.not_false]
end Go.SX
namespace Go.SX
open Go Go.Proofs Ieee
noncomputable def oSg (s : Txt) : Outs := .one { val := .tup [.c (.im (.flt .f32 (sglP s).1)), .c (.im (.bool (sglP s).2))] }
theorem okO_sg (s : Txt) {sc : Bool} : ∀ res, (oSg s).mem res → OkR sc res := okO ⟨.tup _ (by intro d hd; simp at hd; rcases hd with rfl | rfl <;> exact .inl ⟨_, rfl, zCg rfl⟩), by simp, by simp⟩
noncomputable def ct_singleOf : Ct := fam true (fun s : S21 => ([.c (.im (.str ⟨s.1.toArray⟩))], [])) (fun s => oSg s.1)
theorem run_singleOf {s : Txt} (h : s.length ≤ 2097152) : ct_singleOf.run [.c (.im (.str ⟨s.toArray⟩))] [] = some (oSg s) :=
 zAd (args := fun s : S21 => ([D.c (.im (.str ⟨s.1.toArray⟩))], [])) S21_inj ⟨s, h⟩
theorem fc_nan : fconv .f64 9221120237041090561 .f32 = some (qn .f32) := by decide +kernel
theorem fc_inf : fconv .f64 9218868437227405312 .f32 = some 2139095040 := by decide +kernel
theorem fc_ninf : fconv .f64 18442240474082181120 .f32 = some 4286578688 := by decide +kernel
set_option maxRecDepth 100000 in
set_option maxHeartbeats 4000000 in
theorem law_singleOf : Law Tryz.prog 103 ct_singleOf := by
 refine zAf (zAc law_mNaN (zAc law_mInf (zAc law_ParseSingle zAe))) hmixA Tryz.func103 rfl rfl (fun ⟨s, hs⟩ => ⟨okO_sg s, by simp [Tryz.f103], ?_⟩)
 simp only [oSg] at hs ⊢
 have r1 := run_mNaN
 have r2 := run_mInf1
 have r3 := run_mInf2
 have f1 := fc_nan
 have f2 := fc_inf
 have f3 := fc_ninf
 by_cases h1 : s = [110, 97, 110]
 · have ho : sglP s = (qn .f32, true) := by simp [sglP, h1, nanT]
   have h1 := eq_true h1
   rw [ho]
   generalize qn .f32 = Q at *
   generalize (9221120237041090561 : Nat) = X1 at *
   try simp -dsimp (maxSteps := 1000000) only [go_sem, List.forall_mem_nil, ↓reduceIte, Nat.reduceEqDiff, Nat.reduceLT, Nat.reduceLeDiff, Nat.reduceAdd, Nat.reduceMul, reduceCtorEq, Tryz.f103, zAz, h1, r1, f1]
 by_cases h2 : s = [105, 110, 102]
 · have ho : sglP s = (2139095040, true) := by simp [sglP, h2, nanT, infT]
   have h1 := eq_false h1
   have h2 := eq_true h2
   rw [ho]
   generalize (9218868437227405312 : Nat) = X1 at *
   generalize (2139095040 : Nat) = X2 at *
   try simp -dsimp (maxSteps := 1000000) only [go_sem, List.forall_mem_nil, ↓reduceIte, Nat.reduceEqDiff, Nat.reduceLT, Nat.reduceLeDiff, Nat.reduceAdd, Nat.reduceMul, reduceCtorEq, Tryz.f103, zAz, h1, h2, r2, f2]
 by_cases h3 : s = [45, 105, 110, 102]
 · have ho : sglP s = (4286578688, true) := by simp [sglP, h3, nanT, infT, ninfT]
   have h1 := eq_false h1
   have h2 := eq_false h2
   have h3 := eq_true h3
   rw [ho]
   generalize (18442240474082181120 : Nat) = X1 at *
   generalize (4286578688 : Nat) = X2 at *
   try simp -dsimp (maxSteps := 1000000) only [go_sem, List.forall_mem_nil, ↓reduceIte, Nat.reduceEqDiff, Nat.reduceLT, Nat.reduceLeDiff, Nat.reduceAdd, Nat.reduceMul, reduceCtorEq, Tryz.f103, zAz, h1, h2, h3, r3, f3]
 have ho : sglP s = prsO s := by unfold sglP prsO; rw [if_neg (show ¬ s = nanT from h1), if_neg (show ¬ s = infT from h2), if_neg (show ¬ s = ninfT from h3)]; cases prsT s <;> rfl
 have rp := run_ParseSingle hs
 simp only [oPs] at rp
 rw [ho]
 have h1 := eq_false h1
 have h2 := eq_false h2
 have h3 := eq_false h3
 clear r1 r2 r3 f1 f2 f3
 try simp -dsimp (maxSteps := 1000000) only [go_sem, List.forall_mem_nil, ↓reduceIte, Nat.reduceEqDiff, Nat.reduceLT, Nat.reduceLeDiff, Nat.reduceAdd, Nat.reduceMul, reduceCtorEq, Tryz.f103, zAz, h1, h2, h3, rp]
def hsRd (ps : List Txt) (bad : Bool) : List (List B) := [[.t (.im (.sl 1 (rowsS ps))), .t (.im (.bool bad))]]
theorem hsRd_inj {a b : List Txt} {x y : Bool} (h : hsRd a x = hsRd b y) : a = b ∧ x = y := by
 simp only [hsRd, List.cons.injEq, B.t.injEq, T.im.injEq, I.sl.injEq, I.bool.injEq, rowsS_eq, true_and, and_true] at h
 exact h
structure ARd where
 ps : List Txt
 bad : Bool
 h : ps.length ≤ sm
 s : ∀ p ∈ ps, p.length ≤ 2097152
theorem okR_hsRd {v : D} {ps : List Txt} {bad : Bool} (hv : OkD false 0 v) : OkR false { val := v, places := hsRd ps bad } := by
 refine ⟨hv, by simp, fun c hc x hx => ?_⟩
 simp only [hsRd, List.mem_cons, List.not_mem_nil, or_false] at hc
 subst hc
 simp only [List.mem_cons, List.not_mem_nil, or_false] at hx
 rcases hx with rfl | rfl
 · exact .t _ (.im _ (.inl rfl))
 · exact .t _ (.im _ (.inl rfl))
def takF (ps : List Txt) (bad : Bool) : Txt × List Txt × Bool := match ps with
 | [] => ([], [], true)
 | p :: t => (p, t, bad)
theorem rd_inj : ∀ a b : ARd, ([D.c (.ptr 0 0 0 0)], hsRd a.ps a.bad) = ([D.c (.ptr 0 0 0 0)], hsRd b.ps b.bad) → a = b := by
 rintro ⟨a, x, _, _⟩ ⟨b, y, _, _⟩ h
 simp only [Prod.mk.injEq, true_and] at h
 obtain ⟨rfl, rfl⟩ := hsRd_inj h
 rfl
noncomputable def ct_take : Ct := fam false (fun x : ARd => ([.c (.ptr 0 0 0 0)], hsRd x.ps x.bad)) (fun x => .one { val := .c (.im (.str ⟨(takF x.ps x.bad).1.toArray⟩)), places := hsRd (takF x.ps x.bad).2.1 (takF x.ps x.bad).2.2 })
theorem run_take {ps : List Txt} {bad : Bool} (h : ps.length ≤ sm) (s : ∀ p ∈ ps, p.length ≤ 2097152) : ct_take.run [.c (.ptr 0 0 0 0)] [[.t (.im (.sl 1 (rowsS ps))), .t (.im (.bool bad))]] = some (.one { val := .c (.im (.str ⟨(takF ps bad).1.toArray⟩)), places := hsRd (takF ps bad).2.1 (takF ps bad).2.2 }) :=
 zAd (args := fun x : ARd => ([D.c (.ptr 0 0 0 0)], hsRd x.ps x.bad)) rd_inj ⟨ps, bad, h, s⟩
set_option maxRecDepth 100000 in
theorem law_take : Law Tryz.prog 40 ct_take := by
 refine zAf zAe hmixA Tryz.func40 rfl rfl (fun ⟨ps, bad, h, hs⟩ => ⟨okO (okR_hsRd (.c _ (.im _ (.inl rfl)))), by simp [Tryz.f40], ?_⟩)
 simp only [hsRd]
 have c0 : ((0 : Nat) : Int) = 0 := rfl
 cases ps with
 | nil =>
   simp only [takF, zAt]
   try simp -dsimp (maxSteps := 1000000) only [go_sem, List.forall_mem_nil, ↓reduceIte, Nat.reduceEqDiff, Nat.reduceLT, Nat.reduceLeDiff, Nat.reduceAdd, Nat.reduceMul, reduceCtorEq, Tryz.f40, c0]
 | cons p t =>
   have h1 : (((t.length + 1 : Nat) : Int) = 0) = False := eq_false (by omega)
   have h2 : ((0 : Int) < ((t.length + 1 : Nat) : Int)) = True := eq_true (by omega)
   have h3 : ((1 : Int) ≤ ((t.length + 1 : Nat) : Int)) = True := eq_true (by omega)
   have h4 : List.drop 1 (List.take (t.length + 1) ([I.str ⟨p.toArray⟩] :: rowsS t)) = rowsS t := by rw [List.take_of_length_le (by simp [zBo])]; rfl
   simp only [takF, zCy]
   try simp -dsimp (maxSteps := 1000000) only [go_sem, List.forall_mem_nil, ↓reduceIte, Nat.reduceEqDiff, Nat.reduceLT, Nat.reduceLeDiff, Nat.reduceAdd, Nat.reduceMul, reduceCtorEq, Tryz.f40, h4, zBo, h1, h2, h3, Int.toNat_one, Int.toNat_natCast, List.drop_succ_cons, Int.reduceLE, zCy]
theorem sglP_nil : sglP [] = (0, false) := by
 have hp : prsT [] = none := by
   cases h : prsT [] with
   | none => rfl
   | some w =>
     obtain ⟨h1, h2⟩ := prsT_some h
     exact absurd h2 (fmtT_ne h1)
 unfold sglP
 rw [if_neg (by decide), if_neg (by decide), if_neg (by decide), hp]
theorem numF_nil : numF [] = (0, false) := by decide
theorem sc_take : (ct_take.sc = true) = False := by simp [ct_take, fam]
noncomputable def zGl : Ct := fam false (fun x : ARd => ([.c (.ptr 0 0 0 0)], hsRd x.ps x.bad)) (fun x => .one { val := .c (.im (.flt .f32 (rdS x.ps x.bad).1)), places := hsRd (rdS x.ps x.bad).2.1 (rdS x.ps x.bad).2.2 })
theorem run_single {ps : List Txt} {bad : Bool} (h : ps.length ≤ sm) (s : ∀ p ∈ ps, p.length ≤ 2097152) : zGl.run [.c (.ptr 0 0 0 0)] [[.t (.im (.sl 1 (rowsS ps))), .t (.im (.bool bad))]] = some (.one { val := .c (.im (.flt .f32 (rdS ps bad).1)), places := hsRd (rdS ps bad).2.1 (rdS ps bad).2.2 }) :=
 zAd (args := fun x : ARd => ([D.c (.ptr 0 0 0 0)], hsRd x.ps x.bad)) rd_inj ⟨ps, bad, h, s⟩
set_option maxRecDepth 100000 in
theorem law_single : Law Tryz.prog 43 zGl := by
 refine zAf (zAc law_take (zAc law_singleOf zAe)) hmixA Tryz.func43 rfl rfl (fun ⟨ps, bad, h, hs⟩ => ⟨okO (okR_hsRd (.c _ (.im _ (.inl rfl)))), by simp [Tryz.f43], ?_⟩)
 simp only [hsRd]
 have rt := run_take (bad := bad) h hs
 cases ps with
 | nil =>
   have r0 := run_singleOf (s := []) (by simp)
   simp only [oSg, sglP_nil] at r0
   simp only [takF, hsRd, zAt] at rt
   simp only [rdS, zAt]
   try simp -dsimp (maxSteps := 1000000) only [go_sem, List.forall_mem_nil, ↓reduceIte, Nat.reduceEqDiff, Nat.reduceLT, Nat.reduceLeDiff, Nat.reduceAdd, Nat.reduceMul, reduceCtorEq, Tryz.f43, rt, sc_take, r0, Bool.not_false, Bool.or_true, Bool.true_or]
 | cons p t =>
   have r0 := run_singleOf (s := p) (hs p (by simp))
   simp only [oSg] at r0
   simp only [takF, hsRd, zCy] at rt
   simp only [rdS, zCy]
   cases ho : (sglP p).2 <;> rw [ho] at r0 <;> cases bad
   all_goals (
     try simp -dsimp (maxSteps := 1000000) only [go_sem, List.forall_mem_nil, ↓reduceIte, Nat.reduceEqDiff, Nat.reduceLT, Nat.reduceLeDiff, Nat.reduceAdd, Nat.reduceMul, reduceCtorEq, Tryz.f43, rt, sc_take, r0, Bool.not_false, Bool.not_true, Bool.or_true, Bool.true_or, Bool.false_or, Bool.or_false])
noncomputable def ct_integer : Ct := fam false (fun x : ARd => ([.c (.ptr 0 0 0 0)], hsRd x.ps x.bad)) (fun x => .one { val := .c (.im (.int .i64 (rdI x.ps x.bad).1)), places := hsRd (rdI x.ps x.bad).2.1 (rdI x.ps x.bad).2.2 })
theorem zFj {ps : List Txt} {bad : Bool} (h : ps.length ≤ sm) (s : ∀ p ∈ ps, p.length ≤ 2097152) : ct_integer.run [.c (.ptr 0 0 0 0)] [[.t (.im (.sl 1 (rowsS ps))), .t (.im (.bool bad))]] = some (.one { val := .c (.im (.int .i64 (rdI ps bad).1)), places := hsRd (rdI ps bad).2.1 (rdI ps bad).2.2 }) :=
 zAd (args := fun x : ARd => ([D.c (.ptr 0 0 0 0)], hsRd x.ps x.bad)) rd_inj ⟨ps, bad, h, s⟩
set_option maxRecDepth 100000 in
theorem law_integer : Law Tryz.prog 44 ct_integer := by
 refine zAf (zAc law_take (zAc law_number zAe)) hmixA Tryz.func44 rfl rfl (fun ⟨ps, bad, h, hs⟩ => ⟨okO (okR_hsRd (.c _ (.im _ (.inl rfl)))), by simp [Tryz.f44], ?_⟩)
 simp only [hsRd]
 have rt := run_take (bad := bad) h hs
 cases ps with
 | nil =>
   have r0 := zFd (s := []) (by simp)
   simp only [numF_nil] at r0
   simp only [takF, hsRd, zAt] at rt
   simp only [rdI, zAt]
   try simp -dsimp (maxSteps := 1000000) only [go_sem, List.forall_mem_nil, ↓reduceIte, Nat.reduceEqDiff, Nat.reduceLT, Nat.reduceLeDiff, Nat.reduceAdd, Nat.reduceMul, reduceCtorEq, Tryz.f44, rt, sc_take, r0, Bool.not_false, Bool.or_true, Bool.true_or]
 | cons p t =>
   have r0 := zFd (s := p) (hs p (by simp))
   simp only [takF, hsRd, zCy] at rt
   simp only [rdI, zCy]
   cases ho : (numF p).2 <;> rw [ho] at r0 <;> cases bad
   all_goals (
     try simp -dsimp (maxSteps := 1000000) only [go_sem, List.forall_mem_nil, ↓reduceIte, Nat.reduceEqDiff, Nat.reduceLT, Nat.reduceLeDiff, Nat.reduceAdd, Nat.reduceMul, reduceCtorEq, Tryz.f44, rt, sc_take, r0, Bool.not_false, Bool.not_true, Bool.or_true, Bool.true_or, Bool.false_or, Bool.or_false])
noncomputable def ct_point : Ct := fam false (fun x : ARd => ([.c (.ptr 0 0 0 0)], hsRd x.ps x.bad)) (fun x => .one { val := .c (.im (.cpx .f32 (rdP x.ps x.bad).1.1 (rdP x.ps x.bad).1.2)), places := hsRd (rdP x.ps x.bad).2.1 (rdP x.ps x.bad).2.2 })
theorem zFg {ps : List Txt} {bad : Bool} (h : ps.length ≤ sm) (s : ∀ p ∈ ps, p.length ≤ 2097152) : ct_point.run [.c (.ptr 0 0 0 0)] [[.t (.im (.sl 1 (rowsS ps))), .t (.im (.bool bad))]] = some (.one { val := .c (.im (.cpx .f32 (rdP ps bad).1.1 (rdP ps bad).1.2)), places := hsRd (rdP ps bad).2.1 (rdP ps bad).2.2 }) :=
 zAd (args := fun x : ARd => ([D.c (.ptr 0 0 0 0)], hsRd x.ps x.bad)) rd_inj ⟨ps, bad, h, s⟩
theorem rdS_sub {ps : List Txt} {bad : Bool} (s : ∀ p ∈ ps, p.length ≤ 2097152) : ∀ p ∈ (rdS ps bad).2.1, p.length ≤ 2097152 := by
 cases ps with
 | nil => simp [rdS]
 | cons a t => exact fun p hp => s p (List.mem_cons_of_mem _ hp)
theorem rdI_sub {ps : List Txt} {bad : Bool} (s : ∀ p ∈ ps, p.length ≤ 2097152) : ∀ p ∈ (rdI ps bad).2.1, p.length ≤ 2097152 := by
 cases ps with
 | nil => simp [rdI]
 | cons a t => exact fun p hp => s p (List.mem_cons_of_mem _ hp)
theorem rdP_sub {ps : List Txt} {bad : Bool} (s : ∀ p ∈ ps, p.length ≤ 2097152) : ∀ p ∈ (rdP ps bad).2.1, p.length ≤ 2097152 := rdS_sub (rdS_sub s)
set_option maxRecDepth 100000 in
theorem law_point : Law Tryz.prog 42 ct_point := by
 refine zAf (zAc law_single zAe) hmixA Tryz.func42 rfl rfl (fun ⟨ps, bad, h, hs⟩ => ⟨okO (okR_hsRd (.c _ (.im _ (.inl rfl)))), by simp [Tryz.f42], ?_⟩)
 simp only [hsRd, rdP]
 have r1 := run_single (bad := bad) h hs
 have r2 := run_single (ps := (rdS ps bad).2.1) (bad := (rdS ps bad).2.2) (by rw [rdS_len]; omega) (rdS_sub hs)
 simp only [hsRd] at r1 r2
 generalize rdS (rdS ps bad).2.1 (rdS ps bad).2.2 = Y at *
 generalize rdS ps bad = X at *
 have sc1 : (zGl.sc = true) = False := by simp [zGl, fam]
 try simp -dsimp (maxSteps := 1000000) only [go_sem, List.forall_mem_nil, ↓reduceIte, Nat.reduceEqDiff, Nat.reduceLT, Nat.reduceLeDiff, Nat.reduceAdd, Nat.reduceMul, reduceCtorEq, Tryz.f42, r1, r2, sc1]
end Go.SX
namespace Go.SX
open Go Go.Proofs Ieee
theorem tIZp_app (l : List Pt) (x y : Nat) : tI (rowsZ l) ++ [[T.im (.cpx .f32 x y)]] = tI (rowsZ (l ++ [(x, y)])) := by simp [tI, rowsZ]
theorem tINp_app (l : List Int) (x : Int) : tI (rowsN l) ++ [[T.im (.int .i64 x)]] = tI (rowsN (l ++ [x])) := by simp [tI, rowsN]
theorem MvR_Np (l : List Int) : MvR false (.arr 1 (tI (rowsN l))) = True := eq_true (sc_false _ _)
def kNms : List Txt := [[], [115, 111, 117, 114, 99, 101], [109, 105, 120, 101, 114], [103, 97, 105, 110], [100, 101, 108, 97, 121], [115, 117, 109], [115, 108, 105, 99, 101, 114], [109, 101, 116, 101, 114], [104, 111, 108, 100]]
theorem run_kindNames' : ct_kindNames.run [] [] = some (.one { val := .c (.view 0 1 0 9), roots := [.arr 1 (tI (rowsS kNms))] }) := zBu
theorem sc_rowsS (l : List Txt) : ∀ r ∈ rowsS l, ∀ i ∈ r, scI i = true := by
 intro r hr i hi
 simp only [rowsS, List.mem_map] at hr
 obtain ⟨p, _, rfl⟩ := hr
 simp only [List.mem_singleton] at hi
 subst hi; rfl
def kdF (w : Txt) : Nat → Int
 | 0 => 0
 | k + 1 => if 0 < k ∧ kNms.getD k [] = w then (k : Int) else kdF w k
theorem kdF_all (w : Txt) : kdF w 9 = kindT w := by
 simp only [kdF, kNms, kindT, sourceT, mixerT, gainT, delayT, sumT, slicerT, meterT, holdT, List.getD_cons_succ, List.getD_cons_zero]
 by_cases h1 : [115, 111, 117, 114, 99, 101] = w
 · subst h1; decide
 by_cases h2 : [109, 105, 120, 101, 114] = w
 · subst h2; decide
 by_cases h3 : [103, 97, 105, 110] = w
 · subst h3; decide
 by_cases h4 : [100, 101, 108, 97, 121] = w
 · subst h4; decide
 by_cases h5 : [115, 117, 109] = w
 · subst h5; decide
 by_cases h6 : [115, 108, 105, 99, 101, 114] = w
 · subst h6; decide
 by_cases h7 : [109, 101, 116, 101, 114] = w
 · subst h7; decide
 by_cases h8 : [104, 111, 108, 100] = w
 · subst h8; decide
 simp [h1, h2, h3, h4, h5, h6, h7, h8, Ne.symm h1, Ne.symm h2, Ne.symm h3, Ne.symm h4, Ne.symm h5, Ne.symm h6, Ne.symm h7, Ne.symm h8]
def rModB (m : Mod) (b : Bool) : Res := { val := .tup [.agg [.im (.int .i64 m.kind), .im (.cpx .f32 m.turn.1 m.turn.2), .im (.cpx .f32 m.state.1 m.state.2), .im (.flt .f32 m.level), .view 0 1 0 m.store.length, .im (.int .i64 m.rat), .im (.int .i64 m.rcnt), .view 1 1 0 m.pts.length, .view 2 1 0 m.lab.length, .im (.int .i64 m.count), .im (.int .i64 m.left)], .c (.im (.bool b))], roots := [.arr 1 (tI (rowsZ m.store)), .arr 1 (tI (rowsZ m.pts)), .arr 1 (tI (rowsN m.lab))] }
theorem okR_modB {sc : Bool} {m : Mod} {b : Bool} : OkR sc (rModB m b) := by
 refine ⟨.tup _ (fun d hd => ?_), fun r hr => ?_, by simp [rModB]⟩
 · simp only [rModB, List.mem_cons, List.not_mem_nil, or_false] at hd
   rcases hd with rfl | rfl
   · refine .inr ⟨_, rfl, fun x hx => ?_⟩
     simp only [List.mem_cons, List.not_mem_nil, or_false] at hx
     rcases hx with rfl | rfl | rfl | rfl | rfl | rfl | rfl | rfl | rfl | rfl | rfl <;> first | exact zCg rfl | exact .view _ _ _ _ (by simp [rModB])
   · exact .inl ⟨_, rfl, zCg rfl⟩
 · simp only [rModB, List.mem_cons, List.not_mem_nil, or_false] at hr
   rcases hr with rfl | rfl | rfl
   · exact zGk (zEi _)
   · exact zGk (zEi _)
   · exact zGk (sc_rowsN _)
abbrev S20 := { s : Txt // s.length ≤ 1048576 }
noncomputable def oPm (s : Txt) : Outs := match implM s with
 | some m => .one (rModB m true)
 | none => .one (rModB (mod0 0) false)
noncomputable def ct_ParseModule : Ct := fam true (fun s : S20 => ([.c (.im (.str ⟨s.1.toArray⟩))], [])) (fun s => oPm s.1)
theorem S20_inj : ∀ a b : S20, ([D.c (.im (.str ⟨a.1.toArray⟩))], ([] : List (List B))) = ([D.c (.im (.str ⟨b.1.toArray⟩))], []) → a = b := by
 rintro ⟨a, _⟩ ⟨b, _⟩ h
 simp only [Prod.mk.injEq, List.cons.injEq, D.c.injEq, C.im.injEq, I.str.injEq, ba_inj, true_and, and_true] at h
 exact Subtype.ext h
theorem zDv {s : Txt} (h : s.length ≤ 1048576) : ct_ParseModule.run [.c (.im (.str ⟨s.toArray⟩))] [] = some (oPm s) :=
 zAd (args := fun s : S20 => ([D.c (.im (.str ⟨s.1.toArray⟩))], [])) S20_inj ⟨s, h⟩
theorem okO_pm (s : Txt) {sc : Bool} : ∀ res, (oPm s).mem res → OkR sc res := by
 unfold oPm
 cases implM s with
 | none => exact okO okR_modB
 | some m => exact okO okR_modB
theorem qn_lt : qn .f32 < 4294967296 := by decide
theorem sglP_lt (s : Txt) : (sglP s).1 < 4294967296 := by
 unfold sglP
 split
 · exact qn_lt
 split
 · decide
 split
 · decide
 · cases h : prsT s with
   | none => simp
   | some w => exact (prsT_some h).1.lt
theorem rdS_lt (ps : List Txt) (bad : Bool) : (rdS ps bad).1 < 4294967296 := by
 cases ps with
 | nil => simp [rdS]
 | cons p t => exact sglP_lt p
theorem rdI_b (ps : List Txt) (bad : Bool) : i64B (rdI ps bad).1 := by
 cases ps with
 | nil => simp [rdI, i64B]
 | cons p t => exact numF_bounds p
theorem rdP_lt (ps : List Txt) (bad : Bool) : (rdP ps bad).1.1 < 4294967296 ∧ (rdP ps bad).1.2 < 4294967296 := ⟨rdS_lt _ _, rdS_lt _ _⟩
theorem dlyP_ok : ∀ (n : Nat) (ps : List Txt) (bad : Bool), ps.length ≤ n → (dlyP ps bad).1.length ≤ ps.length ∧ ∀ p ∈ (dlyP ps bad).1, p.1 < 4294967296 ∧ p.2 < 4294967296
 | 0, ps, bad, h => by
   have : ps = [] := List.eq_nil_of_length_eq_zero (by omega)
   subst this
   unfold dlyP; simp
 | n + 1, ps, bad, h => by
   unfold dlyP
   split
   · rename_i hc
     have hl : 0 < ps.length := List.length_pos_iff.2 hc.1
     have ih := dlyP_ok n (rdP ps bad).2.1 (rdP ps bad).2.2 (by rw [zGe]; omega)
     rw [zGe] at ih
     refine ⟨by simp only [List.length_cons]; omega, fun p hp => ?_⟩
     rcases List.mem_cons.1 hp with rfl | hp
     · exact rdP_lt _ _
     · exact ih.2 p hp
   · simp
theorem slcP_ok : ∀ (n : Nat) (ps : List Txt) (bad : Bool), ps.length ≤ n → (slcP ps bad).1.length ≤ ps.length ∧ (slcP ps bad).2.1.length = (slcP ps bad).1.length ∧ (∀ p ∈ (slcP ps bad).1, p.1 < 4294967296 ∧ p.2 < 4294967296) ∧ ∀ x ∈ (slcP ps bad).2.1, i64B x
 | 0, ps, bad, h => by
   have : ps = [] := List.eq_nil_of_length_eq_zero (by omega)
   subst this
   unfold slcP; simp
 | n + 1, ps, bad, h => by
   unfold slcP
   split
   · rename_i hc
     have hl : 0 < ps.length := List.length_pos_iff.2 hc.1
     have ih := slcP_ok n (rdI (rdP ps bad).2.1 (rdP ps bad).2.2).2.1 (rdI (rdP ps bad).2.1 (rdP ps bad).2.2).2.2 (by rw [zGu, zGe]; omega)
     rw [zGu, zGe] at ih
     refine ⟨by simp only [List.length_cons]; omega, by simp only [List.length_cons]; omega, fun p hp => ?_, fun x hx => ?_⟩
     · rcases List.mem_cons.1 hp with rfl | hp
       · exact rdP_lt _ _
       · exact ih.2.2.1 p hp
     · rcases List.mem_cons.1 hx with rfl | hx
       · exact rdI_b _ _
       · exact ih.2.2.2 x hx
   · simp
theorem zAr : (zGz.sc = true) = True := by simp [zGz, fam]
theorem zCc : (ct_point.sc = true) = False := by simp [ct_point, fam]
theorem zCz : (zGl.sc = true) = False := by simp [zGl, fam]
theorem zDk : (ct_integer.sc = true) = False := by simp [ct_integer, fam]
theorem pm_of {s w : Txt} {ps rest : List Txt} {M : Mod} {bd : Bool} (hws : splT 32 s = w :: ps) (hR : readM (kindT w) ps = (M, rest, bd)) :
   oPm s = if bd = false ∧ rest = [] ∧ isModuleF M = true ∧ fmtM M = s then .one (rModB M true) else .one (rModB (mod0 0) false) := by
 have h : implM s = if bd = false ∧ rest = [] ∧ isModuleF M = true ∧ fmtM M = s then some M else none := by
   unfold implM
   rw [hws]
   simp only [hR]
 unfold oPm
 rw [h]
 by_cases hc : bd = false ∧ rest = [] ∧ isModuleF M = true ∧ fmtM M = s
 · rw [if_pos hc, if_pos hc]
 · rw [if_neg hc, if_neg hc]
theorem kindT_cases (w : Txt) : kindT w = 1 ∨ kindT w = 2 ∨ kindT w = 3 ∨ kindT w = 4 ∨ kindT w = 5 ∨ kindT w = 6 ∨ kindT w = 7 ∨ kindT w = 8 ∨ kindT w = 0 := by
 unfold kindT
 repeat' split
 all_goals simp
set_option maxRecDepth 100000 in
set_option maxHeartbeats 16000000 in
theorem law_ParseModule : Law Tryz.prog 8 ct_ParseModule := by
 refine zBl (zAc law_Split (zAc law_take (zAc law_kindNames (zAc law_point (zAc law_single (zAc law_integer (zAc zDp (zAc zHf zAe)))))))) hmixA Tryz.func8 rfl rfl (fun ⟨s, hs⟩ => ⟨okO_pm s, by simp [Tryz.f8], ?_⟩)
 simp only at hs ⊢
 have hsm : sm = 16777216 := rfl
 have c9 : ((9 : Nat) : Int) = 9 := rfl
 have MvR_S : MvR false (.arr 1 (tI (rowsS kNms))) = True := eq_true (zGk (sc_rowsS _))
 have rsp := run_Split (s := s) (by omega) 32
 obtain ⟨w, ps, hws⟩ : ∃ w ps, splT 32 s = w :: ps := by
   cases h : splT 32 s with
   | nil => exact absurd h (splT_ne _ _)
   | cons w ps => exact ⟨w, ps, rfl⟩
 have hlen := splT_len 32 s
 have hsub := splT_sub 32 s
 rw [hws] at hlen hsub rsp
 have hlp : (w :: ps).length ≤ sm := by omega
 have hp21 : ∀ p ∈ w :: ps, p.length ≤ 2097152 := fun p hp => by have := hsub p hp; omega
 have rt := run_take (ps := w :: ps) (bad := false) hlp hp21
 simp only [takF, hsRd] at rt
 try simp -dsimp (maxSteps := 1000000) only [go_sem, List.forall_mem_nil, ↓reduceIte, Nat.reduceEqDiff, Nat.reduceLT, Nat.reduceLeDiff, Nat.reduceAdd, Nat.reduceMul, reduceCtorEq, Tryz.f8, rsp, sc_Split, rt, sc_take, run_kindNames']
 refine zBh (ι := { k : Nat // k ≤ 9 }) (fun k => ⟨[(0, some (.c (.im (.str ⟨s.toArray⟩)))), (2, some (.c (.ptr 0 0 0 0))), (4, some (.c (.ptr 1 0 0 0))), (5, some (.c (.im (.str ⟨w.toArray⟩)))), (6, some (.c (.ptr 2 0 0 0))), (16, some (.c (.view 3 1 0 9))), (17, some (.c (.im (.int .i64 9)))), (18, some (.c (.im (.int .i64 (k.1 : Int)))))],
   [(0, some (.box [.t (.im (.int .i64 0)), .t (.im (.cpx .f32 0 0)), .t (.im (.cpx .f32 0 0)), .t (.im (.flt .f32 0)), .t .nil, .t (.im (.int .i64 0)), .t (.im (.int .i64 0)), .t .nil, .t .nil, .t (.im (.int .i64 0)), .t (.im (.int .i64 0))])),
    (1, some (.box [.t (.im (.sl 1 (rowsS ps))), .t (.im (.bool false))])),
    (2, some (.box [.t (.im (.int .i64 (kdF w k.1))), .t (.im (.cpx .f32 0 0)), .t (.im (.cpx .f32 0 0)), .t (.im (.flt .f32 0)), .t (.lent 4 1 0), .t (.im (.int .i64 0)), .t (.im (.int .i64 0)), .t (.lent 5 1 0), .t (.lent 6 1 0), .t (.im (.int .i64 0)), .t (.im (.int .i64 0))])),
    (3, some (.arr 1 (tI (rowsS kNms)))), (4, some (.arr 1 [])), (5, some (.arr 1 [])), (6, some (.arr 1 []))], 7⟩) (fun k => 9 - k.1) ⟨0, by omega⟩ ⟨[.nilT 2 0 4 1, .nilT 2 0 7 1, .nilT 2 0 8 1, .unf 2 0 4, .unf 2 0 7, .unf 2 0 8], [0, 1, 2, 3, 4, 5, 6], ?sub⟩ (fun ⟨k, hk⟩ => ?_)
 case sub =>
   ((simp only [go_sem, eq_self, MvRb, MvRn, MvRt, List.nodup_cons, List.nodup_nil, ↓reduceIte, Nat.reduceEqDiff, Nat.reduceLT, Nat.reduceLeDiff, reduceCtorEq, List.forall_mem_nil, Nat.zero_le, false_implies, List.mem_singleton, Option.map_some, c9, kdF, MvR_S, zBg, zHb]) <;> (try (simp -dsimp only [go_sem, eq_self, MvRb, MvRn, MvRt, List.nodup_cons, List.nodup_nil, ↓reduceIte, Nat.reduceEqDiff, Nat.reduceLT, Nat.reduceLeDiff, reduceCtorEq, List.forall_mem_nil, Nat.zero_le, false_implies, List.mem_singleton, Option.map_some, c9, kdF, MvR_S, zBg, zHb])))
   all_goals simp [lk, zBg, zHb]
 simp only
 by_cases hk9 : k < 9
 · obtain ⟨q, hq⟩ : ∃ q, kNms[k]? = some q := ⟨kNms[k]'(by simpa [kNms] using hk9), List.getElem?_eq_getElem _⟩
   have hrow : (tI (rowsS kNms))[k]? = some [T.im (.str ⟨q.toArray⟩)] := by simp [tI, rowsS, hq]
   have hI : ((k : Int) < 9) = True := eq_true (by omega)
   have b0 : (0 ≤ (k : Int)) = True := eq_true (by omega)
   have hwr : IntKind.i64.wrap ((k : Int) + 1) = ((k + 1 : Nat) : Int) := by rw [zAi (by omega) (by omega)]; omega
   have hln : (tI (rowsS kNms)).length = 9 := rfl
   have hgd : kNms.getD k [] = q := by rw [List.getD_eq_getElem?_getD, hq]; rfl
   by_cases hk0 : 0 < k
   · have g0 := eq_true (show (0 : Int) < (k : Int) by omega)
     by_cases he : q = w
     · have he' := eq_true he
       have hkd : kdF w (k + 1) = (k : Int) := by simp only [kdF, hgd]; rw [if_pos ⟨hk0, he⟩]
       try simp -dsimp (maxSteps := 1000000) only [go_sem, List.forall_mem_nil, ↓reduceIte, Nat.reduceEqDiff, Nat.reduceLT, Nat.reduceLeDiff, Nat.reduceAdd, Nat.reduceMul, reduceCtorEq, Tryz.f8, hI, b0, hrow, hln, hwr, c9, g0, zAz, he', Int.toNat_natCast]
       refine ⟨⟨k + 1, by omega⟩, by simp only []; omega, [], [0, 1, 2, 3, 4, 5, 6], ?_⟩
       (simp only [go_sem, eq_self, MvRb, MvRn, MvRt, List.nodup_cons, List.nodup_nil, ↓reduceIte, Nat.reduceEqDiff, Nat.reduceLT, Nat.reduceLeDiff, reduceCtorEq, List.forall_mem_nil, Nat.zero_le, false_implies, List.mem_singleton, hkd, MvR_S, zBg])
       all_goals simp [lk, zBg, zHb]
     · have he' := eq_false he
       have hkd : kdF w (k + 1) = kdF w k := by simp only [kdF, hgd]; rw [if_neg (fun h => he h.2)]
       try simp -dsimp (maxSteps := 1000000) only [go_sem, List.forall_mem_nil, ↓reduceIte, Nat.reduceEqDiff, Nat.reduceLT, Nat.reduceLeDiff, Nat.reduceAdd, Nat.reduceMul, reduceCtorEq, Tryz.f8, hI, b0, hrow, hln, hwr, c9, g0, zAz, he', Int.toNat_natCast]
       refine ⟨⟨k + 1, by omega⟩, by simp only []; omega, [], [0, 1, 2, 3, 4, 5, 6], ?_⟩
       (simp only [go_sem, eq_self, MvRb, MvRn, MvRt, List.nodup_cons, List.nodup_nil, ↓reduceIte, Nat.reduceEqDiff, Nat.reduceLT, Nat.reduceLeDiff, reduceCtorEq, List.forall_mem_nil, Nat.zero_le, false_implies, List.mem_singleton, hkd, MvR_S, zBg])
       all_goals simp [lk, zBg, zHb]
   · have hke : k = 0 := by omega
     subst hke
     have hkd : kdF w (0 + 1) = kdF w 0 := by simp [kdF]
     have g0 : ((0 : Int) < ((0 : Nat) : Int)) = False := by simp
     try simp -dsimp (maxSteps := 1000000) only [go_sem, List.forall_mem_nil, ↓reduceIte, Nat.reduceEqDiff, Nat.reduceLT, Nat.reduceLeDiff, Nat.reduceAdd, Nat.reduceMul, reduceCtorEq, Tryz.f8, hI, b0, hrow, hln, hwr, c9, g0, Int.toNat_natCast]
     refine ⟨⟨0 + 1, by omega⟩, by simp only []; omega, [], [0, 1, 2, 3, 4, 5, 6], ?_⟩
     (simp only [go_sem, eq_self, MvRb, MvRn, MvRt, List.nodup_cons, List.nodup_nil, ↓reduceIte, Nat.reduceEqDiff, Nat.reduceLT, Nat.reduceLeDiff, reduceCtorEq, List.forall_mem_nil, Nat.zero_le, false_implies, List.mem_singleton, hkd, MvR_S, zBg])
     all_goals simp [lk, zBg, zHb]
 have hI : ((k : Int) < 9) = False := eq_false (by omega)
 have hke : k = 9 := by omega
 subst hke
 rw [kdF_all]
 have hlps : ps.length ≤ sm := by simp only [List.length_cons] at hlp; omega
 have hsps : ∀ p ∈ ps, p.length ≤ 2097152 := fun p hp => hp21 p (List.mem_cons_of_mem _ hp)
 clear rsp rt hI hlp hp21
 have c0 : ((0 : Nat) : Int) = 0 := rfl
 rcases kindT_cases w with hK | hK | hK | hK | hK | hK | hK | hK | hK
 · have hR : readM (kindT w) ps = (⟨1, (rdP ps false).1, (rdP (rdP ps false).2.1 (rdP ps false).2.2).1, 0, [], 0, 0, [], [], 0, 0⟩, (rdP (rdP ps false).2.1 (rdP ps false).2.2).2) := by rw [hK]; simp [readM, mod0]
   have r1 := zFg (bad := false) hlps hsps
   have r2 := zFg (ps := (rdP ps false).2.1) (bad := (rdP ps false).2.2) (by rw [zGe]; omega) (rdP_sub hsps)
   have w1 := rdP_lt ps false
   have w2 := rdP_lt (rdP ps false).2.1 (rdP ps false).2.2
   simp only [hsRd] at r1 r2
   rw [hK]
   generalize rdP (rdP ps false).2.1 (rdP ps false).2.2 = Y at *
   generalize rdP ps false = X at *
   obtain ⟨⟨t1, t2⟩, ps1, b1⟩ := X
   obtain ⟨⟨s1, s2⟩, rest, bd⟩ := Y
   simp only at r1 r2 w1 w2 hR
   have ho := pm_of hws hR
   cases bd with
   | true =>
     rw [ho, if_neg (by simp)]
     try simp -dsimp (maxSteps := 1000000) only [go_sem, List.forall_mem_nil, ↓reduceIte, Nat.reduceEqDiff, Nat.reduceLT, Nat.reduceLeDiff, Nat.reduceAdd, Nat.reduceMul, reduceCtorEq, Tryz.f8, c9, r1, r2, zCc, zAr, List.take_nil, List.take_zero, Int.reduceLT, Int.reduceEq, Bool.not_true, Bool.not_false, Bool.or_self, Bool.true_or, Bool.false_or, Bool.or_true, zBo]
     refine zAj [.nilT 0 0 4 1, .nilT 0 0 7 1, .nilT 0 0 8 1, .unf 0 0 4, .unf 0 0 7, .unf 0 0 8] ?_
     simp -dsimp (maxSteps := 1000000) only [go_sem, List.forall_mem_nil, ↓reduceIte, Nat.reduceEqDiff, Nat.reduceLT, Nat.reduceLeDiff, Nat.reduceAdd, Nat.reduceMul, reduceCtorEq, Option.map_some, rModB, mod0]
     refine ⟨[7, 8, 9], ?_, ?_, ?_, rfl, rfl, rfl⟩ <;> simp [rtOk, tI, rowsZ, rowsN]
   | false =>
   cases rest with
   | cons p0 t0 =>
     have hg : ((0 : Int) < ((t0.length + 1 : Nat) : Int)) = True := eq_true (by omega)
     rw [ho, if_neg (by simp)]
     try simp -dsimp (maxSteps := 1000000) only [go_sem, List.forall_mem_nil, ↓reduceIte, Nat.reduceEqDiff, Nat.reduceLT, Nat.reduceLeDiff, Nat.reduceAdd, Nat.reduceMul, reduceCtorEq, Tryz.f8, c9, r1, r2, zCc, zAr, List.take_nil, List.take_zero, Int.reduceLT, Int.reduceEq, Bool.not_true, Bool.not_false, Bool.or_self, Bool.true_or, Bool.false_or, Bool.or_true, zBo, hg]
     refine zAj [.nilT 0 0 4 1, .nilT 0 0 7 1, .nilT 0 0 8 1, .unf 0 0 4, .unf 0 0 7, .unf 0 0 8] ?_
     simp -dsimp (maxSteps := 1000000) only [go_sem, List.forall_mem_nil, ↓reduceIte, Nat.reduceEqDiff, Nat.reduceLT, Nat.reduceLeDiff, Nat.reduceAdd, Nat.reduceMul, reduceCtorEq, Option.map_some, rModB, mod0]
     refine ⟨[7, 8, 9], ?_, ?_, ?_, rfl, rfl, rfl⟩ <;> simp [rtOk, tI, rowsZ, rowsN]
   | nil =>
   have ri := zBf (k := 1) (t1 := t1) (t2 := t2) (s1 := s1) (s2 := s2) (lv := 0) (st := []) (ra := 0) (rc := 0) (pts := []) (lab := []) (c := 0) (l := 0) (by simp) (by simp) (by simp)
   have rf := zAx ⟨⟨1, (t1, t2), (s1, s2), 0, [], 0, 0, [], [], 0, 0⟩, ⟨by simp, by simp, by simp⟩, ⟨w1, w2, by simp, by simp, by simp⟩, by simp [i64B], by simp [i64B], by simp [i64B], by simp⟩
   simp only [modC, zAk, zAo] at ri rf
   cases hv : isModuleF ⟨1, (t1, t2), (s1, s2), 0, [], 0, 0, [], [], 0, 0⟩ with
   | false =>
     rw [hv] at ri
     rw [ho, if_neg (by simp [hv])]
     try simp -dsimp (maxSteps := 1000000) only [go_sem, List.forall_mem_nil, ↓reduceIte, Nat.reduceEqDiff, Nat.reduceLT, Nat.reduceLeDiff, Nat.reduceAdd, Nat.reduceMul, reduceCtorEq, Tryz.f8, c9, r1, r2, zCc, zAr, List.take_nil, List.take_zero, Int.reduceLT, Int.reduceEq, Bool.not_true, Bool.not_false, Bool.or_self, Bool.true_or, Bool.false_or, Bool.or_true, zAt, c0, ri]
     refine zAj [.nilT 0 0 4 1, .nilT 0 0 7 1, .nilT 0 0 8 1, .unf 0 0 4, .unf 0 0 7, .unf 0 0 8] ?_
     simp -dsimp (maxSteps := 1000000) only [go_sem, List.forall_mem_nil, ↓reduceIte, Nat.reduceEqDiff, Nat.reduceLT, Nat.reduceLeDiff, Nat.reduceAdd, Nat.reduceMul, reduceCtorEq, Option.map_some, rModB, mod0]
     refine ⟨[7, 8, 9], ?_, ?_, ?_, rfl, rfl, rfl⟩ <;> simp [rtOk, tI, rowsZ, rowsN]
   | true =>
   rw [hv] at ri
   by_cases hf : fmtM ⟨1, (t1, t2), (s1, s2), 0, [], 0, 0, [], [], 0, 0⟩ = s
   · have hf' := eq_true hf
     rw [ho, if_pos ⟨rfl, rfl, hv, hf⟩]
     try simp -dsimp (maxSteps := 1000000) only [go_sem, List.forall_mem_nil, ↓reduceIte, Nat.reduceEqDiff, Nat.reduceLT, Nat.reduceLeDiff, Nat.reduceAdd, Nat.reduceMul, reduceCtorEq, Tryz.f8, c9, r1, r2, zCc, zAr, List.take_nil, List.take_zero, Int.reduceLT, Int.reduceEq, Bool.not_true, Bool.not_false, Bool.or_self, Bool.true_or, Bool.false_or, Bool.or_true, zAt, c0, ri, rf, zAn, zAz, hf']
     refine zAj [] ?_
     simp -dsimp (maxSteps := 1000000) only [go_sem, List.forall_mem_nil, ↓reduceIte, Nat.reduceEqDiff, Nat.reduceLT, Nat.reduceLeDiff, Nat.reduceAdd, Nat.reduceMul, reduceCtorEq, rModB]
     refine ⟨[4, 5, 6], ?_, ?_, ?_, rfl, rfl, rfl⟩ <;> simp [rtOk, tI, rowsZ, rowsN]
   · have hf' := eq_false hf
     rw [ho, if_neg (fun h => hf h.2.2.2)]
     try simp -dsimp (maxSteps := 1000000) only [go_sem, List.forall_mem_nil, ↓reduceIte, Nat.reduceEqDiff, Nat.reduceLT, Nat.reduceLeDiff, Nat.reduceAdd, Nat.reduceMul, reduceCtorEq, Tryz.f8, c9, r1, r2, zCc, zAr, List.take_nil, List.take_zero, Int.reduceLT, Int.reduceEq, Bool.not_true, Bool.not_false, Bool.or_self, Bool.true_or, Bool.false_or, Bool.or_true, zAt, c0, ri, rf, zAn, zAz, hf']
     refine zAj [.nilT 0 0 4 1, .nilT 0 0 7 1, .nilT 0 0 8 1, .unf 0 0 4, .unf 0 0 7, .unf 0 0 8] ?_
     simp -dsimp (maxSteps := 1000000) only [go_sem, List.forall_mem_nil, ↓reduceIte, Nat.reduceEqDiff, Nat.reduceLT, Nat.reduceLeDiff, Nat.reduceAdd, Nat.reduceMul, reduceCtorEq, Option.map_some, rModB, mod0]
     refine ⟨[7, 8, 9], ?_, ?_, ?_, rfl, rfl, rfl⟩ <;> simp [rtOk, tI, rowsZ, rowsN]
 · have hR : readM (kindT w) ps = (⟨2, (rdP ps false).1, (rdP (rdP ps false).2.1 (rdP ps false).2.2).1, 0, [], 0, 0, [], [], 0, 0⟩, (rdP (rdP ps false).2.1 (rdP ps false).2.2).2) := by rw [hK]; simp [readM, mod0]
   have r1 := zFg (bad := false) hlps hsps
   have r2 := zFg (ps := (rdP ps false).2.1) (bad := (rdP ps false).2.2) (by rw [zGe]; omega) (rdP_sub hsps)
   have w1 := rdP_lt ps false
   have w2 := rdP_lt (rdP ps false).2.1 (rdP ps false).2.2
   simp only [hsRd] at r1 r2
   rw [hK]
   generalize rdP (rdP ps false).2.1 (rdP ps false).2.2 = Y at *
   generalize rdP ps false = X at *
   obtain ⟨⟨t1, t2⟩, ps1, b1⟩ := X
   obtain ⟨⟨s1, s2⟩, rest, bd⟩ := Y
   simp only at r1 r2 w1 w2 hR
   have ho := pm_of hws hR
   cases bd with
   | true =>
     rw [ho, if_neg (by simp)]
     try simp -dsimp (maxSteps := 1000000) only [go_sem, List.forall_mem_nil, ↓reduceIte, Nat.reduceEqDiff, Nat.reduceLT, Nat.reduceLeDiff, Nat.reduceAdd, Nat.reduceMul, reduceCtorEq, Tryz.f8, c9, r1, r2, zCc, zAr, List.take_nil, List.take_zero, Int.reduceLT, Int.reduceEq, Bool.not_true, Bool.not_false, Bool.or_self, Bool.true_or, Bool.false_or, Bool.or_true, zBo]
     refine zAj [.nilT 0 0 4 1, .nilT 0 0 7 1, .nilT 0 0 8 1, .unf 0 0 4, .unf 0 0 7, .unf 0 0 8] ?_
     simp -dsimp (maxSteps := 1000000) only [go_sem, List.forall_mem_nil, ↓reduceIte, Nat.reduceEqDiff, Nat.reduceLT, Nat.reduceLeDiff, Nat.reduceAdd, Nat.reduceMul, reduceCtorEq, Option.map_some, rModB, mod0]
     refine ⟨[7, 8, 9], ?_, ?_, ?_, rfl, rfl, rfl⟩ <;> simp [rtOk, tI, rowsZ, rowsN]
   | false =>
   cases rest with
   | cons p0 t0 =>
     have hg : ((0 : Int) < ((t0.length + 1 : Nat) : Int)) = True := eq_true (by omega)
     rw [ho, if_neg (by simp)]
     try simp -dsimp (maxSteps := 1000000) only [go_sem, List.forall_mem_nil, ↓reduceIte, Nat.reduceEqDiff, Nat.reduceLT, Nat.reduceLeDiff, Nat.reduceAdd, Nat.reduceMul, reduceCtorEq, Tryz.f8, c9, r1, r2, zCc, zAr, List.take_nil, List.take_zero, Int.reduceLT, Int.reduceEq, Bool.not_true, Bool.not_false, Bool.or_self, Bool.true_or, Bool.false_or, Bool.or_true, zBo, hg]
     refine zAj [.nilT 0 0 4 1, .nilT 0 0 7 1, .nilT 0 0 8 1, .unf 0 0 4, .unf 0 0 7, .unf 0 0 8] ?_
     simp -dsimp (maxSteps := 1000000) only [go_sem, List.forall_mem_nil, ↓reduceIte, Nat.reduceEqDiff, Nat.reduceLT, Nat.reduceLeDiff, Nat.reduceAdd, Nat.reduceMul, reduceCtorEq, Option.map_some, rModB, mod0]
     refine ⟨[7, 8, 9], ?_, ?_, ?_, rfl, rfl, rfl⟩ <;> simp [rtOk, tI, rowsZ, rowsN]
   | nil =>
   have ri := zBf (k := 2) (t1 := t1) (t2 := t2) (s1 := s1) (s2 := s2) (lv := 0) (st := []) (ra := 0) (rc := 0) (pts := []) (lab := []) (c := 0) (l := 0) (by simp) (by simp) (by simp)
   have rf := zAx ⟨⟨2, (t1, t2), (s1, s2), 0, [], 0, 0, [], [], 0, 0⟩, ⟨by simp, by simp, by simp⟩, ⟨w1, w2, by simp, by simp, by simp⟩, by simp [i64B], by simp [i64B], by simp [i64B], by simp⟩
   simp only [modC, zAk, zAo] at ri rf
   cases hv : isModuleF ⟨2, (t1, t2), (s1, s2), 0, [], 0, 0, [], [], 0, 0⟩ with
   | false =>
     rw [hv] at ri
     rw [ho, if_neg (by simp [hv])]
     try simp -dsimp (maxSteps := 1000000) only [go_sem, List.forall_mem_nil, ↓reduceIte, Nat.reduceEqDiff, Nat.reduceLT, Nat.reduceLeDiff, Nat.reduceAdd, Nat.reduceMul, reduceCtorEq, Tryz.f8, c9, r1, r2, zCc, zAr, List.take_nil, List.take_zero, Int.reduceLT, Int.reduceEq, Bool.not_true, Bool.not_false, Bool.or_self, Bool.true_or, Bool.false_or, Bool.or_true, zAt, c0, ri]
     refine zAj [.nilT 0 0 4 1, .nilT 0 0 7 1, .nilT 0 0 8 1, .unf 0 0 4, .unf 0 0 7, .unf 0 0 8] ?_
     simp -dsimp (maxSteps := 1000000) only [go_sem, List.forall_mem_nil, ↓reduceIte, Nat.reduceEqDiff, Nat.reduceLT, Nat.reduceLeDiff, Nat.reduceAdd, Nat.reduceMul, reduceCtorEq, Option.map_some, rModB, mod0]
     refine ⟨[7, 8, 9], ?_, ?_, ?_, rfl, rfl, rfl⟩ <;> simp [rtOk, tI, rowsZ, rowsN]
   | true =>
   rw [hv] at ri
   by_cases hf : fmtM ⟨2, (t1, t2), (s1, s2), 0, [], 0, 0, [], [], 0, 0⟩ = s
   · have hf' := eq_true hf
     rw [ho, if_pos ⟨rfl, rfl, hv, hf⟩]
     try simp -dsimp (maxSteps := 1000000) only [go_sem, List.forall_mem_nil, ↓reduceIte, Nat.reduceEqDiff, Nat.reduceLT, Nat.reduceLeDiff, Nat.reduceAdd, Nat.reduceMul, reduceCtorEq, Tryz.f8, c9, r1, r2, zCc, zAr, List.take_nil, List.take_zero, Int.reduceLT, Int.reduceEq, Bool.not_true, Bool.not_false, Bool.or_self, Bool.true_or, Bool.false_or, Bool.or_true, zAt, c0, ri, rf, zAn, zAz, hf']
     refine zAj [] ?_
     simp -dsimp (maxSteps := 1000000) only [go_sem, List.forall_mem_nil, ↓reduceIte, Nat.reduceEqDiff, Nat.reduceLT, Nat.reduceLeDiff, Nat.reduceAdd, Nat.reduceMul, reduceCtorEq, rModB]
     refine ⟨[4, 5, 6], ?_, ?_, ?_, rfl, rfl, rfl⟩ <;> simp [rtOk, tI, rowsZ, rowsN]
   · have hf' := eq_false hf
     rw [ho, if_neg (fun h => hf h.2.2.2)]
     try simp -dsimp (maxSteps := 1000000) only [go_sem, List.forall_mem_nil, ↓reduceIte, Nat.reduceEqDiff, Nat.reduceLT, Nat.reduceLeDiff, Nat.reduceAdd, Nat.reduceMul, reduceCtorEq, Tryz.f8, c9, r1, r2, zCc, zAr, List.take_nil, List.take_zero, Int.reduceLT, Int.reduceEq, Bool.not_true, Bool.not_false, Bool.or_self, Bool.true_or, Bool.false_or, Bool.or_true, zAt, c0, ri, rf, zAn, zAz, hf']
     refine zAj [.nilT 0 0 4 1, .nilT 0 0 7 1, .nilT 0 0 8 1, .unf 0 0 4, .unf 0 0 7, .unf 0 0 8] ?_
     simp -dsimp (maxSteps := 1000000) only [go_sem, List.forall_mem_nil, ↓reduceIte, Nat.reduceEqDiff, Nat.reduceLT, Nat.reduceLeDiff, Nat.reduceAdd, Nat.reduceMul, reduceCtorEq, Option.map_some, rModB, mod0]
     refine ⟨[7, 8, 9], ?_, ?_, ?_, rfl, rfl, rfl⟩ <;> simp [rtOk, tI, rowsZ, rowsN]
 · have hR : readM (kindT w) ps = (⟨3, (0, 0), (0, 0), (rdS ps false).1, [], 0, 0, [], [], 0, 0⟩, (rdS ps false).2) := by rw [hK]; simp [readM, mod0]
   have r1 := run_single (bad := false) hlps hsps
   have w1 := rdS_lt ps false
   simp only [hsRd] at r1
   rw [hK]
   generalize rdS ps false = X at *
   obtain ⟨lv, rest, bd⟩ := X
   simp only at r1 w1 hR
   have ho := pm_of hws hR
   cases bd with
   | true =>
     rw [ho, if_neg (by simp)]
     try simp -dsimp (maxSteps := 1000000) only [go_sem, List.forall_mem_nil, ↓reduceIte, Nat.reduceEqDiff, Nat.reduceLT, Nat.reduceLeDiff, Nat.reduceAdd, Nat.reduceMul, reduceCtorEq, Tryz.f8, c9, r1, zCz, zAr, List.take_nil, List.take_zero, Int.reduceLT, Int.reduceEq, Bool.not_true, Bool.not_false, Bool.or_self, Bool.true_or, Bool.false_or, Bool.or_true, zBo]
     refine zAj [.nilT 0 0 4 1, .nilT 0 0 7 1, .nilT 0 0 8 1, .unf 0 0 4, .unf 0 0 7, .unf 0 0 8] ?_
     simp -dsimp (maxSteps := 1000000) only [go_sem, List.forall_mem_nil, ↓reduceIte, Nat.reduceEqDiff, Nat.reduceLT, Nat.reduceLeDiff, Nat.reduceAdd, Nat.reduceMul, reduceCtorEq, Option.map_some, rModB, mod0]
     refine ⟨[7, 8, 9], ?_, ?_, ?_, rfl, rfl, rfl⟩ <;> simp [rtOk, tI, rowsZ, rowsN]
   | false =>
   cases rest with
   | cons p0 t0 =>
     have hg : ((0 : Int) < ((t0.length + 1 : Nat) : Int)) = True := eq_true (by omega)
     rw [ho, if_neg (by simp)]
     try simp -dsimp (maxSteps := 1000000) only [go_sem, List.forall_mem_nil, ↓reduceIte, Nat.reduceEqDiff, Nat.reduceLT, Nat.reduceLeDiff, Nat.reduceAdd, Nat.reduceMul, reduceCtorEq, Tryz.f8, c9, r1, zCz, zAr, List.take_nil, List.take_zero, Int.reduceLT, Int.reduceEq, Bool.not_true, Bool.not_false, Bool.or_self, Bool.true_or, Bool.false_or, Bool.or_true, zBo, hg]
     refine zAj [.nilT 0 0 4 1, .nilT 0 0 7 1, .nilT 0 0 8 1, .unf 0 0 4, .unf 0 0 7, .unf 0 0 8] ?_
     simp -dsimp (maxSteps := 1000000) only [go_sem, List.forall_mem_nil, ↓reduceIte, Nat.reduceEqDiff, Nat.reduceLT, Nat.reduceLeDiff, Nat.reduceAdd, Nat.reduceMul, reduceCtorEq, Option.map_some, rModB, mod0]
     refine ⟨[7, 8, 9], ?_, ?_, ?_, rfl, rfl, rfl⟩ <;> simp [rtOk, tI, rowsZ, rowsN]
   | nil =>
   have ri := zBf (k := 3) (t1 := 0) (t2 := 0) (s1 := 0) (s2 := 0) (lv := lv) (st := []) (ra := 0) (rc := 0) (pts := []) (lab := []) (c := 0) (l := 0) (by simp) (by simp) (by simp)
   have rf := zAx ⟨⟨3, (0, 0), (0, 0), lv, [], 0, 0, [], [], 0, 0⟩, ⟨by simp, by simp, by simp⟩, ⟨⟨by simp, by simp⟩, ⟨by simp, by simp⟩, w1, by simp, by simp⟩, by simp [i64B], by simp [i64B], by simp [i64B], by simp⟩
   simp only [modC, zAk, zAo] at ri rf
   cases hv : isModuleF ⟨3, (0, 0), (0, 0), lv, [], 0, 0, [], [], 0, 0⟩ with
   | false =>
     rw [hv] at ri
     rw [ho, if_neg (by simp [hv])]
     try simp -dsimp (maxSteps := 1000000) only [go_sem, List.forall_mem_nil, ↓reduceIte, Nat.reduceEqDiff, Nat.reduceLT, Nat.reduceLeDiff, Nat.reduceAdd, Nat.reduceMul, reduceCtorEq, Tryz.f8, c9, r1, zCz, zAr, List.take_nil, List.take_zero, Int.reduceLT, Int.reduceEq, Bool.not_true, Bool.not_false, Bool.or_self, Bool.true_or, Bool.false_or, Bool.or_true, zAt, c0, ri]
     refine zAj [.nilT 0 0 4 1, .nilT 0 0 7 1, .nilT 0 0 8 1, .unf 0 0 4, .unf 0 0 7, .unf 0 0 8] ?_
     simp -dsimp (maxSteps := 1000000) only [go_sem, List.forall_mem_nil, ↓reduceIte, Nat.reduceEqDiff, Nat.reduceLT, Nat.reduceLeDiff, Nat.reduceAdd, Nat.reduceMul, reduceCtorEq, Option.map_some, rModB, mod0]
     refine ⟨[7, 8, 9], ?_, ?_, ?_, rfl, rfl, rfl⟩ <;> simp [rtOk, tI, rowsZ, rowsN]
   | true =>
   rw [hv] at ri
   by_cases hf : fmtM ⟨3, (0, 0), (0, 0), lv, [], 0, 0, [], [], 0, 0⟩ = s
   · have hf' := eq_true hf
     rw [ho, if_pos ⟨rfl, rfl, hv, hf⟩]
     try simp -dsimp (maxSteps := 1000000) only [go_sem, List.forall_mem_nil, ↓reduceIte, Nat.reduceEqDiff, Nat.reduceLT, Nat.reduceLeDiff, Nat.reduceAdd, Nat.reduceMul, reduceCtorEq, Tryz.f8, c9, r1, zCz, zAr, List.take_nil, List.take_zero, Int.reduceLT, Int.reduceEq, Bool.not_true, Bool.not_false, Bool.or_self, Bool.true_or, Bool.false_or, Bool.or_true, zAt, c0, ri, rf, zAn, zAz, hf']
     refine zAj [] ?_
     simp -dsimp (maxSteps := 1000000) only [go_sem, List.forall_mem_nil, ↓reduceIte, Nat.reduceEqDiff, Nat.reduceLT, Nat.reduceLeDiff, Nat.reduceAdd, Nat.reduceMul, reduceCtorEq, rModB]
     refine ⟨[4, 5, 6], ?_, ?_, ?_, rfl, rfl, rfl⟩ <;> simp [rtOk, tI, rowsZ, rowsN]
   · have hf' := eq_false hf
     rw [ho, if_neg (fun h => hf h.2.2.2)]
     try simp -dsimp (maxSteps := 1000000) only [go_sem, List.forall_mem_nil, ↓reduceIte, Nat.reduceEqDiff, Nat.reduceLT, Nat.reduceLeDiff, Nat.reduceAdd, Nat.reduceMul, reduceCtorEq, Tryz.f8, c9, r1, zCz, zAr, List.take_nil, List.take_zero, Int.reduceLT, Int.reduceEq, Bool.not_true, Bool.not_false, Bool.or_self, Bool.true_or, Bool.false_or, Bool.or_true, zAt, c0, ri, rf, zAn, zAz, hf']
     refine zAj [.nilT 0 0 4 1, .nilT 0 0 7 1, .nilT 0 0 8 1, .unf 0 0 4, .unf 0 0 7, .unf 0 0 8] ?_
     simp -dsimp (maxSteps := 1000000) only [go_sem, List.forall_mem_nil, ↓reduceIte, Nat.reduceEqDiff, Nat.reduceLT, Nat.reduceLeDiff, Nat.reduceAdd, Nat.reduceMul, reduceCtorEq, Option.map_some, rModB, mod0]
     refine ⟨[7, 8, 9], ?_, ?_, ?_, rfl, rfl, rfl⟩ <;> simp [rtOk, tI, rowsZ, rowsN]
 · have hR : readM (kindT w) ps = (⟨4, (0, 0), (0, 0), 0, (dlyP (rdI ps false).2.1 (rdI ps false).2.2).1, (rdI ps false).1, ((dlyP (rdI ps false).2.1 (rdI ps false).2.2).1.length : Int), [], [], 0, 0⟩, (dlyP (rdI ps false).2.1 (rdI ps false).2.2).2) := by rw [hK]; simp [readM, mod0]
   have r1 := zFj (bad := false) hlps hsps
   have w1 := rdI_b ps false
   have l1 := zGu ps false
   have s1 := rdI_sub (bad := false) hsps
   simp only [hsRd] at r1
   rw [hK]
   generalize rdI ps false = X at *
   obtain ⟨ra, ps1, b1⟩ := X
   simp only at r1 w1 l1 s1 hR
   have hl1 : ps1.length ≤ 1048576 := by simp only [List.length_cons] at hlen; omega
   have hdk := dlyP_ok _ ps1 b1 (Nat.le_refl _)
   try simp -dsimp (maxSteps := 1000000) only [go_sem, List.forall_mem_nil, ↓reduceIte, Nat.reduceEqDiff, Nat.reduceLT, Nat.reduceLeDiff, Nat.reduceAdd, Nat.reduceMul, reduceCtorEq, Tryz.f8, c9, r1, zDk, Int.reduceLT, Int.reduceEq]
   refine zBh (ι := { x : List Pt × List Txt × Bool // dlyP ps1 b1 = (x.1 ++ (dlyP x.2.1 x.2.2).1, (dlyP x.2.1 x.2.2).2) ∧ x.2.1.length ≤ ps1.length ∧ x.1.length ≤ ps1.length ∧ ∀ p ∈ x.2.1, p.length ≤ 2097152 }) (fun x => ⟨[(0, some (.c (.im (.str ⟨s.toArray⟩)))), (2, some (.c (.ptr 0 0 0 0))), (4, some (.c (.ptr 1 0 0 0))), (6, some (.c (.ptr 2 0 0 0)))],
     [(0, some (.box [.t (.im (.int .i64 0)), .t (.im (.cpx .f32 0 0)), .t (.im (.cpx .f32 0 0)), .t (.im (.flt .f32 0)), .t .nil, .t (.im (.int .i64 0)), .t (.im (.int .i64 0)), .t .nil, .t .nil, .t (.im (.int .i64 0)), .t (.im (.int .i64 0))])),
      (1, some (.box [.t (.im (.sl 1 (rowsS x.1.2.1))), .t (.im (.bool x.1.2.2))])),
      (2, some (.box [.t (.im (.int .i64 4)), .t (.im (.cpx .f32 0 0)), .t (.im (.cpx .f32 0 0)), .t (.im (.flt .f32 0)), .t (.lent 4 1 x.1.1.length), .t (.im (.int .i64 ra)), .t (.im (.int .i64 0)), .t (.lent 5 1 0), .t (.lent 6 1 0), .t (.im (.int .i64 0)), .t (.im (.int .i64 0))])),
      (4, some (.arr 1 (tI (rowsZ x.1.1)))), (5, some (.arr 1 [])), (6, some (.arr 1 []))], 7⟩) (fun x => x.1.2.1.length) ⟨([], ps1, b1), by simp, by simp, by simp, s1⟩ ⟨[], [0, 1, 2, 4, 5, 6], ?sub⟩ (fun ⟨⟨acc, qs, b⟩, hinv, hq1, hq2, hq3⟩ => ?_)
   case sub =>
     ((simp only [go_sem, eq_self, MvRb, MvRn, MvRt, List.nodup_cons, List.nodup_nil, ↓reduceIte, Nat.reduceEqDiff, Nat.reduceLT, Nat.reduceLeDiff, reduceCtorEq, List.forall_mem_nil, Nat.zero_le, false_implies, List.mem_singleton, MvR_Z, zBg, zAk, tI_nil]) <;> (try (simp -dsimp only [go_sem, eq_self, MvRb, MvRn, MvRt, List.nodup_cons, List.nodup_nil, ↓reduceIte, Nat.reduceEqDiff, Nat.reduceLT, Nat.reduceLeDiff, reduceCtorEq, List.forall_mem_nil, Nat.zero_le, false_implies, List.mem_singleton, MvR_Z, zBg, zAk, tI_nil])))
     all_goals simp [lk, zBg, zHb, tI, rowsZ]
   simp only at hinv hq1 hq2 hq3 ⊢
   by_cases hgo : qs ≠ [] ∧ b = false
   · obtain ⟨hne, rfl⟩ := hgo
     have hql : 0 < qs.length := List.length_pos_iff.2 hne
     have hu : dlyP qs false = ((rdP qs false).1 :: (dlyP (rdP qs false).2.1 (rdP qs false).2.2).1, (dlyP (rdP qs false).2.1 (rdP qs false).2.2).2) := by
       conv => lhs; unfold dlyP
       rw [dif_pos ⟨hne, rfl⟩]
     rw [hu] at hinv
     have rp := zFg (ps := qs) (bad := false) (by omega) hq3
     have pl := zGe qs false
     have psb := rdP_sub (bad := false) hq3
     have hal : (acc ++ (rdP qs false).1 :: (dlyP (rdP qs false).2.1 (rdP qs false).2.2).1).length ≤ ps1.length := by
       have := hdk.1; rw [hinv] at this; exact this
     simp only [hsRd] at rp
     generalize rdP qs false = Y at *
     obtain ⟨⟨u, v⟩, qs2, b2⟩ := Y
     simp only at rp pl psb hinv hal
     have hal2 : acc.length + 1 ≤ ps1.length := by simp only [List.length_append, List.length_cons] at hal; omega
     have hg : ((0 : Int) < (qs.length : Int)) = True := eq_true (by omega)
     have hb1 : ((acc.length + 1) * 8 ≤ 140737488355328) = True := eq_true (by omega)
     have tk : List.take acc.length (tI (rowsZ acc)) = tI (rowsZ acc) := List.take_of_length_le (by rw [zAg, zAa]; omega)
     try simp -dsimp (maxSteps := 1000000) only [go_sem, List.forall_mem_nil, ↓reduceIte, Nat.reduceEqDiff, Nat.reduceLT, Nat.reduceLeDiff, Nat.reduceAdd, Nat.reduceMul, reduceCtorEq, Tryz.f8, zBo, hg, rp, zCc, hb1, tk, tIZp_app, zAg, zAa, appendH, srcRows, List.take_succ_cons, List.take_zero, List.all_cons, List.all_nil, okT, Bool.and_true, List.length_append, Bool.not_false, Nat.sub_zero, Nat.add_zero]
     repeat' (first
       | ((with_reducible refine sl_i ?_ ?_); focus kernel_rfl)
       | ((with_reducible refine ro_i ?_ ?_); focus kernel_rfl))
     refine ⟨⟨(acc ++ [(u, v)], qs2, b2), by rw [hinv]; simp, by simp only []; omega, by simp only [List.length_append, List.length_cons, List.length_nil]; omega, psb⟩, by simp only []; omega, [], [0, 1, 2, 55, 5, 6], ?_⟩
     (simp only [go_sem, eq_self, MvRb, MvRn, MvRt, List.nodup_cons, List.nodup_nil, ↓reduceIte, Nat.reduceEqDiff, Nat.reduceLT, Nat.reduceLeDiff, reduceCtorEq, List.forall_mem_nil, Nat.zero_le, false_implies, List.mem_singleton, MvR_Z, zBg, List.length_append, List.length_cons, List.length_nil])
   · have hdq : dlyP qs b = ([], qs, b) := by unfold dlyP; rw [dif_neg hgo]
     rw [hdq, List.append_nil] at hinv
     rw [hinv] at hR hdk
     simp only at hR hdk
     have hal : acc.length ≤ 1048576 := Nat.le_trans hq2 hl1
     have tkl : List.take acc.length (tI (rowsZ acc)) = tI (rowsZ acc) := List.take_of_length_le (by rw [zAg, zAa]; omega)
     have hg : ((0 : Int) < ((0 : Nat) : Int)) = False := eq_false (by omega)
     have ri := zBf (k := 4) (t1 := 0) (t2 := 0) (s1 := 0) (s2 := 0) (lv := 0) (st := acc) (ra := ra) (rc := (acc.length : Int)) (pts := []) (lab := []) (c := 0) (l := 0) (by simp only [sm]; omega) (by simp) (by simp)
     have rf := zAx ⟨⟨4, (0, 0), (0, 0), 0, acc, ra, (acc.length : Int), [], [], 0, 0⟩, ⟨by simp only [sm]; omega, by simp, by simp⟩, ⟨⟨by simp, by simp⟩, ⟨by simp, by simp⟩, by simp, hdk.2, by simp⟩, w1, by simp [i64B], by simp [i64B], by simp⟩
     simp only [modC, zAk, zAo] at ri rf
     have ho := pm_of hws hR
     cases b with
     | true =>
       rw [ho, if_neg (by simp)]
       cases qs with
       | nil =>
         try simp -dsimp (maxSteps := 1000000) only [go_sem, List.forall_mem_nil, ↓reduceIte, Nat.reduceEqDiff, Nat.reduceLT, Nat.reduceLeDiff, Nat.reduceAdd, Nat.reduceMul, reduceCtorEq, Tryz.f8, c9, zAr, List.take_nil, List.take_zero, Int.reduceLT, Int.reduceEq, Bool.not_true, Bool.not_false, Bool.or_self, Bool.true_or, Bool.false_or, Bool.or_true, zAg, zBc, zAa, tkl, zAt, c0, hg]
         refine zAj [.nilT 0 0 4 1, .nilT 0 0 7 1, .nilT 0 0 8 1, .unf 0 0 4, .unf 0 0 7, .unf 0 0 8] ?_
         simp -dsimp (maxSteps := 1000000) only [go_sem, List.forall_mem_nil, ↓reduceIte, Nat.reduceEqDiff, Nat.reduceLT, Nat.reduceLeDiff, Nat.reduceAdd, Nat.reduceMul, reduceCtorEq, Option.map_some, rModB, mod0]
         refine ⟨[7, 8, 9], ?_, ?_, ?_, rfl, rfl, rfl⟩ <;> simp [rtOk, tI, rowsZ, rowsN]
       | cons p0 t0 =>
         have hg2 : ((0 : Int) < ((t0.length + 1 : Nat) : Int)) = True := eq_true (by omega)
         try simp -dsimp (maxSteps := 1000000) only [go_sem, List.forall_mem_nil, ↓reduceIte, Nat.reduceEqDiff, Nat.reduceLT, Nat.reduceLeDiff, Nat.reduceAdd, Nat.reduceMul, reduceCtorEq, Tryz.f8, c9, zAr, List.take_nil, List.take_zero, Int.reduceLT, Int.reduceEq, Bool.not_true, Bool.not_false, Bool.or_self, Bool.true_or, Bool.false_or, Bool.or_true, zAg, zBc, zAa, tkl, zBo, zCy, List.length_cons, hg2]
         refine zAj [.nilT 0 0 4 1, .nilT 0 0 7 1, .nilT 0 0 8 1, .unf 0 0 4, .unf 0 0 7, .unf 0 0 8] ?_
         simp -dsimp (maxSteps := 1000000) only [go_sem, List.forall_mem_nil, ↓reduceIte, Nat.reduceEqDiff, Nat.reduceLT, Nat.reduceLeDiff, Nat.reduceAdd, Nat.reduceMul, reduceCtorEq, Option.map_some, rModB, mod0]
         refine ⟨[7, 8, 9], ?_, ?_, ?_, rfl, rfl, rfl⟩ <;> simp [rtOk, tI, rowsZ, rowsN]
     | false =>
       cases qs with
       | cons p0 t0 => exact absurd ⟨by simp, rfl⟩ hgo
       | nil =>
       cases hv : isModuleF ⟨4, (0, 0), (0, 0), 0, acc, ra, (acc.length : Int), [], [], 0, 0⟩ with
       | false =>
         rw [hv] at ri
         rw [ho, if_neg (by simp [hv])]
         try simp -dsimp (maxSteps := 1000000) only [go_sem, List.forall_mem_nil, ↓reduceIte, Nat.reduceEqDiff, Nat.reduceLT, Nat.reduceLeDiff, Nat.reduceAdd, Nat.reduceMul, reduceCtorEq, Tryz.f8, c9, zAr, List.take_nil, List.take_zero, Int.reduceLT, Int.reduceEq, Bool.not_true, Bool.not_false, Bool.or_self, Bool.true_or, Bool.false_or, Bool.or_true, zAg, zBc, zAa, tkl, zAt, c0, hg, ri]
         refine zAj [.nilT 0 0 4 1, .nilT 0 0 7 1, .nilT 0 0 8 1, .unf 0 0 4, .unf 0 0 7, .unf 0 0 8] ?_
         simp -dsimp (maxSteps := 1000000) only [go_sem, List.forall_mem_nil, ↓reduceIte, Nat.reduceEqDiff, Nat.reduceLT, Nat.reduceLeDiff, Nat.reduceAdd, Nat.reduceMul, reduceCtorEq, Option.map_some, rModB, mod0]
         refine ⟨[7, 8, 9], ?_, ?_, ?_, rfl, rfl, rfl⟩ <;> simp [rtOk, tI, rowsZ, rowsN]
       | true =>
       rw [hv] at ri
       by_cases hf : fmtM ⟨4, (0, 0), (0, 0), 0, acc, ra, (acc.length : Int), [], [], 0, 0⟩ = s
       · have hf' := eq_true hf
         rw [ho, if_pos ⟨rfl, rfl, hv, hf⟩]
         try simp -dsimp (maxSteps := 1000000) only [go_sem, List.forall_mem_nil, ↓reduceIte, Nat.reduceEqDiff, Nat.reduceLT, Nat.reduceLeDiff, Nat.reduceAdd, Nat.reduceMul, reduceCtorEq, Tryz.f8, c9, zAr, List.take_nil, List.take_zero, Int.reduceLT, Int.reduceEq, Bool.not_true, Bool.not_false, Bool.or_self, Bool.true_or, Bool.false_or, Bool.or_true, zAg, zBc, zAa, tkl, zAt, c0, hg, ri, rf, zAn, zAz, hf']
         refine zAj [] ?_
         simp -dsimp (maxSteps := 1000000) only [go_sem, List.forall_mem_nil, ↓reduceIte, Nat.reduceEqDiff, Nat.reduceLT, Nat.reduceLeDiff, Nat.reduceAdd, Nat.reduceMul, reduceCtorEq, rModB]
         refine ⟨[4, 5, 6], ?_, ?_, ?_, rfl, rfl, rfl⟩ <;> simp [rtOk, tI, rowsZ, rowsN]
       · have hf' := eq_false hf
         rw [ho, if_neg (fun h => hf h.2.2.2)]
         try simp -dsimp (maxSteps := 1000000) only [go_sem, List.forall_mem_nil, ↓reduceIte, Nat.reduceEqDiff, Nat.reduceLT, Nat.reduceLeDiff, Nat.reduceAdd, Nat.reduceMul, reduceCtorEq, Tryz.f8, c9, zAr, List.take_nil, List.take_zero, Int.reduceLT, Int.reduceEq, Bool.not_true, Bool.not_false, Bool.or_self, Bool.true_or, Bool.false_or, Bool.or_true, zAg, zBc, zAa, tkl, zAt, c0, hg, ri, rf, zAn, zAz, hf']
         refine zAj [.nilT 0 0 4 1, .nilT 0 0 7 1, .nilT 0 0 8 1, .unf 0 0 4, .unf 0 0 7, .unf 0 0 8] ?_
         simp -dsimp (maxSteps := 1000000) only [go_sem, List.forall_mem_nil, ↓reduceIte, Nat.reduceEqDiff, Nat.reduceLT, Nat.reduceLeDiff, Nat.reduceAdd, Nat.reduceMul, reduceCtorEq, Option.map_some, rModB, mod0]
         refine ⟨[7, 8, 9], ?_, ?_, ?_, rfl, rfl, rfl⟩ <;> simp [rtOk, tI, rowsZ, rowsN]
 · have hR : readM (kindT w) ps = (⟨5, (0, 0), (0, 0), 0, [], 0, 0, [], [], 0, 0⟩, ps, false) := by rw [hK]; simp [readM, mod0]
   rw [hK]
   generalize ps = rest at *
   have ho := pm_of hws hR
   cases rest with
   | cons p0 t0 =>
     have hg : ((0 : Int) < ((t0.length + 1 : Nat) : Int)) = True := eq_true (by omega)
     rw [ho, if_neg (by simp)]
     try simp -dsimp (maxSteps := 1000000) only [go_sem, List.forall_mem_nil, ↓reduceIte, Nat.reduceEqDiff, Nat.reduceLT, Nat.reduceLeDiff, Nat.reduceAdd, Nat.reduceMul, reduceCtorEq, Tryz.f8, c9, c9, zAr, List.take_nil, List.take_zero, Int.reduceLT, Int.reduceEq, Bool.not_true, Bool.not_false, Bool.or_self, Bool.true_or, Bool.false_or, Bool.or_true, zBo, hg]
     refine zAj [.nilT 0 0 4 1, .nilT 0 0 7 1, .nilT 0 0 8 1, .unf 0 0 4, .unf 0 0 7, .unf 0 0 8] ?_
     simp -dsimp (maxSteps := 1000000) only [go_sem, List.forall_mem_nil, ↓reduceIte, Nat.reduceEqDiff, Nat.reduceLT, Nat.reduceLeDiff, Nat.reduceAdd, Nat.reduceMul, reduceCtorEq, Option.map_some, rModB, mod0]
     refine ⟨[7, 8, 9], ?_, ?_, ?_, rfl, rfl, rfl⟩ <;> simp [rtOk, tI, rowsZ, rowsN]
   | nil =>
   have ri := zBf (k := 5) (t1 := 0) (t2 := 0) (s1 := 0) (s2 := 0) (lv := 0) (st := []) (ra := 0) (rc := 0) (pts := []) (lab := []) (c := 0) (l := 0) (by simp) (by simp) (by simp)
   have rf := zAx ⟨⟨5, (0, 0), (0, 0), 0, [], 0, 0, [], [], 0, 0⟩, ⟨by simp, by simp, by simp⟩, ⟨⟨by simp, by simp⟩, ⟨by simp, by simp⟩, by simp, by simp, by simp⟩, by simp [i64B], by simp [i64B], by simp [i64B], by simp⟩
   simp only [modC, zAk, zAo] at ri rf
   cases hv : isModuleF ⟨5, (0, 0), (0, 0), 0, [], 0, 0, [], [], 0, 0⟩ with
   | false =>
     rw [hv] at ri
     rw [ho, if_neg (by simp [hv])]
     try simp -dsimp (maxSteps := 1000000) only [go_sem, List.forall_mem_nil, ↓reduceIte, Nat.reduceEqDiff, Nat.reduceLT, Nat.reduceLeDiff, Nat.reduceAdd, Nat.reduceMul, reduceCtorEq, Tryz.f8, c9, c9, zAr, List.take_nil, List.take_zero, Int.reduceLT, Int.reduceEq, Bool.not_true, Bool.not_false, Bool.or_self, Bool.true_or, Bool.false_or, Bool.or_true, zAt, c0, ri]
     refine zAj [.nilT 0 0 4 1, .nilT 0 0 7 1, .nilT 0 0 8 1, .unf 0 0 4, .unf 0 0 7, .unf 0 0 8] ?_
     simp -dsimp (maxSteps := 1000000) only [go_sem, List.forall_mem_nil, ↓reduceIte, Nat.reduceEqDiff, Nat.reduceLT, Nat.reduceLeDiff, Nat.reduceAdd, Nat.reduceMul, reduceCtorEq, Option.map_some, rModB, mod0]
     refine ⟨[7, 8, 9], ?_, ?_, ?_, rfl, rfl, rfl⟩ <;> simp [rtOk, tI, rowsZ, rowsN]
   | true =>
   rw [hv] at ri
   by_cases hf : fmtM ⟨5, (0, 0), (0, 0), 0, [], 0, 0, [], [], 0, 0⟩ = s
   · have hf' := eq_true hf
     rw [ho, if_pos ⟨rfl, rfl, hv, hf⟩]
     try simp -dsimp (maxSteps := 1000000) only [go_sem, List.forall_mem_nil, ↓reduceIte, Nat.reduceEqDiff, Nat.reduceLT, Nat.reduceLeDiff, Nat.reduceAdd, Nat.reduceMul, reduceCtorEq, Tryz.f8, c9, c9, zAr, List.take_nil, List.take_zero, Int.reduceLT, Int.reduceEq, Bool.not_true, Bool.not_false, Bool.or_self, Bool.true_or, Bool.false_or, Bool.or_true, zAt, c0, ri, rf, zAn, zAz, hf']
     refine zAj [] ?_
     simp -dsimp (maxSteps := 1000000) only [go_sem, List.forall_mem_nil, ↓reduceIte, Nat.reduceEqDiff, Nat.reduceLT, Nat.reduceLeDiff, Nat.reduceAdd, Nat.reduceMul, reduceCtorEq, rModB]
     refine ⟨[4, 5, 6], ?_, ?_, ?_, rfl, rfl, rfl⟩ <;> simp [rtOk, tI, rowsZ, rowsN]
   · have hf' := eq_false hf
     rw [ho, if_neg (fun h => hf h.2.2.2)]
     try simp -dsimp (maxSteps := 1000000) only [go_sem, List.forall_mem_nil, ↓reduceIte, Nat.reduceEqDiff, Nat.reduceLT, Nat.reduceLeDiff, Nat.reduceAdd, Nat.reduceMul, reduceCtorEq, Tryz.f8, c9, c9, zAr, List.take_nil, List.take_zero, Int.reduceLT, Int.reduceEq, Bool.not_true, Bool.not_false, Bool.or_self, Bool.true_or, Bool.false_or, Bool.or_true, zAt, c0, ri, rf, zAn, zAz, hf']
     refine zAj [.nilT 0 0 4 1, .nilT 0 0 7 1, .nilT 0 0 8 1, .unf 0 0 4, .unf 0 0 7, .unf 0 0 8] ?_
     simp -dsimp (maxSteps := 1000000) only [go_sem, List.forall_mem_nil, ↓reduceIte, Nat.reduceEqDiff, Nat.reduceLT, Nat.reduceLeDiff, Nat.reduceAdd, Nat.reduceMul, reduceCtorEq, Option.map_some, rModB, mod0]
     refine ⟨[7, 8, 9], ?_, ?_, ?_, rfl, rfl, rfl⟩ <;> simp [rtOk, tI, rowsZ, rowsN]
 · have hR : readM (kindT w) ps = (⟨6, (0, 0), (0, 0), 0, [], 0, 0, (slcP (rdI ps false).2.1 (rdI ps false).2.2).1, (slcP (rdI ps false).2.1 (rdI ps false).2.2).2.1, (rdI ps false).1, 0⟩, (slcP (rdI ps false).2.1 (rdI ps false).2.2).2.2) := by rw [hK]; simp [readM, mod0]
   have r1 := zFj (bad := false) hlps hsps
   have w1 := rdI_b ps false
   have l1 := zGu ps false
   have s1 := rdI_sub (bad := false) hsps
   simp only [hsRd] at r1
   rw [hK]
   generalize rdI ps false = X at *
   obtain ⟨ra, ps1, b1⟩ := X
   simp only at r1 w1 l1 s1 hR
   have hl1 : ps1.length ≤ 1048576 := by simp only [List.length_cons] at hlen; omega
   have hdk := slcP_ok _ ps1 b1 (Nat.le_refl _)
   try simp -dsimp (maxSteps := 1000000) only [go_sem, List.forall_mem_nil, ↓reduceIte, Nat.reduceEqDiff, Nat.reduceLT, Nat.reduceLeDiff, Nat.reduceAdd, Nat.reduceMul, reduceCtorEq, Tryz.f8, c9, r1, zDk, Int.reduceLT, Int.reduceEq]
   refine zBh (ι := { x : List Pt × List Int × List Txt × Bool // slcP ps1 b1 = (x.1 ++ (slcP x.2.2.1 x.2.2.2).1, x.2.1 ++ (slcP x.2.2.1 x.2.2.2).2.1, (slcP x.2.2.1 x.2.2.2).2.2) ∧ x.2.2.1.length ≤ ps1.length ∧ x.1.length ≤ ps1.length ∧ x.2.1.length ≤ ps1.length ∧ ∀ p ∈ x.2.2.1, p.length ≤ 2097152 }) (fun x => ⟨[(0, some (.c (.im (.str ⟨s.toArray⟩)))), (2, some (.c (.ptr 0 0 0 0))), (4, some (.c (.ptr 1 0 0 0))), (6, some (.c (.ptr 2 0 0 0)))],
     [(0, some (.box [.t (.im (.int .i64 0)), .t (.im (.cpx .f32 0 0)), .t (.im (.cpx .f32 0 0)), .t (.im (.flt .f32 0)), .t .nil, .t (.im (.int .i64 0)), .t (.im (.int .i64 0)), .t .nil, .t .nil, .t (.im (.int .i64 0)), .t (.im (.int .i64 0))])),
      (1, some (.box [.t (.im (.sl 1 (rowsS x.1.2.2.1))), .t (.im (.bool x.1.2.2.2))])),
      (2, some (.box [.t (.im (.int .i64 6)), .t (.im (.cpx .f32 0 0)), .t (.im (.cpx .f32 0 0)), .t (.im (.flt .f32 0)), .t (.lent 4 1 0), .t (.im (.int .i64 0)), .t (.im (.int .i64 0)), .t (.lent 5 1 x.1.1.length), .t (.lent 6 1 x.1.2.1.length), .t (.im (.int .i64 ra)), .t (.im (.int .i64 0))])),
      (4, some (.arr 1 [])), (5, some (.arr 1 (tI (rowsZ x.1.1)))), (6, some (.arr 1 (tI (rowsN x.1.2.1))))], 7⟩) (fun x => x.1.2.2.1.length) ⟨([], [], ps1, b1), by simp, by simp, by simp, by simp, s1⟩ ⟨[], [0, 1, 2, 4, 5, 6], ?sub⟩ (fun ⟨⟨acc, acl, qs, b⟩, hinv, hq1, hq2, hq4, hq3⟩ => ?_)
   case sub =>
     ((simp only [go_sem, eq_self, MvRb, MvRn, MvRt, List.nodup_cons, List.nodup_nil, ↓reduceIte, Nat.reduceEqDiff, Nat.reduceLT, Nat.reduceLeDiff, reduceCtorEq, List.forall_mem_nil, Nat.zero_le, false_implies, List.mem_singleton, MvR_Z, MvR_Np, zBg, zAk, zAo, tI_nil]) <;> (try (simp -dsimp only [go_sem, eq_self, MvRb, MvRn, MvRt, List.nodup_cons, List.nodup_nil, ↓reduceIte, Nat.reduceEqDiff, Nat.reduceLT, Nat.reduceLeDiff, reduceCtorEq, List.forall_mem_nil, Nat.zero_le, false_implies, List.mem_singleton, MvR_Z, MvR_Np, zBg, zAk, zAo, tI_nil])))
     all_goals simp [lk, zBg, zHb, tI, rowsZ, rowsN]
   simp only at hinv hq1 hq2 hq3 hq4 ⊢
   by_cases hgo : qs ≠ [] ∧ b = false
   · obtain ⟨hne, rfl⟩ := hgo
     have hql : 0 < qs.length := List.length_pos_iff.2 hne
     have hu : slcP qs false = ((rdP qs false).1 :: (slcP (rdI (rdP qs false).2.1 (rdP qs false).2.2).2.1 (rdI (rdP qs false).2.1 (rdP qs false).2.2).2.2).1,
         (rdI (rdP qs false).2.1 (rdP qs false).2.2).1 :: (slcP (rdI (rdP qs false).2.1 (rdP qs false).2.2).2.1 (rdI (rdP qs false).2.1 (rdP qs false).2.2).2.2).2.1,
         (slcP (rdI (rdP qs false).2.1 (rdP qs false).2.2).2.1 (rdI (rdP qs false).2.1 (rdP qs false).2.2).2.2).2.2) := by
       conv => lhs; unfold slcP
       rw [dif_pos ⟨hne, rfl⟩]
     rw [hu] at hinv
     have rp := zFg (ps := qs) (bad := false) (by omega) hq3
     have pl := zGe qs false
     have psb := rdP_sub (bad := false) hq3
     have rn := zFj (ps := (rdP qs false).2.1) (bad := (rdP qs false).2.2) (by rw [pl]; omega) psb
     have nl := zGu (rdP qs false).2.1 (rdP qs false).2.2
     have nsb := rdI_sub (bad := (rdP qs false).2.2) psb
     have hal : (acc ++ (rdP qs false).1 :: (slcP (rdI (rdP qs false).2.1 (rdP qs false).2.2).2.1 (rdI (rdP qs false).2.1 (rdP qs false).2.2).2.2).1).length ≤ ps1.length := by
       have := hdk.1; rw [hinv] at this; exact this
     have hal' : (acl ++ (rdI (rdP qs false).2.1 (rdP qs false).2.2).1 :: (slcP (rdI (rdP qs false).2.1 (rdP qs false).2.2).2.1 (rdI (rdP qs false).2.1 (rdP qs false).2.2).2.2).2.1).length ≤ ps1.length := by
       have := hdk.1; have h2 := hdk.2.1; rw [hinv] at this h2; simp only at this h2; omega
     simp only [hsRd] at rp rn
     generalize rdI (rdP qs false).2.1 (rdP qs false).2.2 = Y2 at *
     generalize rdP qs false = Y at *
     obtain ⟨⟨u, v⟩, qs2, b2⟩ := Y
     obtain ⟨lb, qs3, b3⟩ := Y2
     simp only at rp pl psb rn nl nsb hinv hal hal'
     have hal2 : acc.length + 1 ≤ ps1.length := by simp only [List.length_append, List.length_cons] at hal; omega
     have hal3 : acl.length + 1 ≤ ps1.length := by simp only [List.length_append, List.length_cons] at hal'; omega
     have hg : ((0 : Int) < (qs.length : Int)) = True := eq_true (by omega)
     have hb1 : ((acc.length + 1) * 8 ≤ 140737488355328) = True := eq_true (by omega)
     have hb2 : ((acl.length + 1) * 8 ≤ 140737488355328) = True := eq_true (by omega)
     have tk : List.take acc.length (tI (rowsZ acc)) = tI (rowsZ acc) := List.take_of_length_le (by rw [zAg, zAa]; omega)
     have tkn : List.take acl.length (tI (rowsN acl)) = tI (rowsN acl) := List.take_of_length_le (by rw [zAg, zAb]; omega)
     try simp -dsimp (maxSteps := 1000000) only [go_sem, List.forall_mem_nil, ↓reduceIte, Nat.reduceEqDiff, Nat.reduceLT, Nat.reduceLeDiff, Nat.reduceAdd, Nat.reduceMul, reduceCtorEq, Tryz.f8, zBo, hg, rp, rn, zCc, zDk, hb1, hb2, tk, tkn, tIZp_app, tINp_app, zAg, zAa, zAb, appendH, srcRows, List.take_succ_cons, List.take_zero, List.all_cons, List.all_nil, okT, Bool.and_true, List.length_append, Bool.not_false, Nat.sub_zero, Nat.add_zero]
     repeat' (first
       | ((with_reducible refine sl_i ?_ ?_); focus kernel_rfl)
       | ((with_reducible refine ro_i ?_ ?_); focus kernel_rfl))
     refine ⟨⟨(acc ++ [(u, v)], acl ++ [lb], qs3, b3), by rw [hinv]; simp, by simp only []; omega, by simp only [List.length_append, List.length_cons, List.length_nil]; omega, by simp only [List.length_append, List.length_cons, List.length_nil]; omega, nsb⟩, by simp only []; omega, [], [0, 1, 2, 4, 55, 135], ?_⟩
     (simp only [go_sem, eq_self, MvRb, MvRn, MvRt, List.nodup_cons, List.nodup_nil, ↓reduceIte, Nat.reduceEqDiff, Nat.reduceLT, Nat.reduceLeDiff, reduceCtorEq, List.forall_mem_nil, Nat.zero_le, false_implies, List.mem_singleton, MvR_Z, MvR_Np, zBg, List.length_append, List.length_cons, List.length_nil])
   · have hdq : slcP qs b = ([], [], qs, b) := by unfold slcP; rw [dif_neg hgo]
     rw [hdq, List.append_nil, List.append_nil] at hinv
     rw [hinv] at hR hdk
     simp only at hR hdk
     have hal : acc.length ≤ 1048576 := Nat.le_trans hq2 hl1
     have hall : acl.length ≤ 1048576 := Nat.le_trans hq4 hl1
     have tkl : List.take acc.length (tI (rowsZ acc)) = tI (rowsZ acc) := List.take_of_length_le (by rw [zAg, zAa]; omega)
     have tkm : List.take acl.length (tI (rowsN acl)) = tI (rowsN acl) := List.take_of_length_le (by rw [zAg, zAb]; omega)
     have hg : ((0 : Int) < ((0 : Nat) : Int)) = False := eq_false (by omega)
     have ri := zBf (k := 6) (t1 := 0) (t2 := 0) (s1 := 0) (s2 := 0) (lv := 0) (st := []) (ra := 0) (rc := 0) (pts := acc) (lab := acl) (c := ra) (l := 0) (by simp) (by simp only [sm]; omega) (by simp only [sm]; omega)
     have rf := zAx ⟨⟨6, (0, 0), (0, 0), 0, [], 0, 0, acc, acl, ra, 0⟩, ⟨by simp, by simp only [sm]; omega, by simp only [sm]; omega⟩, ⟨⟨by simp, by simp⟩, ⟨by simp, by simp⟩, by simp, by simp, hdk.2.2.1⟩, by simp [i64B], w1, by simp [i64B], hdk.2.2.2⟩
     simp only [modC, zAk, zAo] at ri rf
     have ho := pm_of hws hR
     cases b with
     | true =>
       rw [ho, if_neg (by simp)]
       cases qs with
       | nil =>
         try simp -dsimp (maxSteps := 1000000) only [go_sem, List.forall_mem_nil, ↓reduceIte, Nat.reduceEqDiff, Nat.reduceLT, Nat.reduceLeDiff, Nat.reduceAdd, Nat.reduceMul, reduceCtorEq, Tryz.f8, c9, zAr, List.take_nil, List.take_zero, Int.reduceLT, Int.reduceEq, Bool.not_true, Bool.not_false, Bool.or_self, Bool.true_or, Bool.false_or, Bool.or_true, zAg, zBc, zAa, zAb, tkl, tkm, zAt, c0, hg]
         refine zAj [.nilT 0 0 4 1, .nilT 0 0 7 1, .nilT 0 0 8 1, .unf 0 0 4, .unf 0 0 7, .unf 0 0 8] ?_
         simp -dsimp (maxSteps := 1000000) only [go_sem, List.forall_mem_nil, ↓reduceIte, Nat.reduceEqDiff, Nat.reduceLT, Nat.reduceLeDiff, Nat.reduceAdd, Nat.reduceMul, reduceCtorEq, Option.map_some, rModB, mod0]
         refine ⟨[7, 8, 9], ?_, ?_, ?_, rfl, rfl, rfl⟩ <;> simp [rtOk, tI, rowsZ, rowsN]
       | cons p0 t0 =>
         have hg2 : ((0 : Int) < ((t0.length + 1 : Nat) : Int)) = True := eq_true (by omega)
         try simp -dsimp (maxSteps := 1000000) only [go_sem, List.forall_mem_nil, ↓reduceIte, Nat.reduceEqDiff, Nat.reduceLT, Nat.reduceLeDiff, Nat.reduceAdd, Nat.reduceMul, reduceCtorEq, Tryz.f8, c9, zAr, List.take_nil, List.take_zero, Int.reduceLT, Int.reduceEq, Bool.not_true, Bool.not_false, Bool.or_self, Bool.true_or, Bool.false_or, Bool.or_true, zAg, zBc, zAa, zAb, tkl, tkm, zBo, zCy, List.length_cons, hg2]
         refine zAj [.nilT 0 0 4 1, .nilT 0 0 7 1, .nilT 0 0 8 1, .unf 0 0 4, .unf 0 0 7, .unf 0 0 8] ?_
         simp -dsimp (maxSteps := 1000000) only [go_sem, List.forall_mem_nil, ↓reduceIte, Nat.reduceEqDiff, Nat.reduceLT, Nat.reduceLeDiff, Nat.reduceAdd, Nat.reduceMul, reduceCtorEq, Option.map_some, rModB, mod0]
         refine ⟨[7, 8, 9], ?_, ?_, ?_, rfl, rfl, rfl⟩ <;> simp [rtOk, tI, rowsZ, rowsN]
     | false =>
       cases qs with
       | cons p0 t0 => exact absurd ⟨by simp, rfl⟩ hgo
       | nil =>
       cases hv : isModuleF ⟨6, (0, 0), (0, 0), 0, [], 0, 0, acc, acl, ra, 0⟩ with
       | false =>
         rw [hv] at ri
         rw [ho, if_neg (by simp [hv])]
         try simp -dsimp (maxSteps := 1000000) only [go_sem, List.forall_mem_nil, ↓reduceIte, Nat.reduceEqDiff, Nat.reduceLT, Nat.reduceLeDiff, Nat.reduceAdd, Nat.reduceMul, reduceCtorEq, Tryz.f8, c9, zAr, List.take_nil, List.take_zero, Int.reduceLT, Int.reduceEq, Bool.not_true, Bool.not_false, Bool.or_self, Bool.true_or, Bool.false_or, Bool.or_true, zAg, zBc, zAa, zAb, tkl, tkm, zAt, c0, hg, ri]
         refine zAj [.nilT 0 0 4 1, .nilT 0 0 7 1, .nilT 0 0 8 1, .unf 0 0 4, .unf 0 0 7, .unf 0 0 8] ?_
         simp -dsimp (maxSteps := 1000000) only [go_sem, List.forall_mem_nil, ↓reduceIte, Nat.reduceEqDiff, Nat.reduceLT, Nat.reduceLeDiff, Nat.reduceAdd, Nat.reduceMul, reduceCtorEq, Option.map_some, rModB, mod0]
         refine ⟨[7, 8, 9], ?_, ?_, ?_, rfl, rfl, rfl⟩ <;> simp [rtOk, tI, rowsZ, rowsN]
       | true =>
       rw [hv] at ri
       by_cases hf : fmtM ⟨6, (0, 0), (0, 0), 0, [], 0, 0, acc, acl, ra, 0⟩ = s
       · have hf' := eq_true hf
         rw [ho, if_pos ⟨rfl, rfl, hv, hf⟩]
         try simp -dsimp (maxSteps := 1000000) only [go_sem, List.forall_mem_nil, ↓reduceIte, Nat.reduceEqDiff, Nat.reduceLT, Nat.reduceLeDiff, Nat.reduceAdd, Nat.reduceMul, reduceCtorEq, Tryz.f8, c9, zAr, List.take_nil, List.take_zero, Int.reduceLT, Int.reduceEq, Bool.not_true, Bool.not_false, Bool.or_self, Bool.true_or, Bool.false_or, Bool.or_true, zAg, zBc, zAa, zAb, tkl, tkm, zAt, c0, hg, ri, rf, zAn, zAz, hf']
         refine zAj [] ?_
         simp -dsimp (maxSteps := 1000000) only [go_sem, List.forall_mem_nil, ↓reduceIte, Nat.reduceEqDiff, Nat.reduceLT, Nat.reduceLeDiff, Nat.reduceAdd, Nat.reduceMul, reduceCtorEq, rModB]
         refine ⟨[4, 5, 6], ?_, ?_, ?_, rfl, rfl, rfl⟩ <;> simp [rtOk, tI, rowsZ, rowsN]
       · have hf' := eq_false hf
         rw [ho, if_neg (fun h => hf h.2.2.2)]
         try simp -dsimp (maxSteps := 1000000) only [go_sem, List.forall_mem_nil, ↓reduceIte, Nat.reduceEqDiff, Nat.reduceLT, Nat.reduceLeDiff, Nat.reduceAdd, Nat.reduceMul, reduceCtorEq, Tryz.f8, c9, zAr, List.take_nil, List.take_zero, Int.reduceLT, Int.reduceEq, Bool.not_true, Bool.not_false, Bool.or_self, Bool.true_or, Bool.false_or, Bool.or_true, zAg, zBc, zAa, zAb, tkl, tkm, zAt, c0, hg, ri, rf, zAn, zAz, hf']
         refine zAj [.nilT 0 0 4 1, .nilT 0 0 7 1, .nilT 0 0 8 1, .unf 0 0 4, .unf 0 0 7, .unf 0 0 8] ?_
         simp -dsimp (maxSteps := 1000000) only [go_sem, List.forall_mem_nil, ↓reduceIte, Nat.reduceEqDiff, Nat.reduceLT, Nat.reduceLeDiff, Nat.reduceAdd, Nat.reduceMul, reduceCtorEq, Option.map_some, rModB, mod0]
         refine ⟨[7, 8, 9], ?_, ?_, ?_, rfl, rfl, rfl⟩ <;> simp [rtOk, tI, rowsZ, rowsN]
 · have hR : readM (kindT w) ps = (⟨7, (0, 0), (0, 0), (rdS ps false).1, [], 0, 0, [], [], 0, 0⟩, (rdS ps false).2) := by rw [hK]; simp [readM, mod0]
   have r1 := run_single (bad := false) hlps hsps
   have w1 := rdS_lt ps false
   simp only [hsRd] at r1
   rw [hK]
   generalize rdS ps false = X at *
   obtain ⟨lv, rest, bd⟩ := X
   simp only at r1 w1 hR
   have ho := pm_of hws hR
   cases bd with
   | true =>
     rw [ho, if_neg (by simp)]
     try simp -dsimp (maxSteps := 1000000) only [go_sem, List.forall_mem_nil, ↓reduceIte, Nat.reduceEqDiff, Nat.reduceLT, Nat.reduceLeDiff, Nat.reduceAdd, Nat.reduceMul, reduceCtorEq, Tryz.f8, c9, r1, zCz, zAr, List.take_nil, List.take_zero, Int.reduceLT, Int.reduceEq, Bool.not_true, Bool.not_false, Bool.or_self, Bool.true_or, Bool.false_or, Bool.or_true, zBo]
     refine zAj [.nilT 0 0 4 1, .nilT 0 0 7 1, .nilT 0 0 8 1, .unf 0 0 4, .unf 0 0 7, .unf 0 0 8] ?_
     simp -dsimp (maxSteps := 1000000) only [go_sem, List.forall_mem_nil, ↓reduceIte, Nat.reduceEqDiff, Nat.reduceLT, Nat.reduceLeDiff, Nat.reduceAdd, Nat.reduceMul, reduceCtorEq, Option.map_some, rModB, mod0]
     refine ⟨[7, 8, 9], ?_, ?_, ?_, rfl, rfl, rfl⟩ <;> simp [rtOk, tI, rowsZ, rowsN]
   | false =>
   cases rest with
   | cons p0 t0 =>
     have hg : ((0 : Int) < ((t0.length + 1 : Nat) : Int)) = True := eq_true (by omega)
     rw [ho, if_neg (by simp)]
     try simp -dsimp (maxSteps := 1000000) only [go_sem, List.forall_mem_nil, ↓reduceIte, Nat.reduceEqDiff, Nat.reduceLT, Nat.reduceLeDiff, Nat.reduceAdd, Nat.reduceMul, reduceCtorEq, Tryz.f8, c9, r1, zCz, zAr, List.take_nil, List.take_zero, Int.reduceLT, Int.reduceEq, Bool.not_true, Bool.not_false, Bool.or_self, Bool.true_or, Bool.false_or, Bool.or_true, zBo, hg]
     refine zAj [.nilT 0 0 4 1, .nilT 0 0 7 1, .nilT 0 0 8 1, .unf 0 0 4, .unf 0 0 7, .unf 0 0 8] ?_
     simp -dsimp (maxSteps := 1000000) only [go_sem, List.forall_mem_nil, ↓reduceIte, Nat.reduceEqDiff, Nat.reduceLT, Nat.reduceLeDiff, Nat.reduceAdd, Nat.reduceMul, reduceCtorEq, Option.map_some, rModB, mod0]
     refine ⟨[7, 8, 9], ?_, ?_, ?_, rfl, rfl, rfl⟩ <;> simp [rtOk, tI, rowsZ, rowsN]
   | nil =>
   have ri := zBf (k := 7) (t1 := 0) (t2 := 0) (s1 := 0) (s2 := 0) (lv := lv) (st := []) (ra := 0) (rc := 0) (pts := []) (lab := []) (c := 0) (l := 0) (by simp) (by simp) (by simp)
   have rf := zAx ⟨⟨7, (0, 0), (0, 0), lv, [], 0, 0, [], [], 0, 0⟩, ⟨by simp, by simp, by simp⟩, ⟨⟨by simp, by simp⟩, ⟨by simp, by simp⟩, w1, by simp, by simp⟩, by simp [i64B], by simp [i64B], by simp [i64B], by simp⟩
   simp only [modC, zAk, zAo] at ri rf
   cases hv : isModuleF ⟨7, (0, 0), (0, 0), lv, [], 0, 0, [], [], 0, 0⟩ with
   | false =>
     rw [hv] at ri
     rw [ho, if_neg (by simp [hv])]
     try simp -dsimp (maxSteps := 1000000) only [go_sem, List.forall_mem_nil, ↓reduceIte, Nat.reduceEqDiff, Nat.reduceLT, Nat.reduceLeDiff, Nat.reduceAdd, Nat.reduceMul, reduceCtorEq, Tryz.f8, c9, r1, zCz, zAr, List.take_nil, List.take_zero, Int.reduceLT, Int.reduceEq, Bool.not_true, Bool.not_false, Bool.or_self, Bool.true_or, Bool.false_or, Bool.or_true, zAt, c0, ri]
     refine zAj [.nilT 0 0 4 1, .nilT 0 0 7 1, .nilT 0 0 8 1, .unf 0 0 4, .unf 0 0 7, .unf 0 0 8] ?_
     simp -dsimp (maxSteps := 1000000) only [go_sem, List.forall_mem_nil, ↓reduceIte, Nat.reduceEqDiff, Nat.reduceLT, Nat.reduceLeDiff, Nat.reduceAdd, Nat.reduceMul, reduceCtorEq, Option.map_some, rModB, mod0]
     refine ⟨[7, 8, 9], ?_, ?_, ?_, rfl, rfl, rfl⟩ <;> simp [rtOk, tI, rowsZ, rowsN]
   | true =>
   rw [hv] at ri
   by_cases hf : fmtM ⟨7, (0, 0), (0, 0), lv, [], 0, 0, [], [], 0, 0⟩ = s
   · have hf' := eq_true hf
     rw [ho, if_pos ⟨rfl, rfl, hv, hf⟩]
     try simp -dsimp (maxSteps := 1000000) only [go_sem, List.forall_mem_nil, ↓reduceIte, Nat.reduceEqDiff, Nat.reduceLT, Nat.reduceLeDiff, Nat.reduceAdd, Nat.reduceMul, reduceCtorEq, Tryz.f8, c9, r1, zCz, zAr, List.take_nil, List.take_zero, Int.reduceLT, Int.reduceEq, Bool.not_true, Bool.not_false, Bool.or_self, Bool.true_or, Bool.false_or, Bool.or_true, zAt, c0, ri, rf, zAn, zAz, hf']
     refine zAj [] ?_
     simp -dsimp (maxSteps := 1000000) only [go_sem, List.forall_mem_nil, ↓reduceIte, Nat.reduceEqDiff, Nat.reduceLT, Nat.reduceLeDiff, Nat.reduceAdd, Nat.reduceMul, reduceCtorEq, rModB]
     refine ⟨[4, 5, 6], ?_, ?_, ?_, rfl, rfl, rfl⟩ <;> simp [rtOk, tI, rowsZ, rowsN]
   · have hf' := eq_false hf
     rw [ho, if_neg (fun h => hf h.2.2.2)]
     try simp -dsimp (maxSteps := 1000000) only [go_sem, List.forall_mem_nil, ↓reduceIte, Nat.reduceEqDiff, Nat.reduceLT, Nat.reduceLeDiff, Nat.reduceAdd, Nat.reduceMul, reduceCtorEq, Tryz.f8, c9, r1, zCz, zAr, List.take_nil, List.take_zero, Int.reduceLT, Int.reduceEq, Bool.not_true, Bool.not_false, Bool.or_self, Bool.true_or, Bool.false_or, Bool.or_true, zAt, c0, ri, rf, zAn, zAz, hf']
     refine zAj [.nilT 0 0 4 1, .nilT 0 0 7 1, .nilT 0 0 8 1, .unf 0 0 4, .unf 0 0 7, .unf 0 0 8] ?_
     simp -dsimp (maxSteps := 1000000) only [go_sem, List.forall_mem_nil, ↓reduceIte, Nat.reduceEqDiff, Nat.reduceLT, Nat.reduceLeDiff, Nat.reduceAdd, Nat.reduceMul, reduceCtorEq, Option.map_some, rModB, mod0]
     refine ⟨[7, 8, 9], ?_, ?_, ?_, rfl, rfl, rfl⟩ <;> simp [rtOk, tI, rowsZ, rowsN]
 · have hR : readM (kindT w) ps = (⟨8, (0, 0), (rdP (rdI (rdI ps false).2.1 (rdI ps false).2.2).2.1 (rdI (rdI ps false).2.1 (rdI ps false).2.2).2.2).1, 0, [], 0, 0, [], [], (rdI ps false).1, (rdI (rdI ps false).2.1 (rdI ps false).2.2).1⟩, (rdP (rdI (rdI ps false).2.1 (rdI ps false).2.2).2.1 (rdI (rdI ps false).2.1 (rdI ps false).2.2).2.2).2) := by rw [hK]; simp [readM, mod0]
   have r1 := zFj (bad := false) hlps hsps
   have r2 := zFj (ps := (rdI ps false).2.1) (bad := (rdI ps false).2.2) (by rw [zGu]; omega) (rdI_sub hsps)
   have r3 := zFg (ps := (rdI (rdI ps false).2.1 (rdI ps false).2.2).2.1) (bad := (rdI (rdI ps false).2.1 (rdI ps false).2.2).2.2) (by rw [zGu, zGu]; omega) (rdI_sub (rdI_sub hsps))
   have w1 := rdI_b ps false
   have w2 := rdI_b (rdI ps false).2.1 (rdI ps false).2.2
   have w3 := rdP_lt (rdI (rdI ps false).2.1 (rdI ps false).2.2).2.1 (rdI (rdI ps false).2.1 (rdI ps false).2.2).2.2
   simp only [hsRd] at r1 r2 r3
   rw [hK]
   generalize rdP (rdI (rdI ps false).2.1 (rdI ps false).2.2).2.1 (rdI (rdI ps false).2.1 (rdI ps false).2.2).2.2 = Z at *
   generalize rdI (rdI ps false).2.1 (rdI ps false).2.2 = Y at *
   generalize rdI ps false = X at *
   obtain ⟨c, ps1, b1⟩ := X
   obtain ⟨lf, ps2, b2⟩ := Y
   obtain ⟨⟨s1, s2⟩, rest, bd⟩ := Z
   simp only at r1 r2 r3 w1 w2 w3 hR
   have ho := pm_of hws hR
   cases bd with
   | true =>
     rw [ho, if_neg (by simp)]
     try simp -dsimp (maxSteps := 1000000) only [go_sem, List.forall_mem_nil, ↓reduceIte, Nat.reduceEqDiff, Nat.reduceLT, Nat.reduceLeDiff, Nat.reduceAdd, Nat.reduceMul, reduceCtorEq, Tryz.f8, c9, r1, r2, r3, zDk, zCc, zAr, List.take_nil, List.take_zero, Int.reduceLT, Int.reduceEq, Bool.not_true, Bool.not_false, Bool.or_self, Bool.true_or, Bool.false_or, Bool.or_true, zBo]
     refine zAj [.nilT 0 0 4 1, .nilT 0 0 7 1, .nilT 0 0 8 1, .unf 0 0 4, .unf 0 0 7, .unf 0 0 8] ?_
     simp -dsimp (maxSteps := 1000000) only [go_sem, List.forall_mem_nil, ↓reduceIte, Nat.reduceEqDiff, Nat.reduceLT, Nat.reduceLeDiff, Nat.reduceAdd, Nat.reduceMul, reduceCtorEq, Option.map_some, rModB, mod0]
     refine ⟨[7, 8, 9], ?_, ?_, ?_, rfl, rfl, rfl⟩ <;> simp [rtOk, tI, rowsZ, rowsN]
   | false =>
   cases rest with
   | cons p0 t0 =>
     have hg : ((0 : Int) < ((t0.length + 1 : Nat) : Int)) = True := eq_true (by omega)
     rw [ho, if_neg (by simp)]
     try simp -dsimp (maxSteps := 1000000) only [go_sem, List.forall_mem_nil, ↓reduceIte, Nat.reduceEqDiff, Nat.reduceLT, Nat.reduceLeDiff, Nat.reduceAdd, Nat.reduceMul, reduceCtorEq, Tryz.f8, c9, r1, r2, r3, zDk, zCc, zAr, List.take_nil, List.take_zero, Int.reduceLT, Int.reduceEq, Bool.not_true, Bool.not_false, Bool.or_self, Bool.true_or, Bool.false_or, Bool.or_true, zBo, hg]
     refine zAj [.nilT 0 0 4 1, .nilT 0 0 7 1, .nilT 0 0 8 1, .unf 0 0 4, .unf 0 0 7, .unf 0 0 8] ?_
     simp -dsimp (maxSteps := 1000000) only [go_sem, List.forall_mem_nil, ↓reduceIte, Nat.reduceEqDiff, Nat.reduceLT, Nat.reduceLeDiff, Nat.reduceAdd, Nat.reduceMul, reduceCtorEq, Option.map_some, rModB, mod0]
     refine ⟨[7, 8, 9], ?_, ?_, ?_, rfl, rfl, rfl⟩ <;> simp [rtOk, tI, rowsZ, rowsN]
   | nil =>
   have ri := zBf (k := 8) (t1 := 0) (t2 := 0) (s1 := s1) (s2 := s2) (lv := 0) (st := []) (ra := 0) (rc := 0) (pts := []) (lab := []) (c := c) (l := lf) (by simp) (by simp) (by simp)
   have rf := zAx ⟨⟨8, (0, 0), (s1, s2), 0, [], 0, 0, [], [], c, lf⟩, ⟨by simp, by simp, by simp⟩, ⟨⟨by simp, by simp⟩, w3, by simp, by simp, by simp⟩, by simp [i64B], w1, w2, by simp⟩
   simp only [modC, zAk, zAo] at ri rf
   cases hv : isModuleF ⟨8, (0, 0), (s1, s2), 0, [], 0, 0, [], [], c, lf⟩ with
   | false =>
     rw [hv] at ri
     rw [ho, if_neg (by simp [hv])]
     try simp -dsimp (maxSteps := 1000000) only [go_sem, List.forall_mem_nil, ↓reduceIte, Nat.reduceEqDiff, Nat.reduceLT, Nat.reduceLeDiff, Nat.reduceAdd, Nat.reduceMul, reduceCtorEq, Tryz.f8, c9, r1, r2, r3, zDk, zCc, zAr, List.take_nil, List.take_zero, Int.reduceLT, Int.reduceEq, Bool.not_true, Bool.not_false, Bool.or_self, Bool.true_or, Bool.false_or, Bool.or_true, zAt, c0, ri]
     refine zAj [.nilT 0 0 4 1, .nilT 0 0 7 1, .nilT 0 0 8 1, .unf 0 0 4, .unf 0 0 7, .unf 0 0 8] ?_
     simp -dsimp (maxSteps := 1000000) only [go_sem, List.forall_mem_nil, ↓reduceIte, Nat.reduceEqDiff, Nat.reduceLT, Nat.reduceLeDiff, Nat.reduceAdd, Nat.reduceMul, reduceCtorEq, Option.map_some, rModB, mod0]
     refine ⟨[7, 8, 9], ?_, ?_, ?_, rfl, rfl, rfl⟩ <;> simp [rtOk, tI, rowsZ, rowsN]
   | true =>
   rw [hv] at ri
   by_cases hf : fmtM ⟨8, (0, 0), (s1, s2), 0, [], 0, 0, [], [], c, lf⟩ = s
   · have hf' := eq_true hf
     rw [ho, if_pos ⟨rfl, rfl, hv, hf⟩]
     try simp -dsimp (maxSteps := 1000000) only [go_sem, List.forall_mem_nil, ↓reduceIte, Nat.reduceEqDiff, Nat.reduceLT, Nat.reduceLeDiff, Nat.reduceAdd, Nat.reduceMul, reduceCtorEq, Tryz.f8, c9, r1, r2, r3, zDk, zCc, zAr, List.take_nil, List.take_zero, Int.reduceLT, Int.reduceEq, Bool.not_true, Bool.not_false, Bool.or_self, Bool.true_or, Bool.false_or, Bool.or_true, zAt, c0, ri, rf, zAn, zAz, hf']
     refine zAj [] ?_
     simp -dsimp (maxSteps := 1000000) only [go_sem, List.forall_mem_nil, ↓reduceIte, Nat.reduceEqDiff, Nat.reduceLT, Nat.reduceLeDiff, Nat.reduceAdd, Nat.reduceMul, reduceCtorEq, rModB]
     refine ⟨[4, 5, 6], ?_, ?_, ?_, rfl, rfl, rfl⟩ <;> simp [rtOk, tI, rowsZ, rowsN]
   · have hf' := eq_false hf
     rw [ho, if_neg (fun h => hf h.2.2.2)]
     try simp -dsimp (maxSteps := 1000000) only [go_sem, List.forall_mem_nil, ↓reduceIte, Nat.reduceEqDiff, Nat.reduceLT, Nat.reduceLeDiff, Nat.reduceAdd, Nat.reduceMul, reduceCtorEq, Tryz.f8, c9, r1, r2, r3, zDk, zCc, zAr, List.take_nil, List.take_zero, Int.reduceLT, Int.reduceEq, Bool.not_true, Bool.not_false, Bool.or_self, Bool.true_or, Bool.false_or, Bool.or_true, zAt, c0, ri, rf, zAn, zAz, hf']
     refine zAj [.nilT 0 0 4 1, .nilT 0 0 7 1, .nilT 0 0 8 1, .unf 0 0 4, .unf 0 0 7, .unf 0 0 8] ?_
     simp -dsimp (maxSteps := 1000000) only [go_sem, List.forall_mem_nil, ↓reduceIte, Nat.reduceEqDiff, Nat.reduceLT, Nat.reduceLeDiff, Nat.reduceAdd, Nat.reduceMul, reduceCtorEq, Option.map_some, rModB, mod0]
     refine ⟨[7, 8, 9], ?_, ?_, ?_, rfl, rfl, rfl⟩ <;> simp [rtOk, tI, rowsZ, rowsN]
 · have hR : readM (kindT w) ps = (⟨0, (0, 0), (0, 0), 0, [], 0, 0, [], [], 0, 0⟩, ps, false) := by rw [hK]; simp [readM, mod0]
   rw [hK]
   generalize ps = rest at *
   have ho := pm_of hws hR
   cases rest with
   | cons p0 t0 =>
     have hg : ((0 : Int) < ((t0.length + 1 : Nat) : Int)) = True := eq_true (by omega)
     rw [ho, if_neg (by simp)]
     try simp -dsimp (maxSteps := 1000000) only [go_sem, List.forall_mem_nil, ↓reduceIte, Nat.reduceEqDiff, Nat.reduceLT, Nat.reduceLeDiff, Nat.reduceAdd, Nat.reduceMul, reduceCtorEq, Tryz.f8, c9, c9, zAr, List.take_nil, List.take_zero, Int.reduceLT, Int.reduceEq, Bool.not_true, Bool.not_false, Bool.or_self, Bool.true_or, Bool.false_or, Bool.or_true, zBo, hg]
     refine zAj [.nilT 0 0 4 1, .nilT 0 0 7 1, .nilT 0 0 8 1, .unf 0 0 4, .unf 0 0 7, .unf 0 0 8] ?_
     simp -dsimp (maxSteps := 1000000) only [go_sem, List.forall_mem_nil, ↓reduceIte, Nat.reduceEqDiff, Nat.reduceLT, Nat.reduceLeDiff, Nat.reduceAdd, Nat.reduceMul, reduceCtorEq, Option.map_some, rModB, mod0]
     refine ⟨[7, 8, 9], ?_, ?_, ?_, rfl, rfl, rfl⟩ <;> simp [rtOk, tI, rowsZ, rowsN]
   | nil =>
   have ri := zBf (k := 0) (t1 := 0) (t2 := 0) (s1 := 0) (s2 := 0) (lv := 0) (st := []) (ra := 0) (rc := 0) (pts := []) (lab := []) (c := 0) (l := 0) (by simp) (by simp) (by simp)
   have rf := zAx ⟨⟨0, (0, 0), (0, 0), 0, [], 0, 0, [], [], 0, 0⟩, ⟨by simp, by simp, by simp⟩, ⟨⟨by simp, by simp⟩, ⟨by simp, by simp⟩, by simp, by simp, by simp⟩, by simp [i64B], by simp [i64B], by simp [i64B], by simp⟩
   simp only [modC, zAk, zAo] at ri rf
   cases hv : isModuleF ⟨0, (0, 0), (0, 0), 0, [], 0, 0, [], [], 0, 0⟩ with
   | false =>
     rw [hv] at ri
     rw [ho, if_neg (by simp [hv])]
     try simp -dsimp (maxSteps := 1000000) only [go_sem, List.forall_mem_nil, ↓reduceIte, Nat.reduceEqDiff, Nat.reduceLT, Nat.reduceLeDiff, Nat.reduceAdd, Nat.reduceMul, reduceCtorEq, Tryz.f8, c9, c9, zAr, List.take_nil, List.take_zero, Int.reduceLT, Int.reduceEq, Bool.not_true, Bool.not_false, Bool.or_self, Bool.true_or, Bool.false_or, Bool.or_true, zAt, c0, ri]
     refine zAj [.nilT 0 0 4 1, .nilT 0 0 7 1, .nilT 0 0 8 1, .unf 0 0 4, .unf 0 0 7, .unf 0 0 8] ?_
     simp -dsimp (maxSteps := 1000000) only [go_sem, List.forall_mem_nil, ↓reduceIte, Nat.reduceEqDiff, Nat.reduceLT, Nat.reduceLeDiff, Nat.reduceAdd, Nat.reduceMul, reduceCtorEq, Option.map_some, rModB, mod0]
     refine ⟨[7, 8, 9], ?_, ?_, ?_, rfl, rfl, rfl⟩ <;> simp [rtOk, tI, rowsZ, rowsN]
   | true =>
   rw [hv] at ri
   by_cases hf : fmtM ⟨0, (0, 0), (0, 0), 0, [], 0, 0, [], [], 0, 0⟩ = s
   · have hf' := eq_true hf
     rw [ho, if_pos ⟨rfl, rfl, hv, hf⟩]
     try simp -dsimp (maxSteps := 1000000) only [go_sem, List.forall_mem_nil, ↓reduceIte, Nat.reduceEqDiff, Nat.reduceLT, Nat.reduceLeDiff, Nat.reduceAdd, Nat.reduceMul, reduceCtorEq, Tryz.f8, c9, c9, zAr, List.take_nil, List.take_zero, Int.reduceLT, Int.reduceEq, Bool.not_true, Bool.not_false, Bool.or_self, Bool.true_or, Bool.false_or, Bool.or_true, zAt, c0, ri, rf, zAn, zAz, hf']
     refine zAj [] ?_
     simp -dsimp (maxSteps := 1000000) only [go_sem, List.forall_mem_nil, ↓reduceIte, Nat.reduceEqDiff, Nat.reduceLT, Nat.reduceLeDiff, Nat.reduceAdd, Nat.reduceMul, reduceCtorEq, rModB]
     refine ⟨[4, 5, 6], ?_, ?_, ?_, rfl, rfl, rfl⟩ <;> simp [rtOk, tI, rowsZ, rowsN]
   · have hf' := eq_false hf
     rw [ho, if_neg (fun h => hf h.2.2.2)]
     try simp -dsimp (maxSteps := 1000000) only [go_sem, List.forall_mem_nil, ↓reduceIte, Nat.reduceEqDiff, Nat.reduceLT, Nat.reduceLeDiff, Nat.reduceAdd, Nat.reduceMul, reduceCtorEq, Tryz.f8, c9, c9, zAr, List.take_nil, List.take_zero, Int.reduceLT, Int.reduceEq, Bool.not_true, Bool.not_false, Bool.or_self, Bool.true_or, Bool.false_or, Bool.or_true, zAt, c0, ri, rf, zAn, zAz, hf']
     refine zAj [.nilT 0 0 4 1, .nilT 0 0 7 1, .nilT 0 0 8 1, .unf 0 0 4, .unf 0 0 7, .unf 0 0 8] ?_
     simp -dsimp (maxSteps := 1000000) only [go_sem, List.forall_mem_nil, ↓reduceIte, Nat.reduceEqDiff, Nat.reduceLT, Nat.reduceLeDiff, Nat.reduceAdd, Nat.reduceMul, reduceCtorEq, Option.map_some, rModB, mod0]
     refine ⟨[7, 8, 9], ?_, ?_, ?_, rfl, rfl, rfl⟩ <;> simp [rtOk, tI, rowsZ, rowsN]
end Go.SX
namespace Go.SX
open Go Go.Proofs Ieee
theorem two64 : double.read 4611686018427387904 = .number false 4503599627370496 (-51) := by decide +kernel
theorem rd_log {m : Nat} {e : Int} (h : Dr m e) : ∃ M i, double.read (dW m e) = .number false M i ∧ SV M i m e ∧ 4503599627370496 ≤ M ∧ M < 9007199254740992 ∧ i + 52 = e + m.log2 ∧ M.log2 = 52 := by
 obtain ⟨e1, g1, g2, hl⟩ := zCp h
 refine ⟨_, _, rd_dW' h, (SV.shl m e _).symm, g1, g2, by omega, ?_⟩
 have a := le_log2_of_le (M := m * 2 ^ (52 - m.log2)) (k := 52) (by simpa using g1)
 have b := zCh (M := m * 2 ^ (52 - m.log2)) (k := 52) (by omega) (by simpa using g2)
 omega
theorem half64 {m : Nat} {e : Int} (h : Dr m e) : fop .quo .f64 (dW m e) 4611686018427387904 = dW m (e - 1) := by
 obtain ⟨M, i, r, sv, g1, g2, hi, hl⟩ := rd_log h
 have e2 : double.div (dW m e) 4611686018427387904 = some (dW m (e - 1)) := by
   unfold Format.div
   rw [r, two64]
   have l2 : (4503599627370496 : Nat).log2 = 52 := by decide +kernel
   have hf : double.fractionBits = 52 := rfl
   simp only [Datum.quotient, l2, hl, hf]
   rw [if_neg (by decide)]
   have q1 : M <<< (52 + 2 + 52 - 52) / 4503599627370496 = M * 4 := by
     rw [zEc]
     show M * 18014398509481984 / 4503599627370496 = M * 4
     omega
   have q2 : M <<< (52 + 2 + 52 - 52) % 4503599627370496 = 0 := by
     rw [zEc]
     show M * 18014398509481984 % 4503599627370496 = 0
     omega
   rw [q1, q2]
   simp only [Option.map_some, Format.write, Bool.false_xor, bne_self_eq_false, Bool.toNat_false]
   rw [dW]
   refine congrArg some ?_
   have s1 := (SV.shl M (i - 1) 3).symm.trans (sv.add (-1))
   have s2 : M * 2 ^ 3 = 2 * (M * 4) + 0 := by omega
   rw [s2] at s1
   have s3 : i - 1 - ((3 : Nat) : Int) = i - -51 - ↑(52 + 2 + 52 - 52 : Nat) - 1 := by omega
   rw [s3] at s1
   obtain ⟨M', last, a, b, _, _, _⟩ := dr_can h
   have hz : Can double M' (last - 1) ∧ SV m (e - 1) M' (last - 1) := by
     refine ⟨⟨a.pos, a.lt, ?_, ?_⟩, b.add (-1)⟩
     · rw [ep2]; omega
     · rcases a.form with hq | hq
       · rw [ep2] at hq; omega
       · exact .inr hq
   rw [zDn hz.1 (s1.trans hz.2), zDn hz.1 hz.2]
 show (double.div (dW m e) _).getD _ = _
 rw [e2]; rfl
theorem twice64 {m : Nat} {e : Int} (h : Dr m e) (h' : Dr m (e + 1)) : fop .mul .f64 (dW m e) 4611686018427387904 = dW m (e + 1) := by
 obtain ⟨M, i, r, sv, g1, g2, hi, hl⟩ := rd_log h
 have e2 : double.mul (dW m e) 4611686018427387904 = some (dW m (e + 1)) := by
   unfold Format.mul
   rw [r, two64]
   simp only [Datum.product, Option.map_some, Format.write, Bool.false_xor]
   congr 1
   refine near_dW h' ?_
   have b : SV 1 1 4503599627370496 (-51) := SV.shl 1 1 52
   have := SV.mul sv.symm b
   rw [Nat.mul_one] at this
   exact this
 show (double.mul (dW m e) _).getD _ = _
 rw [e2]; rfl
theorem cmp_nat (a b : Nat) : compare (a : Int) (b : Int) = if a < b then .lt else if a = b then .eq else .gt := by
 simp only [compare, compareOfLessAndEq]
 have h1 : ((a : Int) < b) = (a < b) := by simp
 have h2 : ((a : Int) = b) = (a = b) := propext ⟨fun h => by omega, fun h => by omega⟩
 simp only [h1, h2]
theorem geq24 {m : Nat} {e : Int} (h : Dr m e) : fcmp .geq .f64 (dW m e) 4715268809856909312 = decide (24 ≤ e + m.log2) := by
 have hc : double.read 4715268809856909312 = .number false 4503599627370496 (-28) := by decide +kernel
 obtain ⟨M, i, r, sv, g1, g2, hi, hl⟩ := rd_log h
 show (double.order (dW m e) 4715268809856909312 == some .gt || double.order (dW m e) 4715268809856909312 == some .eq) = _
 unfold Format.order
 rw [r, hc]
 simp only [Datum.order]
 have s : ∀ n k : Nat, signed false n k = ((n * 2 ^ k : Nat) : Int) := fun n k => by simp [signed, zEc]
 rw [s, s, cmp_nat]
 by_cases hg : 24 ≤ e + m.log2
 · rw [decide_eq_true hg]
   have b1 : min i (-28) = -28 := by omega
   rw [b1]
   have z : (-28 - -28 : Int).toNat = 0 := rfl
   rw [z, Nat.pow_zero, Nat.mul_one]
   have := Nat.mul_le_mul g1 (Nat.two_pow_pos (i - -28).toNat)
   rw [if_neg (by omega)]
   split <;> rfl
 · rw [decide_eq_false hg]
   have b1 : min i (-28) = i := by omega
   rw [b1]
   have z : (i - i : Int).toNat = 0 := by omega
   rw [z, Nat.pow_zero, Nat.mul_one]
   have p : 2 ^ 1 ≤ 2 ^ (-28 - i).toNat := Nat.pow_le_pow_right (by omega) (by omega)
   have := Nat.mul_le_mul_left 4503599627370496 p
   rw [if_pos (by omega)]
   rfl
theorem neq64 {m n : Nat} {e j : Int} (h : Dr m e) (h' : Dr n j) (hs : ¬ SV m e n j) : fcmp .neq .f64 (dW m e) (dW n j) = true := by
 obtain ⟨M, i, r, sv, _⟩ := rd_log h
 obtain ⟨M', i', r', sv', _⟩ := rd_log h'
 show (double.order (dW m e) (dW n j) != some .eq) = true
 unfold Format.order
 rw [r, r']
 simp only [Datum.order]
 have s : ∀ n k : Nat, signed false n k = ((n * 2 ^ k : Nat) : Int) := fun n k => by simp [signed, zEc]
 rw [s, s, cmp_nat]
 have hn : ¬ M * 2 ^ (i - min i i').toNat = M' * 2 ^ (i' - min i i').toNat := fun he =>
   hs (sv.symm.trans ((show SV M i M' i' from ⟨min i i', by omega, by omega, he⟩).trans sv'))
 rw [if_neg hn]
 split <;> rfl
theorem whole64 {m : Nat} {e : Int} (h : Dr m e) (hs : e + m.log2 ≤ 23) : ∃ T : Nat, T < 16777216 ∧ (FloatKind.f64.decode (dW m e)).toInt .zero = some (T : Int) ∧ ((fcmp .neq .f64 (dW m e) (FloatKind.f64.nearest (T : Int)) = false ∧ SV m e T 0 ∧ 0 < T) ∨ (fcmp .neq .f64 (dW m e) (FloatKind.f64.nearest (T : Int)) = true ∧ e < 0)) := by
 obtain ⟨M, i, r, sv, g1, g2, hi, hl⟩ := rd_log h
 have hi0 : i < 0 := by omega
 obtain ⟨k, hk⟩ : ∃ k : Nat, i = -(k : Int) := ⟨(-i).toNat, by omega⟩
 have hk29 : 29 ≤ k := by omega
 refine ⟨M / 2 ^ k, ?_, ?_, ?_⟩
 · have p : 2 ^ 29 ≤ 2 ^ k := Nat.pow_le_pow_right (by omega) hk29
   calc M / 2 ^ k ≤ M / 2 ^ 29 := Nat.div_le_div_left p (by omega)
     _ < 16777216 := by omega
 · have hd : FloatKind.f64.decode (dW m e) = .number false M i := r
   rw [hd]
   unfold Datum.toInt Datum.integral
   have z : i.toNat = 0 := by omega
   have z2 : (-i).toNat = k := by omega
   simp only [z, z2, Nat.shiftLeft_zero]
   have hc : Toward.zero.cut false M k = M / 2 ^ k := by
     unfold Toward.cut
     simp only [Bool.toNat_false, Nat.add_zero, zEc, Nat.one_mul]
     by_cases hle : k ≤ M.log2 + 2
     · rw [Nat.min_eq_left hle]
     · rw [Nat.min_eq_right (by omega)]
       have a : M < 2 ^ (M.log2 + 2) := Nat.lt_trans Nat.lt_log2_self (Nat.pow_lt_pow_right (by omega) (by omega))
       have b : M < 2 ^ k := Nat.lt_of_lt_of_le a (Nat.pow_le_pow_right (by omega) (by omega))
       rw [Nat.div_eq_of_lt a, Nat.div_eq_of_lt b]
   rw [hc]
   simp [signed]
 · rw [nearest_dW]
   by_cases hw : SV m e (M / 2 ^ k) 0
   · have hp := hw.pos h.pos
     refine .inl ⟨?_, hw, hp⟩
     rw [dW_eq h hw]
     exact dW_neq h
   · refine .inr ⟨?_, ?_⟩
     · by_cases hT : M / 2 ^ k = 0
       · rw [hT]
         have z : dW 0 0 = 0 := by decide +kernel
         rw [z]
         show (double.order (dW m e) 0 != some .eq) = true
         rw [dW_order0 h]; rfl
       · have hlt : M / 2 ^ k < 9007199254740992 := Nat.lt_of_le_of_lt (Nat.div_le_self _ _) g2
         exact neq64 h (Dr.nat (Nat.pos_of_ne_zero hT) hlt) hw
     · apply Classical.byContradiction
       intro he
       apply hw
       have s1 := SV.shl m e e.toNat
       have z : e - (e.toNat : Int) = 0 := by omega
       rw [z] at s1
       have s2 := sv.trans s1
       rw [hk] at s2
       have s3 := s2.symm.le (by omega)
       have z2 : ((0 : Int) - -(k : Int)).toNat = k := by omega
       rw [z2] at s3
       have : M / 2 ^ k = m * 2 ^ e.toNat := by rw [s3, Nat.mul_div_cancel _ (Nat.two_pow_pos k)]
       rw [this]
       exact s1
end Go.SX
