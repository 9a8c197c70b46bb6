/-
  impl.ParseSingle, singleOf.
  Double precision: halves, doubles, whole parts, comparisons of m * 2 ^ e.
  spec: l1Number at integers, FormatSingle at every word.
  spec: l4Zero and IsRing at every word.
  spec: l5Unused and IsModule at any module.
  spec.l1Read, at any text.
  Readers of integers on an integer's text; doubles with a sign: plain words.
  Draws whose words are below 2^32: l1Odd, l1Some, FromSteps, l1Any, l2Any, l5Turn, MakeFloat, MakePoint.
  spec.ParseSingle: the same as impl's.
  impl.singleOf; the reader: take, integer, single, point.
  No condition.
-/
import Derived.Test.YtfmpjhjnpeheeaaGreatDoorPkH
set_option linter.unusedVariables false
set_option linter.unusedSimpArgs false
namespace Go.SX
open Go Go.Proofs Ieee
theorem eql0_no {r : Nat} (h0 : 0 < r) (h1 : r < 2139095040) (s : Bool) : fcmp .eql .f32 (single.word s r) 0 = false := by
 have hr := zCq (f := single) (by decide) (r := r) (by rw [ir1]; exact h1) s
 have hz : single.read 0 = .number false 0 (-149) := by decide
 show (single.order (single.word s r) 0 == some .eq) = false
 unfold Format.order
 rw [hr, hz]
 simp only [Datum.order]
 have hp := zEa h0
 have h2 : ∀ k, signed false 0 k = 0 := fun k => by simp [signed]
 rw [h2]
 obtain ⟨k, hk⟩ : ∃ k, (rgE single r - min (rgE single r) (-149)).toNat = k := ⟨_, rfl⟩
 rw [hk]
 have hX := Nat.mul_pos hp (Nat.two_pow_pos k)
 generalize hx : rgM single r * 2 ^ k = X at hX
 have hne : signed s (rgM single r) k ≠ 0 := by
   cases s <;> simp [signed, zCu, hx] <;> omega
 have : compare (signed s (rgM single r) k) 0 ≠ .eq := by
   simp only [compare, compareOfLessAndEq]
   split
   · simp
   · simp [hne]
 cases hc : compare (signed s (rgM single r) k) 0 with
 | lt => rfl
 | eq => exact absurd hc this
 | gt => rfl
set_option maxRecDepth 100000 in
set_option maxHeartbeats 8000000 in
theorem law_ParseSingle : Law Tryz.prog 185 zEm := by
 refine zAk (zAc law_CutPrefix (zAc law_Cut (zAc law_number (zAc law_Ldexp (zAc zFl (zCs law_frombits zAf)))))) hmixA Tryz.func185 rfl rfl (fun ⟨s, hs⟩ => ⟨okO_ps s, by simp [Tryz.f185], ?_⟩)
 simp only [oPs] at hs ⊢
 have rcp := run_CutPrefix hs 45
 have hcl := cutP_len 45 s
 have rfb : zHe.run [.c (.im (.int .u32 2147483648))] [] = some (.one { val := .c (.im (.flt .f32 2147483648)) }) := run_frombits 2147483648
 simp only [oCp] at rcp
 cases hp : prsT s with
 | some w =>
   obtain ⟨hw, hT⟩ := zHr hp
   have ho : prsO s = (w, true) := by simp [prsO, hp]
   rw [ho]
   rw [← hT, cutP_fmt hw, hT] at rcp
   have rfs := zAq hw.lt
   rw [fsT_fin hw, hT] at rfs
   have hse : (s = s) = True := eq_self s
   by_cases hr0 : w % 2147483648 = 0
   · have hm : magT (w % 2147483648) = [48] := by rw [hr0]; rfl
     rw [hm] at rcp
     have t48 : (([48] : Txt) = [48]) = True := eq_self _
     by_cases hneg : 2147483648 ≤ w
     · have hw0 : w = 2147483648 := by have := hw.lt; omega
       subst hw0
       have n0 : fcmp .eql .f32 (Op.negFloat .f32 0) 0 = true := by decide +kernel
       obtain ⟨z, hz⟩ : ∃ z, Op.negFloat .f32 0 = z := ⟨_, rfl⟩
       rw [hz] at n0
       rw [decide_eq_true hneg] at rcp
       generalize (2147483648 : Nat) = w at *
       try simp -dsimp (maxSteps := 1000000) only [go_sem, List.forall_mem_nil, ↓reduceIte, Nat.reduceEqDiff, Nat.reduceLT, Nat.reduceLeDiff, Nat.reduceAdd, Nat.reduceMul, reduceCtorEq, Tryz.f185, rcp, zAj, t48, hz, n0, rfb, rfs, hse, Bool.not_true]
     · have hw0 : w = 0 := by have := hw.lt; omega
       subst hw0
       rw [decide_eq_false hneg] at rcp
       try simp -dsimp (maxSteps := 1000000) only [go_sem, List.forall_mem_nil, ↓reduceIte, Nat.reduceEqDiff, Nat.reduceLT, Nat.reduceLeDiff, Nat.reduceAdd, Nat.reduceMul, reduceCtorEq, Tryz.f185, rcp, zAj, t48, rfs, hse, Bool.not_true]
   · obtain ⟨r, hr⟩ : ∃ r, w % 2147483648 = r := ⟨_, rfl⟩
     have hrf := hw.fin
     rw [hr] at hr0 hrf rcp
     have hrp := Nat.pos_of_ne_zero hr0
     have hmd := md_of hrp hrf
     have hmag : magT r = Lib.itoa (mdM r) ++ 112 :: Lib.itoa (mdE r) := by simp [magT, hr0]
     have b1 : i64B ((mdM r : Nat) : Int) := ⟨by omega, by have := hmd.lt; omega⟩
     have b2 : i64B (mdE r) := ⟨by have := hmd.lo; omega, by have := hmd.hi; omega⟩
     have hml : (magT r).length ≤ 2097152 := by
       rw [hmag, List.length_append, List.length_cons]
       have := zBj b1
       have := zBj b2
       omega
     have rc := run_Cut hml 112
     simp only [oCut] at rc
     have hcut : Lib.cut (magT r) [112] = (Lib.itoa (mdM r), Lib.itoa (mdE r), true) := by rw [hmag]; exact cut_at (itoa_noP _)
     rw [hcut] at rc
     have rn1 := zDy (s := Lib.itoa (mdM r)) (by have := zBj b1; omega)
     have rn2 := zDy (s := Lib.itoa (mdE r)) (by have := zBj b2; omega)
     rw [numF_itoa b1.1 b1.2] at rn1
     rw [numF_itoa b2.1 b2.2] at rn2
     have hne48 : (magT r = [48]) = False := eq_false (fun e => by
       have : (112 : UInt8) ∈ magT r := by rw [hmag]; simp
       rw [e] at this; simp at this)
     have rl := run_Ldexp (m := mdM r) (e := mdE r) hmd.pos hmd.lt (by have := hmd.lo; omega) (by have := hmd.hi; omega)
     have hfl := nearest_dW (m := mdM r)
     have hfc := fconv_narrow (m := mdM r) (e := mdE r) ⟨hmd.pos, by have := hmd.lt; omega, by have := hmd.lo; omega, by have := hmd.hi; omega⟩ hrp hrf hmd.sv
     have k1 : (((mdM r : Nat) : Int) < 1) = False := eq_false (by have := hmd.pos; omega)
     have k2 : ((16777216 : Int) ≤ ((mdM r : Nat) : Int)) = False := eq_false (by have := hmd.lt; omega)
     have k3 : (mdE r < -200) = False := eq_false (by have := hmd.lo; omega)
     have k4 : ((200 : Int) < mdE r) = False := eq_false (by have := hmd.hi; omega)
     clear hmag hcut hmd hml b1 b2
     generalize Lib.itoa (mdM r) = A at *
     generalize Lib.itoa (mdE r) = B at *
     generalize magT r = T at *
     generalize dW (mdM r) (mdE r) = y at *
     generalize dW (mdM r) 0 = y0 at *
     generalize mdE r = E at *
     by_cases hneg : 2147483648 ≤ w
     · have hx : Op.negFloat .f32 r = w := by rw [neg32 (by omega)]; have := hw.lt; omega
       have e0 : fcmp .eql .f32 w 0 = false := by
         have := eql0_no hrp hrf true
         have hww : single.word true r = w := by
           unfold Format.word; rw [sw1, if_pos rfl]; have := hw.lt; omega
         rw [hww] at this; exact this
       rw [decide_eq_true hneg] at rcp
       try simp -dsimp (maxSteps := 1000000) only [go_sem, List.forall_mem_nil, ↓reduceIte, Nat.reduceEqDiff, Nat.reduceLT, Nat.reduceLeDiff, Nat.reduceAdd, Nat.reduceMul, reduceCtorEq, Tryz.f185, rcp, zAj, hne48, rc, rn1, rn2, k1, k2, k3, k4, hfl, rl, hfc, hx, e0, rfs, hse, Bool.not_true, Bool.not_false, Bool.or_self, Int.reduceNeg]
     · have hx : r = w := by have := hw.lt; omega
       subst hx
       rw [decide_eq_false hneg] at rcp
       try simp -dsimp (maxSteps := 1000000) only [go_sem, List.forall_mem_nil, ↓reduceIte, Nat.reduceEqDiff, Nat.reduceLT, Nat.reduceLeDiff, Nat.reduceAdd, Nat.reduceMul, reduceCtorEq, Tryz.f185, rcp, zAj, hne48, rc, rn1, rn2, k1, k2, k3, k4, hfl, rl, hfc, rfs, hse, Bool.not_true, Bool.not_false, Bool.or_self, Int.reduceNeg]
 | none =>
   have ho : prsO s = (0, false) := by simp [prsO, hp]
   rw [ho]
   obtain ⟨T, ng, hcp⟩ : ∃ T ng, cutP 45 s = (T, ng) := ⟨_, _, rfl⟩
   rw [hcp] at rcp hcl
   simp only at rcp hcl
   have h48 : T ≠ [48] := fun e => by
     subst e
     have hsT : s = [48] ∨ s = [45, 48] := by
       cases s with
       | nil => simp [cutP] at hcp
       | cons b t =>
         simp only [cutP] at hcp
         split at hcp
         · rename_i hb
           simp only [Prod.mk.injEq] at hcp
           right; rw [hb, hcp.1]
         · simp only [Prod.mk.injEq] at hcp
           left; exact hcp.1
     rcases hsT with e | e
     · exact prsT_none hp (w := 0) ⟨by omega, by omega⟩ (by rw [e]; decide)
     · exact prsT_none hp (w := 2147483648) ⟨by omega, by omega⟩ (by rw [e]; decide)
   have hne48 := eq_false h48
   have rc := run_Cut (s := T) (by omega) 112
   simp only [oCut] at rc
   obtain ⟨cl1, cl2⟩ := cut_len T 112
   obtain ⟨A, B, f, hcut⟩ : ∃ A B f, Lib.cut T [112] = (A, B, f) := ⟨_, _, _, rfl⟩
   rw [hcut] at rc cl1 cl2
   simp only at rc cl1 cl2
   have rn1 := zDy (s := A) (by omega)
   have rn2 := zDy (s := B) (by omega)
   cases o1 : (numF A).2 with
   | false =>
     rw [o1] at rn1
     try simp -dsimp (maxSteps := 1000000) only [go_sem, List.forall_mem_nil, ↓reduceIte, Nat.reduceEqDiff, Nat.reduceLT, Nat.reduceLeDiff, Nat.reduceAdd, Nat.reduceMul, reduceCtorEq, Tryz.f185, rcp, zAj, hne48, rc, rn1, rn2, Bool.not_true, Bool.not_false]
   | true =>
   cases o2 : (numF B).2 with
   | false =>
     rw [o1] at rn1
     rw [o2] at rn2
     try simp -dsimp (maxSteps := 1000000) only [go_sem, List.forall_mem_nil, ↓reduceIte, Nat.reduceEqDiff, Nat.reduceLT, Nat.reduceLeDiff, Nat.reduceAdd, Nat.reduceMul, reduceCtorEq, Tryz.f185, rcp, zAj, hne48, rc, rn1, rn2, Bool.not_true, Bool.not_false]
   | true =>
   have hse : s ≠ [] := fun e => by
     subst e
     simp [cutP] at hcp
     obtain ⟨rfl, rfl⟩ := hcp
     have : Lib.cut [] [112] = ([], [], false) := cut_none (by simp)
     rw [this] at hcut
     simp only [Prod.mk.injEq] at hcut
     obtain ⟨rfl, -, -⟩ := hcut
     have : numF [] = (0, false) := by decide
     rw [this] at o1; cases o1
   rw [o1] at rn1
   rw [o2] at rn2
   generalize (numF A).1 = m at *
   generalize (numF B).1 = E at *
   have key : ∀ x, x < 4294967296 → ((fsT x = s) = False) ∧ zDi.run [.c (.im (.flt .f32 x))] [] = some (.one { val := .c (.im (.str ⟨(fsT x).toArray⟩)) }) := fun x hx => ⟨eq_false (fsT_none hp hse hx), zAq hx⟩
   by_cases k1 : m < 1
   · have k1 := eq_true k1
     try simp -dsimp (maxSteps := 1000000) only [go_sem, List.forall_mem_nil, ↓reduceIte, Nat.reduceEqDiff, Nat.reduceLT, Nat.reduceLeDiff, Nat.reduceAdd, Nat.reduceMul, reduceCtorEq, Tryz.f185, rcp, zAj, hne48, rc, rn1, rn2, k1, Bool.not_true, Bool.not_false, Bool.or_self, Int.reduceNeg]
   by_cases k2 : 16777216 ≤ m
   · have k1 := eq_false k1
     have k2 := eq_true k2
     try simp -dsimp (maxSteps := 1000000) only [go_sem, List.forall_mem_nil, ↓reduceIte, Nat.reduceEqDiff, Nat.reduceLT, Nat.reduceLeDiff, Nat.reduceAdd, Nat.reduceMul, reduceCtorEq, Tryz.f185, rcp, zAj, hne48, rc, rn1, rn2, k1, k2, Bool.not_true, Bool.not_false, Bool.or_self, Int.reduceNeg]
   by_cases k3 : E < -200
   · have k1 := eq_false k1
     have k2 := eq_false k2
     have k3 := eq_true k3
     try simp -dsimp (maxSteps := 1000000) only [go_sem, List.forall_mem_nil, ↓reduceIte, Nat.reduceEqDiff, Nat.reduceLT, Nat.reduceLeDiff, Nat.reduceAdd, Nat.reduceMul, reduceCtorEq, Tryz.f185, rcp, zAj, hne48, rc, rn1, rn2, k1, k2, k3, Bool.not_true, Bool.not_false, Bool.or_self, Int.reduceNeg]
   by_cases k4 : 200 < E
   · have k1 := eq_false k1
     have k2 := eq_false k2
     have k3 := eq_false k3
     have k4 := eq_true k4
     try simp -dsimp (maxSteps := 1000000) only [go_sem, List.forall_mem_nil, ↓reduceIte, Nat.reduceEqDiff, Nat.reduceLT, Nat.reduceLeDiff, Nat.reduceAdd, Nat.reduceMul, reduceCtorEq, Tryz.f185, rcp, zAj, hne48, rc, rn1, rn2, k1, k2, k3, k4, Bool.not_true, Bool.not_false, Bool.or_self, Int.reduceNeg]
   obtain ⟨mn, rfl⟩ : ∃ n : Nat, m = (n : Int) := ⟨m.toNat, by omega⟩
   have rl := run_Ldexp (m := mn) (e := E) (by omega) (by omega) (by omega) (by omega)
   have hfl := nearest_dW (m := mn)
   have k1 := eq_false k1
   have k2 := eq_false k2
   have k3 := eq_false k3
   have k4 := eq_false k4
   generalize dW mn E = y at *
   generalize dW mn 0 = y0 at *
   clear hcp hcut h48 o1 o2
   have fin : ∀ x, x < 4294967296 → ∃ x', x' = Op.negFloat .f32 x ∧ x' < 4294967296 := fun x hx => ⟨_, rfl, neg32_lt hx⟩
   cases hfc : fconv .f64 y .f32 with
   | some x =>
     have hx := fconv_lt hfc
     obtain ⟨q1, q2⟩ := key x hx
     cases ng with
     | false =>
       try simp -dsimp (maxSteps := 1000000) only [go_sem, List.forall_mem_nil, ↓reduceIte, Nat.reduceEqDiff, Nat.reduceLT, Nat.reduceLeDiff, Nat.reduceAdd, Nat.reduceMul, reduceCtorEq, Tryz.f185, rcp, zAj, hne48, rc, rn1, rn2, k1, k2, k3, k4, hfl, rl, hfc, q1, q2, Bool.not_true, Bool.not_false, Bool.or_self, Int.reduceNeg]
     | true =>
       obtain ⟨x', hx', hl'⟩ := fin x hx
       obtain ⟨q3, q4⟩ := key x' hl'
       have hx'' := hx'.symm
       cases hz : fcmp .eql .f32 x' 0 with
       | false =>
         try simp -dsimp (maxSteps := 1000000) only [go_sem, List.forall_mem_nil, ↓reduceIte, Nat.reduceEqDiff, Nat.reduceLT, Nat.reduceLeDiff, Nat.reduceAdd, Nat.reduceMul, reduceCtorEq, Tryz.f185, rcp, zAj, hne48, rc, rn1, rn2, k1, k2, k3, k4, hfl, rl, hfc, hx'', hz, q3, q4, Bool.not_true, Bool.not_false, Bool.or_self, Int.reduceNeg]
       | true =>
         obtain ⟨q5, q6⟩ := key 2147483648 (by omega)
         generalize (2147483648 : Nat) = z at *
         try simp -dsimp (maxSteps := 1000000) only [go_sem, List.forall_mem_nil, ↓reduceIte, Nat.reduceEqDiff, Nat.reduceLT, Nat.reduceLeDiff, Nat.reduceAdd, Nat.reduceMul, reduceCtorEq, Tryz.f185, rcp, zAj, hne48, rc, rn1, rn2, k1, k2, k3, k4, hfl, rl, hfc, hx'', hz, rfb, q5, q6, Bool.not_true, Bool.not_false, Bool.or_self, Int.reduceNeg]
   | none =>
     cases ng with
     | false =>
       try simp -dsimp (maxSteps := 1000000) only [go_sem, List.forall_mem_nil, ↓reduceIte, Nat.reduceEqDiff, Nat.reduceLT, Nat.reduceLeDiff, Nat.reduceAdd, Nat.reduceMul, reduceCtorEq, Tryz.f185, rcp, zAj, hne48, rc, rn1, rn2, k1, k2, k3, k4, hfl, rl, hfc, cKn, Bool.not_true, Bool.not_false, Bool.or_self, Int.reduceNeg]
       intro x hx
       obtain ⟨q1, q2⟩ := key x hx
       try simp -dsimp (maxSteps := 1000000) only [go_sem, List.forall_mem_nil, ↓reduceIte, Nat.reduceEqDiff, Nat.reduceLT, Nat.reduceLeDiff, Nat.reduceAdd, Nat.reduceMul, reduceCtorEq, Tryz.f185, q1, q2, zAj, Bool.not_true, Bool.not_false]
     | true =>
       try simp -dsimp (maxSteps := 1000000) only [go_sem, List.forall_mem_nil, ↓reduceIte, Nat.reduceEqDiff, Nat.reduceLT, Nat.reduceLeDiff, Nat.reduceAdd, Nat.reduceMul, reduceCtorEq, Tryz.f185, rcp, zAj, hne48, rc, rn1, rn2, k1, k2, k3, k4, hfl, rl, hfc, cKn, Bool.not_true, Bool.not_false, Bool.or_self, Int.reduceNeg]
       intro x hx
       obtain ⟨x', hx', hl'⟩ := fin x hx
       obtain ⟨q3, q4⟩ := key x' hl'
       have hx'' := hx'.symm
       cases hz : fcmp .eql .f32 x' 0 with
       | false =>
         try simp -dsimp (maxSteps := 1000000) only [go_sem, List.forall_mem_nil, ↓reduceIte, Nat.reduceEqDiff, Nat.reduceLT, Nat.reduceLeDiff, Nat.reduceAdd, Nat.reduceMul, reduceCtorEq, Tryz.f185, hx'', hz, q3, q4, zAj, Bool.not_true, Bool.not_false]
       | true =>
         obtain ⟨q5, q6⟩ := key 2147483648 (by omega)
         generalize (2147483648 : Nat) = z at *
         try simp -dsimp (maxSteps := 1000000) only [go_sem, List.forall_mem_nil, ↓reduceIte, Nat.reduceEqDiff, Nat.reduceLT, Nat.reduceLeDiff, Nat.reduceAdd, Nat.reduceMul, reduceCtorEq, Tryz.f185, hx'', hz, rfb, q5, q6, zAj, Bool.not_true, Bool.not_false]
end Go.SX
namespace Go.SX
open Go Go.Proofs Ieee
theorem two64 : double.read 4611686018427387904 = .number false 4503599627370496 (-51) := by decide +kernel
theorem rd_log {m : Nat} {e : Int} (h : Dr m e) : ∃ M i, double.read (dW m e) = .number false M i ∧ SV M i m e ∧ 4503599627370496 ≤ M ∧ M < 9007199254740992 ∧ i + 52 = e + m.log2 ∧ M.log2 = 52 := by
 obtain ⟨e1, g1, g2, hl⟩ := zCe h
 refine ⟨_, _, zHp h, (SV.shl m e _).symm, g1, g2, by omega, ?_⟩
 have a := zEz (M := m * 2 ^ (52 - m.log2)) (k := 52) (by simpa using g1)
 have b := zBn (M := m * 2 ^ (52 - m.log2)) (k := 52) (by omega) (by simpa using g2)
 omega
theorem half64 {m : Nat} {e : Int} (h : Dr m e) : fop .quo .f64 (dW m e) 4611686018427387904 = dW m (e - 1) := by
 obtain ⟨M, i, r, sv, g1, g2, hi, hl⟩ := rd_log h
 have e2 : double.div (dW m e) 4611686018427387904 = some (dW m (e - 1)) := by
   unfold Format.div
   rw [r, two64]
   have l2 : (4503599627370496 : Nat).log2 = 52 := by decide +kernel
   have hf : double.fractionBits = 52 := rfl
   simp only [Datum.quotient, l2, hl, hf]
   rw [if_neg (by decide)]
   have q1 : M <<< (52 + 2 + 52 - 52) / 4503599627370496 = M * 4 := by
     rw [zCu]
     show M * 18014398509481984 / 4503599627370496 = M * 4
     omega
   have q2 : M <<< (52 + 2 + 52 - 52) % 4503599627370496 = 0 := by
     rw [zCu]
     show M * 18014398509481984 % 4503599627370496 = 0
     omega
   rw [q1, q2]
   simp only [Option.map_some, Format.write, Bool.false_xor, bne_self_eq_false, Bool.toNat_false]
   rw [dW]
   refine congrArg some ?_
   have s1 := (SV.shl M (i - 1) 3).symm.trans (sv.add (-1))
   have s2 : M * 2 ^ 3 = 2 * (M * 4) + 0 := by omega
   rw [s2] at s1
   have s3 : i - 1 - ((3 : Nat) : Int) = i - -51 - ↑(52 + 2 + 52 - 52 : Nat) - 1 := by omega
   rw [s3] at s1
   obtain ⟨M', last, a, b, _, _, _⟩ := dr_can h
   have hz : Can double M' (last - 1) ∧ SV m (e - 1) M' (last - 1) := by
     refine ⟨⟨a.pos, a.lt, ?_, ?_⟩, b.add (-1)⟩
     · rw [ep2]; omega
     · rcases a.form with hq | hq
       · rw [ep2] at hq; omega
       · exact .inr hq
   rw [zBs hz.1 (s1.trans hz.2), zBs hz.1 hz.2]
 show (double.div (dW m e) _).getD _ = _
 rw [e2]; rfl
theorem twice64 {m : Nat} {e : Int} (h : Dr m e) (h' : Dr m (e + 1)) : fop .mul .f64 (dW m e) 4611686018427387904 = dW m (e + 1) := by
 obtain ⟨M, i, r, sv, g1, g2, hi, hl⟩ := rd_log h
 have e2 : double.mul (dW m e) 4611686018427387904 = some (dW m (e + 1)) := by
   unfold Format.mul
   rw [r, two64]
   simp only [Datum.product, Option.map_some, Format.write, Bool.false_xor]
   congr 1
   refine near_dW h' ?_
   have b : SV 1 1 4503599627370496 (-51) := SV.shl 1 1 52
   have := SV.mul sv.symm b
   rw [Nat.mul_one] at this
   exact this
 show (double.mul (dW m e) _).getD _ = _
 rw [e2]; rfl
theorem cmp_nat (a b : Nat) : compare (a : Int) (b : Int) = if a < b then .lt else if a = b then .eq else .gt := by
 simp only [compare, compareOfLessAndEq]
 have h1 : ((a : Int) < b) = (a < b) := by simp
 have h2 : ((a : Int) = b) = (a = b) := propext ⟨fun h => by omega, fun h => by omega⟩
 simp only [h1, h2]
theorem geq24 {m : Nat} {e : Int} (h : Dr m e) : fcmp .geq .f64 (dW m e) 4715268809856909312 = decide (24 ≤ e + m.log2) := by
 have hc : double.read 4715268809856909312 = .number false 4503599627370496 (-28) := by decide +kernel
 obtain ⟨M, i, r, sv, g1, g2, hi, hl⟩ := rd_log h
 show (double.order (dW m e) 4715268809856909312 == some .gt || double.order (dW m e) 4715268809856909312 == some .eq) = _
 unfold Format.order
 rw [r, hc]
 simp only [Datum.order]
 have s : ∀ n k : Nat, signed false n k = ((n * 2 ^ k : Nat) : Int) := fun n k => by simp [signed, zCu]
 rw [s, s, cmp_nat]
 by_cases hg : 24 ≤ e + m.log2
 · rw [decide_eq_true hg]
   have b1 : min i (-28) = -28 := by omega
   rw [b1]
   have z : (-28 - -28 : Int).toNat = 0 := rfl
   rw [z, Nat.pow_zero, Nat.mul_one]
   have := Nat.mul_le_mul g1 (Nat.two_pow_pos (i - -28).toNat)
   rw [if_neg (by omega)]
   split <;> rfl
 · rw [decide_eq_false hg]
   have b1 : min i (-28) = i := by omega
   rw [b1]
   have z : (i - i : Int).toNat = 0 := by omega
   rw [z, Nat.pow_zero, Nat.mul_one]
   have p : 2 ^ 1 ≤ 2 ^ (-28 - i).toNat := Nat.pow_le_pow_right (by omega) (by omega)
   have := Nat.mul_le_mul_left 4503599627370496 p
   rw [if_pos (by omega)]
   rfl
theorem neq64 {m n : Nat} {e j : Int} (h : Dr m e) (h' : Dr n j) (hs : ¬ SV m e n j) : fcmp .neq .f64 (dW m e) (dW n j) = true := by
 obtain ⟨M, i, r, sv, _⟩ := rd_log h
 obtain ⟨M', i', r', sv', _⟩ := rd_log h'
 show (double.order (dW m e) (dW n j) != some .eq) = true
 unfold Format.order
 rw [r, r']
 simp only [Datum.order]
 have s : ∀ n k : Nat, signed false n k = ((n * 2 ^ k : Nat) : Int) := fun n k => by simp [signed, zCu]
 rw [s, s, cmp_nat]
 have hn : ¬ M * 2 ^ (i - min i i').toNat = M' * 2 ^ (i' - min i i').toNat := fun he =>
   hs (sv.symm.trans ((show SV M i M' i' from ⟨min i i', by omega, by omega, he⟩).trans sv'))
 rw [if_neg hn]
 split <;> rfl
theorem whole64 {m : Nat} {e : Int} (h : Dr m e) (hs : e + m.log2 ≤ 23) : ∃ T : Nat, T < 16777216 ∧ (FloatKind.f64.decode (dW m e)).toInt .zero = some (T : Int) ∧ ((fcmp .neq .f64 (dW m e) (FloatKind.f64.nearest (T : Int)) = false ∧ SV m e T 0 ∧ 0 < T) ∨ (fcmp .neq .f64 (dW m e) (FloatKind.f64.nearest (T : Int)) = true ∧ e < 0)) := by
 obtain ⟨M, i, r, sv, g1, g2, hi, hl⟩ := rd_log h
 have hi0 : i < 0 := by omega
 obtain ⟨k, hk⟩ : ∃ k : Nat, i = -(k : Int) := ⟨(-i).toNat, by omega⟩
 have hk29 : 29 ≤ k := by omega
 refine ⟨M / 2 ^ k, ?_, ?_, ?_⟩
 · have p : 2 ^ 29 ≤ 2 ^ k := Nat.pow_le_pow_right (by omega) hk29
   calc M / 2 ^ k ≤ M / 2 ^ 29 := Nat.div_le_div_left p (by omega)
     _ < 16777216 := by omega
 · have hd : FloatKind.f64.decode (dW m e) = .number false M i := r
   rw [hd]
   unfold Datum.toInt Datum.integral
   have z : i.toNat = 0 := by omega
   have z2 : (-i).toNat = k := by omega
   simp only [z, z2, Nat.shiftLeft_zero]
   have hc : Toward.zero.cut false M k = M / 2 ^ k := by
     unfold Toward.cut
     simp only [Bool.toNat_false, Nat.add_zero, zCu, Nat.one_mul]
     by_cases hle : k ≤ M.log2 + 2
     · rw [Nat.min_eq_left hle]
     · rw [Nat.min_eq_right (by omega)]
       have a : M < 2 ^ (M.log2 + 2) := Nat.lt_trans Nat.lt_log2_self (Nat.pow_lt_pow_right (by omega) (by omega))
       have b : M < 2 ^ k := Nat.lt_of_lt_of_le a (Nat.pow_le_pow_right (by omega) (by omega))
       rw [Nat.div_eq_of_lt a, Nat.div_eq_of_lt b]
   rw [hc]
   simp [signed]
 · rw [nearest_dW]
   by_cases hw : SV m e (M / 2 ^ k) 0
   · have hp := hw.pos h.pos
     refine .inl ⟨?_, hw, hp⟩
     rw [dW_eq h hw]
     exact dW_neq h
   · refine .inr ⟨?_, ?_⟩
     · by_cases hT : M / 2 ^ k = 0
       · rw [hT]
         have z : dW 0 0 = 0 := by decide +kernel
         rw [z]
         show (double.order (dW m e) 0 != some .eq) = true
         rw [dW_order0 h]; rfl
       · have hlt : M / 2 ^ k < 9007199254740992 := Nat.lt_of_le_of_lt (Nat.div_le_self _ _) g2
         exact neq64 h (Dr.nat (Nat.pos_of_ne_zero hT) hlt) hw
     · apply Classical.byContradiction
       intro he
       apply hw
       have s1 := SV.shl m e e.toNat
       have z : e - (e.toNat : Int) = 0 := by omega
       rw [z] at s1
       have s2 := sv.trans s1
       rw [hk] at s2
       have s3 := s2.symm.le (by omega)
       have z2 : ((0 : Int) - -(k : Int)).toNat = k := by omega
       rw [z2] at s3
       have : M / 2 ^ k = m * 2 ^ e.toNat := by rw [s3, Nat.mul_div_cancel _ (Nat.two_pow_pos k)]
       rw [this]
       exact s1
end Go.SX
namespace Go.SX
open Go Go.Proofs Ieee
theorem digF_dec : ∀ (f n : Nat), n < 10 ^ f → 0 < f → digF f n = Lib.decDigits n
 | 0, _, _, h => by omega
 | f + 1, n, h, _ => by
   unfold Lib.decDigits
   simp only [digF]
   split
   · rename_i h1
     rfl
   · rename_i h1
     rw [Nat.pow_succ] at h
     have a : n / 10 < 10 ^ f := Nat.div_lt_of_lt_mul (by omega)
     have b : 0 < f := by
       rcases Nat.eq_zero_or_pos f with rfl | h2
       · simp at a; omega
       · exact h2
     rw [digF_dec f (n / 10) a b]
     rfl
theorem digs_dec {n : Nat} (h : n < 100000000000000000000) : digs n = Lib.decDigits n := digF_dec 20 n h (by omega)
theorem itoa_natS (n : Nat) : Lib.itoa (n : Int) = Lib.decDigits n := by
 unfold Lib.itoa
 rw [if_neg (by omega), Int.toNat_natCast]
theorem itoa_neg {n : Int} (h : n < 0) : Lib.itoa n = 45 :: Lib.decDigits (-n).toNat := by
 unfold Lib.itoa
 rw [if_pos h]
 congr 2
 omega
abbrev INum := { n : Int // -9223372036854775807 ≤ n ∧ n ≤ 9223372036854775807 }
noncomputable def ct_l1NumberI : Ct := fam true (fun x : INum => ([.c (.im (.int .i64 x.1))], [])) (fun x => .one { val := .c (.im (.str ⟨(Lib.itoa x.1).toArray⟩)) })
theorem zDd {n : Int} (h : -9223372036854775807 ≤ n ∧ n ≤ 9223372036854775807) : ct_l1NumberI.run [.c (.im (.int .i64 n))] [] = some (.one { val := .c (.im (.str ⟨(Lib.itoa n).toArray⟩)) }) := zAd (args := fun x : INum => ([D.c (.im (.int .i64 x.1))], [])) (fun a b h => by simp at h; exact Subtype.ext h) (⟨n, h⟩ : INum)
set_option maxRecDepth 100000 in
set_option maxHeartbeats 8000000 in
theorem law_l1NumberI : Law Tryz.prog 133 ct_l1NumberI := by
 refine zAk (zAc law_l1Number zAf) hmixA Tryz.func133 rfl rfl (fun ⟨n, hn1, hn2⟩ => ⟨zAt rfl, by simp [Tryz.f133], ?_⟩)
 simp only
 by_cases hneg0 : n < 0
 · obtain ⟨k, hk⟩ : ∃ k : Nat, -n = (k : Int) := ⟨(-n).toNat, by omega⟩
   have hneg : (n < 0) = True := eq_true hneg0
   have hw : IntKind.i64.wrap (0 - n) = (k : Int) := by rw [zAh (by omega) (by omega)]; omega
   have hw2 : IntKind.i64.wrap (-n) = (k : Int) := by rw [zAh (by omega) (by omega)]; omega
   have hi : Lib.itoa n = [45] ++ digs k := by
     rw [itoa_neg hneg0, digs_dec (by omega), hk, Int.toNat_natCast]; rfl
   have hl := digs_len 20 k
   have hsz : (1 + (digs k).length ≤ 4611686018427387904) = True := eq_true (by unfold digs; omega)
   have rn := run_l1Number (n := k) (by omega)
   unfold strL at rn
   rw [hi]
   generalize digs k = X at *
   try simp -dsimp (maxSteps := 1000000) only [go_sem, List.forall_mem_nil, ↓reduceIte, Nat.reduceEqDiff, Nat.reduceLT, Nat.reduceLeDiff, Nat.reduceAdd, Nat.reduceMul, reduceCtorEq, Tryz.f133, hneg, hw, hw2, rn, zBr, zAo, hsz, List.size_toArray, List.length_cons, List.length_nil, Nat.zero_add]
 obtain ⟨n, rfl⟩ : ∃ k : Nat, n = (k : Int) := ⟨n.toNat, by omega⟩
 have hn : n < 9223372036854775808 := by omega
 have hi : (⟨(Lib.itoa (n : Int)).toArray⟩ : ByteArray) = strL (digs n) := by rw [itoa_natS, digs_dec (by omega)]; rfl
 rw [hi]
 have hneg : ((n : Int) < 0) = False := eq_false (by omega)
 have h10 : ((10 : Int) = 0) = False := by simp
 have hm : ∀ k : Nat, (k : Int).tmod 10 = ((k % 10 : Nat) : Int) := fun k => by rw [Int.tmod_eq_emod_of_nonneg (by omega)]; omega
 have hd : ∀ k : Nat, k < 9223372036854775808 → IntKind.i64.wrap ((k : Int).tdiv 10) = ((k / 10 : Nat) : Int) := fun k hk => by
   rw [Int.tdiv_eq_ediv_of_nonneg (by omega), zAh (by omega) (by omega)]; omega
 have hw : ∀ k : Nat, IntKind.i64.wrap (48 + ((k % 10 : Nat) : Int)) = ((48 + k % 10 : Nat) : Int) := fun k => by rw [zAh (by omega) (by omega)]; omega
 have hw8 : ∀ k : Nat, IntKind.u8.wrap ((48 + k % 10 : Nat) : Int) = ((48 + k % 10 : Nat) : Int) := fun k => by
   show (((48 + k % 10 : Nat) : Int) % 256) = _
   omega
 have hbs : ∀ k : Nat, bytesS [((48 + k % 10 : Nat) : Int)] = strL [dig (k % 10)] := fun k => by rw [bytesS_cons]; rfl
 try simp -dsimp (maxSteps := 1000000) only [go_sem, List.forall_mem_nil, ↓reduceIte, Nat.reduceEqDiff, Nat.reduceLT, Nat.reduceLeDiff, Nat.reduceAdd, Nat.reduceMul, reduceCtorEq, Tryz.f133, hneg, h10, hm, hd n hn, hw, hw8, hbs]
 refine zBc (ι := { x : Nat × List UInt8 // x.1 < 9223372036854775808 ∧ digR x.1 x.2 = digs n }) (fun x => ⟨[(0, some (.c (.im (.int .i64 (x.1.1 : Int))))), (3, some (.c (.im (.str (strL x.1.2)))))], [], 0⟩) (fun x => x.1.1)
   ⟨(n / 10, [dig (n % 10)]), by omega, by
     by_cases h0 : n = 0
     · subst h0; rfl
     · rw [← digR_step (by omega) (by omega) []]; simp [digR, h0]⟩ ⟨[], [], by (simp only [go_sem, eq_self, MvRb, MvRn, MvRt, List.nodup_cons, List.nodup_nil, ↓reduceIte, Nat.reduceEqDiff, Nat.reduceLT, Nat.reduceLeDiff, reduceCtorEq, List.forall_mem_nil, Nat.zero_le, false_implies, List.mem_singleton]) <;> simp⟩ (fun ⟨⟨k, cur⟩, hk, hinv⟩ => ?_)
 simp only at hk hinv ⊢
 by_cases h0 : k = 0
 · subst h0
   have hI : ((0 : Int) < ((0 : Nat) : Int)) = False := by simp
   simp only [digR, if_true] at hinv
   try simp -dsimp (maxSteps := 1000000) only [go_sem, List.forall_mem_nil, ↓reduceIte, Nat.reduceEqDiff, Nat.reduceLT, Nat.reduceLeDiff, Nat.reduceAdd, Nat.reduceMul, reduceCtorEq, Tryz.f133, hI, hinv]
 · have hI : ((0 : Int) < (k : Int)) = True := eq_true (by omega)
   have hlen : cur.length ≤ 20 := by
     have := congrArg List.length hinv
     have h20 := digs_len 20 n
     simp only [digR, h0, if_false, List.length_append] at this
     unfold digs at this
     omega
   have hsz : ((strL [dig (k % 10)]).size + (strL cur).size ≤ 4611686018427387904) = True := eq_true (by rw [zHi, zHi]; simp; omega)
   rw [digR_step (by omega) (by omega)] at hinv
   try simp -dsimp (maxSteps := 1000000) only [go_sem, List.forall_mem_nil, ↓reduceIte, Nat.reduceEqDiff, Nat.reduceLT, Nat.reduceLeDiff, Nat.reduceAdd, Nat.reduceMul, reduceCtorEq, Tryz.f133, hI, h10, hm, hd k hk, hw, hw8, hbs, hsz, strL_app]
   exact ⟨⟨(k / 10, dig (k % 10) :: cur), by omega, hinv⟩, by simp only []; omega, [], [], by (simp only [go_sem, eq_self, MvRb, MvRn, MvRt, List.nodup_cons, List.nodup_nil, ↓reduceIte, Nat.reduceEqDiff, Nat.reduceLT, Nat.reduceLeDiff, reduceCtorEq, List.forall_mem_nil, Nat.zero_le, false_implies, List.mem_singleton]) <;> simp⟩
theorem lss0 {r : Nat} (h0 : 0 < r) (h1 : r < 2139095040) (s : Bool) : fcmp .lss .f32 (single.word s r) 0 = s := by
 have hr := zCq (f := single) (by decide) (r := r) (by rw [ir1]; exact h1) s
 have hz : single.read 0 = .number false 0 (-149) := by decide
 show (single.order (single.word s r) 0 == some .lt) = s
 unfold Format.order
 rw [hr, hz]
 simp only [Datum.order]
 have hp := zEa h0
 have h2 : ∀ k, signed false 0 k = 0 := fun k => by simp [signed]
 rw [h2]
 obtain ⟨k, hk⟩ : ∃ k, (rgE single r - min (rgE single r) (-149)).toNat = k := ⟨_, rfl⟩
 rw [hk]
 have hX := Nat.mul_pos hp (Nat.two_pow_pos k)
 generalize hx : rgM single r * 2 ^ k = X at hX
 cases s with
 | false =>
   have e : signed false (rgM single r) k = (X : Int) := by simp [signed, zCu, hx]
   have a : ¬ ((X : Int) < 0) := by omega
   rw [e]
   simp only [compare, compareOfLessAndEq]
   rw [if_neg a]
   split <;> rfl
 | true =>
   have e : signed true (rgM single r) k = -(X : Int) := by simp [signed, zCu, hx]
   have a : (-(X : Int) < 0) := by omega
   rw [e]
   simp only [compare, compareOfLessAndEq]
   rw [if_pos a]
   rfl
theorem word_of {w : Nat} (h : w < 4294967296) : w = single.word (decide (2147483648 ≤ w)) (w % 2147483648) := by
 unfold Format.word
 rw [sw1]
 by_cases hs : 2147483648 ≤ w
 · rw [if_pos (by simp [hs])]; omega
 · rw [if_neg (by simp [hs])]; omega
theorem neg_wordS {w : Nat} (h : 2147483648 ≤ w) (h2 : w < 4294967296) : Op.negFloat .f32 w = w % 2147483648 := by
 have hx : Op.negFloat .f32 w = w ^^^ 2 ^ 31 := rfl
 rw [hx]
 apply Nat.eq_of_testBit_eq
 intro i
 rw [Nat.testBit_xor, show (2147483648 : Nat) = 2 ^ 31 from rfl, Nat.testBit_mod_two_pow, Nat.testBit_two_pow]
 by_cases h31 : i = 31
 · subst h31
   have : w.testBit 31 = true := by
     rw [Nat.testBit_eq_decide_div_mod_eq]
     have : w / 2 ^ 31 = 1 := by omega
     rw [this]; rfl
   rw [this]; simp
 · by_cases hlt : i < 31
   · have : ¬ 31 = i := by omega
     simp [hlt, this]
   · have a : w < 2 ^ i := Nat.lt_of_lt_of_le h2 (show 2 ^ 32 ≤ 2 ^ i from Nat.pow_le_pow_right (by omega) (by omega))
     rw [Nat.testBit_lt_two_pow a]
     have : ¬ 31 = i := by omega
     simp [this]
theorem absS_fin {w : Nat} (h : w < 4294967296) (h0 : 0 < w % 2147483648) (h1 : w % 2147483648 < 2139095040) : absS w = w % 2147483648 := by
 have e := word_of h
 have l := lss0 h0 h1 (decide (2147483648 ≤ w))
 have q := eql0_no h0 h1 (decide (2147483648 ≤ w))
 rw [← e] at l q
 unfold absS
 rw [l, q]
 by_cases hs : 2147483648 ≤ w
 · rw [if_pos (by simp [hs]), neg_wordS hs h]
 · rw [if_neg (by simp [hs]), if_neg (by simp)]; omega
theorem sv_bound {m : Nat} {e : Int} {r : Nat} (h0 : 0 < m) (hr0 : 0 < r) (hr : r < 2139095040) (h : SV m e (rgM single r) (rgE single r)) : e + m.log2 ≤ 127 ∧ -149 ≤ e + m.log2 := by
 have a := h.log h0
 have b := zHl hr
 have c := zBn (k := 23) (zEa hr0) (zGg (r := r))
 omega
set_option maxRecDepth 100000 in
set_option maxHeartbeats 8000000 in
theorem zAv : Law Tryz.prog 63 zDi := by
 refine zAk (zAc zFx (zAc law_l1Abs (zAc law_l1NumberI zAf))) hmixA Tryz.func63 rfl rfl (fun ⟨w, hw⟩ => ⟨zAt rfl, by simp [Tryz.f63], ?_⟩)
 simp only
 have f := finS_eq w
 cases hf : isFin w with
 | false =>
   have e : fsT w = [] := by simp [fsT, hf]
   rw [hf] at f
   try simp -dsimp (maxSteps := 1000000) only [go_sem, List.forall_mem_nil, ↓reduceIte, Nat.reduceEqDiff, Nat.reduceLT, Nat.reduceLeDiff, Nat.reduceAdd, Nat.reduceMul, reduceCtorEq, Tryz.f63, zBp, f, e, Bool.not_false]
 | true =>
   rw [hf] at f
   have hr : w % 2147483648 < 2139095040 := by simp only [isFin, decide_eq_true_eq] at hf; omega
   by_cases h0 : w % 2147483648 = 0
   · rcases (show w = 0 ∨ w = 2147483648 by omega) with rfl | rfl
     · have f2 : fcmp .eql .f32 0 0 = true := by decide +kernel
       have f3 : fcmp .lss .f32 (fop .quo .f32 1065353216 0) 0 = false := by decide +kernel
       have e : fsT 0 = [48] := by decide +kernel
       try simp -dsimp (maxSteps := 1000000) only [go_sem, List.forall_mem_nil, ↓reduceIte, Nat.reduceEqDiff, Nat.reduceLT, Nat.reduceLeDiff, Nat.reduceAdd, Nat.reduceMul, reduceCtorEq, Tryz.f63, zBp, f, f2, f3, e, Bool.not_true]
     · have f2 : fcmp .eql .f32 2147483648 0 = true := by decide +kernel
       have f3 : fcmp .lss .f32 (fop .quo .f32 1065353216 2147483648) 0 = true := by decide +kernel
       have e : fsT 2147483648 = [45, 48] := by decide +kernel
       try simp -dsimp (maxSteps := 1000000) only [go_sem, List.forall_mem_nil, ↓reduceIte, Nat.reduceEqDiff, Nat.reduceLT, Nat.reduceLeDiff, Nat.reduceAdd, Nat.reduceMul, reduceCtorEq, Tryz.f63, zBp, f, f2, f3, e, Bool.not_true]
   have h0 : 0 < w % 2147483648 := Nat.pos_of_ne_zero h0
   have ew := word_of hw
   have l := lss0 h0 hr (decide (2147483648 ≤ w))
   have q := eql0_no h0 hr (decide (2147483648 ≤ w))
   rw [← ew] at l q
   have ab := absS_fin hw h0 hr
   have hT : fsT w = sgnT (decide (2147483648 ≤ w)) ++ magT (w % 2147483648) := by simp [fsT, hf, fmtT]
   obtain ⟨S, hS, sl, c31⟩ : ∃ S : Txt, fsT w = S ++ magT (w % 2147483648) ∧ S.length ≤ 1 ∧ (fcmp .lss .f32 w 0 = true ∧ S = [45] ∨ fcmp .lss .f32 w 0 = false ∧ S = []) := by
     rw [hT]
     by_cases hs : 2147483648 ≤ w
     · exact ⟨[45], by simp [sgnT, hs], by simp, .inl ⟨by rw [l]; simp [hs], rfl⟩⟩
     · exact ⟨[], by simp [sgnT, hs], by simp, .inr ⟨by rw [l]; simp [hs], rfl⟩⟩
   clear hT l
   rw [hS]
   generalize hre : w % 2147483648 = r at *
   have fw := fconv_wide h0 hr
   have hmd := md_of h0 hr
   have hMp := zEa h0
   have hMl := zGg (r := r)
   have hM2 := zBn (k := 23) hMp hMl
   obtain ⟨E1, E2⟩ := zHl hr
   have hmag : magT r = Lib.itoa (mdM r) ++ [112] ++ Lib.itoa (mdE r) := by simp [magT, Nat.ne_of_gt h0]
   have svb := fun (m : Nat) (e : Int) (h0' : 0 < m) (h : SV m e (rgM single r) (rgE single r)) => sv_bound h0' h0 hr h
   have hun := fun (m : Nat) (e : Int) (h : SV m e (rgM single r) (rgE single r)) (ho : m % 2 = 1) => odd_unique (h.trans hmd.sv.symm) ho hmd.odd
   generalize hM : rgM single r = M at *
   generalize hE : rgE single r = E at *
   have n2 : ((2 : Int) = 0) = False := by simp
   have i1 : IntKind.i64.min = -9223372036854775808 := by decide
   have i2 : IntKind.i64.max = 9223372036854775807 := by decide
   have dr : ∀ a : Int, -200 ≤ a → a ≤ 200 → Dr M a := fun a h1 h2 => ⟨hMp, by omega, by omega, by omega⟩
   obtain ⟨Y0, hY0⟩ : ∃ y, y = dW M E := ⟨_, rfl⟩
   rw [← hY0] at fw
   rcases c31 with ⟨c31, rfl⟩ | ⟨c31, rfl⟩
   · skip
     try simp -dsimp (maxSteps := 1000000) only [go_sem, List.forall_mem_nil, ↓reduceIte, Nat.reduceEqDiff, Nat.reduceLT, Nat.reduceLeDiff, Nat.reduceAdd, Nat.reduceMul, reduceCtorEq, Tryz.f63, zBp, f, q, c31, run_l1Abs, ab, fw, Bool.not_true]
     refine zBc (ι := { x : Nat × Int // x.1 = dW M x.2 ∧ x.2 ≤ E ∧ (x.2 = E ∨ 0 ≤ x.2) }) (fun a => ⟨[(3, some (.c (.im (.str ⟨([45] : Txt).toArray⟩)))), (4, some (.c (.im (.flt .f64 a.1.1)))), (5, some (.c (.im (.int .i64 (E - a.1.2)))))], [], 0⟩) (fun a => (a.1.2 + 1).toNat) ⟨(Y0, E), hY0, by omega, .inl rfl⟩ ⟨[], [], by (simp only [go_sem, eq_self, MvRb, MvRn, MvRt, List.nodup_cons, List.nodup_nil, ↓reduceIte, Nat.reduceEqDiff, Nat.reduceLT, Nat.reduceLeDiff, reduceCtorEq, List.forall_mem_nil, Nat.zero_le, false_implies, List.mem_singleton, Int.sub_self]) <;> simp⟩ (fun ⟨⟨Y, a⟩, hY, ha1, ha2⟩ => ?_)
     simp only at hY ha1 ha2 ⊢
     obtain ⟨Y', hY'⟩ : ∃ y, y = dW M (a - 1) := ⟨_, rfl⟩
     by_cases hg0 : 24 ≤ a + M.log2
     · have hg : fcmp .geq .f64 Y 4715268809856909312 = true := by rw [hY, geq24 (dr a (by omega) (by omega)), decide_eq_true hg0]
       have hh := half64 (dr a (by omega) (by omega))
       rw [← hY, ← hY'] at hh
       have hw1 : IntKind.i64.wrap (E - a + 1) = E - (a - 1) := by rw [zAh (by omega) (by omega)]; omega
       try simp -dsimp (maxSteps := 1000000) only [go_sem, List.forall_mem_nil, ↓reduceIte, Nat.reduceEqDiff, Nat.reduceLT, Nat.reduceLeDiff, Nat.reduceAdd, Nat.reduceMul, reduceCtorEq, Tryz.f63, hg, hh, hw1]
       exact ⟨⟨(Y', a - 1), hY', by simp only []; omega, .inr (by simp only []; omega)⟩, by simp only []; omega, [], [], by (simp only [go_sem, eq_self, MvRb, MvRn, MvRt, List.nodup_cons, List.nodup_nil, ↓reduceIte, Nat.reduceEqDiff, Nat.reduceLT, Nat.reduceLeDiff, reduceCtorEq, List.forall_mem_nil, Nat.zero_le, false_implies, List.mem_singleton]) <;> simp⟩
     have hg : fcmp .geq .f64 Y 4715268809856909312 = false := by rw [hY, geq24 (dr a (by omega) (by omega)), decide_eq_false hg0]
     try simp -dsimp (maxSteps := 1000000) only [go_sem, List.forall_mem_nil, ↓reduceIte, Nat.reduceEqDiff, Nat.reduceLT, Nat.reduceLeDiff, Nat.reduceAdd, Nat.reduceMul, reduceCtorEq, Tryz.f63, hg]
     refine zBc (ι := { x : Nat × Int // x.1 = dW M x.2 ∧ -149 ≤ x.2 ∧ x.2 ≤ 104 ∧ x.2 + M.log2 ≤ 23 }) (fun a => ⟨[(3, some (.c (.im (.str ⟨([45] : Txt).toArray⟩)))), (4, some (.c (.im (.flt .f64 a.1.1)))), (5, some (.c (.im (.int .i64 (E - a.1.2)))))], [], 0⟩) (fun a => (-a.1.2).toNat) ⟨(Y, a), hY, by simp only []; omega, by simp only []; omega, by simp only []; omega⟩ ⟨[], [], by (simp only [go_sem, eq_self, MvRb, MvRn, MvRt, List.nodup_cons, List.nodup_nil, ↓reduceIte, Nat.reduceEqDiff, Nat.reduceLT, Nat.reduceLeDiff, reduceCtorEq, List.forall_mem_nil, Nat.zero_le, false_implies, List.mem_singleton]) <;> simp⟩ (fun ⟨⟨Y, a⟩, hY, ha1, ha2, ha3⟩ => ?_)
     simp only at hY ha1 ha2 ha3 ⊢
     obtain ⟨Y', hY'⟩ : ∃ y, y = dW M (a + 1) := ⟨_, rfl⟩
     have da := dr a (by omega) (by omega)
     have nn := dW_nan da
     obtain ⟨T, hT, hti, hcase⟩ := whole64 da ha3
     rw [← hY] at nn hti hcase
     obtain ⟨N, hN⟩ : ∃ n, n = FloatKind.f64.nearest (T : Int) := ⟨_, rfl⟩
     rw [← hN] at hcase
     have hN' := hN.symm
     have r1 : (IntKind.i64.min ≤ (T : Int) ∧ (T : Int) ≤ IntKind.i64.max) = True := eq_true (by rw [i1, i2]; omega)
     rcases hcase with ⟨hq, hsv, hT0⟩ | ⟨hq, hneg⟩
     case inr =>
       have h2 := twice64 da (dr (a + 1) (by omega) (by omega))
       rw [← hY, ← hY'] at h2
       have hw1 : IntKind.i64.wrap (E - a - 1) = E - (a + 1) := by rw [zAh (by omega) (by omega)]; omega
       try simp -dsimp (maxSteps := 1000000) only [go_sem, List.forall_mem_nil, ↓reduceIte, Nat.reduceEqDiff, Nat.reduceLT, Nat.reduceLeDiff, Nat.reduceAdd, Nat.reduceMul, reduceCtorEq, Tryz.f63, nn, hti, r1, hN', hq, h2, hw1]
       exact ⟨⟨(Y', a + 1), hY', by simp only []; omega, by simp only []; omega, by simp only []; omega⟩, by simp only []; omega, [], [], by (simp only [go_sem, eq_self, MvRb, MvRn, MvRt, List.nodup_cons, List.nodup_nil, ↓reduceIte, Nat.reduceEqDiff, Nat.reduceLT, Nat.reduceLeDiff, reduceCtorEq, List.forall_mem_nil, Nat.zero_le, false_implies, List.mem_singleton]) <;> simp⟩
     have hs0 : SV T (E - a) M E := by
       have := hsv.symm.add (E - a)
       have z1 : (0 : Int) + (E - a) = E - a := by omega
       have z2 : a + (E - a) = E := by omega
       rw [z1, z2] at this
       exact this
     try simp -dsimp (maxSteps := 1000000) only [go_sem, List.forall_mem_nil, ↓reduceIte, Nat.reduceEqDiff, Nat.reduceLT, Nat.reduceLeDiff, Nat.reduceAdd, Nat.reduceMul, reduceCtorEq, Tryz.f63, nn, hti, r1, hN', hq]
     refine zBc (ι := { x : Nat × Int // 0 < x.1 ∧ x.1 < 16777216 ∧ SV x.1 x.2 M E }) (fun x => ⟨[(3, some (.c (.im (.str ⟨([45] : Txt).toArray⟩)))), (5, some (.c (.im (.int .i64 x.1.2)))), (6, some (.c (.im (.int .i64 (x.1.1 : Int)))))], [], 0⟩) (fun x => x.1.1) ⟨(T, E - a), hT0, hT, hs0⟩ ⟨[], [], by (simp only [go_sem, eq_self, MvRb, MvRn, MvRt, List.nodup_cons, List.nodup_nil, ↓reduceIte, Nat.reduceEqDiff, Nat.reduceLT, Nat.reduceLeDiff, reduceCtorEq, List.forall_mem_nil, Nat.zero_le, false_implies, List.mem_singleton]) <;> simp⟩ (fun ⟨⟨m, e⟩, q1, q2, q3⟩ => ?_)
     simp only at q1 q2 q3 ⊢
     have hb := svb m e q1 q3
     have hl := zBn (k := 23) q1 q2
     have hm : (m : Int).tmod 2 = ((m % 2 : Nat) : Int) := by rw [Int.tmod_eq_emod_of_nonneg (by omega)]; omega
     by_cases hev : m % 2 = 0
     · have h1 : (((m % 2 : Nat) : Int) = 0) = True := eq_true (by omega)
       have hd : IntKind.i64.wrap ((m : Int).tdiv 2) = ((m / 2 : Nat) : Int) := by rw [Int.tdiv_eq_ediv_of_nonneg (by omega), zAh (by omega) (by omega)]; omega
       have he : IntKind.i64.wrap (e + 1) = e + 1 := zAh (by omega) (by omega)
       have hs1 : SV (m / 2) (e + 1) M E := by
         have := SV.shl (m / 2) (e + 1) 1
         have z1 : m / 2 * 2 ^ 1 = m := by omega
         have z2 : e + 1 - ((1 : Nat) : Int) = e := by omega
         rw [z1, z2] at this
         exact this.trans q3
       try simp -dsimp (maxSteps := 1000000) only [go_sem, List.forall_mem_nil, ↓reduceIte, Nat.reduceEqDiff, Nat.reduceLT, Nat.reduceLeDiff, Nat.reduceAdd, Nat.reduceMul, reduceCtorEq, Tryz.f63, n2, hm, h1, hd, he]
       exact ⟨⟨(m / 2, e + 1), by simp only []; omega, by simp only []; omega, hs1⟩, by simp only []; omega, [], [], by (simp only [go_sem, eq_self, MvRb, MvRn, MvRt, List.nodup_cons, List.nodup_nil, ↓reduceIte, Nat.reduceEqDiff, Nat.reduceLT, Nat.reduceLeDiff, reduceCtorEq, List.forall_mem_nil, Nat.zero_le, false_implies, List.mem_singleton]) <;> simp⟩
     · have h1 : (((m % 2 : Nat) : Int) = 0) = False := eq_false (by omega)
       obtain ⟨u1, u2⟩ := hun m e q3 (by omega)
       have b1 : -9223372036854775807 ≤ (m : Int) ∧ (m : Int) ≤ 9223372036854775807 := by omega
       have b2 : -9223372036854775807 ≤ e ∧ e ≤ 9223372036854775807 := by omega
       have ri1 := zDd b1
       have ri2 := zDd b2
       have la := zBj (n := (m : Int)) ⟨by omega, by omega⟩
       have lb := zBj (n := e) ⟨by omega, by omega⟩
       rw [hmag, ← u1, ← u2]
       generalize Lib.itoa (m : Int) = A at *
       generalize Lib.itoa e = B at *
       have hfin : ([45] : Txt) ++ (A ++ [112] ++ B) = [45] ++ A ++ [112] ++ B := by simp
       rw [hfin]
       have z1 : (([45] ++ A : Txt).length ≤ 4611686018427387904) = True := eq_true (by simp; omega)
       have x0 : (1 + A.length ≤ 4611686018427387904) = True := eq_true (by omega)
       have x1 : (A.length + 1 ≤ 4611686018427387904) = True := eq_true (by omega)
       have x2 : (A.length + 1 + B.length ≤ 4611686018427387904) = True := eq_true (by omega)
       have x3 : (A.length + 1 + 1 ≤ 4611686018427387904) = True := eq_true (by omega)
       have x4 : (A.length + 1 + 1 + B.length ≤ 4611686018427387904) = True := eq_true (by omega)
       have x5 : (1 + A.length + 1 ≤ 4611686018427387904) = True := eq_true (by omega)
       have x6 : (1 + A.length + 1 + B.length ≤ 4611686018427387904) = True := eq_true (by omega)
       have x7 : (A.length ≤ 4611686018427387904) = True := eq_true (by omega)
       try simp -dsimp (maxSteps := 1000000) only [go_sem, List.forall_mem_nil, ↓reduceIte, Nat.reduceEqDiff, Nat.reduceLT, Nat.reduceLeDiff, Nat.reduceAdd, Nat.reduceMul, reduceCtorEq, Tryz.f63, n2, hm, h1, ri1, ri2, zBr, zAo, List.size_toArray, List.length_append, List.length_cons, List.length_nil, Nat.zero_add, x0, x1, x2, x3, x4, x5, x6, x7, List.nil_append]
   · skip
     try simp -dsimp (maxSteps := 1000000) only [go_sem, List.forall_mem_nil, ↓reduceIte, Nat.reduceEqDiff, Nat.reduceLT, Nat.reduceLeDiff, Nat.reduceAdd, Nat.reduceMul, reduceCtorEq, Tryz.f63, zBp, f, q, c31, run_l1Abs, ab, fw, Bool.not_true]
     refine zBc (ι := { x : Nat × Int // x.1 = dW M x.2 ∧ x.2 ≤ E ∧ (x.2 = E ∨ 0 ≤ x.2) }) (fun a => ⟨[(3, some (.c (.im (.str ⟨([] : Txt).toArray⟩)))), (4, some (.c (.im (.flt .f64 a.1.1)))), (5, some (.c (.im (.int .i64 (E - a.1.2)))))], [], 0⟩) (fun a => (a.1.2 + 1).toNat) ⟨(Y0, E), hY0, by omega, .inl rfl⟩ ⟨[], [], by (simp only [go_sem, eq_self, MvRb, MvRn, MvRt, List.nodup_cons, List.nodup_nil, ↓reduceIte, Nat.reduceEqDiff, Nat.reduceLT, Nat.reduceLeDiff, reduceCtorEq, List.forall_mem_nil, Nat.zero_le, false_implies, List.mem_singleton, Int.sub_self]) <;> simp⟩ (fun ⟨⟨Y, a⟩, hY, ha1, ha2⟩ => ?_)
     simp only at hY ha1 ha2 ⊢
     obtain ⟨Y', hY'⟩ : ∃ y, y = dW M (a - 1) := ⟨_, rfl⟩
     by_cases hg0 : 24 ≤ a + M.log2
     · have hg : fcmp .geq .f64 Y 4715268809856909312 = true := by rw [hY, geq24 (dr a (by omega) (by omega)), decide_eq_true hg0]
       have hh := half64 (dr a (by omega) (by omega))
       rw [← hY, ← hY'] at hh
       have hw1 : IntKind.i64.wrap (E - a + 1) = E - (a - 1) := by rw [zAh (by omega) (by omega)]; omega
       try simp -dsimp (maxSteps := 1000000) only [go_sem, List.forall_mem_nil, ↓reduceIte, Nat.reduceEqDiff, Nat.reduceLT, Nat.reduceLeDiff, Nat.reduceAdd, Nat.reduceMul, reduceCtorEq, Tryz.f63, hg, hh, hw1]
       exact ⟨⟨(Y', a - 1), hY', by simp only []; omega, .inr (by simp only []; omega)⟩, by simp only []; omega, [], [], by (simp only [go_sem, eq_self, MvRb, MvRn, MvRt, List.nodup_cons, List.nodup_nil, ↓reduceIte, Nat.reduceEqDiff, Nat.reduceLT, Nat.reduceLeDiff, reduceCtorEq, List.forall_mem_nil, Nat.zero_le, false_implies, List.mem_singleton]) <;> simp⟩
     have hg : fcmp .geq .f64 Y 4715268809856909312 = false := by rw [hY, geq24 (dr a (by omega) (by omega)), decide_eq_false hg0]
     try simp -dsimp (maxSteps := 1000000) only [go_sem, List.forall_mem_nil, ↓reduceIte, Nat.reduceEqDiff, Nat.reduceLT, Nat.reduceLeDiff, Nat.reduceAdd, Nat.reduceMul, reduceCtorEq, Tryz.f63, hg]
     refine zBc (ι := { x : Nat × Int // x.1 = dW M x.2 ∧ -149 ≤ x.2 ∧ x.2 ≤ 104 ∧ x.2 + M.log2 ≤ 23 }) (fun a => ⟨[(3, some (.c (.im (.str ⟨([] : Txt).toArray⟩)))), (4, some (.c (.im (.flt .f64 a.1.1)))), (5, some (.c (.im (.int .i64 (E - a.1.2)))))], [], 0⟩) (fun a => (-a.1.2).toNat) ⟨(Y, a), hY, by simp only []; omega, by simp only []; omega, by simp only []; omega⟩ ⟨[], [], by (simp only [go_sem, eq_self, MvRb, MvRn, MvRt, List.nodup_cons, List.nodup_nil, ↓reduceIte, Nat.reduceEqDiff, Nat.reduceLT, Nat.reduceLeDiff, reduceCtorEq, List.forall_mem_nil, Nat.zero_le, false_implies, List.mem_singleton]) <;> simp⟩ (fun ⟨⟨Y, a⟩, hY, ha1, ha2, ha3⟩ => ?_)
     simp only at hY ha1 ha2 ha3 ⊢
     obtain ⟨Y', hY'⟩ : ∃ y, y = dW M (a + 1) := ⟨_, rfl⟩
     have da := dr a (by omega) (by omega)
     have nn := dW_nan da
     obtain ⟨T, hT, hti, hcase⟩ := whole64 da ha3
     rw [← hY] at nn hti hcase
     obtain ⟨N, hN⟩ : ∃ n, n = FloatKind.f64.nearest (T : Int) := ⟨_, rfl⟩
     rw [← hN] at hcase
     have hN' := hN.symm
     have r1 : (IntKind.i64.min ≤ (T : Int) ∧ (T : Int) ≤ IntKind.i64.max) = True := eq_true (by rw [i1, i2]; omega)
     rcases hcase with ⟨hq, hsv, hT0⟩ | ⟨hq, hneg⟩
     case inr =>
       have h2 := twice64 da (dr (a + 1) (by omega) (by omega))
       rw [← hY, ← hY'] at h2
       have hw1 : IntKind.i64.wrap (E - a - 1) = E - (a + 1) := by rw [zAh (by omega) (by omega)]; omega
       try simp -dsimp (maxSteps := 1000000) only [go_sem, List.forall_mem_nil, ↓reduceIte, Nat.reduceEqDiff, Nat.reduceLT, Nat.reduceLeDiff, Nat.reduceAdd, Nat.reduceMul, reduceCtorEq, Tryz.f63, nn, hti, r1, hN', hq, h2, hw1]
       exact ⟨⟨(Y', a + 1), hY', by simp only []; omega, by simp only []; omega, by simp only []; omega⟩, by simp only []; omega, [], [], by (simp only [go_sem, eq_self, MvRb, MvRn, MvRt, List.nodup_cons, List.nodup_nil, ↓reduceIte, Nat.reduceEqDiff, Nat.reduceLT, Nat.reduceLeDiff, reduceCtorEq, List.forall_mem_nil, Nat.zero_le, false_implies, List.mem_singleton]) <;> simp⟩
     have hs0 : SV T (E - a) M E := by
       have := hsv.symm.add (E - a)
       have z1 : (0 : Int) + (E - a) = E - a := by omega
       have z2 : a + (E - a) = E := by omega
       rw [z1, z2] at this
       exact this
     try simp -dsimp (maxSteps := 1000000) only [go_sem, List.forall_mem_nil, ↓reduceIte, Nat.reduceEqDiff, Nat.reduceLT, Nat.reduceLeDiff, Nat.reduceAdd, Nat.reduceMul, reduceCtorEq, Tryz.f63, nn, hti, r1, hN', hq]
     refine zBc (ι := { x : Nat × Int // 0 < x.1 ∧ x.1 < 16777216 ∧ SV x.1 x.2 M E }) (fun x => ⟨[(3, some (.c (.im (.str ⟨([] : Txt).toArray⟩)))), (5, some (.c (.im (.int .i64 x.1.2)))), (6, some (.c (.im (.int .i64 (x.1.1 : Int)))))], [], 0⟩) (fun x => x.1.1) ⟨(T, E - a), hT0, hT, hs0⟩ ⟨[], [], by (simp only [go_sem, eq_self, MvRb, MvRn, MvRt, List.nodup_cons, List.nodup_nil, ↓reduceIte, Nat.reduceEqDiff, Nat.reduceLT, Nat.reduceLeDiff, reduceCtorEq, List.forall_mem_nil, Nat.zero_le, false_implies, List.mem_singleton]) <;> simp⟩ (fun ⟨⟨m, e⟩, q1, q2, q3⟩ => ?_)
     simp only at q1 q2 q3 ⊢
     have hb := svb m e q1 q3
     have hl := zBn (k := 23) q1 q2
     have hm : (m : Int).tmod 2 = ((m % 2 : Nat) : Int) := by rw [Int.tmod_eq_emod_of_nonneg (by omega)]; omega
     by_cases hev : m % 2 = 0
     · have h1 : (((m % 2 : Nat) : Int) = 0) = True := eq_true (by omega)
       have hd : IntKind.i64.wrap ((m : Int).tdiv 2) = ((m / 2 : Nat) : Int) := by rw [Int.tdiv_eq_ediv_of_nonneg (by omega), zAh (by omega) (by omega)]; omega
       have he : IntKind.i64.wrap (e + 1) = e + 1 := zAh (by omega) (by omega)
       have hs1 : SV (m / 2) (e + 1) M E := by
         have := SV.shl (m / 2) (e + 1) 1
         have z1 : m / 2 * 2 ^ 1 = m := by omega
         have z2 : e + 1 - ((1 : Nat) : Int) = e := by omega
         rw [z1, z2] at this
         exact this.trans q3
       try simp -dsimp (maxSteps := 1000000) only [go_sem, List.forall_mem_nil, ↓reduceIte, Nat.reduceEqDiff, Nat.reduceLT, Nat.reduceLeDiff, Nat.reduceAdd, Nat.reduceMul, reduceCtorEq, Tryz.f63, n2, hm, h1, hd, he]
       exact ⟨⟨(m / 2, e + 1), by simp only []; omega, by simp only []; omega, hs1⟩, by simp only []; omega, [], [], by (simp only [go_sem, eq_self, MvRb, MvRn, MvRt, List.nodup_cons, List.nodup_nil, ↓reduceIte, Nat.reduceEqDiff, Nat.reduceLT, Nat.reduceLeDiff, reduceCtorEq, List.forall_mem_nil, Nat.zero_le, false_implies, List.mem_singleton]) <;> simp⟩
     · have h1 : (((m % 2 : Nat) : Int) = 0) = False := eq_false (by omega)
       obtain ⟨u1, u2⟩ := hun m e q3 (by omega)
       have b1 : -9223372036854775807 ≤ (m : Int) ∧ (m : Int) ≤ 9223372036854775807 := by omega
       have b2 : -9223372036854775807 ≤ e ∧ e ≤ 9223372036854775807 := by omega
       have ri1 := zDd b1
       have ri2 := zDd b2
       have la := zBj (n := (m : Int)) ⟨by omega, by omega⟩
       have lb := zBj (n := e) ⟨by omega, by omega⟩
       rw [hmag, ← u1, ← u2]
       generalize Lib.itoa (m : Int) = A at *
       generalize Lib.itoa e = B at *
       have hfin : ([] : Txt) ++ (A ++ [112] ++ B) = [] ++ A ++ [112] ++ B := by simp
       rw [hfin]
       have z1 : (([] ++ A : Txt).length ≤ 4611686018427387904) = True := eq_true (by simp; omega)
       have x0 : (0 + A.length ≤ 4611686018427387904) = True := eq_true (by omega)
       have x1 : (A.length + 1 ≤ 4611686018427387904) = True := eq_true (by omega)
       have x2 : (A.length + 1 + B.length ≤ 4611686018427387904) = True := eq_true (by omega)
       have x3 : (A.length + 1 + 1 ≤ 4611686018427387904) = True := eq_true (by omega)
       have x4 : (A.length + 1 + 1 + B.length ≤ 4611686018427387904) = True := eq_true (by omega)
       have x5 : (1 + A.length + 1 ≤ 4611686018427387904) = True := eq_true (by omega)
       have x6 : (1 + A.length + 1 + B.length ≤ 4611686018427387904) = True := eq_true (by omega)
       have x7 : (A.length ≤ 4611686018427387904) = True := eq_true (by omega)
       try simp -dsimp (maxSteps := 1000000) only [go_sem, List.forall_mem_nil, ↓reduceIte, Nat.reduceEqDiff, Nat.reduceLT, Nat.reduceLeDiff, Nat.reduceAdd, Nat.reduceMul, reduceCtorEq, Tryz.f63, n2, hm, h1, ri1, ri2, zBr, zAo, List.size_toArray, List.length_append, List.length_cons, List.length_nil, Nat.zero_add, x0, x1, x2, x3, x4, x5, x6, x7, List.nil_append]
end Go.SX
namespace Go.SX
open Go Go.Proofs Ieee
theorem fsT_48 {w : Nat} (h : w < 4294967296) : (fsT w = [48]) = (w = 0) := by
 apply propext
 constructor
 · intro hf
   unfold fsT at hf
   split at hf
   · rename_i hn
     have h1 : Fin32 w := ⟨h, by simp only [isFin, decide_eq_true_eq] at hn; omega⟩
     have h2 : Fin32 0 := ⟨by omega, by omega⟩
     have e : fmtT 0 = [48] := by decide +kernel
     exact fmtT_inj h1 h2 (hf.trans e.symm)
   · cases hf
 · rintro rfl; decide +kernel
theorem fsT_45 {w : Nat} (h : w < 4294967296) : (fsT w = [45, 48]) = (w = 2147483648) := by
 apply propext
 constructor
 · intro hf
   unfold fsT at hf
   split at hf
   · rename_i hn
     have h1 : Fin32 w := ⟨h, by simp only [isFin, decide_eq_true_eq] at hn; omega⟩
     have h2 : Fin32 2147483648 := ⟨by omega, by omega⟩
     have e : fmtT 2147483648 = [45, 48] := by decide +kernel
     exact fmtT_inj h1 h2 (hf.trans e.symm)
   · cases hf
 · rintro rfl; decide +kernel
theorem fs_nz {w : Nat} (h : w < 4294967296) : decide (fsT w = [48]) = nz w := by
 rw [show decide (fsT w = [48]) = decide (w = 0) from by simp only [fsT_48 h]]
 unfold nz
 congr 1
 exact propext ⟨fun h => by omega, fun h => by omega⟩
abbrev Pt32 := { p : Pt // p.1 < 4294967296 ∧ p.2 < 4294967296 }
noncomputable def ct_l4ZeroA : Ct := fam true (fun p : Pt32 => ([.c (.im (.cpx .f32 p.1.1 p.1.2))], [])) (fun p => .one { val := .c (.im (.bool (nzP p.1))) })
theorem zAx {x y : Nat} (hx : x < 4294967296) (hy : y < 4294967296) : ct_l4ZeroA.run [.c (.im (.cpx .f32 x y))] [] = some (.one { val := .c (.im (.bool (nzP (x, y)))) }) := by
 refine zAd (args := fun p : Pt32 => ([D.c (.im (.cpx .f32 p.1.1 p.1.2))], [])) ?_ (⟨(x, y), hx, hy⟩ : Pt32)
 rintro ⟨⟨a, b⟩, _⟩ ⟨⟨c, d⟩, _⟩ h
 simp at h
 exact Subtype.ext (Prod.ext h.1 h.2)
set_option maxRecDepth 100000 in
theorem zCd : Law Tryz.prog 129 ct_l4ZeroA := by
 refine zAk (zAc zAv zAf) hmixA Tryz.func129 rfl rfl (fun ⟨⟨x, y⟩, hx, hy⟩ => ⟨zAt rfl, by simp [Tryz.f129], ?_⟩)
 simp only at hx hy ⊢
 have e1 := fs_nz hx
 have e2 := fs_nz hy
 have b1 : ((⟨(fsT x).toArray⟩ : ByteArray).toList == (⟨#[48]⟩ : ByteArray).toList) = nz x := (zAj (fsT x) [48]).trans e1
 have b2 : ((⟨(fsT y).toArray⟩ : ByteArray).toList == (⟨#[48]⟩ : ByteArray).toList) = nz y := (zAj (fsT y) [48]).trans e2
 simp only [nzP]
 cases h1 : nz x with
 | false =>
   rw [h1] at b1
   try simp -dsimp (maxSteps := 1000000) only [go_sem, List.forall_mem_nil, ↓reduceIte, Nat.reduceEqDiff, Nat.reduceLT, Nat.reduceLeDiff, Nat.reduceAdd, Nat.reduceMul, reduceCtorEq, Tryz.f129, zAq hx, b1, Bool.false_and]
 | true =>
   rw [h1] at b1
   try simp -dsimp (maxSteps := 1000000) only [go_sem, List.forall_mem_nil, ↓reduceIte, Nat.reduceEqDiff, Nat.reduceLT, Nat.reduceLeDiff, Nat.reduceAdd, Nat.reduceMul, reduceCtorEq, Tryz.f129, zAq hx, zAq hy, b1, b2, Bool.true_and]
theorem ringGo_step {st : List Pt} {a k : Nat} {f i : Nat} {p : Pt} (hp : st[(a + i) % st.length]? = some p) : ringGo st a (f + 1) i = (nzP p && ringGo st a f (i + 1)) := by
 simp only [ringGo, List.getD_eq_getElem?_getD, hp, Option.getD_some]
structure ARgA where
 st : List Pt
 a : Int
 c : Int
 h : st.length ≤ sm
 w : ∀ p ∈ st, p.1 < 4294967296 ∧ p.2 < 4294967296
noncomputable def ct_sIsRingA : Ct := fam true (fun x : ARgA => ([.agg [.im (.sl 1 (rowsZ x.st)), .im (.int .i64 x.a), .im (.int .i64 x.c)]], [])) (fun x => .one { val := .c (.im (.bool (isRingF x.st x.a x.c))) })
theorem run_sIsRingA {st : List Pt} (a c : Int) (h : st.length ≤ sm) (w : ∀ p ∈ st, p.1 < 4294967296 ∧ p.2 < 4294967296) : ct_sIsRingA.run [.agg [.im (.sl 1 (rowsZ st)), .im (.int .i64 a), .im (.int .i64 c)]] [] = some (.one { val := .c (.im (.bool (isRingF st a c))) }) := by
 refine zAd (args := fun x : ARgA => ([D.agg [.im (.sl 1 (rowsZ x.st)), .im (.int .i64 x.a), .im (.int .i64 x.c)]], [])) ?_ (⟨st, a, c, h, w⟩ : ARgA)
 rintro ⟨a, _, _, _, _⟩ ⟨b, _, _, _, _⟩ h
 simp [zBi] at h
 obtain ⟨rfl, rfl, rfl⟩ := h
 rfl
set_option maxRecDepth 100000 in
set_option maxHeartbeats 4000000 in
theorem law_sIsRingA : Law Tryz.prog 61 ct_sIsRingA := by
 refine zAk (zAc law_l1In (zAc zCd zAf)) hmixA Tryz.func61 rfl rfl (fun ⟨st, a, c, hs, hw⟩ => ⟨zAt rfl, by simp [Tryz.f61], ?_⟩)
 simp only
 have hsm : sm = 16777216 := rfl
 have c0 : isRingF st a c = (decide (ringC st a c) && ringGo st a.toNat (st.length - c.toNat) c.toNat) := rfl
 by_cases k1 : 1 ≤ st.length ∧ st.length ≤ 16
 rotate_left
 · have c1 : (decide ((1 : Int) ≤ (st.length : Int)) && decide ((st.length : Int) ≤ 16)) = false := by simp; omega
   have r : isRingF st a c = false := by rw [c0, decide_eq_false (by unfold ringC; omega)]; rfl
   try simp -dsimp (maxSteps := 1000000) only [go_sem, List.forall_mem_nil, ↓reduceIte, Nat.reduceEqDiff, Nat.reduceLT, Nat.reduceLeDiff, Nat.reduceAdd, Nat.reduceMul, reduceCtorEq, Tryz.f61, zBe, c1, r, zAa, Bool.not_false]
 have c1 : (decide ((1 : Int) ≤ (st.length : Int)) && decide ((st.length : Int) ≤ 16)) = true := by simp; omega
 have w1 : IntKind.i64.wrap ((st.length : Int) - 1) = (st.length : Int) - 1 := zAh (by omega) (by omega)
 by_cases k2 : 0 ≤ a ∧ a < st.length
 rotate_left
 · have c2 : (decide ((0 : Int) ≤ a) && decide (a ≤ (st.length : Int) - 1)) = false := by simp; omega
   have r : isRingF st a c = false := by rw [c0, decide_eq_false (by unfold ringC; omega)]; rfl
   try simp -dsimp (maxSteps := 1000000) only [go_sem, List.forall_mem_nil, ↓reduceIte, Nat.reduceEqDiff, Nat.reduceLT, Nat.reduceLeDiff, Nat.reduceAdd, Nat.reduceMul, reduceCtorEq, Tryz.f61, zBe, c1, c2, w1, r, zAa, Bool.not_false, Bool.not_true]
 have c2 : (decide ((0 : Int) ≤ a) && decide (a ≤ (st.length : Int) - 1)) = true := by simp; omega
 by_cases k3 : 0 ≤ c ∧ c ≤ st.length
 rotate_left
 · have c3 : (decide ((0 : Int) ≤ c) && decide (c ≤ (st.length : Int))) = false := by simp; omega
   have r : isRingF st a c = false := by rw [c0, decide_eq_false (by unfold ringC; omega)]; rfl
   try simp -dsimp (maxSteps := 1000000) only [go_sem, List.forall_mem_nil, ↓reduceIte, Nat.reduceEqDiff, Nat.reduceLT, Nat.reduceLeDiff, Nat.reduceAdd, Nat.reduceMul, reduceCtorEq, Tryz.f61, zBe, c1, c2, c3, w1, r, zAa, Bool.not_false, Bool.not_true]
 have c3 : (decide ((0 : Int) ≤ c) && decide (c ≤ (st.length : Int))) = true := by simp; omega
 obtain ⟨A, rfl⟩ := Int.eq_ofNat_of_zero_le k2.1
 obtain ⟨C, rfl⟩ := Int.eq_ofNat_of_zero_le k3.1
 have r : isRingF st (A : Int) (C : Int) = ringGo st A (st.length - C) C := by rw [c0, decide_eq_true (by unfold ringC; omega), Int.toNat_natCast, Int.toNat_natCast]; rfl
 rw [r]
 try simp -dsimp (maxSteps := 1000000) only [go_sem, List.forall_mem_nil, ↓reduceIte, Nat.reduceEqDiff, Nat.reduceLT, Nat.reduceLeDiff, Nat.reduceAdd, Nat.reduceMul, reduceCtorEq, Tryz.f61, zBe, c1, c2, c3, w1, zAa, Bool.not_true]
 refine zBc (ι := { k : Nat // k ≤ st.length ∧ ringGo st A (st.length - C) C = ringGo st A (st.length - k) k }) (fun k => ⟨[(1, some (.c (.ptr 0 0 0 0))), (3, some (.c (.im (.int .i64 (st.length : Int))))), (4, some (.c (.im (.int .i64 (k.1 : Int)))))],
   [(0, some (.box [.t (.im (.sl 1 (rowsZ st))), .t (.im (.int .i64 (A : Int))), .t (.im (.int .i64 (C : Int)))]))], 1⟩) (fun k => st.length - k.1) ⟨C, by omega, rfl⟩ ⟨[], [], by (simp only [go_sem, eq_self, MvRb, MvRn, MvRt, List.nodup_cons, List.nodup_nil, ↓reduceIte, Nat.reduceEqDiff, Nat.reduceLT, Nat.reduceLeDiff, reduceCtorEq, List.forall_mem_nil, Nat.zero_le, false_implies, List.mem_singleton]) <;> simp [lk, zCb]⟩ (fun ⟨k, hk, hinv⟩ => ?_)
 simp only at hk hinv ⊢
 by_cases hlt : k < st.length
 rotate_left
 · have hI : ((k : Int) < (st.length : Int)) = False := eq_false (by omega)
   have z : st.length - k = 0 := by omega
   rw [z] at hinv
   simp only [ringGo] at hinv
   try simp -dsimp (maxSteps := 1000000) only [go_sem, List.forall_mem_nil, ↓reduceIte, Nat.reduceEqDiff, Nat.reduceLT, Nat.reduceLeDiff, Nat.reduceAdd, Nat.reduceMul, reduceCtorEq, Tryz.f61, hI, hinv]
 have hI : ((k : Int) < (st.length : Int)) = True := eq_true (by omega)
 obtain ⟨q, hq⟩ : ∃ q, (A + k) % st.length = q := ⟨_, rfl⟩
 have hql : q < st.length := by rw [← hq]; exact Nat.mod_lt _ (by omega)
 obtain ⟨p, hp⟩ : ∃ p, st[q]? = some p := ⟨_, List.getElem?_eq_getElem hql⟩
 have hrow := zCl hp
 obtain ⟨hp1, hp2⟩ := hw p (List.mem_of_getElem? hp)
 have hst : ringGo st A (st.length - k) k = (nzP p && ringGo st A (st.length - (k + 1)) (k + 1)) := by
   have z : st.length - k = (st.length - (k + 1)) + 1 := by omega
   rw [z]
   exact ringGo_step (k := 0) (by rw [hq]; exact hp)
 obtain ⟨x, y⟩ := p
 have n0 : ((st.length : Int) = 0) = False := eq_false (by omega)
 have w2 : IntKind.i64.wrap ((A : Int) + (k : Int)) = ((A + k : Nat) : Int) := by rw [zAh (by omega) (by omega)]; omega
 have hm : ((A + k : Nat) : Int).tmod (st.length : Int) = (q : Int) := by rw [Int.tmod_eq_emod_of_nonneg (by omega), ← hq]; omega
 have w3 : IntKind.i64.wrap (q : Int) = (q : Int) := zAh (by omega) (by omega)
 have h0 : (0 ≤ (q : Int)) = True := by simp
 have hqI : ((q : Int) < (st.length : Int)) = True := eq_true (by omega)
 have rz := zAx hp1 hp2
 have w4 : IntKind.i64.wrap ((k : Int) + 1) = ((k + 1 : Nat) : Int) := by rw [zAh (by omega) (by omega)]; omega
 simp only at hrow
 cases hz : nzP (x, y) with
 | false =>
   rw [hz] at rz hst
   rw [hst] at hinv
   simp only [Bool.false_and] at hinv
   try simp -dsimp (maxSteps := 1000000) only [go_sem, List.forall_mem_nil, ↓reduceIte, Nat.reduceEqDiff, Nat.reduceLT, Nat.reduceLeDiff, Nat.reduceAdd, Nat.reduceMul, reduceCtorEq, Tryz.f61, hI, n0, w2, hm, w3, h0, hqI, hrow, rz, hinv, zAa, Int.toNat_natCast, Bool.not_false]
   repeat' (first
     | ((with_reducible refine sl_i ?_ ?_); focus kernel_rfl)
     | ((with_reducible refine ro_e ?_); kernel_rfl))
 | true =>
   rw [hz] at rz hst
   rw [hst] at hinv
   simp only [Bool.true_and] at hinv
   try simp -dsimp (maxSteps := 1000000) only [go_sem, List.forall_mem_nil, ↓reduceIte, Nat.reduceEqDiff, Nat.reduceLT, Nat.reduceLeDiff, Nat.reduceAdd, Nat.reduceMul, reduceCtorEq, Tryz.f61, hI, n0, w2, hm, w3, w4, h0, hqI, hrow, rz, zAa, Int.toNat_natCast, Bool.not_true]
   repeat' (first
     | ((with_reducible refine sl_i ?_ ?_); focus kernel_rfl)
     | ((with_reducible refine ro_i ?_ ?_); focus kernel_rfl))
   exact ⟨⟨k + 1, by omega, hinv⟩, by simp only []; omega, [], [], by (simp only [go_sem, eq_self, MvRb, MvRn, MvRt, List.nodup_cons, List.nodup_nil, ↓reduceIte, Nat.reduceEqDiff, Nat.reduceLT, Nat.reduceLeDiff, reduceCtorEq, List.forall_mem_nil, Nat.zero_le, false_implies, List.mem_singleton]) <;> simp [lk, zCb]⟩
end Go.SX
namespace Go.SX
open Go Go.Proofs Ieee
def restM (m : Mod) : Mod :=
 if m.kind = 1 ∨ m.kind = 2 then { m with turn := (0, 0), state := (0, 0) }
 else if m.kind = 3 ∨ m.kind = 7 then { m with level := 0 }
 else if m.kind = 4 then { m with store := [], rat := 0, rcnt := 0 }
 else if m.kind = 6 then { m with pts := [], lab := [], count := 0 }
 else if m.kind = 8 then { m with state := (0, 0), count := 0, left := 0 }
 else m
def unuF (m : Mod) : Bool := bareF (restM m)
theorem nzP00 : nzP (0, 0) = true := by decide
theorem nz00 : nz 0 = true := by decide
structure AUn where
 m : Mod
 ok : OkM m
 w : W32 m
 k : m.kind = 1 ∨ m.kind = 2 ∨ m.kind = 3 ∨ m.kind = 4 ∨ m.kind = 5 ∨ m.kind = 6 ∨ m.kind = 7 ∨ m.kind = 8
noncomputable def zGb : Ct := fam true (fun x : AUn => ([.agg (modC x.m)], [])) (fun x => .one { val := .c (.im (.bool (unuF x.m))) })
theorem zHn (x : AUn) : zGb.run [.agg (modC x.m)] [] = some (.one { val := .c (.im (.bool (unuF x.m))) }) := by
 refine zAd (args := fun x : AUn => ([D.agg (modC x.m)], [])) ?_ x
 rintro ⟨a, _, _, _⟩ ⟨b, _, _, _⟩ h
 simp only [Prod.mk.injEq, List.cons.injEq, D.agg.injEq, and_true] at h
 have := zEy h
 subst this; rfl
theorem law_cover {P : Program} {f : FuncId} {ct c0 : Ct} (h0 : Law P f c0) (h : ∀ ds hs o, ct.run ds hs = some o → ∃ c, Law P f c ∧ c.sc = ct.sc ∧ c.run ds hs = some o) : Law P f ct := by
 refine ⟨⟨fun ds hs o ho => ?_, fun ds hs o ho => ?_⟩, h0.2⟩
 · obtain ⟨c, hl, hs', hr⟩ := h ds hs o ho
   rw [← hs']
   exact hl.1.ok ds hs o hr
 · obtain ⟨c, hl, hs', hr⟩ := h ds hs o ho
   exact hl.1.at_ ds hs o hr
noncomputable def ct_un (k : Int) : Ct := fam true (fun x : { x : AUn // x.m.kind = k } => ([.agg (modC x.1.m)], [])) (fun x => .one { val := .c (.im (.bool (unuF x.1.m))) })
theorem un_inj {k : Int} : ∀ a b : { x : AUn // x.m.kind = k }, ([D.agg (modC a.1.m)], ([] : List (List B))) = ([D.agg (modC b.1.m)], []) → a = b := by
 rintro ⟨⟨a, _, _, _⟩, _⟩ ⟨⟨b, _, _, _⟩, _⟩ h
 simp only [Prod.mk.injEq, List.cons.injEq, D.agg.injEq, and_true] at h
 have := zEy h
 subst this; rfl
end Go.SX
namespace Go.SX
open Go Go.Proofs Ieee
abbrev SNs := { s : Txt // s.length ≤ 2097152 ∧ negS s }
noncomputable def ct_l1ReadN : Ct := fam true (fun x : SNs => ([.c (.im (.str ⟨x.1.toArray⟩))], [])) (fun x => .one (rIB (rdF x.1)))
theorem run_l1ReadN {s : Txt} (h : s.length ≤ 2097152) (hn : negS s) : ct_l1ReadN.run [.c (.im (.str ⟨s.toArray⟩))] [] = some (.one (rIB (rdF s))) := by
 refine zAd (args := fun x : SNs => ([D.c (.im (.str ⟨x.1.toArray⟩))], [])) ?_ ⟨s, h, hn⟩
 rintro ⟨a, _⟩ ⟨b, _⟩ h
 simp only [Prod.mk.injEq, List.cons.injEq, D.c.injEq, C.im.injEq, I.str.injEq, zGf, true_and, and_true] at h
 exact Subtype.ext h
set_option maxRecDepth 100000 in
set_option maxHeartbeats 8000000 in
theorem law_l1ReadN : Law Tryz.prog 236 ct_l1ReadN := by
 refine zAk (zAc zHb zAf) hmixA Tryz.func236 rfl rfl (fun ⟨s, hs, hn⟩ => ⟨okO okR_ib, by simp [Tryz.f236], ?_⟩)
 simp only at hs hn ⊢
 have hr : rdF s = (-(rdB s.tail).1, (rdB s.tail).2 && decide ((rdB s.tail).1 ≠ 0)) := by unfold rdF; rw [if_pos hn]
 obtain ⟨h0, h1, h2⟩ := hn
 obtain ⟨b0, t, rfl⟩ : ∃ b0 t, s = b0 :: t := by
   cases s with
   | nil => simp at h1
   | cons a t => exact ⟨a, t, rfl⟩
 have hb0 : b0 = 45 := by simpa using h0
 subst hb0
 obtain ⟨b1, t', rfl⟩ : ∃ b1 t', t = b1 :: t' := by
   cases t with
   | nil => simp at h1
   | cons a t => exact ⟨a, t, rfl⟩
 have hb1 : ¬ b1 = 45 := fun e => h2 (by rw [e]; rfl)
 simp only [List.tail_cons] at hr
 have hnn : ¬ negS (b1 :: t') := fun hc => hb1 (by simpa using hc.1)
 have rb := run_l1ReadB (s := b1 :: t') (by simp at hs ⊢; omega) hnn
 have bd := rdB_bd (b1 :: t')
 have i0 : (⟨((45 : UInt8) :: b1 :: t').toArray⟩ : ByteArray)[0]? = some 45 := zDo rfl
 have i1 : (⟨((45 : UInt8) :: b1 :: t').toArray⟩ : ByteArray)[1]? = some b1 := zDo rfl
 have e0 : (((45 : UInt8).toNat : Int) = 45) = True := eq_true rfl
 have e1 : ((b1.toNat : Int) = 45) = False := eq_false (fun e => hb1 (UInt8.toNat_inj.1 (Int.ofNat_inj.1 e)))
 have hx : (⟨((45 : UInt8) :: b1 :: t').toArray⟩ : ByteArray).extract 1 (t'.length + 1 + 1) = ⟨(b1 :: t').toArray⟩ := by
   rw [zDp, List.take_of_length_le (by simp)]; rfl
 have L1 : ((1 : Int) < ((t'.length + 1 + 1 : Nat) : Int)) = True := eq_true (by omega)
 have L2 : ((1 : Int) ≤ ((t'.length + 1 + 1 : Nat) : Int)) = True := eq_true (by omega)
 obtain ⟨n, hn⟩ : ∃ n, (rdB (b1 :: t')).1 = n := ⟨_, rfl⟩
 obtain ⟨ok, hk⟩ : ∃ k, (rdB (b1 :: t')).2 = k := ⟨_, rfl⟩
 simp only [rIB] at rb
 simp only [hn, hk] at rb hr bd
 have w1 : IntKind.i64.wrap (-n) = -n := zAh (by omega) (by omega)
 have w2 : IntKind.i64.wrap (0 - n) = -n := by rw [zAh (by omega) (by omega)]; omega
 generalize hs' : (⟨((45 : UInt8) :: b1 :: t').toArray⟩ : ByteArray) = S at *
 have hS : S.size = t'.length + 1 + 1 := by rw [← hs', zAo]; rfl
 cases ok with
 | false =>
   try simp -dsimp (maxSteps := 1000000) only [go_sem, List.forall_mem_nil, ↓reduceIte, Nat.reduceEqDiff, Nat.reduceLT, Nat.reduceLeDiff, Nat.reduceAdd, Nat.reduceMul, reduceCtorEq, Tryz.f236, rIB, hr, hS, i0, i1, e0, e1, hx, L1, L2, rb, w1, w2, Int.toNat_one, Int.toNat_zero, Int.reduceLE, Int.toNat_natCast, Bool.false_and]
 | true =>
   by_cases hz : n = 0
   · subst hz
     try simp -dsimp (maxSteps := 1000000) only [go_sem, List.forall_mem_nil, ↓reduceIte, Nat.reduceEqDiff, Nat.reduceLT, Nat.reduceLeDiff, Nat.reduceAdd, Nat.reduceMul, reduceCtorEq, Tryz.f236, rIB, hr, hS, i0, i1, e0, e1, hx, L1, L2, rb, w1, w2, Int.toNat_one, Int.toNat_zero, Int.reduceLE, Int.toNat_natCast, Bool.true_and, ne_eq, not_true_eq_false, decide_false]
   · have hz' := eq_false hz
     try simp -dsimp (maxSteps := 1000000) only [go_sem, List.forall_mem_nil, ↓reduceIte, Nat.reduceEqDiff, Nat.reduceLT, Nat.reduceLeDiff, Nat.reduceAdd, Nat.reduceMul, reduceCtorEq, Tryz.f236, rIB, hr, hS, i0, i1, e0, e1, hx, L1, L2, rb, w1, w2, hz', Int.toNat_one, Int.toNat_zero, Int.reduceLE, Int.toNat_natCast, Bool.true_and, ne_eq, not_false_eq_true, decide_true]
theorem law_l1Read : Law Tryz.prog 236 ct_l1Read := by
 refine law_cover zHb (fun ds hs o ho => ?_)
 obtain ⟨x, hx⟩ : ∃ x : SAl, ([D.c (.im (.str ⟨x.1.toArray⟩))], ([] : List (List B))) = (ds, hs) := by
   apply Classical.byContradiction
   intro hn
   have : ct_l1Read.run ds hs = none := dif_neg hn
   rw [this] at ho; cases ho
 injection hx with e1 e2
 subst e1; subst e2
 rw [zEo x.2] at ho
 by_cases hn : negS x.1
 · exact ⟨_, law_l1ReadN, rfl, by rw [run_l1ReadN x.2 hn]; exact ho⟩
 · have : rdF x.1 = rdB x.1 := by unfold rdF; rw [if_neg hn]
   exact ⟨_, zHb, rfl, by rw [run_l1ReadB x.2 hn, ← this]; exact ho⟩
end Go.SX
namespace Go.SX
open Go Go.Proofs Ieee
theorem decD_len : ∀ (k u : Nat), 0 < k → u < 10 ^ k → (Lib.decDigits u).length ≤ k
 | 0, u, h, _ => absurd h (by decide)
 | k + 1, u, _, hu => by
   rw [Lib.decDigits]
   split
   · simp
   · rename_i h10
     have hk : 0 < k := by
       refine Nat.pos_of_ne_zero fun h0 => ?_
       subst h0
       simp at hu; omega
     have := decD_len k (u / 10) hk (by rw [Nat.pow_succ] at hu; omega)
     simp only [List.length_append, List.length_cons, List.length_nil]
     omega
theorem decD_head (u : Nat) : 1 ≤ u → ∃ c t, Lib.decDigits u = c :: t ∧ c.toNat ≠ 48 ∧ isDig c := by
 induction u using Nat.strongRecOn with
 | _ u ih =>
   intro h1
   rw [Lib.decDigits]
   split
   · rename_i h10
     refine ⟨_, _, rfl, ?_, ?_⟩
     · rw [zFm h10]; omega
     · unfold isDig; rw [zFm h10]; omega
   · rename_i h10
     obtain ⟨c, t, e, h2, h3⟩ := ih (u / 10) (by omega) (by omega)
     exact ⟨c, t ++ [UInt8.ofNat (48 + u % 10)], by rw [e]; rfl, h2, h3⟩
theorem rdD_app : ∀ (a : Txt) (c : UInt8) (n : Int), rdD (a ++ [c]) n = (rdD a n).bind fun m => if 48 ≤ c.toNat ∧ c.toNat ≤ 57 then some (10 * m + ((c.toNat : Int) - 48)) else none
 | [], c, n => by simp only [List.nil_append, rdD, Option.bind_some]
 | b :: a, c, n => by
   simp only [List.cons_append, rdD]
   split
   · exact rdD_app a c _
   · rfl
theorem rdD_dec (u : Nat) : rdD (Lib.decDigits u) 0 = some (u : Int) := by
 induction u using Nat.strongRecOn with
 | _ u ih =>
   rw [Lib.decDigits]
   split
   · rename_i h10
     have e := zFm h10
     simp only [rdD, e]
     rw [if_pos (by omega)]
     congr 1
     omega
   · rename_i h10
     have e := zFm (d := u % 10) (by omega)
     rw [rdD_app, ih (u / 10) (by omega), Option.bind_some, e, if_pos (by omega)]
     congr 1
     omega
theorem rdB_dec {u : Nat} (h : u < 100000000000000000) : rdB (Lib.decDigits u) = ((u : Int), true) := by
 have hl := decD_len 17 u (by decide) (by simpa using h)
 have hne := zCz u
 unfold rdB
 rw [if_neg, rdD_dec]
 intro hc
 rcases hc with hc | hc | ⟨hc, hc2⟩
 · exact hne (List.eq_nil_of_length_eq_zero (by omega))
 · omega
 · by_cases h0 : u = 0
   · subst h0
     rw [Lib.decDigits, dif_pos (by decide)] at hc2
     simp at hc2
   · obtain ⟨c, t, e, h2, _⟩ := decD_head u (by omega)
     rw [e] at hc
     simp at hc
     exact h2 (by rw [hc]; rfl)
theorem decD_45 {u : Nat} {k : Nat} : (Lib.decDigits u)[k]? ≠ some 45 := by
 intro h
 have := zDg u 45 (List.mem_of_getElem? h)
 unfold isDig at this
 revert this
 decide
theorem rdF_itoa {n : Int} (h1 : -100000000000000000 < n) (h2 : n < 100000000000000000) : rdF (Lib.itoa n) = (n, true) := by
 unfold rdF Lib.itoa
 by_cases h : n < 0
 · rw [if_pos h]
   have hlen : 0 < (Lib.decDigits n.natAbs).length := List.length_pos_iff.2 (zCz _)
   have hs : negS (45 :: Lib.decDigits n.natAbs) := ⟨rfl, by simp; omega, by
     rw [List.getElem?_cons_succ]; exact decD_45⟩
   rw [if_pos hs]
   simp only [List.tail_cons, rdB_dec (u := n.natAbs) (by omega)]
   refine Prod.ext ?_ ?_
   · show -((n.natAbs : Nat) : Int) = n
     omega
   · show (true && decide (((n.natAbs : Nat) : Int) ≠ 0)) = true
     rw [Bool.true_and]
     exact decide_eq_true (by omega)
 · rw [if_neg h]
   have hs : ¬ negS (Lib.decDigits n.toNat) := fun hc => decD_45 hc.1
   rw [if_neg hs, rdB_dec (by omega)]
   refine Prod.ext ?_ rfl
   show ((n.toNat : Nat) : Int) = n
   omega
def riD : Txt → Int → Option Int
 | [], n => some n
 | b :: s, n => if (48 ≤ b.toNat ∧ b.toNat ≤ 57) ∧ n ≤ 922337203685477580 ∧ ¬ (n = 922337203685477580 ∧ 55 < b.toNat) then riD s (10 * n + ((b.toNat : Int) - 48)) else none
def minT : Txt := [45, 57, 50, 50, 51, 51, 55, 50, 48, 51, 54, 56, 53, 52, 55, 55, 53, 56, 48, 56]
def riT (g : Int) (t : Txt) : Int × Bool := if t.length < 1 ∨ 19 < t.length then (0, false) else match riD t 0 with
 | some n => (g * n, true)
 | none => (0, false)
def riF (s : Txt) : Int × Bool := if s = minT then (-9223372036854775808, true) else if s[0]? = some 45 then riT (-1) s.tail else riT 1 s
theorem riD_bd : ∀ (s : Txt) (n m : Int), 0 ≤ n → n ≤ 9223372036854775807 → riD s n = some m → 0 ≤ m ∧ m ≤ 9223372036854775807
 | [], n, m, h0, h1, h => by simp only [riD, Option.some.injEq] at h; subst h; exact ⟨h0, h1⟩
 | b :: s, n, m, h0, h1, h => by
   simp only [riD] at h
   split at h
   · rename_i hd
     exact riD_bd s _ m (by omega) (by omega) h
   · cases h
theorem riT_bd (g : Int) (hg : g = 1 ∨ g = -1) (t : Txt) : i64B (riT g t).1 := by
 unfold riT
 split
 · exact ⟨by decide, by decide⟩
 · split
   · rename_i n hn
     have := riD_bd t 0 n (by omega) (by omega) hn
     rcases hg with rfl | rfl <;> exact ⟨by simp only []; omega, by simp only []; omega⟩
   · exact ⟨by decide, by decide⟩
theorem riF_bd (s : Txt) : i64B (riF s).1 := by
 unfold riF
 split
 · exact ⟨by decide, by decide⟩
 · split
   · exact riT_bd _ (.inr rfl) _
   · exact riT_bd _ (.inl rfl) _
theorem riD_app : ∀ (a : Txt) (c : UInt8) (n : Int), riD (a ++ [c]) n = (riD a n).bind fun m => if (48 ≤ c.toNat ∧ c.toNat ≤ 57) ∧ m ≤ 922337203685477580 ∧ ¬ (m = 922337203685477580 ∧ 55 < c.toNat) then some (10 * m + ((c.toNat : Int) - 48)) else none
 | [], c, n => by simp only [List.nil_append, riD, Option.bind_some]
 | b :: a, c, n => by
   simp only [List.cons_append, riD]
   split
   · exact riD_app a c _
   · rfl
theorem riD_dec (u : Nat) : u ≤ 9223372036854775807 → riD (Lib.decDigits u) 0 = some (u : Int) := by
 induction u using Nat.strongRecOn with
 | _ u ih =>
   intro hu
   rw [Lib.decDigits]
   split
   · rename_i h10
     have e := zFm h10
     simp only [riD, e]
     rw [if_pos (by omega)]
     congr 1
     omega
   · rename_i h10
     have e := zFm (d := u % 10) (by omega)
     rw [riD_app, ih (u / 10) (by omega) (by omega), Option.bind_some, e, if_pos (by omega)]
     congr 1
     omega
theorem riT_dec {g : Int} {u : Nat} (h : u ≤ 9223372036854775807) : riT g (Lib.decDigits u) = (g * (u : Int), true) := by
 have hl := decD_len 19 u (by decide) (by have : (10 : Nat) ^ 19 = 10000000000000000000 := by decide
                                          omega)
 have hne := zCz u
 unfold riT
 rw [if_neg, riD_dec u h]
 intro hc
 rcases hc with hc | hc
 · exact hne (List.eq_nil_of_length_eq_zero (by omega))
 · omega
theorem zHo {n : Int} (h : i64B n) : riF (Lib.itoa n) = (n, true) := by
 obtain ⟨h1, h2⟩ := h
 by_cases hm : n = -9223372036854775808
 · subst hm
   have : Lib.itoa (-9223372036854775808) = minT := by decide +kernel
   rw [this]
   unfold riF
   rw [if_pos rfl]
 have hne : Lib.itoa n ≠ minT := by
   intro e
   have : Lib.itoa (-9223372036854775808) = minT := by decide +kernel
   exact hm (itoa_inj h1 h2 (by decide) (by decide) (e.trans this.symm))
 unfold riF
 rw [if_neg hne]
 unfold Lib.itoa
 by_cases h : n < 0
 · rw [if_pos h, if_pos (show (45 :: Lib.decDigits n.natAbs)[0]? = some 45 from rfl)]
   simp only [List.tail_cons]
   rw [riT_dec (by omega)]
   refine Prod.ext ?_ rfl
   show -1 * ((n.natAbs : Nat) : Int) = n
   omega
 · rw [if_neg h, if_neg decD_45, riT_dec (by omega)]
   refine Prod.ext ?_ rfl
   show 1 * ((n.toNat : Nat) : Int) = n
   omega
def dS (s : Bool) (m : Nat) (e : Int) : Nat := double.nearest s m e
theorem near_dS {m : Nat} {e : Int} (h : Dr m e) {n : Nat} {j : Int} (hv : SV m e n j) (s : Bool) : double.nearest s n j = dS s m e := by
 obtain ⟨M, last, a, b, _, _, _⟩ := dr_can h
 rw [dS, zBs a b, zBs a (hv.symm.trans b)]
theorem rd_dS {m : Nat} {e : Int} (h : Dr m e) (s : Bool) : ∃ M last, double.read (dS s m e) = .number s M last ∧ SV M last m e ∧ 4503599627370496 ≤ M ∧ M < 9007199254740992 ∧ M.log2 = 52 := by
 obtain ⟨M, last, a, b, c, d, g⟩ := dr_can h
 have hlt : M < 9007199254740992 := a.lt
 have hr : (last - double.leastPlace).toNat * double.binade + M < double.infRung := by
   rw [ep2, bn2, ir2]
   omega
 have e1 : dS s m e = double.word s ((last - double.leastPlace).toNat * double.binade + M) := by
   rw [dS, zBs a b, Nat.min_eq_left (by omega)]
 obtain ⟨k1, k2⟩ := can_back a
 refine ⟨M, last, ?_, b.symm, g, hlt, ?_⟩
 · rw [e1, zCq (by decide) hr, k1, k2]
 · have a := zEz (M := M) (k := 52) (by simpa using g)
   have b := zBn (M := M) (k := 52) (by omega) (by simpa using hlt)
   omega
theorem halfS {m : Nat} {e : Int} (h : Dr m e) (s : Bool) : fop .quo .f64 (dS s m e) 4611686018427387904 = dS s m (e - 1) := by
 obtain ⟨M, i, r, sv, g1, g2, hl⟩ := rd_dS h s
 have e2 : double.div (dS s m e) 4611686018427387904 = some (dS s m (e - 1)) := by
   unfold Format.div
   rw [r, two64]
   have l2 : (4503599627370496 : Nat).log2 = 52 := by decide +kernel
   have hf : double.fractionBits = 52 := rfl
   simp only [Datum.quotient, l2, hl, hf]
   rw [if_neg (by decide)]
   have q1 : M <<< (52 + 2 + 52 - 52) / 4503599627370496 = M * 4 := by
     rw [zCu]
     show M * 18014398509481984 / 4503599627370496 = M * 4
     omega
   have q2 : M <<< (52 + 2 + 52 - 52) % 4503599627370496 = 0 := by
     rw [zCu]
     show M * 18014398509481984 % 4503599627370496 = 0
     omega
   rw [q1, q2]
   simp only [Option.map_some, Format.write, Bool.xor_false, bne_self_eq_false, Bool.toNat_false]
   rw [dS]
   refine congrArg some ?_
   have s1 := (SV.shl M (i - 1) 3).symm.trans (sv.add (-1))
   have s2 : M * 2 ^ 3 = 2 * (M * 4) + 0 := by omega
   rw [s2] at s1
   have s3 : i - 1 - ((3 : Nat) : Int) = i - -51 - ↑(52 + 2 + 52 - 52 : Nat) - 1 := by omega
   rw [s3] at s1
   obtain ⟨M', last, a, b, _, _, _⟩ := dr_can h
   have hz : Can double M' (last - 1) ∧ SV m (e - 1) M' (last - 1) := by
     refine ⟨⟨a.pos, a.lt, ?_, ?_⟩, b.add (-1)⟩
     · rw [ep2]; omega
     · rcases a.form with hq | hq
       · rw [ep2] at hq; omega
       · exact .inr hq
   rw [zBs hz.1 (s1.trans hz.2), zBs hz.1 hz.2]
 show (double.div (dS s m e) _).getD _ = _
 rw [e2]; rfl
theorem twiceS {m : Nat} {e : Int} (h : Dr m e) (h' : Dr m (e + 1)) (s : Bool) : fop .mul .f64 (dS s m e) 4611686018427387904 = dS s m (e + 1) := by
 obtain ⟨M, i, r, sv, g1, g2, hl⟩ := rd_dS h s
 have e2 : double.mul (dS s m e) 4611686018427387904 = some (dS s m (e + 1)) := by
   unfold Format.mul
   rw [r, two64]
   simp only [Datum.product, Option.map_some, Format.write, Bool.xor_false]
   congr 1
   refine near_dS h' ?_ s
   have b : SV 1 1 4503599627370496 (-51) := SV.shl 1 1 52
   have := SV.mul sv.symm b
   rw [Nat.mul_one] at this
   exact this
 show (double.mul (dS s m e) _).getD _ = _
 rw [e2]; rfl
theorem narrowS {m : Nat} {e : Int} (h : Dr m e) {r : Nat} (h0 : 0 < r) (h1 : r < 2139095040) (hv : SV m e (rgM single r) (rgE single r)) (s : Bool) : fconv .f64 (dS s m e) .f32 = some (single.word s r) := by
 obtain ⟨M, last, a, b, _, _, _⟩ := rd_dS h s
 have he : FloatKind.f32.encode (.number s M last) = single.word s r := by
   show single.nearest s M last = single.word s r
   rw [near_rung h0 (by rw [ir1]; exact h1) (b.trans hv)]
 unfold fconv
 have hd : FloatKind.f64.decode (dS s m e) = .number s M last := a
 rw [if_neg (by decide), hd]
 simp only [he]
 have hr : FloatKind.f32.decode (single.word s r) = .number s (rgM single r) (rgE single r) := by
   have := zCq (f := single) (by decide) (r := r) (by rw [ir1]; exact h1) s
   exact this
 rw [hr]
 rfl
theorem nearS {m : Nat} (h : 0 < m) (s : Bool) : FloatKind.f64.nearest (if s = true then -(m : Int) else (m : Int)) = dS s m 0 := by
 unfold FloatKind.nearest
 cases s with
 | false =>
   show double.nearest (decide ((m : Int) < 0)) (m : Int).natAbs 0 = _
   rw [decide_eq_false (by omega), Int.natAbs_natCast]; rfl
 | true =>
   show double.nearest (decide (-(m : Int) < 0)) (-(m : Int)).natAbs 0 = _
   rw [decide_eq_true (by omega), Int.natAbs_neg, Int.natAbs_natCast]; rfl
end Go.SX
namespace Go.SX
open Go Go.Proofs Ieee
theorem narrow32 (o x : Nat) : narrow o x < 4294967296 := by
 unfold narrow
 cases h : fconv .f64 x .f32 with
 | some r => exact fconv_lt h
 | none => exact Nat.mod_lt _ (by decide)
end Go.SX
namespace Go.SX
open Go Go.Proofs Ieee
theorem fmt48 : fmtT 0 = [48] := by decide +kernel
theorem fmt4548 : fmtT 2147483648 = [45, 48] := by decide +kernel
theorem prs48 : prsO [48] = (0, true) := by
 have := prsT_fmt (w := 0) ⟨by decide, by decide⟩
 rw [fmt48] at this
 unfold prsO; rw [this]
theorem prs4548 : prsO [45, 48] = (2147483648, true) := by
 have := prsT_fmt (w := 2147483648) ⟨by decide, by decide⟩
 rw [fmt4548] at this
 unfold prsO; rw [this]
theorem fmt_cut {w : Nat} (hf : Fin32 w) (h0 : 0 < w % 2147483648) : ∃ n0 : Int, n0 = (if decide (2147483648 ≤ w) = true then -((mdM (w % 2147483648) : Nat) : Int) else ((mdM (w % 2147483648) : Nat) : Int)) ∧
   splT 112 (fmtT w) = [Lib.itoa n0, Lib.itoa (mdE (w % 2147483648))] := by
 refine ⟨_, rfl, ?_⟩
 have md := md_of h0 hf.fin
 have hp := md.pos
 have e : fmtT w = Lib.itoa (if decide (2147483648 ≤ w) = true then -((mdM (w % 2147483648) : Nat) : Int) else ((mdM (w % 2147483648) : Nat) : Int)) ++ 112 :: Lib.itoa (mdE (w % 2147483648)) := by
   unfold fmtT magT
   rw [if_neg (by omega)]
   by_cases hs : 2147483648 ≤ w
   · rw [decide_eq_true hs, if_pos rfl]
     unfold sgnT Lib.itoa
     rw [if_pos rfl, if_pos (show -((mdM (w % 2147483648) : Nat) : Int) < 0 by omega), if_neg (show ¬ ((mdM (w % 2147483648) : Nat) : Int) < 0 by omega), Int.natAbs_neg, Int.natAbs_natCast, Int.toNat_natCast]
     rfl
   · rw [decide_eq_false hs, if_neg (by simp)]
     rfl
 rw [e, splT_at (itoa_noP _), zEn (itoa_noP _)]
def btw (e E : Int) : Prop := (0 ≤ e ∧ e ≤ E) ∨ (E ≤ e ∧ e ≤ 0)
set_option maxRecDepth 100000 in
set_option maxHeartbeats 16000000 in
theorem law_sParseSingle : Law Tryz.prog 179 zEm := by
 refine zAk (zAc law_l1Split (zAc law_l1Read (zAc law_l1In (zAc zAv zAf)))) hmixA Tryz.func179 rfl rfl (fun ⟨s, hs⟩ => ⟨okO_ps s, by simp [Tryz.f179], ?_⟩)
 simp only [oPs] at hs ⊢
 by_cases g1 : s = [48]
 · have h1 := eq_true g1
   have ho : prsO s = (0, true) := by rw [g1]; exact prs48
   rw [ho]
   clear g1 ho
   try simp -dsimp (maxSteps := 1000000) only [go_sem, List.forall_mem_nil, ↓reduceIte, Nat.reduceEqDiff, Nat.reduceLT, Nat.reduceLeDiff, Nat.reduceAdd, Nat.reduceMul, reduceCtorEq, Tryz.f179, zAj, h1]
 by_cases g2 : s = [45, 48]
 · have h1 := eq_false g1
   have h2 := eq_true g2
   have hng : Op.negFloat .f32 0 = 2147483648 := by decide
   have ho : prsO s = (2147483648, true) := by rw [g2]; exact prs4548
   rw [ho]
   clear g1 g2 ho
   generalize (2147483648 : Nat) = X at *
   try simp -dsimp (maxSteps := 1000000) only [go_sem, List.forall_mem_nil, ↓reduceIte, Nat.reduceEqDiff, Nat.reduceLT, Nat.reduceLeDiff, Nat.reduceAdd, Nat.reduceMul, reduceCtorEq, Tryz.f179, zAj, h1, h2, hng]
 have h1 := eq_false g1
 have h2 := eq_false g2
 have rsp : zGm.run [.c (.im (.str ⟨s.toArray⟩)), .c (.im (.int .u8 112))] [] = some (.one { val := .c (.im (.sl 1 (rowsS (splT 112 s)))) }) := run_l1Split hs 112
 have hsub := splT_sub 112 s
 cases hp : prsT s with
 | none =>
   have ho : prsO s = (0, false) := by unfold prsO; rw [hp]
   rw [ho]
   clear ho
   obtain ⟨ws, hws⟩ : ∃ ws, splT 112 s = ws := ⟨_, rfl⟩
   rw [hws] at rsp hsub
   by_cases hl : ws.length = 2
   rotate_left
   · have e2 : ((ws.length : Int) = 2) = False := eq_false (by omega)
     try simp -dsimp (maxSteps := 1000000) only [go_sem, List.forall_mem_nil, ↓reduceIte, Nat.reduceEqDiff, Nat.reduceLT, Nat.reduceLeDiff, Nat.reduceAdd, Nat.reduceMul, reduceCtorEq, Tryz.f179, zAj, h1, h2, rsp, zAe, e2]
   obtain ⟨a, b, rfl⟩ : ∃ a b, ws = [a, b] := by
     match ws, hl with
     | [a, b], _ => exact ⟨a, b, rfl⟩
   have r1 := zEo (s := a) (by have := hsub a (by simp); omega)
   have r2 := zEo (s := b) (by have := hsub b (by simp); omega)
   simp only [rIB] at r1 r2
   obtain ⟨m, hm⟩ : ∃ m, (rdF a).1 = m := ⟨_, rfl⟩
   obtain ⟨one, h3⟩ : ∃ m, (rdF a).2 = m := ⟨_, rfl⟩
   obtain ⟨e, he⟩ : ∃ m, (rdF b).1 = m := ⟨_, rfl⟩
   obtain ⟨two, h4⟩ : ∃ m, (rdF b).2 = m := ⟨_, rfl⟩
   simp only [hm, h3] at r1
   simp only [he, h4] at r2
   have hne : s ≠ [] := by
     intro h0
     rw [h0] at hws
     exact absurd (congrArg List.length hws) (by simp [splT])
   have c2 : ((2 : Nat) : Int) = 2 := rfl
   cases one with
   | false =>
     try simp -dsimp (maxSteps := 1000000) only [go_sem, List.forall_mem_nil, ↓reduceIte, Nat.reduceEqDiff, Nat.reduceLT, Nat.reduceLeDiff, Nat.reduceAdd, Nat.reduceMul, reduceCtorEq, Tryz.f179, zAj, h1, h2, rsp, zAe, zAu, zAn, r1, r2, c2, Int.reduceLE, Int.reduceLT, Int.toNat_zero, Int.toNat_one, Bool.not_false, Bool.not_true]
   | true =>
     cases two with
     | false =>
       try simp -dsimp (maxSteps := 1000000) only [go_sem, List.forall_mem_nil, ↓reduceIte, Nat.reduceEqDiff, Nat.reduceLT, Nat.reduceLeDiff, Nat.reduceAdd, Nat.reduceMul, reduceCtorEq, Tryz.f179, zAj, h1, h2, rsp, zAe, zAu, zAn, r1, r2, c2, Int.reduceLE, Int.reduceLT, Int.toNat_zero, Int.toNat_one, Bool.not_false, Bool.not_true]
     | true =>
       cases k1 : (decide (-200 ≤ e) && decide (e ≤ 200)) with
       | false =>
         try simp -dsimp (maxSteps := 1000000) only [go_sem, List.forall_mem_nil, ↓reduceIte, Nat.reduceEqDiff, Nat.reduceLT, Nat.reduceLeDiff, Nat.reduceAdd, Nat.reduceMul, reduceCtorEq, Tryz.f179, zAj, h1, h2, rsp, zAe, zAu, zAn, r1, r2, c2, Int.reduceLE, Int.reduceLT, Int.toNat_zero, Int.toNat_one, zBe, k1, Bool.not_false, Bool.not_true]
       | true =>
         cases k2 : (decide (-16777216 ≤ m) && decide (m ≤ 16777216)) with
         | false =>
           try simp -dsimp (maxSteps := 1000000) only [go_sem, List.forall_mem_nil, ↓reduceIte, Nat.reduceEqDiff, Nat.reduceLT, Nat.reduceLeDiff, Nat.reduceAdd, Nat.reduceMul, reduceCtorEq, Tryz.f179, zAj, h1, h2, rsp, zAe, zAu, zAn, r1, r2, c2, Int.reduceLE, Int.reduceLT, Int.toNat_zero, Int.toNat_one, zBe, k1, k2, Bool.not_false, Bool.not_true]
         | true =>
           have ke : -200 ≤ e ∧ e ≤ 200 := by simpa using k1
           obtain ⟨y0, hy0⟩ : ∃ y, FloatKind.f64.nearest m = y := ⟨_, rfl⟩
           try simp -dsimp (maxSteps := 1000000) only [go_sem, List.forall_mem_nil, ↓reduceIte, Nat.reduceEqDiff, Nat.reduceLT, Nat.reduceLeDiff, Nat.reduceAdd, Nat.reduceMul, reduceCtorEq, Tryz.f179, zAj, h1, h2, rsp, zAe, zAu, zAn, r1, r2, c2, Int.reduceLE, Int.reduceLT, Int.toNat_zero, Int.toNat_one, zBe, k1, k2, hy0, Bool.not_false, Bool.not_true]
           refine zBc (ι := { x : Int × Nat // -200 ≤ x.1 ∧ x.1 ≤ 200 }) (fun x => ⟨[(0, some (.c (.im (.str ⟨s.toArray⟩)))), (8, some (.c (.im (.int .i64 x.1.1)))), (10, some (.c (.im (.flt .f64 x.1.2))))], [], 0⟩) (fun x => x.1.1.toNat) ⟨(e, y0), ke⟩ ⟨[], [], by (simp only [go_sem, eq_self, MvRb, MvRn, MvRt, List.nodup_cons, List.nodup_nil, ↓reduceIte, Nat.reduceEqDiff, Nat.reduceLT, Nat.reduceLeDiff, reduceCtorEq, List.forall_mem_nil, Nat.zero_le, false_implies, List.mem_singleton]) <;> simp⟩ (fun ⟨⟨e, y⟩, ke1, ke2⟩ => ?_)
           simp only at ke1 ke2 ⊢
           by_cases hpos : 0 < e
           · have hI := eq_true hpos
             have hw : IntKind.i64.wrap (e - 1) = e - 1 := zAh (by omega) (by omega)
             try simp -dsimp (maxSteps := 1000000) only [go_sem, List.forall_mem_nil, ↓reduceIte, Nat.reduceEqDiff, Nat.reduceLT, Nat.reduceLeDiff, Nat.reduceAdd, Nat.reduceMul, reduceCtorEq, Tryz.f179, hI, hw]
             exact ⟨⟨(e - 1, fop .mul .f64 y 4611686018427387904), by simp only []; omega⟩, by simp only []; omega, [], [], by (simp only [go_sem, eq_self, MvRb, MvRn, MvRt, List.nodup_cons, List.nodup_nil, ↓reduceIte, Nat.reduceEqDiff, Nat.reduceLT, Nat.reduceLeDiff, reduceCtorEq, List.forall_mem_nil, Nat.zero_le, false_implies, List.mem_singleton]) <;> simp⟩
           have hI := eq_false hpos
           try simp -dsimp (maxSteps := 1000000) only [go_sem, List.forall_mem_nil, ↓reduceIte, Nat.reduceEqDiff, Nat.reduceLT, Nat.reduceLeDiff, Nat.reduceAdd, Nat.reduceMul, reduceCtorEq, Tryz.f179, hI]
           refine zBc (ι := { x : Int × Nat // -200 ≤ x.1 ∧ x.1 ≤ 0 }) (fun x => ⟨[(0, some (.c (.im (.str ⟨s.toArray⟩)))), (8, some (.c (.im (.int .i64 x.1.1)))), (10, some (.c (.im (.flt .f64 x.1.2))))], [], 0⟩) (fun x => (-x.1.1).toNat) ⟨(e, y), by simp only []; omega⟩ ⟨[], [], by (simp only [go_sem, eq_self, MvRb, MvRn, MvRt, List.nodup_cons, List.nodup_nil, ↓reduceIte, Nat.reduceEqDiff, Nat.reduceLT, Nat.reduceLeDiff, reduceCtorEq, List.forall_mem_nil, Nat.zero_le, false_implies, List.mem_singleton]) <;> simp⟩ (fun ⟨⟨e, y⟩, ke1, ke2⟩ => ?_)
           simp only at ke1 ke2 ⊢
           by_cases hng : e < 0
           · have hI := eq_true hng
             have hw : IntKind.i64.wrap (e + 1) = e + 1 := zAh (by omega) (by omega)
             try simp -dsimp (maxSteps := 1000000) only [go_sem, List.forall_mem_nil, ↓reduceIte, Nat.reduceEqDiff, Nat.reduceLT, Nat.reduceLeDiff, Nat.reduceAdd, Nat.reduceMul, reduceCtorEq, Tryz.f179, hI, hw]
             exact ⟨⟨(e + 1, fop .quo .f64 y 4611686018427387904), by simp only []; omega⟩, by simp only []; omega, [], [], by (simp only [go_sem, eq_self, MvRb, MvRn, MvRt, List.nodup_cons, List.nodup_nil, ↓reduceIte, Nat.reduceEqDiff, Nat.reduceLT, Nat.reduceLeDiff, reduceCtorEq, List.forall_mem_nil, Nat.zero_le, false_implies, List.mem_singleton]) <;> simp⟩
           have hI := eq_false hng
           try simp -dsimp (maxSteps := 1000000) only [go_sem, List.forall_mem_nil, ↓reduceIte, Nat.reduceEqDiff, Nat.reduceLT, Nat.reduceLeDiff, Nat.reduceAdd, Nat.reduceMul, reduceCtorEq, Tryz.f179, hI, cK_narrow]
           intro o
           have hX := narrow32 o y
           generalize narrow o y = X at hX ⊢
           have hF := eq_false (fsT_none hp hne hX)
           have rF := zAq hX
           generalize fsT X = G at *
           try simp -dsimp (maxSteps := 1000000) only [go_sem, List.forall_mem_nil, ↓reduceIte, Nat.reduceEqDiff, Nat.reduceLT, Nat.reduceLeDiff, Nat.reduceAdd, Nat.reduceMul, reduceCtorEq, Tryz.f179, zAj, hF, rF, ne_eq, not_false_eq_true, decide_true, Bool.not_false]
 | some w =>
   obtain ⟨hfin, hfm⟩ := zHr hp
   have ho : prsO s = (w, true) := by unfold prsO; rw [hp]
   rw [ho]
   clear ho
   have h0 : 0 < w % 2147483648 := by
     refine Nat.pos_of_ne_zero fun h => ?_
     have hlt := hfin.lt
     rcases (show w = 0 ∨ w = 2147483648 by omega) with rfl | rfl
     · exact g1 (by rw [← hfm]; exact fmt48)
     · exact g2 (by rw [← hfm]; exact fmt4548)
   obtain ⟨n0, hn0, hcut⟩ := fmt_cut hfin h0
   have md := md_of h0 hfin.fin
   rw [hfm] at hcut
   rw [hcut] at rsp hsub
   have r1 := zEo (s := Lib.itoa n0) (by have := hsub (Lib.itoa n0) (by simp); omega)
   have r2 := zEo (s := Lib.itoa (mdE (w % 2147483648))) (by have := hsub (Lib.itoa (mdE (w % 2147483648))) (by simp); omega)
   have q1 := md.lt
   have q2 := md.lo
   have q3 := md.hi
   have q4 := md.pos
   have hb1 : -16777216 < n0 ∧ n0 < 16777216 := by rw [hn0]; split <;> omega
   rw [rdF_itoa (by omega) (by omega)] at r1 r2
   simp only [rIB] at r1 r2
   have hy0 := nearS q4 (decide (2147483648 ≤ w))
   rw [← hn0] at hy0
   have hnr := fun (e : Int) (he : -900 ≤ e ∧ e ≤ 900) (hv : SV (mdM (w % 2147483648)) e (rgM single (w % 2147483648)) (rgE single (w % 2147483648))) => narrowS ⟨q4, by omega, he.1, he.2⟩ h0 hfin.fin hv (decide (2147483648 ≤ w))
   have hnr := hnr (mdE (w % 2147483648)) ⟨by omega, by omega⟩ md.sv
   rw [← word_of hfin.lt] at hnr
   generalize decide (2147483648 ≤ w) = bs at *
   generalize hM : mdM (w % 2147483648) = M at *
   generalize hE : mdE (w % 2147483648) = E at *
   have k1 : (decide (-200 ≤ E) && decide (E ≤ 200)) = true := by simp; omega
   have k2 : (decide (-16777216 ≤ n0) && decide (n0 ≤ 16777216)) = true := by simp; omega
   have c2 : ((2 : Nat) : Int) = 2 := rfl
   obtain ⟨y0, hY⟩ : ∃ y, dS bs M 0 = y := ⟨_, rfl⟩
   have hy1 := hy0.trans hY
   try simp -dsimp (maxSteps := 1000000) only [go_sem, List.forall_mem_nil, ↓reduceIte, Nat.reduceEqDiff, Nat.reduceLT, Nat.reduceLeDiff, Nat.reduceAdd, Nat.reduceMul, reduceCtorEq, Tryz.f179, zAj, h1, h2, rsp, zAe, zAu, zAn, r1, r2, c2, Int.reduceLE, Int.reduceLT, Int.toNat_zero, Int.toNat_one, zBe, k1, k2, hy1, Bool.not_false, Bool.not_true]
   refine zBc (ι := { x : Int × Nat // btw x.1 E ∧ dS bs M (E - x.1) = x.2 }) (fun x => ⟨[(0, some (.c (.im (.str ⟨s.toArray⟩)))), (8, some (.c (.im (.int .i64 x.1.1)))), (10, some (.c (.im (.flt .f64 x.1.2))))], [], 0⟩) (fun x => x.1.1.toNat) ⟨(E, y0), by (try unfold btw); simp only []; omega, by simp only [Int.sub_self]; exact hY⟩ ⟨[], [], by (simp only [go_sem, eq_self, MvRb, MvRn, MvRt, List.nodup_cons, List.nodup_nil, ↓reduceIte, Nat.reduceEqDiff, Nat.reduceLT, Nat.reduceLeDiff, reduceCtorEq, List.forall_mem_nil, Nat.zero_le, false_implies, List.mem_singleton]) <;> simp⟩ (fun ⟨⟨e, y⟩, ke, hy⟩ => ?_)
   simp only [btw] at ke hy ⊢
   by_cases hpos : 0 < e
   · have hI := eq_true hpos
     have hw : IntKind.i64.wrap (e - 1) = e - 1 := zAh (by omega) (by omega)
     try simp -dsimp (maxSteps := 1000000) only [go_sem, List.forall_mem_nil, ↓reduceIte, Nat.reduceEqDiff, Nat.reduceLT, Nat.reduceLeDiff, Nat.reduceAdd, Nat.reduceMul, reduceCtorEq, Tryz.f179, hI, hw]
     refine ⟨⟨(e - 1, fop .mul .f64 y 4611686018427387904), by (try unfold btw); simp only []; omega, ?_⟩, by simp only []; omega, [], [], by (simp only [go_sem, eq_self, MvRb, MvRn, MvRt, List.nodup_cons, List.nodup_nil, ↓reduceIte, Nat.reduceEqDiff, Nat.reduceLT, Nat.reduceLeDiff, reduceCtorEq, List.forall_mem_nil, Nat.zero_le, false_implies, List.mem_singleton]) <;> simp⟩
     simp only
     rw [← hy, twiceS ⟨q4, by omega, by omega, by omega⟩ ⟨q4, by omega, by omega, by omega⟩, show E - (e - 1) = E - e + 1 by omega]
   have hI := eq_false hpos
   try simp -dsimp (maxSteps := 1000000) only [go_sem, List.forall_mem_nil, ↓reduceIte, Nat.reduceEqDiff, Nat.reduceLT, Nat.reduceLeDiff, Nat.reduceAdd, Nat.reduceMul, reduceCtorEq, Tryz.f179, hI]
   refine zBc (ι := { x : Int × Nat // (btw x.1 E ∧ x.1 ≤ 0) ∧ dS bs M (E - x.1) = x.2 }) (fun x => ⟨[(0, some (.c (.im (.str ⟨s.toArray⟩)))), (8, some (.c (.im (.int .i64 x.1.1)))), (10, some (.c (.im (.flt .f64 x.1.2))))], [], 0⟩) (fun x => (-x.1.1).toNat) ⟨(e, y), by (try unfold btw); simp only []; omega, hy⟩ ⟨[], [], by (simp only [go_sem, eq_self, MvRb, MvRn, MvRt, List.nodup_cons, List.nodup_nil, ↓reduceIte, Nat.reduceEqDiff, Nat.reduceLT, Nat.reduceLeDiff, reduceCtorEq, List.forall_mem_nil, Nat.zero_le, false_implies, List.mem_singleton]) <;> simp⟩ (fun ⟨⟨e, y⟩, ke, hy⟩ => ?_)
   simp only [btw] at ke hy ⊢
   by_cases hng : e < 0
   · have hI := eq_true hng
     have hw : IntKind.i64.wrap (e + 1) = e + 1 := zAh (by omega) (by omega)
     try simp -dsimp (maxSteps := 1000000) only [go_sem, List.forall_mem_nil, ↓reduceIte, Nat.reduceEqDiff, Nat.reduceLT, Nat.reduceLeDiff, Nat.reduceAdd, Nat.reduceMul, reduceCtorEq, Tryz.f179, hI, hw]
     refine ⟨⟨(e + 1, fop .quo .f64 y 4611686018427387904), by (try unfold btw); simp only []; omega, ?_⟩, by simp only []; omega, [], [], by (simp only [go_sem, eq_self, MvRb, MvRn, MvRt, List.nodup_cons, List.nodup_nil, ↓reduceIte, Nat.reduceEqDiff, Nat.reduceLT, Nat.reduceLeDiff, reduceCtorEq, List.forall_mem_nil, Nat.zero_le, false_implies, List.mem_singleton]) <;> simp⟩
     simp only
     rw [← hy, halfS ⟨q4, by omega, by omega, by omega⟩, show E - (e + 1) = E - e - 1 by omega]
   have hI := eq_false hng
   have he0 : e = 0 := by omega
   subst he0
   rw [Int.sub_zero] at hy
   rw [hy] at hnr
   have rF := zAq hfin.lt
   rw [fsT_fin hfin, hfm] at rF
   try simp -dsimp (maxSteps := 1000000) only [go_sem, List.forall_mem_nil, ↓reduceIte, Nat.reduceEqDiff, Nat.reduceLT, Nat.reduceLeDiff, Nat.reduceAdd, Nat.reduceMul, reduceCtorEq, Tryz.f179, hI, hnr, rF, zAj, ne_eq, not_true_eq_false, decide_false, decide_true, Bool.not_true]
end Go.SX
namespace Go.SX
open Go Go.Proofs Ieee
noncomputable def oSg (s : Txt) : Outs := .one { val := .tup [.c (.im (.flt .f32 (sglP s).1)), .c (.im (.bool (sglP s).2))] }
theorem okO_sg (s : Txt) {sc : Bool} : ∀ res, (oSg s).mem res → OkR sc res := okO ⟨.tup _ (by intro d hd; simp at hd; rcases hd with rfl | rfl <;> exact .inl ⟨_, rfl, zGr rfl⟩), by simp, by simp⟩
noncomputable def zHd : Ct := fam true (fun s : S21 => ([.c (.im (.str ⟨s.1.toArray⟩))], [])) (fun s => oSg s.1)
theorem zDt {s : Txt} (h : s.length ≤ 2097152) : zHd.run [.c (.im (.str ⟨s.toArray⟩))] [] = some (oSg s) :=
 zAd (args := fun s : S21 => ([D.c (.im (.str ⟨s.1.toArray⟩))], [])) S21_inj ⟨s, h⟩
theorem fc_nan : fconv .f64 9221120237041090561 .f32 = some (qn .f32) := by decide +kernel
theorem fc_inf : fconv .f64 9218868437227405312 .f32 = some 2139095040 := by decide +kernel
theorem fc_ninf : fconv .f64 18442240474082181120 .f32 = some 4286578688 := by decide +kernel
set_option maxRecDepth 100000 in
set_option maxHeartbeats 4000000 in
theorem law_singleOf : Law Tryz.prog 103 zHd := by
 refine zAk (zAc law_mNaN (zAc law_mInf (zAc law_ParseSingle zAf))) hmixA Tryz.func103 rfl rfl (fun ⟨s, hs⟩ => ⟨okO_sg s, by simp [Tryz.f103], ?_⟩)
 simp only [oSg] at hs ⊢
 have r1 := run_mNaN
 have r2 := run_mInf1
 have r3 := run_mInf2
 have f1 := fc_nan
 have f2 := fc_inf
 have f3 := fc_ninf
 by_cases h1 : s = [110, 97, 110]
 · have ho : sglP s = (qn .f32, true) := by simp [sglP, h1, nanT]
   have h1 := eq_true h1
   rw [ho]
   generalize qn .f32 = Q at *
   generalize (9221120237041090561 : Nat) = X1 at *
   try simp -dsimp (maxSteps := 1000000) only [go_sem, List.forall_mem_nil, ↓reduceIte, Nat.reduceEqDiff, Nat.reduceLT, Nat.reduceLeDiff, Nat.reduceAdd, Nat.reduceMul, reduceCtorEq, Tryz.f103, zAj, h1, r1, f1]
 by_cases h2 : s = [105, 110, 102]
 · have ho : sglP s = (2139095040, true) := by simp [sglP, h2, nanT, infT]
   have h1 := eq_false h1
   have h2 := eq_true h2
   rw [ho]
   generalize (9218868437227405312 : Nat) = X1 at *
   generalize (2139095040 : Nat) = X2 at *
   try simp -dsimp (maxSteps := 1000000) only [go_sem, List.forall_mem_nil, ↓reduceIte, Nat.reduceEqDiff, Nat.reduceLT, Nat.reduceLeDiff, Nat.reduceAdd, Nat.reduceMul, reduceCtorEq, Tryz.f103, zAj, h1, h2, r2, f2]
 by_cases h3 : s = [45, 105, 110, 102]
 · have ho : sglP s = (4286578688, true) := by simp [sglP, h3, nanT, infT, ninfT]
   have h1 := eq_false h1
   have h2 := eq_false h2
   have h3 := eq_true h3
   rw [ho]
   generalize (18442240474082181120 : Nat) = X1 at *
   generalize (4286578688 : Nat) = X2 at *
   try simp -dsimp (maxSteps := 1000000) only [go_sem, List.forall_mem_nil, ↓reduceIte, Nat.reduceEqDiff, Nat.reduceLT, Nat.reduceLeDiff, Nat.reduceAdd, Nat.reduceMul, reduceCtorEq, Tryz.f103, zAj, h1, h2, h3, r3, f3]
 have ho : sglP s = prsO s := by unfold sglP prsO; rw [if_neg (show ¬ s = nanT from h1), if_neg (show ¬ s = infT from h2), if_neg (show ¬ s = ninfT from h3)]; cases prsT s <;> rfl
 have rp := zFt hs
 simp only [oPs] at rp
 rw [ho]
 have h1 := eq_false h1
 have h2 := eq_false h2
 have h3 := eq_false h3
 clear r1 r2 r3 f1 f2 f3
 try simp -dsimp (maxSteps := 1000000) only [go_sem, List.forall_mem_nil, ↓reduceIte, Nat.reduceEqDiff, Nat.reduceLT, Nat.reduceLeDiff, Nat.reduceAdd, Nat.reduceMul, reduceCtorEq, Tryz.f103, zAj, h1, h2, h3, rp]
def hsRd (ps : List Txt) (bad : Bool) : List (List B) := [[.t (.im (.sl 1 (rowsS ps))), .t (.im (.bool bad))]]
theorem hsRd_inj {a b : List Txt} {x y : Bool} (h : hsRd a x = hsRd b y) : a = b ∧ x = y := by
 simp only [hsRd, List.cons.injEq, B.t.injEq, T.im.injEq, I.sl.injEq, I.bool.injEq, rowsS_eq, true_and, and_true] at h
 exact h
structure ARd where
 ps : List Txt
 bad : Bool
 h : ps.length ≤ sm
 s : ∀ p ∈ ps, p.length ≤ 2097152
theorem okR_hsRd {v : D} {ps : List Txt} {bad : Bool} (hv : OkD false 0 v) : OkR false { val := v, places := hsRd ps bad } := by
 refine ⟨hv, by simp, fun c hc x hx => ?_⟩
 simp only [hsRd, List.mem_cons, List.not_mem_nil, or_false] at hc
 subst hc
 simp only [List.mem_cons, List.not_mem_nil, or_false] at hx
 rcases hx with rfl | rfl
 · exact .t _ (.im _ (.inl rfl))
 · exact .t _ (.im _ (.inl rfl))
def takF (ps : List Txt) (bad : Bool) : Txt × List Txt × Bool := match ps with
 | [] => ([], [], true)
 | p :: t => (p, t, bad)
theorem rd_inj : ∀ a b : ARd, ([D.c (.ptr 0 0 0 0)], hsRd a.ps a.bad) = ([D.c (.ptr 0 0 0 0)], hsRd b.ps b.bad) → a = b := by
 rintro ⟨a, x, _, _⟩ ⟨b, y, _, _⟩ h
 simp only [Prod.mk.injEq, true_and] at h
 obtain ⟨rfl, rfl⟩ := hsRd_inj h
 rfl
noncomputable def ct_take : Ct := fam false (fun x : ARd => ([.c (.ptr 0 0 0 0)], hsRd x.ps x.bad)) (fun x => .one { val := .c (.im (.str ⟨(takF x.ps x.bad).1.toArray⟩)), places := hsRd (takF x.ps x.bad).2.1 (takF x.ps x.bad).2.2 })
theorem run_take {ps : List Txt} {bad : Bool} (h : ps.length ≤ sm) (s : ∀ p ∈ ps, p.length ≤ 2097152) : ct_take.run [.c (.ptr 0 0 0 0)] [[.t (.im (.sl 1 (rowsS ps))), .t (.im (.bool bad))]] = some (.one { val := .c (.im (.str ⟨(takF ps bad).1.toArray⟩)), places := hsRd (takF ps bad).2.1 (takF ps bad).2.2 }) :=
 zAd (args := fun x : ARd => ([D.c (.ptr 0 0 0 0)], hsRd x.ps x.bad)) rd_inj ⟨ps, bad, h, s⟩
set_option maxRecDepth 100000 in
theorem law_take : Law Tryz.prog 40 ct_take := by
 refine zAk zAf hmixA Tryz.func40 rfl rfl (fun ⟨ps, bad, h, hs⟩ => ⟨okO (okR_hsRd (.c _ (.im _ (.inl rfl)))), by simp [Tryz.f40], ?_⟩)
 simp only [hsRd]
 have c0 : ((0 : Nat) : Int) = 0 := rfl
 cases ps with
 | nil =>
   simp only [takF, zAn]
   try simp -dsimp (maxSteps := 1000000) only [go_sem, List.forall_mem_nil, ↓reduceIte, Nat.reduceEqDiff, Nat.reduceLT, Nat.reduceLeDiff, Nat.reduceAdd, Nat.reduceMul, reduceCtorEq, Tryz.f40, c0]
 | cons p t =>
   have h1 : (((t.length + 1 : Nat) : Int) = 0) = False := eq_false (by omega)
   have h2 : ((0 : Int) < ((t.length + 1 : Nat) : Int)) = True := eq_true (by omega)
   have h3 : ((1 : Int) ≤ ((t.length + 1 : Nat) : Int)) = True := eq_true (by omega)
   have h4 : List.drop 1 (List.take (t.length + 1) ([I.str ⟨p.toArray⟩] :: rowsS t)) = rowsS t := by rw [List.take_of_length_le (by simp [zAe])]; rfl
   simp only [takF, zAu]
   try simp -dsimp (maxSteps := 1000000) only [go_sem, List.forall_mem_nil, ↓reduceIte, Nat.reduceEqDiff, Nat.reduceLT, Nat.reduceLeDiff, Nat.reduceAdd, Nat.reduceMul, reduceCtorEq, Tryz.f40, h4, zAe, h1, h2, h3, Int.toNat_one, Int.toNat_natCast, List.drop_succ_cons, Int.reduceLE, zAu]
theorem sglP_nil : sglP [] = (0, false) := by
 have hp : prsT [] = none := by
   cases h : prsT [] with
   | none => rfl
   | some w =>
     obtain ⟨h1, h2⟩ := zHr h
     exact absurd h2 (fmtT_ne h1)
 unfold sglP
 rw [if_neg (by decide), if_neg (by decide), if_neg (by decide), hp]
theorem numF_nil : numF [] = (0, false) := by decide
theorem sc_take : (ct_take.sc = true) = False := by simp [ct_take, fam]
noncomputable def zEr : Ct := fam false (fun x : ARd => ([.c (.ptr 0 0 0 0)], hsRd x.ps x.bad)) (fun x => .one { val := .c (.im (.flt .f32 (rdS x.ps x.bad).1)), places := hsRd (rdS x.ps x.bad).2.1 (rdS x.ps x.bad).2.2 })
theorem zGh {ps : List Txt} {bad : Bool} (h : ps.length ≤ sm) (s : ∀ p ∈ ps, p.length ≤ 2097152) : zEr.run [.c (.ptr 0 0 0 0)] [[.t (.im (.sl 1 (rowsS ps))), .t (.im (.bool bad))]] = some (.one { val := .c (.im (.flt .f32 (rdS ps bad).1)), places := hsRd (rdS ps bad).2.1 (rdS ps bad).2.2 }) :=
 zAd (args := fun x : ARd => ([D.c (.ptr 0 0 0 0)], hsRd x.ps x.bad)) rd_inj ⟨ps, bad, h, s⟩
set_option maxRecDepth 100000 in
theorem law_single : Law Tryz.prog 43 zEr := by
 refine zAk (zAc law_take (zAc law_singleOf zAf)) hmixA Tryz.func43 rfl rfl (fun ⟨ps, bad, h, hs⟩ => ⟨okO (okR_hsRd (.c _ (.im _ (.inl rfl)))), by simp [Tryz.f43], ?_⟩)
 simp only [hsRd]
 have rt := run_take (bad := bad) h hs
 cases ps with
 | nil =>
   have r0 := zDt (s := []) (by simp)
   simp only [oSg, sglP_nil] at r0
   simp only [takF, hsRd, zAn] at rt
   simp only [rdS, zAn]
   try simp -dsimp (maxSteps := 1000000) only [go_sem, List.forall_mem_nil, ↓reduceIte, Nat.reduceEqDiff, Nat.reduceLT, Nat.reduceLeDiff, Nat.reduceAdd, Nat.reduceMul, reduceCtorEq, Tryz.f43, rt, sc_take, r0, Bool.not_false, Bool.or_true, Bool.true_or]
 | cons p t =>
   have r0 := zDt (s := p) (hs p (by simp))
   simp only [oSg] at r0
   simp only [takF, hsRd, zAu] at rt
   simp only [rdS, zAu]
   cases ho : (sglP p).2 <;> rw [ho] at r0 <;> cases bad
   all_goals (
     try simp -dsimp (maxSteps := 1000000) only [go_sem, List.forall_mem_nil, ↓reduceIte, Nat.reduceEqDiff, Nat.reduceLT, Nat.reduceLeDiff, Nat.reduceAdd, Nat.reduceMul, reduceCtorEq, Tryz.f43, rt, sc_take, r0, Bool.not_false, Bool.not_true, Bool.or_true, Bool.true_or, Bool.false_or, Bool.or_false])
noncomputable def zGn : Ct := fam false (fun x : ARd => ([.c (.ptr 0 0 0 0)], hsRd x.ps x.bad)) (fun x => .one { val := .c (.im (.int .i64 (rdI x.ps x.bad).1)), places := hsRd (rdI x.ps x.bad).2.1 (rdI x.ps x.bad).2.2 })
theorem zEc {ps : List Txt} {bad : Bool} (h : ps.length ≤ sm) (s : ∀ p ∈ ps, p.length ≤ 2097152) : zGn.run [.c (.ptr 0 0 0 0)] [[.t (.im (.sl 1 (rowsS ps))), .t (.im (.bool bad))]] = some (.one { val := .c (.im (.int .i64 (rdI ps bad).1)), places := hsRd (rdI ps bad).2.1 (rdI ps bad).2.2 }) :=
 zAd (args := fun x : ARd => ([D.c (.ptr 0 0 0 0)], hsRd x.ps x.bad)) rd_inj ⟨ps, bad, h, s⟩
set_option maxRecDepth 100000 in
theorem law_integer : Law Tryz.prog 44 zGn := by
 refine zAk (zAc law_take (zAc law_number zAf)) hmixA Tryz.func44 rfl rfl (fun ⟨ps, bad, h, hs⟩ => ⟨okO (okR_hsRd (.c _ (.im _ (.inl rfl)))), by simp [Tryz.f44], ?_⟩)
 simp only [hsRd]
 have rt := run_take (bad := bad) h hs
 cases ps with
 | nil =>
   have r0 := zDy (s := []) (by simp)
   simp only [numF_nil] at r0
   simp only [takF, hsRd, zAn] at rt
   simp only [rdI, zAn]
   try simp -dsimp (maxSteps := 1000000) only [go_sem, List.forall_mem_nil, ↓reduceIte, Nat.reduceEqDiff, Nat.reduceLT, Nat.reduceLeDiff, Nat.reduceAdd, Nat.reduceMul, reduceCtorEq, Tryz.f44, rt, sc_take, r0, Bool.not_false, Bool.or_true, Bool.true_or]
 | cons p t =>
   have r0 := zDy (s := p) (hs p (by simp))
   simp only [takF, hsRd, zAu] at rt
   simp only [rdI, zAu]
   cases ho : (numF p).2 <;> rw [ho] at r0 <;> cases bad
   all_goals (
     try simp -dsimp (maxSteps := 1000000) only [go_sem, List.forall_mem_nil, ↓reduceIte, Nat.reduceEqDiff, Nat.reduceLT, Nat.reduceLeDiff, Nat.reduceAdd, Nat.reduceMul, reduceCtorEq, Tryz.f44, rt, sc_take, r0, Bool.not_false, Bool.not_true, Bool.or_true, Bool.true_or, Bool.false_or, Bool.or_false])
noncomputable def ct_point : Ct := fam false (fun x : ARd => ([.c (.ptr 0 0 0 0)], hsRd x.ps x.bad)) (fun x => .one { val := .c (.im (.cpx .f32 (rdP x.ps x.bad).1.1 (rdP x.ps x.bad).1.2)), places := hsRd (rdP x.ps x.bad).2.1 (rdP x.ps x.bad).2.2 })
theorem zEb {ps : List Txt} {bad : Bool} (h : ps.length ≤ sm) (s : ∀ p ∈ ps, p.length ≤ 2097152) : ct_point.run [.c (.ptr 0 0 0 0)] [[.t (.im (.sl 1 (rowsS ps))), .t (.im (.bool bad))]] = some (.one { val := .c (.im (.cpx .f32 (rdP ps bad).1.1 (rdP ps bad).1.2)), places := hsRd (rdP ps bad).2.1 (rdP ps bad).2.2 }) :=
 zAd (args := fun x : ARd => ([D.c (.ptr 0 0 0 0)], hsRd x.ps x.bad)) rd_inj ⟨ps, bad, h, s⟩
theorem rdS_sub {ps : List Txt} {bad : Bool} (s : ∀ p ∈ ps, p.length ≤ 2097152) : ∀ p ∈ (rdS ps bad).2.1, p.length ≤ 2097152 := by
 cases ps with
 | nil => simp [rdS]
 | cons a t => exact fun p hp => s p (List.mem_cons_of_mem _ hp)
theorem rdI_sub {ps : List Txt} {bad : Bool} (s : ∀ p ∈ ps, p.length ≤ 2097152) : ∀ p ∈ (rdI ps bad).2.1, p.length ≤ 2097152 := by
 cases ps with
 | nil => simp [rdI]
 | cons a t => exact fun p hp => s p (List.mem_cons_of_mem _ hp)
theorem rdP_sub {ps : List Txt} {bad : Bool} (s : ∀ p ∈ ps, p.length ≤ 2097152) : ∀ p ∈ (rdP ps bad).2.1, p.length ≤ 2097152 := rdS_sub (rdS_sub s)
set_option maxRecDepth 100000 in
theorem law_point : Law Tryz.prog 42 ct_point := by
 refine zAk (zAc law_single zAf) hmixA Tryz.func42 rfl rfl (fun ⟨ps, bad, h, hs⟩ => ⟨okO (okR_hsRd (.c _ (.im _ (.inl rfl)))), by simp [Tryz.f42], ?_⟩)
 simp only [hsRd, rdP]
 have r1 := zGh (bad := bad) h hs
 have r2 := zGh (ps := (rdS ps bad).2.1) (bad := (rdS ps bad).2.2) (by rw [rdS_len]; omega) (rdS_sub hs)
 simp only [hsRd] at r1 r2
 generalize rdS (rdS ps bad).2.1 (rdS ps bad).2.2 = Y at *
 generalize rdS ps bad = X at *
 have sc1 : (zEr.sc = true) = False := by simp [zEr, fam]
 try simp -dsimp (maxSteps := 1000000) only [go_sem, List.forall_mem_nil, ↓reduceIte, Nat.reduceEqDiff, Nat.reduceLT, Nat.reduceLeDiff, Nat.reduceAdd, Nat.reduceMul, reduceCtorEq, Tryz.f42, r1, r2, sc1]
end Go.SX
