/-
  spec.l8Words: the words of a module.
  Tables whose words are below 2^32: PutPoint, l2Table.
  Modules whose words are below 2^32: l5Slice, l5Step, l5Module, MakeModule.
  spec.l5Unused at any module of kind 1.
  spec.l5Unused at any module of kind 2.
  spec.l5Unused at any module of kind 3.
  spec.l5Unused at any module of kind 4.
  spec.l5Unused at any module of kind 5.
  spec.l5Unused at any module of kind 6.
  spec.l5Unused at any module of kind 7.
  spec.l5Unused at any module of kind 8.
  spec: l5Unused and IsModule at any module.
  spec.IsModule at any module.
  spec: l8Int.
  No condition.
-/
import Derived.Test.YtfmpjhjnpeheeaaGreatDoorPkJ
set_option linter.unusedVariables false
set_option linter.unusedSimpArgs false
namespace Go.SX
open Go Go.Proofs Ieee
theorem ptsG_len {k : Nat} (hk : 0 < k) : ∀ (f : Nat) (ws : List Txt) (l : List Pt), ws.length < f → ptsG k f ws = some l → l.length = ws.length / k
 | 0, ws, l, hf, h => by omega
 | f + 1, ws, l, hf, h => by
   rw [ptsG] at h
   split at h
   · rename_i hle
     split at h
     · cases hr : ptsG k f (ws.drop k) with
       | none => rw [hr] at h; cases h
       | some r =>
         rw [hr] at h
         simp only [Option.map_some, Option.some.injEq] at h
         subst h
         have ih := ptsG_len hk f (ws.drop k) r (by rw [List.length_drop]; omega) hr
         rw [List.length_cons, ih, List.length_drop]
         have := Nat.sub_add_cancel hle
         have e : ws.length / k = (ws.length - k) / k + 1 := by
           rw [← Nat.add_div_right _ hk, this]
         omega
     · cases h
   · rename_i hle
     injection h with h
     subst h
     rw [Nat.div_eq_of_lt (by omega)]; rfl
theorem pPts_len {k : Nat} (hk : 0 < k) {ws : List Txt} (h : (pPts k ws).2 = true) : (pPts k ws).1.length = ws.length / k := by
 unfold pPts at h ⊢
 cases hr : ptsO k ws with
 | none => rw [hr] at h; cases h
 | some l => exact ptsG_len hk _ ws l (by omega) hr
noncomputable def wrdF (w : Txt) (ws : List Txt) : Mod × Bool :=
 if w = sourceT then (if (pPts 2 ws).2 = true ∧ (pPts 2 ws).1.length = 2 then (⟨1, (pPts 2 ws).1.getD 0 (0, 0), (pPts 2 ws).1.getD 1 (0, 0), 0, [], 0, 0, [], [], 0, 0⟩, true) else (mod0 0, false))
 else if w = mixerT then (if (pPts 2 ws).2 = true ∧ (pPts 2 ws).1.length = 2 then (⟨2, (pPts 2 ws).1.getD 0 (0, 0), (pPts 2 ws).1.getD 1 (0, 0), 0, [], 0, 0, [], [], 0, 0⟩, true) else (mod0 0, false))
 else if w = gainT then (⟨3, (0, 0), (0, 0), (sglP (ws.getD 0 [])).1, [], 0, 0, [], [], 0, 0⟩, (sglP (ws.getD 0 [])).2 && decide (ws.length = 1))
 else if w = meterT then (⟨7, (0, 0), (0, 0), (sglP (ws.getD 0 [])).1, [], 0, 0, [], [], 0, 0⟩, (sglP (ws.getD 0 [])).2 && decide (ws.length = 1))
 else if w = delayT then (⟨4, (0, 0), (0, 0), 0, (pPts 2 ws.tail).1, (riF (ws.getD 0 [])).1, ((pPts 2 ws.tail).1.length : Int), [], [], 0, 0⟩, (pPts 2 ws.tail).2 && (riF (ws.getD 0 [])).2)
 else if w = slicerT then pSlc ws
 else if w = holdT then (if ws.length = 4 ∧ (pPts 2 (ws.drop 2)).2 = true then (⟨8, (0, 0), (pPts 2 (ws.drop 2)).1.getD 0 (0, 0), 0, [], 0, 0, [], [], (riF (ws.getD 0 [])).1, (riF (ws.getD 1 [])).1⟩, (riF (ws.getD 1 [])).2 && (riF (ws.getD 0 [])).2) else (mod0 0, false))
 else (mod0 0, false)
structure AWd where
 w : Txt
 ws : List Txt
 ne : 0 < ws.length
 len : ws.length ≤ 1024
 sub : ∀ p ∈ ws, p.length ≤ 2097152
noncomputable def ct_l8Words : Ct := fam false (fun x : AWd => ([.c (.im (.str ⟨x.w.toArray⟩)), .c (.im (.sl 1 (rowsS x.ws)))], [])) (fun x => .one (rMB (wrdF x.w x.ws).1 (wrdF x.w x.ws).2))
theorem run_l8Words {w : Txt} {ws : List Txt} (h0 : 0 < ws.length) (h1 : ws.length ≤ 1024) (h2 : ∀ p ∈ ws, p.length ≤ 2097152) : ct_l8Words.run [.c (.im (.str ⟨w.toArray⟩)), .c (.im (.sl 1 (rowsS ws)))] [] = some (.one (rMB (wrdF w ws).1 (wrdF w ws).2)) := by
 refine zAd (args := fun x : AWd => ([D.c (.im (.str ⟨x.w.toArray⟩)), .c (.im (.sl 1 (rowsS x.ws)))], [])) ?_ ⟨w, ws, h0, h1, h2⟩
 rintro ⟨a, a', _, _, _⟩ ⟨b, b', _, _, _⟩ h
 simp only [Prod.mk.injEq, List.cons.injEq, D.c.injEq, C.im.injEq, I.sl.injEq, I.str.injEq, zGf, rowsS_eq, true_and, and_true] at h
 obtain ⟨rfl, rfl⟩ := h
 rfl
set_option maxRecDepth 100000 in
set_option maxHeartbeats 16000000 in
theorem law_l8Words : Law Tryz.prog 37 ct_l8Words := by
 refine zEj (zAc zFj (zAc law_l8ReadInt (zAc law_l8Points (zAc law_l8Slicer zAf)))) hmixA Tryz.func37 rfl rfl (fun ⟨w, ws, hne, hl, hsub⟩ => ⟨okO okR_MBw, by simp [Tryz.f37], ?_⟩)
 simp only at hne hl hsub ⊢
 have rsl := run_l8Slicer hne hl hsub
 have rp2 := zEf (ws := ws) (k := 2) hl hsub (.inl rfl)
 obtain ⟨w0, t, rfl⟩ : ∃ w0 t, ws = w0 :: t := by
   cases ws with
   | nil => simp at hne
   | cons a t => exact ⟨a, t, rfl⟩
 have rx := zDt (hsub w0 (by simp))
 have rn := zDw (hsub w0 (by simp))
 have rpt := zEf (ws := t) (k := 2) (by simp at hl; omega) (fun p hp => hsub p (by simp [hp])) (.inl rfl)
 have c2 : ((2 : Nat) : Int) = 2 := rfl
 rw [c2] at rp2 rpt
 simp only [oSg] at rx
 simp only [rIB] at rn
 simp only [rPB] at rp2 rpt
 have g0 : (w0 :: t).getD 0 [] = w0 := rfl
 have L0 : ((0 : Int) < ((t.length + 1 : Nat) : Int)) = True := eq_true (by omega)
 have L1 : ((1 : Int) ≤ ((t.length + 1 : Nat) : Int)) = True := eq_true (by omega)
 have h4 : List.drop 1 (List.take (t.length + 1) ([I.str ⟨w0.toArray⟩] :: rowsS t)) = rowsS t := by rw [List.take_of_length_le (by simp [zAe])]; rfl
 obtain ⟨X, hX⟩ : ∃ n, (sglP w0).1 = n := ⟨_, rfl⟩
 obtain ⟨fine, hf⟩ : ∃ n, (sglP w0).2 = n := ⟨_, rfl⟩
 obtain ⟨n, hn⟩ : ∃ n, (riF w0).1 = n := ⟨_, rfl⟩
 obtain ⟨one, ho⟩ : ∃ n, (riF w0).2 = n := ⟨_, rfl⟩
 simp only [hX, hf] at rx
 simp only [hn, ho] at rn
 have hrs : rowsS (w0 :: t) = [I.str ⟨w0.toArray⟩] :: rowsS t := rfl
 rw [hrs] at rp2 rsl
 by_cases p_source : w = sourceT
 · have h_source : (w = [115, 111, 117, 114, 99, 101]) = True := eq_true p_source
   by_cases hc : (pPts 2 (w0 :: t)).2 = true ∧ (pPts 2 (w0 :: t)).1.length = 2
   · obtain ⟨⟨a, a'⟩, ⟨b, b'⟩, hP⟩ : ∃ p q, (pPts 2 (w0 :: t)).1 = [p, q] := by
       match hq : (pPts 2 (w0 :: t)).1, hc.2 with
       | [p, q], _ => exact ⟨p, q, rfl⟩
     have hw : wrdF w (w0 :: t) = (⟨1, (a, a'), (b, b'), 0, [], 0, 0, [], [], 0, 0⟩, true) := by unfold wrdF; rw [if_pos p_source, if_pos hc, hP]; rfl
     simp only [hc.1, hP] at rp2
     have hrz : rowsZ [(a, a'), (b, b')] = [[.cpx .f32 a a'], [.cpx .f32 b b']] := rfl
     rw [hw]
     simp only [rMB, modC, zAg, zAl]
     try simp -dsimp (maxSteps := 1000000) only [go_sem, List.forall_mem_nil, ↓reduceIte, Nat.reduceEqDiff, Nat.reduceLT, Nat.reduceLeDiff, Nat.reduceAdd, Nat.reduceMul, reduceCtorEq, Tryz.f37, zAj, zAe, hrs, L0, L1, rx, rn, Int.toNat_zero, Int.toNat_one, Int.toNat_natCast, Int.reduceLE, Int.reduceLT, h_source, rp2, hrz, c2, Int.reduceEq, ne_eq, not_true_eq_false, decide_false, List.length_cons, List.length_nil, Nat.reduceAdd, Bool.not_true, Bool.not_false, Bool.false_and, Bool.true_and, Bool.and_false, Bool.and_true]
     repeat' (first
       | ((with_reducible refine sl_i ?_ ?_); focus kernel_rfl)
       | ((with_reducible refine ro_i ?_ ?_); focus kernel_rfl))
     refine zAr [.nilI 1 [.b 0 0 4, .b 0 0 7, .b 0 0 8]] ?_
     simp -dsimp (maxSteps := 1000000) only [go_sem, List.forall_mem_nil, ↓reduceIte, Nat.reduceEqDiff, Nat.reduceLT, Nat.reduceLeDiff, Nat.reduceAdd, Nat.reduceMul, reduceCtorEq, zAg, zAl, modC, mod0, Bool.not_true, Bool.not_false, Bool.false_and, Bool.true_and, Bool.and_false, Bool.and_true]
   have hw : wrdF w (w0 :: t) = (mod0 0, false) := by unfold wrdF; rw [if_pos p_source, if_neg hc]
   rw [hw]
   simp only [rMB, modC, mod0, zAg, zAl]
   cases hb : (pPts 2 (w0 :: t)).2 with
   | false =>
     simp only [hb] at rp2
     try simp -dsimp (maxSteps := 1000000) only [go_sem, List.forall_mem_nil, ↓reduceIte, Nat.reduceEqDiff, Nat.reduceLT, Nat.reduceLeDiff, Nat.reduceAdd, Nat.reduceMul, reduceCtorEq, Tryz.f37, zAj, zAe, hrs, L0, L1, rx, rn, Int.toNat_zero, Int.toNat_one, Int.toNat_natCast, Int.reduceLE, Int.reduceLT, h_source, rp2, Bool.not_true, Bool.not_false, Bool.false_and, Bool.true_and, Bool.and_false, Bool.and_true]
     refine zAr [.nilI 1 [.b 0 0 4, .b 0 0 7, .b 0 0 8]] ?_
     simp -dsimp (maxSteps := 1000000) only [go_sem, List.forall_mem_nil, ↓reduceIte, Nat.reduceEqDiff, Nat.reduceLT, Nat.reduceLeDiff, Nat.reduceAdd, Nat.reduceMul, reduceCtorEq, zAg, zAl, modC, mod0, Bool.not_true, Bool.not_false, Bool.false_and, Bool.true_and, Bool.and_false, Bool.and_true]
   | true =>
     simp only [hb] at rp2
     have e2 : (((pPts 2 (w0 :: t)).1.length : Int) = 2) = False := eq_false (fun h => hc ⟨hb, by omega⟩)
     try simp -dsimp (maxSteps := 1000000) only [go_sem, List.forall_mem_nil, ↓reduceIte, Nat.reduceEqDiff, Nat.reduceLT, Nat.reduceLeDiff, Nat.reduceAdd, Nat.reduceMul, reduceCtorEq, Tryz.f37, zAj, zAe, hrs, L0, L1, rx, rn, Int.toNat_zero, Int.toNat_one, Int.toNat_natCast, Int.reduceLE, Int.reduceLT, h_source, rp2, e2, zAa, Bool.not_true, Bool.not_false, Bool.false_and, Bool.true_and, Bool.and_false, Bool.and_true]
     refine zAr [.nilI 1 [.b 0 0 4, .b 0 0 7, .b 0 0 8]] ?_
     simp -dsimp (maxSteps := 1000000) only [go_sem, List.forall_mem_nil, ↓reduceIte, Nat.reduceEqDiff, Nat.reduceLT, Nat.reduceLeDiff, Nat.reduceAdd, Nat.reduceMul, reduceCtorEq, zAg, zAl, modC, mod0, Bool.not_true, Bool.not_false, Bool.false_and, Bool.true_and, Bool.and_false, Bool.and_true]
 have n_source := p_source
 have h_source : (w = [115, 111, 117, 114, 99, 101]) = False := eq_false p_source
 by_cases p_mixer : w = mixerT
 · have h_mixer : (w = [109, 105, 120, 101, 114]) = True := eq_true p_mixer
   by_cases hc : (pPts 2 (w0 :: t)).2 = true ∧ (pPts 2 (w0 :: t)).1.length = 2
   · obtain ⟨⟨a, a'⟩, ⟨b, b'⟩, hP⟩ : ∃ p q, (pPts 2 (w0 :: t)).1 = [p, q] := by
       match hq : (pPts 2 (w0 :: t)).1, hc.2 with
       | [p, q], _ => exact ⟨p, q, rfl⟩
     have hw : wrdF w (w0 :: t) = (⟨2, (a, a'), (b, b'), 0, [], 0, 0, [], [], 0, 0⟩, true) := by unfold wrdF; rw [if_neg n_source, if_pos p_mixer, if_pos hc, hP]; rfl
     simp only [hc.1, hP] at rp2
     have hrz : rowsZ [(a, a'), (b, b')] = [[.cpx .f32 a a'], [.cpx .f32 b b']] := rfl
     rw [hw]
     simp only [rMB, modC, zAg, zAl]
     try simp -dsimp (maxSteps := 1000000) only [go_sem, List.forall_mem_nil, ↓reduceIte, Nat.reduceEqDiff, Nat.reduceLT, Nat.reduceLeDiff, Nat.reduceAdd, Nat.reduceMul, reduceCtorEq, Tryz.f37, zAj, zAe, hrs, L0, L1, rx, rn, Int.toNat_zero, Int.toNat_one, Int.toNat_natCast, Int.reduceLE, Int.reduceLT, h_source, h_mixer, rp2, hrz, c2, Int.reduceEq, ne_eq, not_true_eq_false, decide_false, List.length_cons, List.length_nil, Nat.reduceAdd, Bool.not_true, Bool.not_false, Bool.false_and, Bool.true_and, Bool.and_false, Bool.and_true]
     repeat' (first
       | ((with_reducible refine sl_i ?_ ?_); focus kernel_rfl)
       | ((with_reducible refine ro_i ?_ ?_); focus kernel_rfl))
     refine zAr [.nilI 1 [.b 0 0 4, .b 0 0 7, .b 0 0 8]] ?_
     simp -dsimp (maxSteps := 1000000) only [go_sem, List.forall_mem_nil, ↓reduceIte, Nat.reduceEqDiff, Nat.reduceLT, Nat.reduceLeDiff, Nat.reduceAdd, Nat.reduceMul, reduceCtorEq, zAg, zAl, modC, mod0, Bool.not_true, Bool.not_false, Bool.false_and, Bool.true_and, Bool.and_false, Bool.and_true]
   have hw : wrdF w (w0 :: t) = (mod0 0, false) := by unfold wrdF; rw [if_neg n_source, if_pos p_mixer, if_neg hc]
   rw [hw]
   simp only [rMB, modC, mod0, zAg, zAl]
   cases hb : (pPts 2 (w0 :: t)).2 with
   | false =>
     simp only [hb] at rp2
     try simp -dsimp (maxSteps := 1000000) only [go_sem, List.forall_mem_nil, ↓reduceIte, Nat.reduceEqDiff, Nat.reduceLT, Nat.reduceLeDiff, Nat.reduceAdd, Nat.reduceMul, reduceCtorEq, Tryz.f37, zAj, zAe, hrs, L0, L1, rx, rn, Int.toNat_zero, Int.toNat_one, Int.toNat_natCast, Int.reduceLE, Int.reduceLT, h_source, h_mixer, rp2, Bool.not_true, Bool.not_false, Bool.false_and, Bool.true_and, Bool.and_false, Bool.and_true]
     refine zAr [.nilI 1 [.b 0 0 4, .b 0 0 7, .b 0 0 8]] ?_
     simp -dsimp (maxSteps := 1000000) only [go_sem, List.forall_mem_nil, ↓reduceIte, Nat.reduceEqDiff, Nat.reduceLT, Nat.reduceLeDiff, Nat.reduceAdd, Nat.reduceMul, reduceCtorEq, zAg, zAl, modC, mod0, Bool.not_true, Bool.not_false, Bool.false_and, Bool.true_and, Bool.and_false, Bool.and_true]
   | true =>
     simp only [hb] at rp2
     have e2 : (((pPts 2 (w0 :: t)).1.length : Int) = 2) = False := eq_false (fun h => hc ⟨hb, by omega⟩)
     try simp -dsimp (maxSteps := 1000000) only [go_sem, List.forall_mem_nil, ↓reduceIte, Nat.reduceEqDiff, Nat.reduceLT, Nat.reduceLeDiff, Nat.reduceAdd, Nat.reduceMul, reduceCtorEq, Tryz.f37, zAj, zAe, hrs, L0, L1, rx, rn, Int.toNat_zero, Int.toNat_one, Int.toNat_natCast, Int.reduceLE, Int.reduceLT, h_source, h_mixer, rp2, e2, zAa, Bool.not_true, Bool.not_false, Bool.false_and, Bool.true_and, Bool.and_false, Bool.and_true]
     refine zAr [.nilI 1 [.b 0 0 4, .b 0 0 7, .b 0 0 8]] ?_
     simp -dsimp (maxSteps := 1000000) only [go_sem, List.forall_mem_nil, ↓reduceIte, Nat.reduceEqDiff, Nat.reduceLT, Nat.reduceLeDiff, Nat.reduceAdd, Nat.reduceMul, reduceCtorEq, zAg, zAl, modC, mod0, Bool.not_true, Bool.not_false, Bool.false_and, Bool.true_and, Bool.and_false, Bool.and_true]
 have n_mixer := p_mixer
 have h_mixer : (w = [109, 105, 120, 101, 114]) = False := eq_false p_mixer
 by_cases p_gain : w = gainT
 · have h_gain : (w = [103, 97, 105, 110]) = True := eq_true p_gain
   have hw : wrdF w (w0 :: t) = (⟨3, (0, 0), (0, 0), X, [], 0, 0, [], [], 0, 0⟩, fine && decide (t.length + 1 = 1)) := by unfold wrdF; rw [if_neg n_source, if_neg n_mixer, if_pos p_gain, g0, hX, hf]; rfl
   rw [hw]
   simp only [rMB, modC, zAg, zAl]
   cases fine with
   | false =>
     try simp -dsimp (maxSteps := 1000000) only [go_sem, List.forall_mem_nil, ↓reduceIte, Nat.reduceEqDiff, Nat.reduceLT, Nat.reduceLeDiff, Nat.reduceAdd, Nat.reduceMul, reduceCtorEq, Tryz.f37, zAj, zAe, hrs, L0, L1, rx, rn, Int.toNat_zero, Int.toNat_one, Int.toNat_natCast, Int.reduceLE, Int.reduceLT, h_source, h_mixer, h_gain, Bool.not_true, Bool.not_false, Bool.false_and, Bool.true_and, Bool.and_false, Bool.and_true]
     refine zAr [.nilI 1 [.b 0 0 4, .b 0 0 7, .b 0 0 8]] ?_
     simp -dsimp (maxSteps := 1000000) only [go_sem, List.forall_mem_nil, ↓reduceIte, Nat.reduceEqDiff, Nat.reduceLT, Nat.reduceLeDiff, Nat.reduceAdd, Nat.reduceMul, reduceCtorEq, zAg, zAl, modC, mod0, Bool.not_true, Bool.not_false, Bool.false_and, Bool.true_and, Bool.and_false, Bool.and_true]
   | true =>
     by_cases e : t.length = 0
     · have e1 : (((t.length + 1 : Nat) : Int) = 1) = True := eq_true (by omega)
       have e2 : (t.length + 1 = 1) = True := eq_true (by omega)
       have e3 := eq_true e
       try simp -dsimp (maxSteps := 1000000) only [go_sem, List.forall_mem_nil, ↓reduceIte, Nat.reduceEqDiff, Nat.reduceLT, Nat.reduceLeDiff, Nat.reduceAdd, Nat.reduceMul, reduceCtorEq, Tryz.f37, zAj, zAe, hrs, L0, L1, rx, rn, Int.toNat_zero, Int.toNat_one, Int.toNat_natCast, Int.reduceLE, Int.reduceLT, h_source, h_mixer, h_gain, e1, Bool.not_true, Bool.not_false, Bool.false_and, Bool.true_and, Bool.and_false, Bool.and_true]
       refine zAr [.nilI 1 [.b 0 0 4, .b 0 0 7, .b 0 0 8]] ?_
       simp -dsimp (maxSteps := 1000000) only [go_sem, List.forall_mem_nil, ↓reduceIte, Nat.reduceEqDiff, Nat.reduceLT, Nat.reduceLeDiff, Nat.reduceAdd, Nat.reduceMul, reduceCtorEq, zAg, zAl, modC, mod0, Bool.not_true, Bool.not_false, Bool.false_and, Bool.true_and, Bool.and_false, Bool.and_true, e2, e3, decide_true, decide_false]
     · have e1 : (((t.length + 1 : Nat) : Int) = 1) = False := eq_false (by omega)
       have e2 : (t.length + 1 = 1) = False := eq_false (by omega)
       have e3 := eq_false e
       try simp -dsimp (maxSteps := 1000000) only [go_sem, List.forall_mem_nil, ↓reduceIte, Nat.reduceEqDiff, Nat.reduceLT, Nat.reduceLeDiff, Nat.reduceAdd, Nat.reduceMul, reduceCtorEq, Tryz.f37, zAj, zAe, hrs, L0, L1, rx, rn, Int.toNat_zero, Int.toNat_one, Int.toNat_natCast, Int.reduceLE, Int.reduceLT, h_source, h_mixer, h_gain, e1, Bool.not_true, Bool.not_false, Bool.false_and, Bool.true_and, Bool.and_false, Bool.and_true]
       refine zAr [.nilI 1 [.b 0 0 4, .b 0 0 7, .b 0 0 8]] ?_
       simp -dsimp (maxSteps := 1000000) only [go_sem, List.forall_mem_nil, ↓reduceIte, Nat.reduceEqDiff, Nat.reduceLT, Nat.reduceLeDiff, Nat.reduceAdd, Nat.reduceMul, reduceCtorEq, zAg, zAl, modC, mod0, Bool.not_true, Bool.not_false, Bool.false_and, Bool.true_and, Bool.and_false, Bool.and_true, e2, e3, decide_true, decide_false]
 have n_gain := p_gain
 have h_gain : (w = [103, 97, 105, 110]) = False := eq_false p_gain
 by_cases p_meter : w = meterT
 · have h_meter : (w = [109, 101, 116, 101, 114]) = True := eq_true p_meter
   have hw : wrdF w (w0 :: t) = (⟨7, (0, 0), (0, 0), X, [], 0, 0, [], [], 0, 0⟩, fine && decide (t.length + 1 = 1)) := by unfold wrdF; rw [if_neg n_source, if_neg n_mixer, if_neg n_gain, if_pos p_meter, g0, hX, hf]; rfl
   rw [hw]
   simp only [rMB, modC, zAg, zAl]
   cases fine with
   | false =>
     try simp -dsimp (maxSteps := 1000000) only [go_sem, List.forall_mem_nil, ↓reduceIte, Nat.reduceEqDiff, Nat.reduceLT, Nat.reduceLeDiff, Nat.reduceAdd, Nat.reduceMul, reduceCtorEq, Tryz.f37, zAj, zAe, hrs, L0, L1, rx, rn, Int.toNat_zero, Int.toNat_one, Int.toNat_natCast, Int.reduceLE, Int.reduceLT, h_source, h_mixer, h_gain, h_meter, Bool.not_true, Bool.not_false, Bool.false_and, Bool.true_and, Bool.and_false, Bool.and_true]
     refine zAr [.nilI 1 [.b 0 0 4, .b 0 0 7, .b 0 0 8]] ?_
     simp -dsimp (maxSteps := 1000000) only [go_sem, List.forall_mem_nil, ↓reduceIte, Nat.reduceEqDiff, Nat.reduceLT, Nat.reduceLeDiff, Nat.reduceAdd, Nat.reduceMul, reduceCtorEq, zAg, zAl, modC, mod0, Bool.not_true, Bool.not_false, Bool.false_and, Bool.true_and, Bool.and_false, Bool.and_true]
   | true =>
     by_cases e : t.length = 0
     · have e1 : (((t.length + 1 : Nat) : Int) = 1) = True := eq_true (by omega)
       have e2 : (t.length + 1 = 1) = True := eq_true (by omega)
       have e3 := eq_true e
       try simp -dsimp (maxSteps := 1000000) only [go_sem, List.forall_mem_nil, ↓reduceIte, Nat.reduceEqDiff, Nat.reduceLT, Nat.reduceLeDiff, Nat.reduceAdd, Nat.reduceMul, reduceCtorEq, Tryz.f37, zAj, zAe, hrs, L0, L1, rx, rn, Int.toNat_zero, Int.toNat_one, Int.toNat_natCast, Int.reduceLE, Int.reduceLT, h_source, h_mixer, h_gain, h_meter, e1, Bool.not_true, Bool.not_false, Bool.false_and, Bool.true_and, Bool.and_false, Bool.and_true]
       refine zAr [.nilI 1 [.b 0 0 4, .b 0 0 7, .b 0 0 8]] ?_
       simp -dsimp (maxSteps := 1000000) only [go_sem, List.forall_mem_nil, ↓reduceIte, Nat.reduceEqDiff, Nat.reduceLT, Nat.reduceLeDiff, Nat.reduceAdd, Nat.reduceMul, reduceCtorEq, zAg, zAl, modC, mod0, Bool.not_true, Bool.not_false, Bool.false_and, Bool.true_and, Bool.and_false, Bool.and_true, e2, e3, decide_true, decide_false]
     · have e1 : (((t.length + 1 : Nat) : Int) = 1) = False := eq_false (by omega)
       have e2 : (t.length + 1 = 1) = False := eq_false (by omega)
       have e3 := eq_false e
       try simp -dsimp (maxSteps := 1000000) only [go_sem, List.forall_mem_nil, ↓reduceIte, Nat.reduceEqDiff, Nat.reduceLT, Nat.reduceLeDiff, Nat.reduceAdd, Nat.reduceMul, reduceCtorEq, Tryz.f37, zAj, zAe, hrs, L0, L1, rx, rn, Int.toNat_zero, Int.toNat_one, Int.toNat_natCast, Int.reduceLE, Int.reduceLT, h_source, h_mixer, h_gain, h_meter, e1, Bool.not_true, Bool.not_false, Bool.false_and, Bool.true_and, Bool.and_false, Bool.and_true]
       refine zAr [.nilI 1 [.b 0 0 4, .b 0 0 7, .b 0 0 8]] ?_
       simp -dsimp (maxSteps := 1000000) only [go_sem, List.forall_mem_nil, ↓reduceIte, Nat.reduceEqDiff, Nat.reduceLT, Nat.reduceLeDiff, Nat.reduceAdd, Nat.reduceMul, reduceCtorEq, zAg, zAl, modC, mod0, Bool.not_true, Bool.not_false, Bool.false_and, Bool.true_and, Bool.and_false, Bool.and_true, e2, e3, decide_true, decide_false]
 have n_meter := p_meter
 have h_meter : (w = [109, 101, 116, 101, 114]) = False := eq_false p_meter
 by_cases p_delay : w = delayT
 · have h_delay : (w = [100, 101, 108, 97, 121]) = True := eq_true p_delay
   have hw : wrdF w (w0 :: t) = (⟨4, (0, 0), (0, 0), 0, (pPts 2 t).1, n, ((pPts 2 t).1.length : Int), [], [], 0, 0⟩, (pPts 2 t).2 && one) := by unfold wrdF; rw [if_neg n_source, if_neg n_mixer, if_neg n_gain, if_neg n_meter, if_pos p_delay, g0, hn, ho]; rfl
   rw [hw]
   simp only [rMB, modC, zAg, zAl]
   cases hb : (pPts 2 t).2 with
   | false =>
     simp only [hb] at rpt
     try simp -dsimp (maxSteps := 1000000) only [go_sem, List.forall_mem_nil, ↓reduceIte, Nat.reduceEqDiff, Nat.reduceLT, Nat.reduceLeDiff, Nat.reduceAdd, Nat.reduceMul, reduceCtorEq, Tryz.f37, zAj, zAe, hrs, L0, L1, rx, rn, Int.toNat_zero, Int.toNat_one, Int.toNat_natCast, Int.reduceLE, Int.reduceLT, h_source, h_mixer, h_gain, h_meter, h_delay, h4, rpt, zAa, Bool.not_true, Bool.not_false, Bool.false_and, Bool.true_and, Bool.and_false, Bool.and_true]
     refine zAr [.nilI 1 [.b 0 0 7, .b 0 0 8]] ?_
     simp -dsimp (maxSteps := 1000000) only [go_sem, List.forall_mem_nil, ↓reduceIte, Nat.reduceEqDiff, Nat.reduceLT, Nat.reduceLeDiff, Nat.reduceAdd, Nat.reduceMul, reduceCtorEq, zAg, zAl, modC, mod0, Bool.not_true, Bool.not_false, Bool.false_and, Bool.true_and, Bool.and_false, Bool.and_true]
   | true =>
     simp only [hb] at rpt
     try simp -dsimp (maxSteps := 1000000) only [go_sem, List.forall_mem_nil, ↓reduceIte, Nat.reduceEqDiff, Nat.reduceLT, Nat.reduceLeDiff, Nat.reduceAdd, Nat.reduceMul, reduceCtorEq, Tryz.f37, zAj, zAe, hrs, L0, L1, rx, rn, Int.toNat_zero, Int.toNat_one, Int.toNat_natCast, Int.reduceLE, Int.reduceLT, h_source, h_mixer, h_gain, h_meter, h_delay, h4, rpt, zAa, Bool.not_true, Bool.not_false, Bool.false_and, Bool.true_and, Bool.and_false, Bool.and_true]
     refine zAr [.nilI 1 [.b 0 0 7, .b 0 0 8]] ?_
     simp -dsimp (maxSteps := 1000000) only [go_sem, List.forall_mem_nil, ↓reduceIte, Nat.reduceEqDiff, Nat.reduceLT, Nat.reduceLeDiff, Nat.reduceAdd, Nat.reduceMul, reduceCtorEq, zAg, zAl, modC, mod0, Bool.not_true, Bool.not_false, Bool.false_and, Bool.true_and, Bool.and_false, Bool.and_true]
 have n_delay := p_delay
 have h_delay : (w = [100, 101, 108, 97, 121]) = False := eq_false p_delay
 by_cases p_slicer : w = slicerT
 · have h_slicer : (w = [115, 108, 105, 99, 101, 114]) = True := eq_true p_slicer
   have hw : wrdF w (w0 :: t) = pSlc (w0 :: t) := by unfold wrdF; rw [if_neg n_source, if_neg n_mixer, if_neg n_gain, if_neg n_meter, if_neg n_delay, if_pos p_slicer]
   rw [hw]
   obtain ⟨⟨⟨k', ⟨t1, t2⟩, ⟨s1, s2⟩, lv, st, ra, rc, pts, lab, c, lf⟩, bb⟩, hS⟩ : ∃ m, pSlc (w0 :: t) = m := ⟨_, rfl⟩
   rw [hS] at rsl
   rw [hS]
   simp only [rMB, modC] at rsl ⊢
   try simp -dsimp (maxSteps := 1000000) only [go_sem, List.forall_mem_nil, ↓reduceIte, Nat.reduceEqDiff, Nat.reduceLT, Nat.reduceLeDiff, Nat.reduceAdd, Nat.reduceMul, reduceCtorEq, Tryz.f37, zAj, zAe, hrs, L0, L1, rx, rn, Int.toNat_zero, Int.toNat_one, Int.toNat_natCast, Int.reduceLE, Int.reduceLT, h_source, h_mixer, h_gain, h_meter, h_delay, h_slicer, rsl, Bool.not_true, Bool.not_false, Bool.false_and, Bool.true_and, Bool.and_false, Bool.and_true]
   refine zAr [] ?_
   simp -dsimp (maxSteps := 1000000) only [go_sem, List.forall_mem_nil, ↓reduceIte, Nat.reduceEqDiff, Nat.reduceLT, Nat.reduceLeDiff, Nat.reduceAdd, Nat.reduceMul, reduceCtorEq, zAg, zAl, modC, mod0, Bool.not_true, Bool.not_false, Bool.false_and, Bool.true_and, Bool.and_false, Bool.and_true]
 have n_slicer := p_slicer
 have h_slicer : (w = [115, 108, 105, 99, 101, 114]) = False := eq_false p_slicer
 by_cases p_hold : w = holdT
 · have h_hold : (w = [104, 111, 108, 100]) = True := eq_true p_hold
   by_cases h4l : t.length = 3
   rotate_left
   · have hw : wrdF w (w0 :: t) = (mod0 0, false) := by unfold wrdF; rw [if_neg n_source, if_neg n_mixer, if_neg n_gain, if_neg n_meter, if_neg n_delay, if_neg n_slicer, if_pos p_hold, if_neg (fun h => h4l (by have := h.1; simp at this; omega))]
     have e4 : (((t.length + 1 : Nat) : Int) = 4) = False := eq_false (by omega)
     rw [hw]
     simp only [rMB, modC, mod0, zAg, zAl]
     try simp -dsimp (maxSteps := 1000000) only [go_sem, List.forall_mem_nil, ↓reduceIte, Nat.reduceEqDiff, Nat.reduceLT, Nat.reduceLeDiff, Nat.reduceAdd, Nat.reduceMul, reduceCtorEq, Tryz.f37, zAj, zAe, hrs, L0, L1, rx, rn, Int.toNat_zero, Int.toNat_one, Int.toNat_natCast, Int.reduceLE, Int.reduceLT, h_source, h_mixer, h_gain, h_meter, h_delay, h_slicer, h_hold, e4, Bool.not_true, Bool.not_false, Bool.false_and, Bool.true_and, Bool.and_false, Bool.and_true]
     refine zAr [.nilI 1 [.b 0 0 4, .b 0 0 7, .b 0 0 8]] ?_
     simp -dsimp (maxSteps := 1000000) only [go_sem, List.forall_mem_nil, ↓reduceIte, Nat.reduceEqDiff, Nat.reduceLT, Nat.reduceLeDiff, Nat.reduceAdd, Nat.reduceMul, reduceCtorEq, zAg, zAl, modC, mod0, Bool.not_true, Bool.not_false, Bool.false_and, Bool.true_and, Bool.and_false, Bool.and_true]
   obtain ⟨w1, w2, w3, rfl⟩ : ∃ a b c, t = [a, b, c] := by
     match t, h4l with
     | [a, b, c], _ => exact ⟨a, b, c, rfl⟩
   have rl := zDw (hsub w1 (by simp))
   simp only [rIB] at rl
   have rp3 := zEf (ws := [w2, w3]) (k := 2) (by simp) (fun p hp => hsub p (by simp at hp ⊢; rcases hp with rfl | rfl <;> simp)) (.inl rfl)
   rw [c2] at rp3
   simp only [rPB] at rp3
   have c4 : ((3 + 1 : Nat) : Int) = 4 := rfl
   have c4' : ((4 : Nat) : Int) = 4 := rfl
   have hr3 : rowsS [w2, w3] = [[I.str ⟨w2.toArray⟩], [I.str ⟨w3.toArray⟩]] := rfl
   have hr4 : rowsS [w1, w2, w3] = [[I.str ⟨w1.toArray⟩], [I.str ⟨w2.toArray⟩], [I.str ⟨w3.toArray⟩]] := rfl
   rw [hr3] at rp3
   have t4 : (4 : Int).toNat = 4 := rfl
   have t2 : (2 : Int).toNat = 2 := rfl
   cases hb : (pPts 2 [w2, w3]).2 with
   | false =>
     have hw : wrdF w [w0, w1, w2, w3] = (mod0 0, false) := by unfold wrdF; rw [if_neg n_source, if_neg n_mixer, if_neg n_gain, if_neg n_meter, if_neg n_delay, if_neg n_slicer, if_pos p_hold, if_neg (fun h => by have := h.2; simp only [List.drop_succ_cons, List.drop_zero] at this; rw [hb] at this; cases this)]
     simp only [hb] at rp3
     rw [hw]
     simp only [rMB, modC, mod0, zAg, zAl]
     try simp -dsimp (maxSteps := 1000000) only [go_sem, List.forall_mem_nil, ↓reduceIte, Nat.reduceEqDiff, Nat.reduceLT, Nat.reduceLeDiff, Nat.reduceAdd, Nat.reduceMul, reduceCtorEq, Tryz.f37, zAj, zAe, hrs, L0, L1, rx, rn, Int.toNat_zero, Int.toNat_one, Int.toNat_natCast, Int.reduceLE, Int.reduceLT, h_source, h_mixer, h_gain, h_meter, h_delay, h_slicer, h_hold, c4, c4', hr4, t4, t2, rl, rp3, List.length_cons, List.length_nil, Nat.reduceAdd, List.take_succ_cons, List.take_zero, List.drop_succ_cons, List.drop_zero, Bool.not_true, Bool.not_false, Bool.false_and, Bool.true_and, Bool.and_false, Bool.and_true]
     refine zAr [.nilI 1 [.b 0 0 4, .b 0 0 7, .b 0 0 8]] ?_
     simp -dsimp (maxSteps := 1000000) only [go_sem, List.forall_mem_nil, ↓reduceIte, Nat.reduceEqDiff, Nat.reduceLT, Nat.reduceLeDiff, Nat.reduceAdd, Nat.reduceMul, reduceCtorEq, zAg, zAl, modC, mod0, Bool.not_true, Bool.not_false, Bool.false_and, Bool.true_and, Bool.and_false, Bool.and_true]
   | true =>
     have hpl := pPts_len (k := 2) (by decide) hb
     obtain ⟨⟨a, a'⟩, hP⟩ : ∃ p, (pPts 2 [w2, w3]).1 = [p] := by
       match hq : (pPts 2 [w2, w3]).1, (show (pPts 2 [w2, w3]).1.length = 1 by rw [hpl]; simp) with
       | [p], _ => exact ⟨p, rfl⟩
     have hw : wrdF w [w0, w1, w2, w3] = (⟨8, (0, 0), (a, a'), 0, [], 0, 0, [], [], n, (riF w1).1⟩, (riF w1).2 && one) := by
       unfold wrdF
       rw [if_neg n_source, if_neg n_mixer, if_neg n_gain, if_neg n_meter, if_neg n_delay, if_neg n_slicer, if_pos p_hold, if_pos ⟨rfl, hb⟩, g0, hn, ho]
       simp only [List.drop_succ_cons, List.drop_zero, hP]
       rfl
     simp only [hb, hP] at rp3
     have hrz : rowsZ [(a, a')] = [[.cpx .f32 a a']] := rfl
     rw [hw]
     simp only [rMB, modC, zAg, zAl]
     generalize (riF w1).1 = L at *
     generalize (riF w1).2 = lo at *
     cases lo with
     | false =>
       try simp -dsimp (maxSteps := 1000000) only [go_sem, List.forall_mem_nil, ↓reduceIte, Nat.reduceEqDiff, Nat.reduceLT, Nat.reduceLeDiff, Nat.reduceAdd, Nat.reduceMul, reduceCtorEq, Tryz.f37, zAj, zAe, hrs, L0, L1, rx, rn, Int.toNat_zero, Int.toNat_one, Int.toNat_natCast, Int.reduceLE, Int.reduceLT, h_source, h_mixer, h_gain, h_meter, h_delay, h_slicer, h_hold, c4, c4', hr4, hrz, t4, t2, rl, rp3, List.length_cons, List.length_nil, Nat.reduceAdd, List.take_succ_cons, List.take_zero, List.drop_succ_cons, List.drop_zero, Bool.not_true, Bool.not_false, Bool.false_and, Bool.true_and, Bool.and_false, Bool.and_true]
       refine zAr [.nilI 1 [.b 0 0 4, .b 0 0 7, .b 0 0 8]] ?_
       simp -dsimp (maxSteps := 1000000) only [go_sem, List.forall_mem_nil, ↓reduceIte, Nat.reduceEqDiff, Nat.reduceLT, Nat.reduceLeDiff, Nat.reduceAdd, Nat.reduceMul, reduceCtorEq, zAg, zAl, modC, mod0, Bool.not_true, Bool.not_false, Bool.false_and, Bool.true_and, Bool.and_false, Bool.and_true]
     | true =>
       try simp -dsimp (maxSteps := 1000000) only [go_sem, List.forall_mem_nil, ↓reduceIte, Nat.reduceEqDiff, Nat.reduceLT, Nat.reduceLeDiff, Nat.reduceAdd, Nat.reduceMul, reduceCtorEq, Tryz.f37, zAj, zAe, hrs, L0, L1, rx, rn, Int.toNat_zero, Int.toNat_one, Int.toNat_natCast, Int.reduceLE, Int.reduceLT, h_source, h_mixer, h_gain, h_meter, h_delay, h_slicer, h_hold, c4, c4', hr4, hrz, t4, t2, rl, rp3, List.length_cons, List.length_nil, Nat.reduceAdd, List.take_succ_cons, List.take_zero, List.drop_succ_cons, List.drop_zero, Bool.not_true, Bool.not_false, Bool.false_and, Bool.true_and, Bool.and_false, Bool.and_true]
       refine zAr [.nilI 1 [.b 0 0 4, .b 0 0 7, .b 0 0 8]] ?_
       simp -dsimp (maxSteps := 1000000) only [go_sem, List.forall_mem_nil, ↓reduceIte, Nat.reduceEqDiff, Nat.reduceLT, Nat.reduceLeDiff, Nat.reduceAdd, Nat.reduceMul, reduceCtorEq, zAg, zAl, modC, mod0, Bool.not_true, Bool.not_false, Bool.false_and, Bool.true_and, Bool.and_false, Bool.and_true]
 have n_hold := p_hold
 have h_hold : (w = [104, 111, 108, 100]) = False := eq_false p_hold
 have hw : wrdF w (w0 :: t) = (mod0 0, false) := by unfold wrdF; rw [if_neg n_source, if_neg n_mixer, if_neg n_gain, if_neg n_meter, if_neg n_delay, if_neg n_slicer, if_neg n_hold]
 rw [hw]
 simp only [rMB, modC, mod0, zAg, zAl]
 try simp -dsimp (maxSteps := 1000000) only [go_sem, List.forall_mem_nil, ↓reduceIte, Nat.reduceEqDiff, Nat.reduceLT, Nat.reduceLeDiff, Nat.reduceAdd, Nat.reduceMul, reduceCtorEq, Tryz.f37, zAj, zAe, hrs, L0, L1, rx, rn, Int.toNat_zero, Int.toNat_one, Int.toNat_natCast, Int.reduceLE, Int.reduceLT, h_source, h_mixer, h_gain, h_meter, h_delay, h_slicer, h_hold, Bool.not_true, Bool.not_false, Bool.false_and, Bool.true_and, Bool.and_false, Bool.and_true]
 refine zAr [.nilI 1 [.b 0 0 4, .b 0 0 7, .b 0 0 8]] ?_
 simp -dsimp (maxSteps := 1000000) only [go_sem, List.forall_mem_nil, ↓reduceIte, Nat.reduceEqDiff, Nat.reduceLT, Nat.reduceLeDiff, Nat.reduceAdd, Nat.reduceMul, reduceCtorEq, zAg, zAl, modC, mod0, Bool.not_true, Bool.not_false, Bool.false_and, Bool.true_and, Bool.and_false, Bool.and_true]
end Go.SX
namespace Go.SX
open Go Go.Proofs Ieee
def TbW (pts : List Pt) (lab : List Int) : Prop := (∀ p ∈ pts, p.1 < 4294967296 ∧ p.2 < 4294967296) ∧ ∀ x ∈ lab, i64B x
end Go.SX
namespace Go.SX
open Go Go.Proofs Ieee
structure Wd (m : Mod) : Prop where
 w : W32 m
 rat : i64B m.rat
 cnt : i64B m.count
 lft : i64B m.left
 lab : ∀ x ∈ m.lab, i64B x
theorem zDj : i64B 0 := ⟨by decide, by decide⟩
theorem zEx : (0 : Nat) < 4294967296 ∧ (0 : Nat) < 4294967296 := ⟨by decide, by decide⟩
theorem wd_sum : Wd mSum' := ⟨⟨zEx, zEx, by decide, by simp [mSum'], by simp [mSum']⟩, zDj, zDj, zDj, by simp [mSum']⟩
theorem wd_2 {k : Int} {t s : Pt} (ht : t.1 < 4294967296 ∧ t.2 < 4294967296) (hs : s.1 < 4294967296 ∧ s.2 < 4294967296) : Wd ⟨k, t, s, 0, [], 0, 0, [], [], 0, 0⟩ := ⟨⟨ht, hs, by simp, by simp, by simp⟩, zDj, zDj, zDj, by simp⟩
theorem wd_1 {k : Int} {l : Nat} (h : l < 4294967296) : Wd ⟨k, (0, 0), (0, 0), l, [], 0, 0, [], [], 0, 0⟩ := ⟨⟨zEx, zEx, h, by simp, by simp⟩, zDj, zDj, zDj, by simp⟩
structure DrU (m : Mod) : Prop where
 d : Drawn m
 w : Wd m
structure ASlU where
 pts : List Pt
 lab : List Int
 c : Int
 z : Pt
 t : isTableF pts lab = true
 tw : TbW pts lab
structure AStpU where
 m : Mod
 z : Pt
 d : Drawn m
 w : Wd m
 zw : z.1 < 4294967296 ∧ z.2 < 4294967296
 s1 : lvlB (absS z.1) = true
 s2 : lvlB (absS z.2) = true
end Go.SX
namespace Go.SX
open Go Go.Proofs Ieee
set_option maxRecDepth 100000 in
set_option maxHeartbeats 32000000 in
theorem law_un1 : Law Tryz.prog 60 (ct_un 1) := by
 refine zAk (zAc zCy (zAc zCd (zAc zAv zAf))) hmixA Tryz.func60 rfl rfl (fun ⟨⟨⟨k, ⟨t1, t2⟩, ⟨s1, s2⟩, lv, st, ra, rc, pts, lab, c, lf⟩, ok, w32, hkk⟩, hk⟩ => ⟨zAt rfl, by simp [Tryz.f60], ?_⟩)
 simp only [modC] at hk ⊢
 have rt := zAx w32.turn.1 w32.turn.2
 have rs := zAx w32.state.1 w32.state.2
 have rl := zAq w32.level
 have bl : ((⟨(fsT lv).toArray⟩ : ByteArray).toList == (⟨#[48]⟩ : ByteArray).toList) = nz lv := (zAj (fsT lv) [48]).trans (fs_nz w32.level)
 simp only at rt rs rl
 clear ok w32 hkk
 subst hk
 have z := zCx (k := 1) (by simp)
 cases hAl : nz lv with
 | false =>
   have r : unuF ⟨1, (t1, t2), (s1, s2), lv, st, ra, rc, pts, lab, c, lf⟩ = false := by simp [unuF, restM, bareF, nzP00, nz00, hAl]
   rw [r]
   try simp -dsimp (maxSteps := 1000000) only [go_sem, List.forall_mem_nil, ↓reduceIte, Nat.reduceEqDiff, Nat.reduceLT, Nat.reduceLeDiff, Nat.reduceAdd, Nat.reduceMul, reduceCtorEq, Tryz.f60, z, rt, rs, rl, bl, usesF, zAa, zAb, Int.reduceEq, Int.reduceLT, Int.reduceLE, Int.reduceToNat, Bool.not_true, Bool.not_false, hAl]
 | true =>
 by_cases hAst : (st.length : Int) = 0
 rotate_left
 · have r : unuF ⟨1, (t1, t2), (s1, s2), lv, st, ra, rc, pts, lab, c, lf⟩ = false := by
     have d := decide_eq_false hAst
     unfold unuF restM bareF
     simp only [Int.reduceEq, or_self, or_false, or_true, if_true, if_false, nzP00, nz00, d, Bool.false_and, Bool.and_false, Bool.true_and, List.length_nil, Int.natCast_zero, Int.ofNat_zero, hAl]
   have est : ((0 : Int) < (st.length : Int)) = True := eq_true (by omega)
   clear hAst
   rw [r]
   try simp -dsimp (maxSteps := 1000000) only [go_sem, List.forall_mem_nil, ↓reduceIte, Nat.reduceEqDiff, Nat.reduceLT, Nat.reduceLeDiff, Nat.reduceAdd, Nat.reduceMul, reduceCtorEq, Tryz.f60, z, rt, rs, rl, bl, usesF, zAa, zAb, Int.reduceEq, Int.reduceLT, Int.reduceLE, Int.reduceToNat, Bool.not_true, Bool.not_false, hAl, est]
 have dst := decide_eq_true hAst
 have est : ((0 : Int) < (st.length : Int)) = False := eq_false (by omega)
 by_cases hAra : ra = 0
 rotate_left
 · have r : unuF ⟨1, (t1, t2), (s1, s2), lv, st, ra, rc, pts, lab, c, lf⟩ = false := by
     have d := decide_eq_false hAra
     unfold unuF restM bareF
     simp only [Int.reduceEq, or_self, or_false, or_true, if_true, if_false, nzP00, nz00, d, Bool.false_and, Bool.and_false, Bool.true_and, List.length_nil, Int.natCast_zero, Int.ofNat_zero, hAl, dst]
   have era : (ra = 0) = False := eq_false hAra
   clear hAra
   rw [r]
   try simp -dsimp (maxSteps := 1000000) only [go_sem, List.forall_mem_nil, ↓reduceIte, Nat.reduceEqDiff, Nat.reduceLT, Nat.reduceLeDiff, Nat.reduceAdd, Nat.reduceMul, reduceCtorEq, Tryz.f60, z, rt, rs, rl, bl, usesF, zAa, zAb, Int.reduceEq, Int.reduceLT, Int.reduceLE, Int.reduceToNat, Bool.not_true, Bool.not_false, hAl, est, era]
 have dra := decide_eq_true hAra
 have era : (ra = 0) = True := eq_true hAra
 by_cases hArc : rc = 0
 rotate_left
 · have r : unuF ⟨1, (t1, t2), (s1, s2), lv, st, ra, rc, pts, lab, c, lf⟩ = false := by
     have d := decide_eq_false hArc
     unfold unuF restM bareF
     simp only [Int.reduceEq, or_self, or_false, or_true, if_true, if_false, nzP00, nz00, d, Bool.false_and, Bool.and_false, Bool.true_and, List.length_nil, Int.natCast_zero, Int.ofNat_zero, hAl, dst, dra]
   have erc : (rc = 0) = False := eq_false hArc
   clear hArc
   rw [r]
   try simp -dsimp (maxSteps := 1000000) only [go_sem, List.forall_mem_nil, ↓reduceIte, Nat.reduceEqDiff, Nat.reduceLT, Nat.reduceLeDiff, Nat.reduceAdd, Nat.reduceMul, reduceCtorEq, Tryz.f60, z, rt, rs, rl, bl, usesF, zAa, zAb, Int.reduceEq, Int.reduceLT, Int.reduceLE, Int.reduceToNat, Bool.not_true, Bool.not_false, hAl, est, era, erc]
 have drc := decide_eq_true hArc
 have erc : (rc = 0) = True := eq_true hArc
 by_cases hAp : (pts.length : Int) = 0
 rotate_left
 · have r : unuF ⟨1, (t1, t2), (s1, s2), lv, st, ra, rc, pts, lab, c, lf⟩ = false := by
     have d := decide_eq_false hAp
     unfold unuF restM bareF
     simp only [Int.reduceEq, or_self, or_false, or_true, if_true, if_false, nzP00, nz00, d, Bool.false_and, Bool.and_false, Bool.true_and, List.length_nil, Int.natCast_zero, Int.ofNat_zero, hAl, dst, dra, drc]
   have ep : ((0 : Int) < (pts.length : Int)) = True := eq_true (by omega)
   clear hAp
   rw [r]
   try simp -dsimp (maxSteps := 1000000) only [go_sem, List.forall_mem_nil, ↓reduceIte, Nat.reduceEqDiff, Nat.reduceLT, Nat.reduceLeDiff, Nat.reduceAdd, Nat.reduceMul, reduceCtorEq, Tryz.f60, z, rt, rs, rl, bl, usesF, zAa, zAb, Int.reduceEq, Int.reduceLT, Int.reduceLE, Int.reduceToNat, Bool.not_true, Bool.not_false, hAl, est, era, erc, ep]
 have dp := decide_eq_true hAp
 have ep : ((0 : Int) < (pts.length : Int)) = False := eq_false (by omega)
 by_cases hAla : (lab.length : Int) = 0
 rotate_left
 · have r : unuF ⟨1, (t1, t2), (s1, s2), lv, st, ra, rc, pts, lab, c, lf⟩ = false := by
     have d := decide_eq_false hAla
     unfold unuF restM bareF
     simp only [Int.reduceEq, or_self, or_false, or_true, if_true, if_false, nzP00, nz00, d, Bool.false_and, Bool.and_false, Bool.true_and, List.length_nil, Int.natCast_zero, Int.ofNat_zero, hAl, dst, dra, drc, dp]
   have ela : ((0 : Int) < (lab.length : Int)) = True := eq_true (by omega)
   clear hAla
   rw [r]
   try simp -dsimp (maxSteps := 1000000) only [go_sem, List.forall_mem_nil, ↓reduceIte, Nat.reduceEqDiff, Nat.reduceLT, Nat.reduceLeDiff, Nat.reduceAdd, Nat.reduceMul, reduceCtorEq, Tryz.f60, z, rt, rs, rl, bl, usesF, zAa, zAb, Int.reduceEq, Int.reduceLT, Int.reduceLE, Int.reduceToNat, Bool.not_true, Bool.not_false, hAl, est, era, erc, ep, ela]
 have dla := decide_eq_true hAla
 have ela : ((0 : Int) < (lab.length : Int)) = False := eq_false (by omega)
 by_cases hAc : c = 0
 rotate_left
 · have r : unuF ⟨1, (t1, t2), (s1, s2), lv, st, ra, rc, pts, lab, c, lf⟩ = false := by
     have d := decide_eq_false hAc
     unfold unuF restM bareF
     simp only [Int.reduceEq, or_self, or_false, or_true, if_true, if_false, nzP00, nz00, d, Bool.false_and, Bool.and_false, Bool.true_and, List.length_nil, Int.natCast_zero, Int.ofNat_zero, hAl, dst, dra, drc, dp, dla]
   have ec : (c = 0) = False := eq_false hAc
   clear hAc
   rw [r]
   try simp -dsimp (maxSteps := 1000000) only [go_sem, List.forall_mem_nil, ↓reduceIte, Nat.reduceEqDiff, Nat.reduceLT, Nat.reduceLeDiff, Nat.reduceAdd, Nat.reduceMul, reduceCtorEq, Tryz.f60, z, rt, rs, rl, bl, usesF, zAa, zAb, Int.reduceEq, Int.reduceLT, Int.reduceLE, Int.reduceToNat, Bool.not_true, Bool.not_false, hAl, est, era, erc, ep, ela, ec]
 have dc := decide_eq_true hAc
 have ec : (c = 0) = True := eq_true hAc
 by_cases hAf : lf = 0
 rotate_left
 · have r : unuF ⟨1, (t1, t2), (s1, s2), lv, st, ra, rc, pts, lab, c, lf⟩ = false := by
     have d := decide_eq_false hAf
     unfold unuF restM bareF
     simp only [Int.reduceEq, or_self, or_false, or_true, if_true, if_false, nzP00, nz00, d, Bool.false_and, Bool.and_false, Bool.true_and, List.length_nil, Int.natCast_zero, Int.ofNat_zero, hAl, dst, dra, drc, dp, dla, dc]
   have ef : (lf = 0) = False := eq_false hAf
   clear hAf
   rw [r]
   try simp -dsimp (maxSteps := 1000000) only [go_sem, List.forall_mem_nil, ↓reduceIte, Nat.reduceEqDiff, Nat.reduceLT, Nat.reduceLeDiff, Nat.reduceAdd, Nat.reduceMul, reduceCtorEq, Tryz.f60, z, rt, rs, rl, bl, usesF, zAa, zAb, Int.reduceEq, Int.reduceLT, Int.reduceLE, Int.reduceToNat, Bool.not_true, Bool.not_false, hAl, est, era, erc, ep, ela, ec, ef]
 have df := decide_eq_true hAf
 have ef : (lf = 0) = True := eq_true hAf
 have r : unuF ⟨1, (t1, t2), (s1, s2), lv, st, ra, rc, pts, lab, c, lf⟩ = true := by
   unfold unuF restM bareF
   simp only [Int.reduceEq, or_self, or_false, or_true, if_true, if_false, nzP00, nz00, Bool.and_self, Bool.true_and, List.length_nil, Int.natCast_zero, Int.ofNat_zero, decide_true, hAl, dst, dra, drc, dp, dla, dc, df]
 rw [r]
 try simp -dsimp (maxSteps := 1000000) only [go_sem, List.forall_mem_nil, ↓reduceIte, Nat.reduceEqDiff, Nat.reduceLT, Nat.reduceLeDiff, Nat.reduceAdd, Nat.reduceMul, reduceCtorEq, Tryz.f60, z, rt, rs, rl, bl, usesF, zAa, zAb, Int.reduceEq, Int.reduceLT, Int.reduceLE, Int.reduceToNat, Bool.not_true, Bool.not_false, hAl, est, era, erc, ep, ela, ec, ef]
end Go.SX
namespace Go.SX
open Go Go.Proofs Ieee
set_option maxRecDepth 100000 in
set_option maxHeartbeats 32000000 in
theorem law_un2 : Law Tryz.prog 60 (ct_un 2) := by
 refine zAk (zAc zCy (zAc zCd (zAc zAv zAf))) hmixA Tryz.func60 rfl rfl (fun ⟨⟨⟨k, ⟨t1, t2⟩, ⟨s1, s2⟩, lv, st, ra, rc, pts, lab, c, lf⟩, ok, w32, hkk⟩, hk⟩ => ⟨zAt rfl, by simp [Tryz.f60], ?_⟩)
 simp only [modC] at hk ⊢
 have rt := zAx w32.turn.1 w32.turn.2
 have rs := zAx w32.state.1 w32.state.2
 have rl := zAq w32.level
 have bl : ((⟨(fsT lv).toArray⟩ : ByteArray).toList == (⟨#[48]⟩ : ByteArray).toList) = nz lv := (zAj (fsT lv) [48]).trans (fs_nz w32.level)
 simp only at rt rs rl
 clear ok w32 hkk
 subst hk
 have z := zCx (k := 2) (by simp)
 cases hAl : nz lv with
 | false =>
   have r : unuF ⟨2, (t1, t2), (s1, s2), lv, st, ra, rc, pts, lab, c, lf⟩ = false := by simp [unuF, restM, bareF, nzP00, nz00, hAl]
   rw [r]
   try simp -dsimp (maxSteps := 1000000) only [go_sem, List.forall_mem_nil, ↓reduceIte, Nat.reduceEqDiff, Nat.reduceLT, Nat.reduceLeDiff, Nat.reduceAdd, Nat.reduceMul, reduceCtorEq, Tryz.f60, z, rt, rs, rl, bl, usesF, zAa, zAb, Int.reduceEq, Int.reduceLT, Int.reduceLE, Int.reduceToNat, Bool.not_true, Bool.not_false, hAl]
 | true =>
 by_cases hAst : (st.length : Int) = 0
 rotate_left
 · have r : unuF ⟨2, (t1, t2), (s1, s2), lv, st, ra, rc, pts, lab, c, lf⟩ = false := by
     have d := decide_eq_false hAst
     unfold unuF restM bareF
     simp only [Int.reduceEq, or_self, or_false, or_true, if_true, if_false, nzP00, nz00, d, Bool.false_and, Bool.and_false, Bool.true_and, List.length_nil, Int.natCast_zero, Int.ofNat_zero, hAl]
   have est : ((0 : Int) < (st.length : Int)) = True := eq_true (by omega)
   clear hAst
   rw [r]
   try simp -dsimp (maxSteps := 1000000) only [go_sem, List.forall_mem_nil, ↓reduceIte, Nat.reduceEqDiff, Nat.reduceLT, Nat.reduceLeDiff, Nat.reduceAdd, Nat.reduceMul, reduceCtorEq, Tryz.f60, z, rt, rs, rl, bl, usesF, zAa, zAb, Int.reduceEq, Int.reduceLT, Int.reduceLE, Int.reduceToNat, Bool.not_true, Bool.not_false, hAl, est]
 have dst := decide_eq_true hAst
 have est : ((0 : Int) < (st.length : Int)) = False := eq_false (by omega)
 by_cases hAra : ra = 0
 rotate_left
 · have r : unuF ⟨2, (t1, t2), (s1, s2), lv, st, ra, rc, pts, lab, c, lf⟩ = false := by
     have d := decide_eq_false hAra
     unfold unuF restM bareF
     simp only [Int.reduceEq, or_self, or_false, or_true, if_true, if_false, nzP00, nz00, d, Bool.false_and, Bool.and_false, Bool.true_and, List.length_nil, Int.natCast_zero, Int.ofNat_zero, hAl, dst]
   have era : (ra = 0) = False := eq_false hAra
   clear hAra
   rw [r]
   try simp -dsimp (maxSteps := 1000000) only [go_sem, List.forall_mem_nil, ↓reduceIte, Nat.reduceEqDiff, Nat.reduceLT, Nat.reduceLeDiff, Nat.reduceAdd, Nat.reduceMul, reduceCtorEq, Tryz.f60, z, rt, rs, rl, bl, usesF, zAa, zAb, Int.reduceEq, Int.reduceLT, Int.reduceLE, Int.reduceToNat, Bool.not_true, Bool.not_false, hAl, est, era]
 have dra := decide_eq_true hAra
 have era : (ra = 0) = True := eq_true hAra
 by_cases hArc : rc = 0
 rotate_left
 · have r : unuF ⟨2, (t1, t2), (s1, s2), lv, st, ra, rc, pts, lab, c, lf⟩ = false := by
     have d := decide_eq_false hArc
     unfold unuF restM bareF
     simp only [Int.reduceEq, or_self, or_false, or_true, if_true, if_false, nzP00, nz00, d, Bool.false_and, Bool.and_false, Bool.true_and, List.length_nil, Int.natCast_zero, Int.ofNat_zero, hAl, dst, dra]
   have erc : (rc = 0) = False := eq_false hArc
   clear hArc
   rw [r]
   try simp -dsimp (maxSteps := 1000000) only [go_sem, List.forall_mem_nil, ↓reduceIte, Nat.reduceEqDiff, Nat.reduceLT, Nat.reduceLeDiff, Nat.reduceAdd, Nat.reduceMul, reduceCtorEq, Tryz.f60, z, rt, rs, rl, bl, usesF, zAa, zAb, Int.reduceEq, Int.reduceLT, Int.reduceLE, Int.reduceToNat, Bool.not_true, Bool.not_false, hAl, est, era, erc]
 have drc := decide_eq_true hArc
 have erc : (rc = 0) = True := eq_true hArc
 by_cases hAp : (pts.length : Int) = 0
 rotate_left
 · have r : unuF ⟨2, (t1, t2), (s1, s2), lv, st, ra, rc, pts, lab, c, lf⟩ = false := by
     have d := decide_eq_false hAp
     unfold unuF restM bareF
     simp only [Int.reduceEq, or_self, or_false, or_true, if_true, if_false, nzP00, nz00, d, Bool.false_and, Bool.and_false, Bool.true_and, List.length_nil, Int.natCast_zero, Int.ofNat_zero, hAl, dst, dra, drc]
   have ep : ((0 : Int) < (pts.length : Int)) = True := eq_true (by omega)
   clear hAp
   rw [r]
   try simp -dsimp (maxSteps := 1000000) only [go_sem, List.forall_mem_nil, ↓reduceIte, Nat.reduceEqDiff, Nat.reduceLT, Nat.reduceLeDiff, Nat.reduceAdd, Nat.reduceMul, reduceCtorEq, Tryz.f60, z, rt, rs, rl, bl, usesF, zAa, zAb, Int.reduceEq, Int.reduceLT, Int.reduceLE, Int.reduceToNat, Bool.not_true, Bool.not_false, hAl, est, era, erc, ep]
 have dp := decide_eq_true hAp
 have ep : ((0 : Int) < (pts.length : Int)) = False := eq_false (by omega)
 by_cases hAla : (lab.length : Int) = 0
 rotate_left
 · have r : unuF ⟨2, (t1, t2), (s1, s2), lv, st, ra, rc, pts, lab, c, lf⟩ = false := by
     have d := decide_eq_false hAla
     unfold unuF restM bareF
     simp only [Int.reduceEq, or_self, or_false, or_true, if_true, if_false, nzP00, nz00, d, Bool.false_and, Bool.and_false, Bool.true_and, List.length_nil, Int.natCast_zero, Int.ofNat_zero, hAl, dst, dra, drc, dp]
   have ela : ((0 : Int) < (lab.length : Int)) = True := eq_true (by omega)
   clear hAla
   rw [r]
   try simp -dsimp (maxSteps := 1000000) only [go_sem, List.forall_mem_nil, ↓reduceIte, Nat.reduceEqDiff, Nat.reduceLT, Nat.reduceLeDiff, Nat.reduceAdd, Nat.reduceMul, reduceCtorEq, Tryz.f60, z, rt, rs, rl, bl, usesF, zAa, zAb, Int.reduceEq, Int.reduceLT, Int.reduceLE, Int.reduceToNat, Bool.not_true, Bool.not_false, hAl, est, era, erc, ep, ela]
 have dla := decide_eq_true hAla
 have ela : ((0 : Int) < (lab.length : Int)) = False := eq_false (by omega)
 by_cases hAc : c = 0
 rotate_left
 · have r : unuF ⟨2, (t1, t2), (s1, s2), lv, st, ra, rc, pts, lab, c, lf⟩ = false := by
     have d := decide_eq_false hAc
     unfold unuF restM bareF
     simp only [Int.reduceEq, or_self, or_false, or_true, if_true, if_false, nzP00, nz00, d, Bool.false_and, Bool.and_false, Bool.true_and, List.length_nil, Int.natCast_zero, Int.ofNat_zero, hAl, dst, dra, drc, dp, dla]
   have ec : (c = 0) = False := eq_false hAc
   clear hAc
   rw [r]
   try simp -dsimp (maxSteps := 1000000) only [go_sem, List.forall_mem_nil, ↓reduceIte, Nat.reduceEqDiff, Nat.reduceLT, Nat.reduceLeDiff, Nat.reduceAdd, Nat.reduceMul, reduceCtorEq, Tryz.f60, z, rt, rs, rl, bl, usesF, zAa, zAb, Int.reduceEq, Int.reduceLT, Int.reduceLE, Int.reduceToNat, Bool.not_true, Bool.not_false, hAl, est, era, erc, ep, ela, ec]
 have dc := decide_eq_true hAc
 have ec : (c = 0) = True := eq_true hAc
 by_cases hAf : lf = 0
 rotate_left
 · have r : unuF ⟨2, (t1, t2), (s1, s2), lv, st, ra, rc, pts, lab, c, lf⟩ = false := by
     have d := decide_eq_false hAf
     unfold unuF restM bareF
     simp only [Int.reduceEq, or_self, or_false, or_true, if_true, if_false, nzP00, nz00, d, Bool.false_and, Bool.and_false, Bool.true_and, List.length_nil, Int.natCast_zero, Int.ofNat_zero, hAl, dst, dra, drc, dp, dla, dc]
   have ef : (lf = 0) = False := eq_false hAf
   clear hAf
   rw [r]
   try simp -dsimp (maxSteps := 1000000) only [go_sem, List.forall_mem_nil, ↓reduceIte, Nat.reduceEqDiff, Nat.reduceLT, Nat.reduceLeDiff, Nat.reduceAdd, Nat.reduceMul, reduceCtorEq, Tryz.f60, z, rt, rs, rl, bl, usesF, zAa, zAb, Int.reduceEq, Int.reduceLT, Int.reduceLE, Int.reduceToNat, Bool.not_true, Bool.not_false, hAl, est, era, erc, ep, ela, ec, ef]
 have df := decide_eq_true hAf
 have ef : (lf = 0) = True := eq_true hAf
 have r : unuF ⟨2, (t1, t2), (s1, s2), lv, st, ra, rc, pts, lab, c, lf⟩ = true := by
   unfold unuF restM bareF
   simp only [Int.reduceEq, or_self, or_false, or_true, if_true, if_false, nzP00, nz00, Bool.and_self, Bool.true_and, List.length_nil, Int.natCast_zero, Int.ofNat_zero, decide_true, hAl, dst, dra, drc, dp, dla, dc, df]
 rw [r]
 try simp -dsimp (maxSteps := 1000000) only [go_sem, List.forall_mem_nil, ↓reduceIte, Nat.reduceEqDiff, Nat.reduceLT, Nat.reduceLeDiff, Nat.reduceAdd, Nat.reduceMul, reduceCtorEq, Tryz.f60, z, rt, rs, rl, bl, usesF, zAa, zAb, Int.reduceEq, Int.reduceLT, Int.reduceLE, Int.reduceToNat, Bool.not_true, Bool.not_false, hAl, est, era, erc, ep, ela, ec, ef]
end Go.SX
namespace Go.SX
open Go Go.Proofs Ieee
set_option maxRecDepth 100000 in
set_option maxHeartbeats 32000000 in
theorem law_un3 : Law Tryz.prog 60 (ct_un 3) := by
 refine zAk (zAc zCy (zAc zCd (zAc zAv zAf))) hmixA Tryz.func60 rfl rfl (fun ⟨⟨⟨k, ⟨t1, t2⟩, ⟨s1, s2⟩, lv, st, ra, rc, pts, lab, c, lf⟩, ok, w32, hkk⟩, hk⟩ => ⟨zAt rfl, by simp [Tryz.f60], ?_⟩)
 simp only [modC] at hk ⊢
 have rt := zAx w32.turn.1 w32.turn.2
 have rs := zAx w32.state.1 w32.state.2
 have rl := zAq w32.level
 have bl : ((⟨(fsT lv).toArray⟩ : ByteArray).toList == (⟨#[48]⟩ : ByteArray).toList) = nz lv := (zAj (fsT lv) [48]).trans (fs_nz w32.level)
 simp only at rt rs rl
 clear ok w32 hkk
 subst hk
 have z := zCx (k := 3) (by simp)
 cases hAt : nzP (t1, t2) with
 | false =>
   have r : unuF ⟨3, (t1, t2), (s1, s2), lv, st, ra, rc, pts, lab, c, lf⟩ = false := by simp [unuF, restM, bareF, nzP00, nz00, hAt]
   rw [r]
   try simp -dsimp (maxSteps := 1000000) only [go_sem, List.forall_mem_nil, ↓reduceIte, Nat.reduceEqDiff, Nat.reduceLT, Nat.reduceLeDiff, Nat.reduceAdd, Nat.reduceMul, reduceCtorEq, Tryz.f60, z, rt, rs, rl, bl, usesF, zAa, zAb, Int.reduceEq, Int.reduceLT, Int.reduceLE, Int.reduceToNat, Bool.not_true, Bool.not_false, hAt]
 | true =>
 cases hAs : nzP (s1, s2) with
 | false =>
   have r : unuF ⟨3, (t1, t2), (s1, s2), lv, st, ra, rc, pts, lab, c, lf⟩ = false := by simp [unuF, restM, bareF, nzP00, nz00, hAs, hAt]
   rw [r]
   try simp -dsimp (maxSteps := 1000000) only [go_sem, List.forall_mem_nil, ↓reduceIte, Nat.reduceEqDiff, Nat.reduceLT, Nat.reduceLeDiff, Nat.reduceAdd, Nat.reduceMul, reduceCtorEq, Tryz.f60, z, rt, rs, rl, bl, usesF, zAa, zAb, Int.reduceEq, Int.reduceLT, Int.reduceLE, Int.reduceToNat, Bool.not_true, Bool.not_false, hAt, hAs]
 | true =>
 by_cases hAst : (st.length : Int) = 0
 rotate_left
 · have r : unuF ⟨3, (t1, t2), (s1, s2), lv, st, ra, rc, pts, lab, c, lf⟩ = false := by
     have d := decide_eq_false hAst
     unfold unuF restM bareF
     simp only [Int.reduceEq, or_self, or_false, or_true, if_true, if_false, nzP00, nz00, d, Bool.false_and, Bool.and_false, Bool.true_and, List.length_nil, Int.natCast_zero, Int.ofNat_zero, hAt, hAs]
   have est : ((0 : Int) < (st.length : Int)) = True := eq_true (by omega)
   clear hAst
   rw [r]
   try simp -dsimp (maxSteps := 1000000) only [go_sem, List.forall_mem_nil, ↓reduceIte, Nat.reduceEqDiff, Nat.reduceLT, Nat.reduceLeDiff, Nat.reduceAdd, Nat.reduceMul, reduceCtorEq, Tryz.f60, z, rt, rs, rl, bl, usesF, zAa, zAb, Int.reduceEq, Int.reduceLT, Int.reduceLE, Int.reduceToNat, Bool.not_true, Bool.not_false, hAt, hAs, est]
 have dst := decide_eq_true hAst
 have est : ((0 : Int) < (st.length : Int)) = False := eq_false (by omega)
 by_cases hAra : ra = 0
 rotate_left
 · have r : unuF ⟨3, (t1, t2), (s1, s2), lv, st, ra, rc, pts, lab, c, lf⟩ = false := by
     have d := decide_eq_false hAra
     unfold unuF restM bareF
     simp only [Int.reduceEq, or_self, or_false, or_true, if_true, if_false, nzP00, nz00, d, Bool.false_and, Bool.and_false, Bool.true_and, List.length_nil, Int.natCast_zero, Int.ofNat_zero, hAt, hAs, dst]
   have era : (ra = 0) = False := eq_false hAra
   clear hAra
   rw [r]
   try simp -dsimp (maxSteps := 1000000) only [go_sem, List.forall_mem_nil, ↓reduceIte, Nat.reduceEqDiff, Nat.reduceLT, Nat.reduceLeDiff, Nat.reduceAdd, Nat.reduceMul, reduceCtorEq, Tryz.f60, z, rt, rs, rl, bl, usesF, zAa, zAb, Int.reduceEq, Int.reduceLT, Int.reduceLE, Int.reduceToNat, Bool.not_true, Bool.not_false, hAt, hAs, est, era]
 have dra := decide_eq_true hAra
 have era : (ra = 0) = True := eq_true hAra
 by_cases hArc : rc = 0
 rotate_left
 · have r : unuF ⟨3, (t1, t2), (s1, s2), lv, st, ra, rc, pts, lab, c, lf⟩ = false := by
     have d := decide_eq_false hArc
     unfold unuF restM bareF
     simp only [Int.reduceEq, or_self, or_false, or_true, if_true, if_false, nzP00, nz00, d, Bool.false_and, Bool.and_false, Bool.true_and, List.length_nil, Int.natCast_zero, Int.ofNat_zero, hAt, hAs, dst, dra]
   have erc : (rc = 0) = False := eq_false hArc
   clear hArc
   rw [r]
   try simp -dsimp (maxSteps := 1000000) only [go_sem, List.forall_mem_nil, ↓reduceIte, Nat.reduceEqDiff, Nat.reduceLT, Nat.reduceLeDiff, Nat.reduceAdd, Nat.reduceMul, reduceCtorEq, Tryz.f60, z, rt, rs, rl, bl, usesF, zAa, zAb, Int.reduceEq, Int.reduceLT, Int.reduceLE, Int.reduceToNat, Bool.not_true, Bool.not_false, hAt, hAs, est, era, erc]
 have drc := decide_eq_true hArc
 have erc : (rc = 0) = True := eq_true hArc
 by_cases hAp : (pts.length : Int) = 0
 rotate_left
 · have r : unuF ⟨3, (t1, t2), (s1, s2), lv, st, ra, rc, pts, lab, c, lf⟩ = false := by
     have d := decide_eq_false hAp
     unfold unuF restM bareF
     simp only [Int.reduceEq, or_self, or_false, or_true, if_true, if_false, nzP00, nz00, d, Bool.false_and, Bool.and_false, Bool.true_and, List.length_nil, Int.natCast_zero, Int.ofNat_zero, hAt, hAs, dst, dra, drc]
   have ep : ((0 : Int) < (pts.length : Int)) = True := eq_true (by omega)
   clear hAp
   rw [r]
   try simp -dsimp (maxSteps := 1000000) only [go_sem, List.forall_mem_nil, ↓reduceIte, Nat.reduceEqDiff, Nat.reduceLT, Nat.reduceLeDiff, Nat.reduceAdd, Nat.reduceMul, reduceCtorEq, Tryz.f60, z, rt, rs, rl, bl, usesF, zAa, zAb, Int.reduceEq, Int.reduceLT, Int.reduceLE, Int.reduceToNat, Bool.not_true, Bool.not_false, hAt, hAs, est, era, erc, ep]
 have dp := decide_eq_true hAp
 have ep : ((0 : Int) < (pts.length : Int)) = False := eq_false (by omega)
 by_cases hAla : (lab.length : Int) = 0
 rotate_left
 · have r : unuF ⟨3, (t1, t2), (s1, s2), lv, st, ra, rc, pts, lab, c, lf⟩ = false := by
     have d := decide_eq_false hAla
     unfold unuF restM bareF
     simp only [Int.reduceEq, or_self, or_false, or_true, if_true, if_false, nzP00, nz00, d, Bool.false_and, Bool.and_false, Bool.true_and, List.length_nil, Int.natCast_zero, Int.ofNat_zero, hAt, hAs, dst, dra, drc, dp]
   have ela : ((0 : Int) < (lab.length : Int)) = True := eq_true (by omega)
   clear hAla
   rw [r]
   try simp -dsimp (maxSteps := 1000000) only [go_sem, List.forall_mem_nil, ↓reduceIte, Nat.reduceEqDiff, Nat.reduceLT, Nat.reduceLeDiff, Nat.reduceAdd, Nat.reduceMul, reduceCtorEq, Tryz.f60, z, rt, rs, rl, bl, usesF, zAa, zAb, Int.reduceEq, Int.reduceLT, Int.reduceLE, Int.reduceToNat, Bool.not_true, Bool.not_false, hAt, hAs, est, era, erc, ep, ela]
 have dla := decide_eq_true hAla
 have ela : ((0 : Int) < (lab.length : Int)) = False := eq_false (by omega)
 by_cases hAc : c = 0
 rotate_left
 · have r : unuF ⟨3, (t1, t2), (s1, s2), lv, st, ra, rc, pts, lab, c, lf⟩ = false := by
     have d := decide_eq_false hAc
     unfold unuF restM bareF
     simp only [Int.reduceEq, or_self, or_false, or_true, if_true, if_false, nzP00, nz00, d, Bool.false_and, Bool.and_false, Bool.true_and, List.length_nil, Int.natCast_zero, Int.ofNat_zero, hAt, hAs, dst, dra, drc, dp, dla]
   have ec : (c = 0) = False := eq_false hAc
   clear hAc
   rw [r]
   try simp -dsimp (maxSteps := 1000000) only [go_sem, List.forall_mem_nil, ↓reduceIte, Nat.reduceEqDiff, Nat.reduceLT, Nat.reduceLeDiff, Nat.reduceAdd, Nat.reduceMul, reduceCtorEq, Tryz.f60, z, rt, rs, rl, bl, usesF, zAa, zAb, Int.reduceEq, Int.reduceLT, Int.reduceLE, Int.reduceToNat, Bool.not_true, Bool.not_false, hAt, hAs, est, era, erc, ep, ela, ec]
 have dc := decide_eq_true hAc
 have ec : (c = 0) = True := eq_true hAc
 by_cases hAf : lf = 0
 rotate_left
 · have r : unuF ⟨3, (t1, t2), (s1, s2), lv, st, ra, rc, pts, lab, c, lf⟩ = false := by
     have d := decide_eq_false hAf
     unfold unuF restM bareF
     simp only [Int.reduceEq, or_self, or_false, or_true, if_true, if_false, nzP00, nz00, d, Bool.false_and, Bool.and_false, Bool.true_and, List.length_nil, Int.natCast_zero, Int.ofNat_zero, hAt, hAs, dst, dra, drc, dp, dla, dc]
   have ef : (lf = 0) = False := eq_false hAf
   clear hAf
   rw [r]
   try simp -dsimp (maxSteps := 1000000) only [go_sem, List.forall_mem_nil, ↓reduceIte, Nat.reduceEqDiff, Nat.reduceLT, Nat.reduceLeDiff, Nat.reduceAdd, Nat.reduceMul, reduceCtorEq, Tryz.f60, z, rt, rs, rl, bl, usesF, zAa, zAb, Int.reduceEq, Int.reduceLT, Int.reduceLE, Int.reduceToNat, Bool.not_true, Bool.not_false, hAt, hAs, est, era, erc, ep, ela, ec, ef]
 have df := decide_eq_true hAf
 have ef : (lf = 0) = True := eq_true hAf
 have r : unuF ⟨3, (t1, t2), (s1, s2), lv, st, ra, rc, pts, lab, c, lf⟩ = true := by
   unfold unuF restM bareF
   simp only [Int.reduceEq, or_self, or_false, or_true, if_true, if_false, nzP00, nz00, Bool.and_self, Bool.true_and, List.length_nil, Int.natCast_zero, Int.ofNat_zero, decide_true, hAt, hAs, dst, dra, drc, dp, dla, dc, df]
 rw [r]
 try simp -dsimp (maxSteps := 1000000) only [go_sem, List.forall_mem_nil, ↓reduceIte, Nat.reduceEqDiff, Nat.reduceLT, Nat.reduceLeDiff, Nat.reduceAdd, Nat.reduceMul, reduceCtorEq, Tryz.f60, z, rt, rs, rl, bl, usesF, zAa, zAb, Int.reduceEq, Int.reduceLT, Int.reduceLE, Int.reduceToNat, Bool.not_true, Bool.not_false, hAt, hAs, est, era, erc, ep, ela, ec, ef]
end Go.SX
namespace Go.SX
open Go Go.Proofs Ieee
set_option maxRecDepth 100000 in
set_option maxHeartbeats 32000000 in
theorem law_un4 : Law Tryz.prog 60 (ct_un 4) := by
 refine zAk (zAc zCy (zAc zCd (zAc zAv zAf))) hmixA Tryz.func60 rfl rfl (fun ⟨⟨⟨k, ⟨t1, t2⟩, ⟨s1, s2⟩, lv, st, ra, rc, pts, lab, c, lf⟩, ok, w32, hkk⟩, hk⟩ => ⟨zAt rfl, by simp [Tryz.f60], ?_⟩)
 simp only [modC] at hk ⊢
 have rt := zAx w32.turn.1 w32.turn.2
 have rs := zAx w32.state.1 w32.state.2
 have rl := zAq w32.level
 have bl : ((⟨(fsT lv).toArray⟩ : ByteArray).toList == (⟨#[48]⟩ : ByteArray).toList) = nz lv := (zAj (fsT lv) [48]).trans (fs_nz w32.level)
 simp only at rt rs rl
 clear ok w32 hkk
 subst hk
 have z := zCx (k := 4) (by simp)
 cases hAt : nzP (t1, t2) with
 | false =>
   have r : unuF ⟨4, (t1, t2), (s1, s2), lv, st, ra, rc, pts, lab, c, lf⟩ = false := by simp [unuF, restM, bareF, nzP00, nz00, hAt]
   rw [r]
   try simp -dsimp (maxSteps := 1000000) only [go_sem, List.forall_mem_nil, ↓reduceIte, Nat.reduceEqDiff, Nat.reduceLT, Nat.reduceLeDiff, Nat.reduceAdd, Nat.reduceMul, reduceCtorEq, Tryz.f60, z, rt, rs, rl, bl, usesF, zAa, zAb, Int.reduceEq, Int.reduceLT, Int.reduceLE, Int.reduceToNat, Bool.not_true, Bool.not_false, hAt]
 | true =>
 cases hAs : nzP (s1, s2) with
 | false =>
   have r : unuF ⟨4, (t1, t2), (s1, s2), lv, st, ra, rc, pts, lab, c, lf⟩ = false := by simp [unuF, restM, bareF, nzP00, nz00, hAs, hAt]
   rw [r]
   try simp -dsimp (maxSteps := 1000000) only [go_sem, List.forall_mem_nil, ↓reduceIte, Nat.reduceEqDiff, Nat.reduceLT, Nat.reduceLeDiff, Nat.reduceAdd, Nat.reduceMul, reduceCtorEq, Tryz.f60, z, rt, rs, rl, bl, usesF, zAa, zAb, Int.reduceEq, Int.reduceLT, Int.reduceLE, Int.reduceToNat, Bool.not_true, Bool.not_false, hAt, hAs]
 | true =>
 cases hAl : nz lv with
 | false =>
   have r : unuF ⟨4, (t1, t2), (s1, s2), lv, st, ra, rc, pts, lab, c, lf⟩ = false := by simp [unuF, restM, bareF, nzP00, nz00, hAl, hAt, hAs]
   rw [r]
   try simp -dsimp (maxSteps := 1000000) only [go_sem, List.forall_mem_nil, ↓reduceIte, Nat.reduceEqDiff, Nat.reduceLT, Nat.reduceLeDiff, Nat.reduceAdd, Nat.reduceMul, reduceCtorEq, Tryz.f60, z, rt, rs, rl, bl, usesF, zAa, zAb, Int.reduceEq, Int.reduceLT, Int.reduceLE, Int.reduceToNat, Bool.not_true, Bool.not_false, hAt, hAs, hAl]
 | true =>
 by_cases hAp : (pts.length : Int) = 0
 rotate_left
 · have r : unuF ⟨4, (t1, t2), (s1, s2), lv, st, ra, rc, pts, lab, c, lf⟩ = false := by
     have d := decide_eq_false hAp
     unfold unuF restM bareF
     simp only [Int.reduceEq, or_self, or_false, or_true, if_true, if_false, nzP00, nz00, d, Bool.false_and, Bool.and_false, Bool.true_and, List.length_nil, Int.natCast_zero, Int.ofNat_zero, hAt, hAs, hAl]
   have ep : ((0 : Int) < (pts.length : Int)) = True := eq_true (by omega)
   clear hAp
   rw [r]
   try simp -dsimp (maxSteps := 1000000) only [go_sem, List.forall_mem_nil, ↓reduceIte, Nat.reduceEqDiff, Nat.reduceLT, Nat.reduceLeDiff, Nat.reduceAdd, Nat.reduceMul, reduceCtorEq, Tryz.f60, z, rt, rs, rl, bl, usesF, zAa, zAb, Int.reduceEq, Int.reduceLT, Int.reduceLE, Int.reduceToNat, Bool.not_true, Bool.not_false, hAt, hAs, hAl, ep]
 have dp := decide_eq_true hAp
 have ep : ((0 : Int) < (pts.length : Int)) = False := eq_false (by omega)
 by_cases hAla : (lab.length : Int) = 0
 rotate_left
 · have r : unuF ⟨4, (t1, t2), (s1, s2), lv, st, ra, rc, pts, lab, c, lf⟩ = false := by
     have d := decide_eq_false hAla
     unfold unuF restM bareF
     simp only [Int.reduceEq, or_self, or_false, or_true, if_true, if_false, nzP00, nz00, d, Bool.false_and, Bool.and_false, Bool.true_and, List.length_nil, Int.natCast_zero, Int.ofNat_zero, hAt, hAs, hAl, dp]
   have ela : ((0 : Int) < (lab.length : Int)) = True := eq_true (by omega)
   clear hAla
   rw [r]
   try simp -dsimp (maxSteps := 1000000) only [go_sem, List.forall_mem_nil, ↓reduceIte, Nat.reduceEqDiff, Nat.reduceLT, Nat.reduceLeDiff, Nat.reduceAdd, Nat.reduceMul, reduceCtorEq, Tryz.f60, z, rt, rs, rl, bl, usesF, zAa, zAb, Int.reduceEq, Int.reduceLT, Int.reduceLE, Int.reduceToNat, Bool.not_true, Bool.not_false, hAt, hAs, hAl, ep, ela]
 have dla := decide_eq_true hAla
 have ela : ((0 : Int) < (lab.length : Int)) = False := eq_false (by omega)
 by_cases hAc : c = 0
 rotate_left
 · have r : unuF ⟨4, (t1, t2), (s1, s2), lv, st, ra, rc, pts, lab, c, lf⟩ = false := by
     have d := decide_eq_false hAc
     unfold unuF restM bareF
     simp only [Int.reduceEq, or_self, or_false, or_true, if_true, if_false, nzP00, nz00, d, Bool.false_and, Bool.and_false, Bool.true_and, List.length_nil, Int.natCast_zero, Int.ofNat_zero, hAt, hAs, hAl, dp, dla]
   have ec : (c = 0) = False := eq_false hAc
   clear hAc
   rw [r]
   try simp -dsimp (maxSteps := 1000000) only [go_sem, List.forall_mem_nil, ↓reduceIte, Nat.reduceEqDiff, Nat.reduceLT, Nat.reduceLeDiff, Nat.reduceAdd, Nat.reduceMul, reduceCtorEq, Tryz.f60, z, rt, rs, rl, bl, usesF, zAa, zAb, Int.reduceEq, Int.reduceLT, Int.reduceLE, Int.reduceToNat, Bool.not_true, Bool.not_false, hAt, hAs, hAl, ep, ela, ec]
 have dc := decide_eq_true hAc
 have ec : (c = 0) = True := eq_true hAc
 by_cases hAf : lf = 0
 rotate_left
 · have r : unuF ⟨4, (t1, t2), (s1, s2), lv, st, ra, rc, pts, lab, c, lf⟩ = false := by
     have d := decide_eq_false hAf
     unfold unuF restM bareF
     simp only [Int.reduceEq, or_self, or_false, or_true, if_true, if_false, nzP00, nz00, d, Bool.false_and, Bool.and_false, Bool.true_and, List.length_nil, Int.natCast_zero, Int.ofNat_zero, hAt, hAs, hAl, dp, dla, dc]
   have ef : (lf = 0) = False := eq_false hAf
   clear hAf
   rw [r]
   try simp -dsimp (maxSteps := 1000000) only [go_sem, List.forall_mem_nil, ↓reduceIte, Nat.reduceEqDiff, Nat.reduceLT, Nat.reduceLeDiff, Nat.reduceAdd, Nat.reduceMul, reduceCtorEq, Tryz.f60, z, rt, rs, rl, bl, usesF, zAa, zAb, Int.reduceEq, Int.reduceLT, Int.reduceLE, Int.reduceToNat, Bool.not_true, Bool.not_false, hAt, hAs, hAl, ep, ela, ec, ef]
 have df := decide_eq_true hAf
 have ef : (lf = 0) = True := eq_true hAf
 have r : unuF ⟨4, (t1, t2), (s1, s2), lv, st, ra, rc, pts, lab, c, lf⟩ = true := by
   unfold unuF restM bareF
   simp only [Int.reduceEq, or_self, or_false, or_true, if_true, if_false, nzP00, nz00, Bool.and_self, Bool.true_and, List.length_nil, Int.natCast_zero, Int.ofNat_zero, decide_true, hAt, hAs, hAl, dp, dla, dc, df]
 rw [r]
 try simp -dsimp (maxSteps := 1000000) only [go_sem, List.forall_mem_nil, ↓reduceIte, Nat.reduceEqDiff, Nat.reduceLT, Nat.reduceLeDiff, Nat.reduceAdd, Nat.reduceMul, reduceCtorEq, Tryz.f60, z, rt, rs, rl, bl, usesF, zAa, zAb, Int.reduceEq, Int.reduceLT, Int.reduceLE, Int.reduceToNat, Bool.not_true, Bool.not_false, hAt, hAs, hAl, ep, ela, ec, ef]
end Go.SX
namespace Go.SX
open Go Go.Proofs Ieee
set_option maxRecDepth 100000 in
set_option maxHeartbeats 32000000 in
theorem law_un5 : Law Tryz.prog 60 (ct_un 5) := by
 refine zAk (zAc zCy (zAc zCd (zAc zAv zAf))) hmixA Tryz.func60 rfl rfl (fun ⟨⟨⟨k, ⟨t1, t2⟩, ⟨s1, s2⟩, lv, st, ra, rc, pts, lab, c, lf⟩, ok, w32, hkk⟩, hk⟩ => ⟨zAt rfl, by simp [Tryz.f60], ?_⟩)
 simp only [modC] at hk ⊢
 have rt := zAx w32.turn.1 w32.turn.2
 have rs := zAx w32.state.1 w32.state.2
 have rl := zAq w32.level
 have bl : ((⟨(fsT lv).toArray⟩ : ByteArray).toList == (⟨#[48]⟩ : ByteArray).toList) = nz lv := (zAj (fsT lv) [48]).trans (fs_nz w32.level)
 simp only at rt rs rl
 clear ok w32 hkk
 subst hk
 have z := zCx (k := 5) (by simp)
 cases hAt : nzP (t1, t2) with
 | false =>
   have r : unuF ⟨5, (t1, t2), (s1, s2), lv, st, ra, rc, pts, lab, c, lf⟩ = false := by simp [unuF, restM, bareF, nzP00, nz00, hAt]
   rw [r]
   try simp -dsimp (maxSteps := 1000000) only [go_sem, List.forall_mem_nil, ↓reduceIte, Nat.reduceEqDiff, Nat.reduceLT, Nat.reduceLeDiff, Nat.reduceAdd, Nat.reduceMul, reduceCtorEq, Tryz.f60, z, rt, rs, rl, bl, usesF, zAa, zAb, Int.reduceEq, Int.reduceLT, Int.reduceLE, Int.reduceToNat, Bool.not_true, Bool.not_false, hAt]
 | true =>
 cases hAs : nzP (s1, s2) with
 | false =>
   have r : unuF ⟨5, (t1, t2), (s1, s2), lv, st, ra, rc, pts, lab, c, lf⟩ = false := by simp [unuF, restM, bareF, nzP00, nz00, hAs, hAt]
   rw [r]
   try simp -dsimp (maxSteps := 1000000) only [go_sem, List.forall_mem_nil, ↓reduceIte, Nat.reduceEqDiff, Nat.reduceLT, Nat.reduceLeDiff, Nat.reduceAdd, Nat.reduceMul, reduceCtorEq, Tryz.f60, z, rt, rs, rl, bl, usesF, zAa, zAb, Int.reduceEq, Int.reduceLT, Int.reduceLE, Int.reduceToNat, Bool.not_true, Bool.not_false, hAt, hAs]
 | true =>
 cases hAl : nz lv with
 | false =>
   have r : unuF ⟨5, (t1, t2), (s1, s2), lv, st, ra, rc, pts, lab, c, lf⟩ = false := by simp [unuF, restM, bareF, nzP00, nz00, hAl, hAt, hAs]
   rw [r]
   try simp -dsimp (maxSteps := 1000000) only [go_sem, List.forall_mem_nil, ↓reduceIte, Nat.reduceEqDiff, Nat.reduceLT, Nat.reduceLeDiff, Nat.reduceAdd, Nat.reduceMul, reduceCtorEq, Tryz.f60, z, rt, rs, rl, bl, usesF, zAa, zAb, Int.reduceEq, Int.reduceLT, Int.reduceLE, Int.reduceToNat, Bool.not_true, Bool.not_false, hAt, hAs, hAl]
 | true =>
 by_cases hAst : (st.length : Int) = 0
 rotate_left
 · have r : unuF ⟨5, (t1, t2), (s1, s2), lv, st, ra, rc, pts, lab, c, lf⟩ = false := by
     have d := decide_eq_false hAst
     unfold unuF restM bareF
     simp only [Int.reduceEq, or_self, or_false, or_true, if_true, if_false, nzP00, nz00, d, Bool.false_and, Bool.and_false, Bool.true_and, List.length_nil, Int.natCast_zero, Int.ofNat_zero, hAt, hAs, hAl]
   have est : ((0 : Int) < (st.length : Int)) = True := eq_true (by omega)
   clear hAst
   rw [r]
   try simp -dsimp (maxSteps := 1000000) only [go_sem, List.forall_mem_nil, ↓reduceIte, Nat.reduceEqDiff, Nat.reduceLT, Nat.reduceLeDiff, Nat.reduceAdd, Nat.reduceMul, reduceCtorEq, Tryz.f60, z, rt, rs, rl, bl, usesF, zAa, zAb, Int.reduceEq, Int.reduceLT, Int.reduceLE, Int.reduceToNat, Bool.not_true, Bool.not_false, hAt, hAs, hAl, est]
 have dst := decide_eq_true hAst
 have est : ((0 : Int) < (st.length : Int)) = False := eq_false (by omega)
 by_cases hAra : ra = 0
 rotate_left
 · have r : unuF ⟨5, (t1, t2), (s1, s2), lv, st, ra, rc, pts, lab, c, lf⟩ = false := by
     have d := decide_eq_false hAra
     unfold unuF restM bareF
     simp only [Int.reduceEq, or_self, or_false, or_true, if_true, if_false, nzP00, nz00, d, Bool.false_and, Bool.and_false, Bool.true_and, List.length_nil, Int.natCast_zero, Int.ofNat_zero, hAt, hAs, hAl, dst]
   have era : (ra = 0) = False := eq_false hAra
   clear hAra
   rw [r]
   try simp -dsimp (maxSteps := 1000000) only [go_sem, List.forall_mem_nil, ↓reduceIte, Nat.reduceEqDiff, Nat.reduceLT, Nat.reduceLeDiff, Nat.reduceAdd, Nat.reduceMul, reduceCtorEq, Tryz.f60, z, rt, rs, rl, bl, usesF, zAa, zAb, Int.reduceEq, Int.reduceLT, Int.reduceLE, Int.reduceToNat, Bool.not_true, Bool.not_false, hAt, hAs, hAl, est, era]
 have dra := decide_eq_true hAra
 have era : (ra = 0) = True := eq_true hAra
 by_cases hArc : rc = 0
 rotate_left
 · have r : unuF ⟨5, (t1, t2), (s1, s2), lv, st, ra, rc, pts, lab, c, lf⟩ = false := by
     have d := decide_eq_false hArc
     unfold unuF restM bareF
     simp only [Int.reduceEq, or_self, or_false, or_true, if_true, if_false, nzP00, nz00, d, Bool.false_and, Bool.and_false, Bool.true_and, List.length_nil, Int.natCast_zero, Int.ofNat_zero, hAt, hAs, hAl, dst, dra]
   have erc : (rc = 0) = False := eq_false hArc
   clear hArc
   rw [r]
   try simp -dsimp (maxSteps := 1000000) only [go_sem, List.forall_mem_nil, ↓reduceIte, Nat.reduceEqDiff, Nat.reduceLT, Nat.reduceLeDiff, Nat.reduceAdd, Nat.reduceMul, reduceCtorEq, Tryz.f60, z, rt, rs, rl, bl, usesF, zAa, zAb, Int.reduceEq, Int.reduceLT, Int.reduceLE, Int.reduceToNat, Bool.not_true, Bool.not_false, hAt, hAs, hAl, est, era, erc]
 have drc := decide_eq_true hArc
 have erc : (rc = 0) = True := eq_true hArc
 by_cases hAp : (pts.length : Int) = 0
 rotate_left
 · have r : unuF ⟨5, (t1, t2), (s1, s2), lv, st, ra, rc, pts, lab, c, lf⟩ = false := by
     have d := decide_eq_false hAp
     unfold unuF restM bareF
     simp only [Int.reduceEq, or_self, or_false, or_true, if_true, if_false, nzP00, nz00, d, Bool.false_and, Bool.and_false, Bool.true_and, List.length_nil, Int.natCast_zero, Int.ofNat_zero, hAt, hAs, hAl, dst, dra, drc]
   have ep : ((0 : Int) < (pts.length : Int)) = True := eq_true (by omega)
   clear hAp
   rw [r]
   try simp -dsimp (maxSteps := 1000000) only [go_sem, List.forall_mem_nil, ↓reduceIte, Nat.reduceEqDiff, Nat.reduceLT, Nat.reduceLeDiff, Nat.reduceAdd, Nat.reduceMul, reduceCtorEq, Tryz.f60, z, rt, rs, rl, bl, usesF, zAa, zAb, Int.reduceEq, Int.reduceLT, Int.reduceLE, Int.reduceToNat, Bool.not_true, Bool.not_false, hAt, hAs, hAl, est, era, erc, ep]
 have dp := decide_eq_true hAp
 have ep : ((0 : Int) < (pts.length : Int)) = False := eq_false (by omega)
 by_cases hAla : (lab.length : Int) = 0
 rotate_left
 · have r : unuF ⟨5, (t1, t2), (s1, s2), lv, st, ra, rc, pts, lab, c, lf⟩ = false := by
     have d := decide_eq_false hAla
     unfold unuF restM bareF
     simp only [Int.reduceEq, or_self, or_false, or_true, if_true, if_false, nzP00, nz00, d, Bool.false_and, Bool.and_false, Bool.true_and, List.length_nil, Int.natCast_zero, Int.ofNat_zero, hAt, hAs, hAl, dst, dra, drc, dp]
   have ela : ((0 : Int) < (lab.length : Int)) = True := eq_true (by omega)
   clear hAla
   rw [r]
   try simp -dsimp (maxSteps := 1000000) only [go_sem, List.forall_mem_nil, ↓reduceIte, Nat.reduceEqDiff, Nat.reduceLT, Nat.reduceLeDiff, Nat.reduceAdd, Nat.reduceMul, reduceCtorEq, Tryz.f60, z, rt, rs, rl, bl, usesF, zAa, zAb, Int.reduceEq, Int.reduceLT, Int.reduceLE, Int.reduceToNat, Bool.not_true, Bool.not_false, hAt, hAs, hAl, est, era, erc, ep, ela]
 have dla := decide_eq_true hAla
 have ela : ((0 : Int) < (lab.length : Int)) = False := eq_false (by omega)
 by_cases hAc : c = 0
 rotate_left
 · have r : unuF ⟨5, (t1, t2), (s1, s2), lv, st, ra, rc, pts, lab, c, lf⟩ = false := by
     have d := decide_eq_false hAc
     unfold unuF restM bareF
     simp only [Int.reduceEq, or_self, or_false, or_true, if_true, if_false, nzP00, nz00, d, Bool.false_and, Bool.and_false, Bool.true_and, List.length_nil, Int.natCast_zero, Int.ofNat_zero, hAt, hAs, hAl, dst, dra, drc, dp, dla]
   have ec : (c = 0) = False := eq_false hAc
   clear hAc
   rw [r]
   try simp -dsimp (maxSteps := 1000000) only [go_sem, List.forall_mem_nil, ↓reduceIte, Nat.reduceEqDiff, Nat.reduceLT, Nat.reduceLeDiff, Nat.reduceAdd, Nat.reduceMul, reduceCtorEq, Tryz.f60, z, rt, rs, rl, bl, usesF, zAa, zAb, Int.reduceEq, Int.reduceLT, Int.reduceLE, Int.reduceToNat, Bool.not_true, Bool.not_false, hAt, hAs, hAl, est, era, erc, ep, ela, ec]
 have dc := decide_eq_true hAc
 have ec : (c = 0) = True := eq_true hAc
 by_cases hAf : lf = 0
 rotate_left
 · have r : unuF ⟨5, (t1, t2), (s1, s2), lv, st, ra, rc, pts, lab, c, lf⟩ = false := by
     have d := decide_eq_false hAf
     unfold unuF restM bareF
     simp only [Int.reduceEq, or_self, or_false, or_true, if_true, if_false, nzP00, nz00, d, Bool.false_and, Bool.and_false, Bool.true_and, List.length_nil, Int.natCast_zero, Int.ofNat_zero, hAt, hAs, hAl, dst, dra, drc, dp, dla, dc]
   have ef : (lf = 0) = False := eq_false hAf
   clear hAf
   rw [r]
   try simp -dsimp (maxSteps := 1000000) only [go_sem, List.forall_mem_nil, ↓reduceIte, Nat.reduceEqDiff, Nat.reduceLT, Nat.reduceLeDiff, Nat.reduceAdd, Nat.reduceMul, reduceCtorEq, Tryz.f60, z, rt, rs, rl, bl, usesF, zAa, zAb, Int.reduceEq, Int.reduceLT, Int.reduceLE, Int.reduceToNat, Bool.not_true, Bool.not_false, hAt, hAs, hAl, est, era, erc, ep, ela, ec, ef]
 have df := decide_eq_true hAf
 have ef : (lf = 0) = True := eq_true hAf
 have r : unuF ⟨5, (t1, t2), (s1, s2), lv, st, ra, rc, pts, lab, c, lf⟩ = true := by
   unfold unuF restM bareF
   simp only [Int.reduceEq, or_self, or_false, or_true, if_true, if_false, nzP00, nz00, Bool.and_self, Bool.true_and, List.length_nil, Int.natCast_zero, Int.ofNat_zero, decide_true, hAt, hAs, hAl, dst, dra, drc, dp, dla, dc, df]
 rw [r]
 try simp -dsimp (maxSteps := 1000000) only [go_sem, List.forall_mem_nil, ↓reduceIte, Nat.reduceEqDiff, Nat.reduceLT, Nat.reduceLeDiff, Nat.reduceAdd, Nat.reduceMul, reduceCtorEq, Tryz.f60, z, rt, rs, rl, bl, usesF, zAa, zAb, Int.reduceEq, Int.reduceLT, Int.reduceLE, Int.reduceToNat, Bool.not_true, Bool.not_false, hAt, hAs, hAl, est, era, erc, ep, ela, ec, ef]
end Go.SX
namespace Go.SX
open Go Go.Proofs Ieee
set_option maxRecDepth 100000 in
set_option maxHeartbeats 32000000 in
theorem law_un6 : Law Tryz.prog 60 (ct_un 6) := by
 refine zAk (zAc zCy (zAc zCd (zAc zAv zAf))) hmixA Tryz.func60 rfl rfl (fun ⟨⟨⟨k, ⟨t1, t2⟩, ⟨s1, s2⟩, lv, st, ra, rc, pts, lab, c, lf⟩, ok, w32, hkk⟩, hk⟩ => ⟨zAt rfl, by simp [Tryz.f60], ?_⟩)
 simp only [modC] at hk ⊢
 have rt := zAx w32.turn.1 w32.turn.2
 have rs := zAx w32.state.1 w32.state.2
 have rl := zAq w32.level
 have bl : ((⟨(fsT lv).toArray⟩ : ByteArray).toList == (⟨#[48]⟩ : ByteArray).toList) = nz lv := (zAj (fsT lv) [48]).trans (fs_nz w32.level)
 simp only at rt rs rl
 clear ok w32 hkk
 subst hk
 have z := zCx (k := 6) (by simp)
 cases hAt : nzP (t1, t2) with
 | false =>
   have r : unuF ⟨6, (t1, t2), (s1, s2), lv, st, ra, rc, pts, lab, c, lf⟩ = false := by simp [unuF, restM, bareF, nzP00, nz00, hAt]
   rw [r]
   try simp -dsimp (maxSteps := 1000000) only [go_sem, List.forall_mem_nil, ↓reduceIte, Nat.reduceEqDiff, Nat.reduceLT, Nat.reduceLeDiff, Nat.reduceAdd, Nat.reduceMul, reduceCtorEq, Tryz.f60, z, rt, rs, rl, bl, usesF, zAa, zAb, Int.reduceEq, Int.reduceLT, Int.reduceLE, Int.reduceToNat, Bool.not_true, Bool.not_false, hAt]
 | true =>
 cases hAs : nzP (s1, s2) with
 | false =>
   have r : unuF ⟨6, (t1, t2), (s1, s2), lv, st, ra, rc, pts, lab, c, lf⟩ = false := by simp [unuF, restM, bareF, nzP00, nz00, hAs, hAt]
   rw [r]
   try simp -dsimp (maxSteps := 1000000) only [go_sem, List.forall_mem_nil, ↓reduceIte, Nat.reduceEqDiff, Nat.reduceLT, Nat.reduceLeDiff, Nat.reduceAdd, Nat.reduceMul, reduceCtorEq, Tryz.f60, z, rt, rs, rl, bl, usesF, zAa, zAb, Int.reduceEq, Int.reduceLT, Int.reduceLE, Int.reduceToNat, Bool.not_true, Bool.not_false, hAt, hAs]
 | true =>
 cases hAl : nz lv with
 | false =>
   have r : unuF ⟨6, (t1, t2), (s1, s2), lv, st, ra, rc, pts, lab, c, lf⟩ = false := by simp [unuF, restM, bareF, nzP00, nz00, hAl, hAt, hAs]
   rw [r]
   try simp -dsimp (maxSteps := 1000000) only [go_sem, List.forall_mem_nil, ↓reduceIte, Nat.reduceEqDiff, Nat.reduceLT, Nat.reduceLeDiff, Nat.reduceAdd, Nat.reduceMul, reduceCtorEq, Tryz.f60, z, rt, rs, rl, bl, usesF, zAa, zAb, Int.reduceEq, Int.reduceLT, Int.reduceLE, Int.reduceToNat, Bool.not_true, Bool.not_false, hAt, hAs, hAl]
 | true =>
 by_cases hAst : (st.length : Int) = 0
 rotate_left
 · have r : unuF ⟨6, (t1, t2), (s1, s2), lv, st, ra, rc, pts, lab, c, lf⟩ = false := by
     have d := decide_eq_false hAst
     unfold unuF restM bareF
     simp only [Int.reduceEq, or_self, or_false, or_true, if_true, if_false, nzP00, nz00, d, Bool.false_and, Bool.and_false, Bool.true_and, List.length_nil, Int.natCast_zero, Int.ofNat_zero, hAt, hAs, hAl]
   have est : ((0 : Int) < (st.length : Int)) = True := eq_true (by omega)
   clear hAst
   rw [r]
   try simp -dsimp (maxSteps := 1000000) only [go_sem, List.forall_mem_nil, ↓reduceIte, Nat.reduceEqDiff, Nat.reduceLT, Nat.reduceLeDiff, Nat.reduceAdd, Nat.reduceMul, reduceCtorEq, Tryz.f60, z, rt, rs, rl, bl, usesF, zAa, zAb, Int.reduceEq, Int.reduceLT, Int.reduceLE, Int.reduceToNat, Bool.not_true, Bool.not_false, hAt, hAs, hAl, est]
 have dst := decide_eq_true hAst
 have est : ((0 : Int) < (st.length : Int)) = False := eq_false (by omega)
 by_cases hAra : ra = 0
 rotate_left
 · have r : unuF ⟨6, (t1, t2), (s1, s2), lv, st, ra, rc, pts, lab, c, lf⟩ = false := by
     have d := decide_eq_false hAra
     unfold unuF restM bareF
     simp only [Int.reduceEq, or_self, or_false, or_true, if_true, if_false, nzP00, nz00, d, Bool.false_and, Bool.and_false, Bool.true_and, List.length_nil, Int.natCast_zero, Int.ofNat_zero, hAt, hAs, hAl, dst]
   have era : (ra = 0) = False := eq_false hAra
   clear hAra
   rw [r]
   try simp -dsimp (maxSteps := 1000000) only [go_sem, List.forall_mem_nil, ↓reduceIte, Nat.reduceEqDiff, Nat.reduceLT, Nat.reduceLeDiff, Nat.reduceAdd, Nat.reduceMul, reduceCtorEq, Tryz.f60, z, rt, rs, rl, bl, usesF, zAa, zAb, Int.reduceEq, Int.reduceLT, Int.reduceLE, Int.reduceToNat, Bool.not_true, Bool.not_false, hAt, hAs, hAl, est, era]
 have dra := decide_eq_true hAra
 have era : (ra = 0) = True := eq_true hAra
 by_cases hArc : rc = 0
 rotate_left
 · have r : unuF ⟨6, (t1, t2), (s1, s2), lv, st, ra, rc, pts, lab, c, lf⟩ = false := by
     have d := decide_eq_false hArc
     unfold unuF restM bareF
     simp only [Int.reduceEq, or_self, or_false, or_true, if_true, if_false, nzP00, nz00, d, Bool.false_and, Bool.and_false, Bool.true_and, List.length_nil, Int.natCast_zero, Int.ofNat_zero, hAt, hAs, hAl, dst, dra]
   have erc : (rc = 0) = False := eq_false hArc
   clear hArc
   rw [r]
   try simp -dsimp (maxSteps := 1000000) only [go_sem, List.forall_mem_nil, ↓reduceIte, Nat.reduceEqDiff, Nat.reduceLT, Nat.reduceLeDiff, Nat.reduceAdd, Nat.reduceMul, reduceCtorEq, Tryz.f60, z, rt, rs, rl, bl, usesF, zAa, zAb, Int.reduceEq, Int.reduceLT, Int.reduceLE, Int.reduceToNat, Bool.not_true, Bool.not_false, hAt, hAs, hAl, est, era, erc]
 have drc := decide_eq_true hArc
 have erc : (rc = 0) = True := eq_true hArc
 by_cases hAf : lf = 0
 rotate_left
 · have r : unuF ⟨6, (t1, t2), (s1, s2), lv, st, ra, rc, pts, lab, c, lf⟩ = false := by
     have d := decide_eq_false hAf
     unfold unuF restM bareF
     simp only [Int.reduceEq, or_self, or_false, or_true, if_true, if_false, nzP00, nz00, d, Bool.false_and, Bool.and_false, Bool.true_and, List.length_nil, Int.natCast_zero, Int.ofNat_zero, hAt, hAs, hAl, dst, dra, drc]
   have ef : (lf = 0) = False := eq_false hAf
   clear hAf
   rw [r]
   try simp -dsimp (maxSteps := 1000000) only [go_sem, List.forall_mem_nil, ↓reduceIte, Nat.reduceEqDiff, Nat.reduceLT, Nat.reduceLeDiff, Nat.reduceAdd, Nat.reduceMul, reduceCtorEq, Tryz.f60, z, rt, rs, rl, bl, usesF, zAa, zAb, Int.reduceEq, Int.reduceLT, Int.reduceLE, Int.reduceToNat, Bool.not_true, Bool.not_false, hAt, hAs, hAl, est, era, erc, ef]
 have df := decide_eq_true hAf
 have ef : (lf = 0) = True := eq_true hAf
 have r : unuF ⟨6, (t1, t2), (s1, s2), lv, st, ra, rc, pts, lab, c, lf⟩ = true := by
   unfold unuF restM bareF
   simp only [Int.reduceEq, or_self, or_false, or_true, if_true, if_false, nzP00, nz00, Bool.and_self, Bool.true_and, List.length_nil, Int.natCast_zero, Int.ofNat_zero, decide_true, hAt, hAs, hAl, dst, dra, drc, df]
 rw [r]
 try simp -dsimp (maxSteps := 1000000) only [go_sem, List.forall_mem_nil, ↓reduceIte, Nat.reduceEqDiff, Nat.reduceLT, Nat.reduceLeDiff, Nat.reduceAdd, Nat.reduceMul, reduceCtorEq, Tryz.f60, z, rt, rs, rl, bl, usesF, zAa, zAb, Int.reduceEq, Int.reduceLT, Int.reduceLE, Int.reduceToNat, Bool.not_true, Bool.not_false, hAt, hAs, hAl, est, era, erc, ef]
end Go.SX
namespace Go.SX
open Go Go.Proofs Ieee
set_option maxRecDepth 100000 in
set_option maxHeartbeats 32000000 in
theorem law_un7 : Law Tryz.prog 60 (ct_un 7) := by
 refine zAk (zAc zCy (zAc zCd (zAc zAv zAf))) hmixA Tryz.func60 rfl rfl (fun ⟨⟨⟨k, ⟨t1, t2⟩, ⟨s1, s2⟩, lv, st, ra, rc, pts, lab, c, lf⟩, ok, w32, hkk⟩, hk⟩ => ⟨zAt rfl, by simp [Tryz.f60], ?_⟩)
 simp only [modC] at hk ⊢
 have rt := zAx w32.turn.1 w32.turn.2
 have rs := zAx w32.state.1 w32.state.2
 have rl := zAq w32.level
 have bl : ((⟨(fsT lv).toArray⟩ : ByteArray).toList == (⟨#[48]⟩ : ByteArray).toList) = nz lv := (zAj (fsT lv) [48]).trans (fs_nz w32.level)
 simp only at rt rs rl
 clear ok w32 hkk
 subst hk
 have z := zCx (k := 7) (by simp)
 cases hAt : nzP (t1, t2) with
 | false =>
   have r : unuF ⟨7, (t1, t2), (s1, s2), lv, st, ra, rc, pts, lab, c, lf⟩ = false := by simp [unuF, restM, bareF, nzP00, nz00, hAt]
   rw [r]
   try simp -dsimp (maxSteps := 1000000) only [go_sem, List.forall_mem_nil, ↓reduceIte, Nat.reduceEqDiff, Nat.reduceLT, Nat.reduceLeDiff, Nat.reduceAdd, Nat.reduceMul, reduceCtorEq, Tryz.f60, z, rt, rs, rl, bl, usesF, zAa, zAb, Int.reduceEq, Int.reduceLT, Int.reduceLE, Int.reduceToNat, Bool.not_true, Bool.not_false, hAt]
 | true =>
 cases hAs : nzP (s1, s2) with
 | false =>
   have r : unuF ⟨7, (t1, t2), (s1, s2), lv, st, ra, rc, pts, lab, c, lf⟩ = false := by simp [unuF, restM, bareF, nzP00, nz00, hAs, hAt]
   rw [r]
   try simp -dsimp (maxSteps := 1000000) only [go_sem, List.forall_mem_nil, ↓reduceIte, Nat.reduceEqDiff, Nat.reduceLT, Nat.reduceLeDiff, Nat.reduceAdd, Nat.reduceMul, reduceCtorEq, Tryz.f60, z, rt, rs, rl, bl, usesF, zAa, zAb, Int.reduceEq, Int.reduceLT, Int.reduceLE, Int.reduceToNat, Bool.not_true, Bool.not_false, hAt, hAs]
 | true =>
 by_cases hAst : (st.length : Int) = 0
 rotate_left
 · have r : unuF ⟨7, (t1, t2), (s1, s2), lv, st, ra, rc, pts, lab, c, lf⟩ = false := by
     have d := decide_eq_false hAst
     unfold unuF restM bareF
     simp only [Int.reduceEq, or_self, or_false, or_true, if_true, if_false, nzP00, nz00, d, Bool.false_and, Bool.and_false, Bool.true_and, List.length_nil, Int.natCast_zero, Int.ofNat_zero, hAt, hAs]
   have est : ((0 : Int) < (st.length : Int)) = True := eq_true (by omega)
   clear hAst
   rw [r]
   try simp -dsimp (maxSteps := 1000000) only [go_sem, List.forall_mem_nil, ↓reduceIte, Nat.reduceEqDiff, Nat.reduceLT, Nat.reduceLeDiff, Nat.reduceAdd, Nat.reduceMul, reduceCtorEq, Tryz.f60, z, rt, rs, rl, bl, usesF, zAa, zAb, Int.reduceEq, Int.reduceLT, Int.reduceLE, Int.reduceToNat, Bool.not_true, Bool.not_false, hAt, hAs, est]
 have dst := decide_eq_true hAst
 have est : ((0 : Int) < (st.length : Int)) = False := eq_false (by omega)
 by_cases hAra : ra = 0
 rotate_left
 · have r : unuF ⟨7, (t1, t2), (s1, s2), lv, st, ra, rc, pts, lab, c, lf⟩ = false := by
     have d := decide_eq_false hAra
     unfold unuF restM bareF
     simp only [Int.reduceEq, or_self, or_false, or_true, if_true, if_false, nzP00, nz00, d, Bool.false_and, Bool.and_false, Bool.true_and, List.length_nil, Int.natCast_zero, Int.ofNat_zero, hAt, hAs, dst]
   have era : (ra = 0) = False := eq_false hAra
   clear hAra
   rw [r]
   try simp -dsimp (maxSteps := 1000000) only [go_sem, List.forall_mem_nil, ↓reduceIte, Nat.reduceEqDiff, Nat.reduceLT, Nat.reduceLeDiff, Nat.reduceAdd, Nat.reduceMul, reduceCtorEq, Tryz.f60, z, rt, rs, rl, bl, usesF, zAa, zAb, Int.reduceEq, Int.reduceLT, Int.reduceLE, Int.reduceToNat, Bool.not_true, Bool.not_false, hAt, hAs, est, era]
 have dra := decide_eq_true hAra
 have era : (ra = 0) = True := eq_true hAra
 by_cases hArc : rc = 0
 rotate_left
 · have r : unuF ⟨7, (t1, t2), (s1, s2), lv, st, ra, rc, pts, lab, c, lf⟩ = false := by
     have d := decide_eq_false hArc
     unfold unuF restM bareF
     simp only [Int.reduceEq, or_self, or_false, or_true, if_true, if_false, nzP00, nz00, d, Bool.false_and, Bool.and_false, Bool.true_and, List.length_nil, Int.natCast_zero, Int.ofNat_zero, hAt, hAs, dst, dra]
   have erc : (rc = 0) = False := eq_false hArc
   clear hArc
   rw [r]
   try simp -dsimp (maxSteps := 1000000) only [go_sem, List.forall_mem_nil, ↓reduceIte, Nat.reduceEqDiff, Nat.reduceLT, Nat.reduceLeDiff, Nat.reduceAdd, Nat.reduceMul, reduceCtorEq, Tryz.f60, z, rt, rs, rl, bl, usesF, zAa, zAb, Int.reduceEq, Int.reduceLT, Int.reduceLE, Int.reduceToNat, Bool.not_true, Bool.not_false, hAt, hAs, est, era, erc]
 have drc := decide_eq_true hArc
 have erc : (rc = 0) = True := eq_true hArc
 by_cases hAp : (pts.length : Int) = 0
 rotate_left
 · have r : unuF ⟨7, (t1, t2), (s1, s2), lv, st, ra, rc, pts, lab, c, lf⟩ = false := by
     have d := decide_eq_false hAp
     unfold unuF restM bareF
     simp only [Int.reduceEq, or_self, or_false, or_true, if_true, if_false, nzP00, nz00, d, Bool.false_and, Bool.and_false, Bool.true_and, List.length_nil, Int.natCast_zero, Int.ofNat_zero, hAt, hAs, dst, dra, drc]
   have ep : ((0 : Int) < (pts.length : Int)) = True := eq_true (by omega)
   clear hAp
   rw [r]
   try simp -dsimp (maxSteps := 1000000) only [go_sem, List.forall_mem_nil, ↓reduceIte, Nat.reduceEqDiff, Nat.reduceLT, Nat.reduceLeDiff, Nat.reduceAdd, Nat.reduceMul, reduceCtorEq, Tryz.f60, z, rt, rs, rl, bl, usesF, zAa, zAb, Int.reduceEq, Int.reduceLT, Int.reduceLE, Int.reduceToNat, Bool.not_true, Bool.not_false, hAt, hAs, est, era, erc, ep]
 have dp := decide_eq_true hAp
 have ep : ((0 : Int) < (pts.length : Int)) = False := eq_false (by omega)
 by_cases hAla : (lab.length : Int) = 0
 rotate_left
 · have r : unuF ⟨7, (t1, t2), (s1, s2), lv, st, ra, rc, pts, lab, c, lf⟩ = false := by
     have d := decide_eq_false hAla
     unfold unuF restM bareF
     simp only [Int.reduceEq, or_self, or_false, or_true, if_true, if_false, nzP00, nz00, d, Bool.false_and, Bool.and_false, Bool.true_and, List.length_nil, Int.natCast_zero, Int.ofNat_zero, hAt, hAs, dst, dra, drc, dp]
   have ela : ((0 : Int) < (lab.length : Int)) = True := eq_true (by omega)
   clear hAla
   rw [r]
   try simp -dsimp (maxSteps := 1000000) only [go_sem, List.forall_mem_nil, ↓reduceIte, Nat.reduceEqDiff, Nat.reduceLT, Nat.reduceLeDiff, Nat.reduceAdd, Nat.reduceMul, reduceCtorEq, Tryz.f60, z, rt, rs, rl, bl, usesF, zAa, zAb, Int.reduceEq, Int.reduceLT, Int.reduceLE, Int.reduceToNat, Bool.not_true, Bool.not_false, hAt, hAs, est, era, erc, ep, ela]
 have dla := decide_eq_true hAla
 have ela : ((0 : Int) < (lab.length : Int)) = False := eq_false (by omega)
 by_cases hAc : c = 0
 rotate_left
 · have r : unuF ⟨7, (t1, t2), (s1, s2), lv, st, ra, rc, pts, lab, c, lf⟩ = false := by
     have d := decide_eq_false hAc
     unfold unuF restM bareF
     simp only [Int.reduceEq, or_self, or_false, or_true, if_true, if_false, nzP00, nz00, d, Bool.false_and, Bool.and_false, Bool.true_and, List.length_nil, Int.natCast_zero, Int.ofNat_zero, hAt, hAs, dst, dra, drc, dp, dla]
   have ec : (c = 0) = False := eq_false hAc
   clear hAc
   rw [r]
   try simp -dsimp (maxSteps := 1000000) only [go_sem, List.forall_mem_nil, ↓reduceIte, Nat.reduceEqDiff, Nat.reduceLT, Nat.reduceLeDiff, Nat.reduceAdd, Nat.reduceMul, reduceCtorEq, Tryz.f60, z, rt, rs, rl, bl, usesF, zAa, zAb, Int.reduceEq, Int.reduceLT, Int.reduceLE, Int.reduceToNat, Bool.not_true, Bool.not_false, hAt, hAs, est, era, erc, ep, ela, ec]
 have dc := decide_eq_true hAc
 have ec : (c = 0) = True := eq_true hAc
 by_cases hAf : lf = 0
 rotate_left
 · have r : unuF ⟨7, (t1, t2), (s1, s2), lv, st, ra, rc, pts, lab, c, lf⟩ = false := by
     have d := decide_eq_false hAf
     unfold unuF restM bareF
     simp only [Int.reduceEq, or_self, or_false, or_true, if_true, if_false, nzP00, nz00, d, Bool.false_and, Bool.and_false, Bool.true_and, List.length_nil, Int.natCast_zero, Int.ofNat_zero, hAt, hAs, dst, dra, drc, dp, dla, dc]
   have ef : (lf = 0) = False := eq_false hAf
   clear hAf
   rw [r]
   try simp -dsimp (maxSteps := 1000000) only [go_sem, List.forall_mem_nil, ↓reduceIte, Nat.reduceEqDiff, Nat.reduceLT, Nat.reduceLeDiff, Nat.reduceAdd, Nat.reduceMul, reduceCtorEq, Tryz.f60, z, rt, rs, rl, bl, usesF, zAa, zAb, Int.reduceEq, Int.reduceLT, Int.reduceLE, Int.reduceToNat, Bool.not_true, Bool.not_false, hAt, hAs, est, era, erc, ep, ela, ec, ef]
 have df := decide_eq_true hAf
 have ef : (lf = 0) = True := eq_true hAf
 have r : unuF ⟨7, (t1, t2), (s1, s2), lv, st, ra, rc, pts, lab, c, lf⟩ = true := by
   unfold unuF restM bareF
   simp only [Int.reduceEq, or_self, or_false, or_true, if_true, if_false, nzP00, nz00, Bool.and_self, Bool.true_and, List.length_nil, Int.natCast_zero, Int.ofNat_zero, decide_true, hAt, hAs, dst, dra, drc, dp, dla, dc, df]
 rw [r]
 try simp -dsimp (maxSteps := 1000000) only [go_sem, List.forall_mem_nil, ↓reduceIte, Nat.reduceEqDiff, Nat.reduceLT, Nat.reduceLeDiff, Nat.reduceAdd, Nat.reduceMul, reduceCtorEq, Tryz.f60, z, rt, rs, rl, bl, usesF, zAa, zAb, Int.reduceEq, Int.reduceLT, Int.reduceLE, Int.reduceToNat, Bool.not_true, Bool.not_false, hAt, hAs, est, era, erc, ep, ela, ec, ef]
end Go.SX
namespace Go.SX
open Go Go.Proofs Ieee
set_option maxRecDepth 100000 in
set_option maxHeartbeats 32000000 in
theorem law_un8 : Law Tryz.prog 60 (ct_un 8) := by
 refine zAk (zAc zCy (zAc zCd (zAc zAv zAf))) hmixA Tryz.func60 rfl rfl (fun ⟨⟨⟨k, ⟨t1, t2⟩, ⟨s1, s2⟩, lv, st, ra, rc, pts, lab, c, lf⟩, ok, w32, hkk⟩, hk⟩ => ⟨zAt rfl, by simp [Tryz.f60], ?_⟩)
 simp only [modC] at hk ⊢
 have rt := zAx w32.turn.1 w32.turn.2
 have rs := zAx w32.state.1 w32.state.2
 have rl := zAq w32.level
 have bl : ((⟨(fsT lv).toArray⟩ : ByteArray).toList == (⟨#[48]⟩ : ByteArray).toList) = nz lv := (zAj (fsT lv) [48]).trans (fs_nz w32.level)
 simp only at rt rs rl
 clear ok w32 hkk
 subst hk
 have z := zCx (k := 8) (by simp)
 cases hAt : nzP (t1, t2) with
 | false =>
   have r : unuF ⟨8, (t1, t2), (s1, s2), lv, st, ra, rc, pts, lab, c, lf⟩ = false := by simp [unuF, restM, bareF, nzP00, nz00, hAt]
   rw [r]
   try simp -dsimp (maxSteps := 1000000) only [go_sem, List.forall_mem_nil, ↓reduceIte, Nat.reduceEqDiff, Nat.reduceLT, Nat.reduceLeDiff, Nat.reduceAdd, Nat.reduceMul, reduceCtorEq, Tryz.f60, z, rt, rs, rl, bl, usesF, zAa, zAb, Int.reduceEq, Int.reduceLT, Int.reduceLE, Int.reduceToNat, Bool.not_true, Bool.not_false, hAt]
 | true =>
 cases hAl : nz lv with
 | false =>
   have r : unuF ⟨8, (t1, t2), (s1, s2), lv, st, ra, rc, pts, lab, c, lf⟩ = false := by simp [unuF, restM, bareF, nzP00, nz00, hAl, hAt]
   rw [r]
   try simp -dsimp (maxSteps := 1000000) only [go_sem, List.forall_mem_nil, ↓reduceIte, Nat.reduceEqDiff, Nat.reduceLT, Nat.reduceLeDiff, Nat.reduceAdd, Nat.reduceMul, reduceCtorEq, Tryz.f60, z, rt, rs, rl, bl, usesF, zAa, zAb, Int.reduceEq, Int.reduceLT, Int.reduceLE, Int.reduceToNat, Bool.not_true, Bool.not_false, hAt, hAl]
 | true =>
 by_cases hAst : (st.length : Int) = 0
 rotate_left
 · have r : unuF ⟨8, (t1, t2), (s1, s2), lv, st, ra, rc, pts, lab, c, lf⟩ = false := by
     have d := decide_eq_false hAst
     unfold unuF restM bareF
     simp only [Int.reduceEq, or_self, or_false, or_true, if_true, if_false, nzP00, nz00, d, Bool.false_and, Bool.and_false, Bool.true_and, List.length_nil, Int.natCast_zero, Int.ofNat_zero, hAt, hAl]
   have est : ((0 : Int) < (st.length : Int)) = True := eq_true (by omega)
   clear hAst
   rw [r]
   try simp -dsimp (maxSteps := 1000000) only [go_sem, List.forall_mem_nil, ↓reduceIte, Nat.reduceEqDiff, Nat.reduceLT, Nat.reduceLeDiff, Nat.reduceAdd, Nat.reduceMul, reduceCtorEq, Tryz.f60, z, rt, rs, rl, bl, usesF, zAa, zAb, Int.reduceEq, Int.reduceLT, Int.reduceLE, Int.reduceToNat, Bool.not_true, Bool.not_false, hAt, hAl, est]
 have dst := decide_eq_true hAst
 have est : ((0 : Int) < (st.length : Int)) = False := eq_false (by omega)
 by_cases hAra : ra = 0
 rotate_left
 · have r : unuF ⟨8, (t1, t2), (s1, s2), lv, st, ra, rc, pts, lab, c, lf⟩ = false := by
     have d := decide_eq_false hAra
     unfold unuF restM bareF
     simp only [Int.reduceEq, or_self, or_false, or_true, if_true, if_false, nzP00, nz00, d, Bool.false_and, Bool.and_false, Bool.true_and, List.length_nil, Int.natCast_zero, Int.ofNat_zero, hAt, hAl, dst]
   have era : (ra = 0) = False := eq_false hAra
   clear hAra
   rw [r]
   try simp -dsimp (maxSteps := 1000000) only [go_sem, List.forall_mem_nil, ↓reduceIte, Nat.reduceEqDiff, Nat.reduceLT, Nat.reduceLeDiff, Nat.reduceAdd, Nat.reduceMul, reduceCtorEq, Tryz.f60, z, rt, rs, rl, bl, usesF, zAa, zAb, Int.reduceEq, Int.reduceLT, Int.reduceLE, Int.reduceToNat, Bool.not_true, Bool.not_false, hAt, hAl, est, era]
 have dra := decide_eq_true hAra
 have era : (ra = 0) = True := eq_true hAra
 by_cases hArc : rc = 0
 rotate_left
 · have r : unuF ⟨8, (t1, t2), (s1, s2), lv, st, ra, rc, pts, lab, c, lf⟩ = false := by
     have d := decide_eq_false hArc
     unfold unuF restM bareF
     simp only [Int.reduceEq, or_self, or_false, or_true, if_true, if_false, nzP00, nz00, d, Bool.false_and, Bool.and_false, Bool.true_and, List.length_nil, Int.natCast_zero, Int.ofNat_zero, hAt, hAl, dst, dra]
   have erc : (rc = 0) = False := eq_false hArc
   clear hArc
   rw [r]
   try simp -dsimp (maxSteps := 1000000) only [go_sem, List.forall_mem_nil, ↓reduceIte, Nat.reduceEqDiff, Nat.reduceLT, Nat.reduceLeDiff, Nat.reduceAdd, Nat.reduceMul, reduceCtorEq, Tryz.f60, z, rt, rs, rl, bl, usesF, zAa, zAb, Int.reduceEq, Int.reduceLT, Int.reduceLE, Int.reduceToNat, Bool.not_true, Bool.not_false, hAt, hAl, est, era, erc]
 have drc := decide_eq_true hArc
 have erc : (rc = 0) = True := eq_true hArc
 by_cases hAp : (pts.length : Int) = 0
 rotate_left
 · have r : unuF ⟨8, (t1, t2), (s1, s2), lv, st, ra, rc, pts, lab, c, lf⟩ = false := by
     have d := decide_eq_false hAp
     unfold unuF restM bareF
     simp only [Int.reduceEq, or_self, or_false, or_true, if_true, if_false, nzP00, nz00, d, Bool.false_and, Bool.and_false, Bool.true_and, List.length_nil, Int.natCast_zero, Int.ofNat_zero, hAt, hAl, dst, dra, drc]
   have ep : ((0 : Int) < (pts.length : Int)) = True := eq_true (by omega)
   clear hAp
   rw [r]
   try simp -dsimp (maxSteps := 1000000) only [go_sem, List.forall_mem_nil, ↓reduceIte, Nat.reduceEqDiff, Nat.reduceLT, Nat.reduceLeDiff, Nat.reduceAdd, Nat.reduceMul, reduceCtorEq, Tryz.f60, z, rt, rs, rl, bl, usesF, zAa, zAb, Int.reduceEq, Int.reduceLT, Int.reduceLE, Int.reduceToNat, Bool.not_true, Bool.not_false, hAt, hAl, est, era, erc, ep]
 have dp := decide_eq_true hAp
 have ep : ((0 : Int) < (pts.length : Int)) = False := eq_false (by omega)
 by_cases hAla : (lab.length : Int) = 0
 rotate_left
 · have r : unuF ⟨8, (t1, t2), (s1, s2), lv, st, ra, rc, pts, lab, c, lf⟩ = false := by
     have d := decide_eq_false hAla
     unfold unuF restM bareF
     simp only [Int.reduceEq, or_self, or_false, or_true, if_true, if_false, nzP00, nz00, d, Bool.false_and, Bool.and_false, Bool.true_and, List.length_nil, Int.natCast_zero, Int.ofNat_zero, hAt, hAl, dst, dra, drc, dp]
   have ela : ((0 : Int) < (lab.length : Int)) = True := eq_true (by omega)
   clear hAla
   rw [r]
   try simp -dsimp (maxSteps := 1000000) only [go_sem, List.forall_mem_nil, ↓reduceIte, Nat.reduceEqDiff, Nat.reduceLT, Nat.reduceLeDiff, Nat.reduceAdd, Nat.reduceMul, reduceCtorEq, Tryz.f60, z, rt, rs, rl, bl, usesF, zAa, zAb, Int.reduceEq, Int.reduceLT, Int.reduceLE, Int.reduceToNat, Bool.not_true, Bool.not_false, hAt, hAl, est, era, erc, ep, ela]
 have dla := decide_eq_true hAla
 have ela : ((0 : Int) < (lab.length : Int)) = False := eq_false (by omega)
 have r : unuF ⟨8, (t1, t2), (s1, s2), lv, st, ra, rc, pts, lab, c, lf⟩ = true := by
   unfold unuF restM bareF
   simp only [Int.reduceEq, or_self, or_false, or_true, if_true, if_false, nzP00, nz00, Bool.and_self, Bool.true_and, List.length_nil, Int.natCast_zero, Int.ofNat_zero, decide_true, hAt, hAl, dst, dra, drc, dp, dla]
 rw [r]
 try simp -dsimp (maxSteps := 1000000) only [go_sem, List.forall_mem_nil, ↓reduceIte, Nat.reduceEqDiff, Nat.reduceLT, Nat.reduceLeDiff, Nat.reduceAdd, Nat.reduceMul, reduceCtorEq, Tryz.f60, z, rt, rs, rl, bl, usesF, zAa, zAb, Int.reduceEq, Int.reduceLT, Int.reduceLE, Int.reduceToNat, Bool.not_true, Bool.not_false, hAt, hAl, est, era, erc, ep, ela]
end Go.SX
namespace Go.SX
open Go Go.Proofs Ieee
theorem law_l5UnusedA : Law Tryz.prog 60 zGb := by
 refine law_cover law_un1 (fun ds hs o ho => ?_)
 obtain ⟨x, hx⟩ : ∃ x : AUn, ([D.agg (modC x.m)], ([] : List (List B))) = (ds, hs) := by
   apply Classical.byContradiction
   intro hn
   have : zGb.run ds hs = none := dif_neg hn
   rw [this] at ho; cases ho
 injection hx with e1 e2
 subst e1; subst e2
 rw [zHn x] at ho
 have key : (ct_un x.m.kind).run [D.agg (modC x.m)] [] = some o := by
   rw [← ho]
   exact zAd (args := fun y : { y : AUn // y.m.kind = x.m.kind } => ([D.agg (modC y.1.m)], [])) un_inj ⟨x, rfl⟩
 rcases x.k with h | h | h | h | h | h | h | h <;> rw [h] at key
 · exact ⟨_, law_un1, rfl, key⟩
 · exact ⟨_, law_un2, rfl, key⟩
 · exact ⟨_, law_un3, rfl, key⟩
 · exact ⟨_, law_un4, rfl, key⟩
 · exact ⟨_, law_un5, rfl, key⟩
 · exact ⟨_, law_un6, rfl, key⟩
 · exact ⟨_, law_un7, rfl, key⟩
 · exact ⟨_, law_un8, rfl, key⟩
structure AMo where
 m : Mod
 ok : OkM m
 w : W32 m
noncomputable def ct_sIsModuleA : Ct := fam true (fun x : AMo => ([.agg (modC x.m)], [])) (fun x => .one { val := .c (.im (.bool (isModuleF x.m))) })
theorem run_sIsModuleA (x : AMo) : ct_sIsModuleA.run [.agg (modC x.m)] [] = some (.one { val := .c (.im (.bool (isModuleF x.m))) }) := by
 refine zAd (args := fun x : AMo => ([D.agg (modC x.m)], [])) ?_ x
 rintro ⟨a, _, _⟩ ⟨b, _, _⟩ h
 simp only [Prod.mk.injEq, List.cons.injEq, D.agg.injEq, and_true] at h
 have := zEy h
 subst this; rfl
end Go.SX
namespace Go.SX
open Go Go.Proofs Ieee
theorem ord_eq0 {w : Nat} (hw : w < 4294967296) (h : single.order w 0 = some .eq) : w = 0 ∨ w = 2147483648 := by
 have e1 : single.binade = 8388608 := by decide
 have e2 : single.infRung = 2139095040 := by decide
 have e5 : single.signWeight = 2147483648 := by decide
 have hz : single.read 0 = .number false 0 (-149) := by decide
 apply Classical.byContradiction
 intro hn
 have h0 : 0 < w % 2147483648 := by omega
 cases hr : single.read w with
 | nan s t => unfold Format.order at h; rw [hr, hz] at h; cases h
 | infinity s => unfold Format.order at h; rw [hr, hz] at h; cases s <;> cases h
 | number s m e =>
   have hx : w % 2147483648 < 2139095040 := by
     unfold Format.read at hr
     simp only [e1, e2, e5] at hr
     split at hr
     · omega
     · split at hr
       · assumption
       · split at hr <;> cases hr
   have q := eql0_no h0 hx (decide (2147483648 ≤ w))
   rw [← word_of hw] at q
   have : (single.order w 0 == some .eq) = false := q
   rw [h] at this
   cases this
theorem meter_eq {w : Nat} (hw : w < 4294967296) : (fcmp .geq .f32 w 0 && !(decide (fsT w = [45, 48]))) = (nz w || fcmp .gtr .f32 w 0) := by
 rw [show decide (fsT w = [45, 48]) = decide (w = 2147483648) from by simp only [fsT_45 hw]]
 by_cases h0 : w = 0
 · subst h0; decide +kernel
 by_cases h1 : w = 2147483648
 · subst h1; decide +kernel
 have hz : nz w = false := by unfold nz; exact decide_eq_false (by omega)
 rw [hz, decide_eq_false h1]
 have hne : (single.order w 0 == some .eq) = false := by
   cases ho : single.order w 0 == some .eq with
   | false => rfl
   | true =>
     have := ord_eq0 hw (by simpa using ho)
     omega
 show ((single.order w 0 == some .gt || single.order w 0 == some .eq) && !false) = (false || (single.order w 0 == some .gt))
 rw [hne]; simp
set_option maxRecDepth 100000 in
set_option maxHeartbeats 16000000 in
theorem law_sIsModuleA : Law Tryz.prog 19 ct_sIsModuleA := by
 refine zAk (zAc law_l1In (zAc law_l5UnusedA (zAc law_sIsRingA (zAc law_sIsTable (zAc zAv zAf))))) hmixA Tryz.func19 rfl rfl (fun ⟨⟨k, ⟨t1, t2⟩, ⟨s1, s2⟩, lv, st, ra, rc, pts, lab, c, lf⟩, ok, w32⟩ => ⟨zAt rfl, by simp [Tryz.f19], ?_⟩)
 simp only [modC]
 obtain ⟨o1, o2, o3⟩ := ok
 by_cases hk : k = 1 ∨ k = 2 ∨ k = 3 ∨ k = 4 ∨ k = 5 ∨ k = 6 ∨ k = 7 ∨ k = 8
 rotate_left
 · have c1 : (decide ((1 : Int) ≤ k) && decide (k ≤ 8)) = false := by simp; omega
   have r : isModuleF ⟨k, (t1, t2), (s1, s2), lv, st, ra, rc, pts, lab, c, lf⟩ = false := by
     simp only [not_or] at hk
     simp [isModuleF, hk]
   clear hk
   rw [r]
   try simp -dsimp (maxSteps := 1000000) only [go_sem, List.forall_mem_nil, ↓reduceIte, Nat.reduceEqDiff, Nat.reduceLT, Nat.reduceLeDiff, Nat.reduceAdd, Nat.reduceMul, reduceCtorEq, Tryz.f19, zBe, c1, Bool.not_false]
 have c1 : (decide ((1 : Int) ≤ k) && decide (k ≤ 8)) = true := by simp; omega
 have hu := zHn ⟨⟨k, (t1, t2), (s1, s2), lv, st, ra, rc, pts, lab, c, lf⟩, ⟨o1, o2, o3⟩, w32, hk⟩
 have bl : ((⟨(fsT lv).toArray⟩ : ByteArray).toList == (⟨#[45, 48]⟩ : ByteArray).toList) = decide (fsT lv = [45, 48]) := zAj (fsT lv) [45, 48]
 have rl := zAq w32.level
 have hme := meter_eq w32.level
 have rr := run_sIsRingA ra rc o1 w32.store
 have rtb := zGx o2 o3
 simp only [modC] at hu rl hme rr rtb o1 o2 o3 bl
 cases hU : unuF ⟨k, (t1, t2), (s1, s2), lv, st, ra, rc, pts, lab, c, lf⟩ with
 | false =>
   have r : isModuleF ⟨k, (t1, t2), (s1, s2), lv, st, ra, rc, pts, lab, c, lf⟩ = false := by
     rcases hk with rfl | rfl | rfl | rfl | rfl | rfl | rfl | rfl <;> simp only [unuF, restM, Int.reduceEq, or_self, or_false, or_true, if_true, if_false] at hU <;> simp [isModuleF, hU]
   rw [r]
   rw [hU] at hu
   clear hk
   try simp -dsimp (maxSteps := 1000000) only [go_sem, List.forall_mem_nil, ↓reduceIte, Nat.reduceEqDiff, Nat.reduceLT, Nat.reduceLeDiff, Nat.reduceAdd, Nat.reduceMul, reduceCtorEq, Tryz.f19, zBe, c1, hu, Bool.not_false, Bool.not_true]
 | true =>
   rw [hU] at hu
   have key : ∀ K : Int, k = K → isModuleF ⟨k, (t1, t2), (s1, s2), lv, st, ra, rc, pts, lab, c, lf⟩ = (if K = 4 then isRingF st ra rc && decide (rc = (st.length : Int)) else if K = 6 then isTableF pts lab else if K = 7 then nz lv || fcmp .gtr .f32 lv 0 else if K = 8 then decide (1 ≤ c) && (decide (c ≤ 100) && (decide (0 ≤ lf) && decide (lf < c))) else true) := by
     rintro K rfl
     rcases hk with rfl | rfl | rfl | rfl | rfl | rfl | rfl | rfl <;> simp only [unuF, restM, Int.reduceEq, or_self, or_false, or_true, if_true, if_false] at hU <;> simp [isModuleF, hU]
   clear hU
   rcases hk with rfl | rfl | rfl | rfl | rfl | rfl | rfl | rfl
   · have key' := key 1 rfl
     simp only [Int.reduceEq, if_true, if_false] at key'
     rw [key']
     clear key key'
     try simp -dsimp (maxSteps := 1000000) only [go_sem, List.forall_mem_nil, ↓reduceIte, Nat.reduceEqDiff, Nat.reduceLT, Nat.reduceLeDiff, Nat.reduceAdd, Nat.reduceMul, reduceCtorEq, Tryz.f19, zBe, hu, Int.reduceEq, Int.reduceLE, decide_true, Bool.and_self, Bool.and_true, Bool.true_and, Bool.false_and, Bool.and_false, Bool.not_true, Bool.not_false, zAa]
   · have key' := key 2 rfl
     simp only [Int.reduceEq, if_true, if_false] at key'
     rw [key']
     clear key key'
     try simp -dsimp (maxSteps := 1000000) only [go_sem, List.forall_mem_nil, ↓reduceIte, Nat.reduceEqDiff, Nat.reduceLT, Nat.reduceLeDiff, Nat.reduceAdd, Nat.reduceMul, reduceCtorEq, Tryz.f19, zBe, hu, Int.reduceEq, Int.reduceLE, decide_true, Bool.and_self, Bool.and_true, Bool.true_and, Bool.false_and, Bool.and_false, Bool.not_true, Bool.not_false, zAa]
   · have key' := key 3 rfl
     simp only [Int.reduceEq, if_true, if_false] at key'
     rw [key']
     clear key key'
     try simp -dsimp (maxSteps := 1000000) only [go_sem, List.forall_mem_nil, ↓reduceIte, Nat.reduceEqDiff, Nat.reduceLT, Nat.reduceLeDiff, Nat.reduceAdd, Nat.reduceMul, reduceCtorEq, Tryz.f19, zBe, hu, Int.reduceEq, Int.reduceLE, decide_true, Bool.and_self, Bool.and_true, Bool.true_and, Bool.false_and, Bool.and_false, Bool.not_true, Bool.not_false, zAa]
   · have key' := key 4 rfl
     simp only [Int.reduceEq, if_true, if_false] at key'
     rw [key']
     clear key key'
     cases hR : isRingF st ra rc with
     | false =>
       rw [hR] at rr
       try simp -dsimp (maxSteps := 1000000) only [go_sem, List.forall_mem_nil, ↓reduceIte, Nat.reduceEqDiff, Nat.reduceLT, Nat.reduceLeDiff, Nat.reduceAdd, Nat.reduceMul, reduceCtorEq, Tryz.f19, zBe, hu, Int.reduceEq, Int.reduceLE, decide_true, Bool.and_self, Bool.and_true, Bool.true_and, Bool.false_and, Bool.and_false, Bool.not_true, Bool.not_false, zAa, rr]
     | true =>
       rw [hR] at rr
       by_cases hc : rc = (st.length : Int)
       · have e := eq_true hc
         rw [decide_eq_true hc]
         clear hc
         try simp -dsimp (maxSteps := 1000000) only [go_sem, List.forall_mem_nil, ↓reduceIte, Nat.reduceEqDiff, Nat.reduceLT, Nat.reduceLeDiff, Nat.reduceAdd, Nat.reduceMul, reduceCtorEq, Tryz.f19, zBe, hu, Int.reduceEq, Int.reduceLE, decide_true, Bool.and_self, Bool.and_true, Bool.true_and, Bool.false_and, Bool.and_false, Bool.not_true, Bool.not_false, zAa, rr, e]
       · have e := eq_false hc
         rw [decide_eq_false hc]
         clear hc
         try simp -dsimp (maxSteps := 1000000) only [go_sem, List.forall_mem_nil, ↓reduceIte, Nat.reduceEqDiff, Nat.reduceLT, Nat.reduceLeDiff, Nat.reduceAdd, Nat.reduceMul, reduceCtorEq, Tryz.f19, zBe, hu, Int.reduceEq, Int.reduceLE, decide_true, Bool.and_self, Bool.and_true, Bool.true_and, Bool.false_and, Bool.and_false, Bool.not_true, Bool.not_false, zAa, rr, e]
   · have key' := key 5 rfl
     simp only [Int.reduceEq, if_true, if_false] at key'
     rw [key']
     clear key key'
     try simp -dsimp (maxSteps := 1000000) only [go_sem, List.forall_mem_nil, ↓reduceIte, Nat.reduceEqDiff, Nat.reduceLT, Nat.reduceLeDiff, Nat.reduceAdd, Nat.reduceMul, reduceCtorEq, Tryz.f19, zBe, hu, Int.reduceEq, Int.reduceLE, decide_true, Bool.and_self, Bool.and_true, Bool.true_and, Bool.false_and, Bool.and_false, Bool.not_true, Bool.not_false, zAa]
   · have key' := key 6 rfl
     simp only [Int.reduceEq, if_true, if_false] at key'
     rw [key']
     clear key key'
     try simp -dsimp (maxSteps := 1000000) only [go_sem, List.forall_mem_nil, ↓reduceIte, Nat.reduceEqDiff, Nat.reduceLT, Nat.reduceLeDiff, Nat.reduceAdd, Nat.reduceMul, reduceCtorEq, Tryz.f19, zBe, hu, Int.reduceEq, Int.reduceLE, decide_true, Bool.and_self, Bool.and_true, Bool.true_and, Bool.false_and, Bool.and_false, Bool.not_true, Bool.not_false, zAa, rtb]
   · have key' := key 7 rfl
     simp only [Int.reduceEq, if_true, if_false] at key'
     rw [key']
     clear key key'
     rw [← hme]
     cases hg : fcmp .geq .f32 lv 0 with
     | false =>
       try simp -dsimp (maxSteps := 1000000) only [go_sem, List.forall_mem_nil, ↓reduceIte, Nat.reduceEqDiff, Nat.reduceLT, Nat.reduceLeDiff, Nat.reduceAdd, Nat.reduceMul, reduceCtorEq, Tryz.f19, zBe, hu, Int.reduceEq, Int.reduceLE, decide_true, Bool.and_self, Bool.and_true, Bool.true_and, Bool.false_and, Bool.and_false, Bool.not_true, Bool.not_false, zAa, hg]
     | true =>
       try simp -dsimp (maxSteps := 1000000) only [go_sem, List.forall_mem_nil, ↓reduceIte, Nat.reduceEqDiff, Nat.reduceLT, Nat.reduceLeDiff, Nat.reduceAdd, Nat.reduceMul, reduceCtorEq, Tryz.f19, zBe, hu, Int.reduceEq, Int.reduceLE, decide_true, Bool.and_self, Bool.and_true, Bool.true_and, Bool.false_and, Bool.and_false, Bool.not_true, Bool.not_false, zAa, hg, rl, bl]
   · have key' := key 8 rfl
     simp only [Int.reduceEq, if_true, if_false] at key'
     rw [key']
     clear key key'
     by_cases h1 : 1 ≤ c ∧ c ≤ 100
     · have c3 : (decide ((1 : Int) ≤ c) && decide (c ≤ 100)) = true := by simp; omega
       have w1 : IntKind.i64.wrap (c - 1) = c - 1 := zAh (by omega) (by omega)
       have e : (decide (1 ≤ c) && (decide (c ≤ 100) && (decide (0 ≤ lf) && decide (lf < c)))) = (decide ((0 : Int) ≤ lf) && decide (lf ≤ c - 1)) := by
         rw [decide_eq_true h1.1, decide_eq_true h1.2, Bool.true_and, Bool.true_and]
         congr 1
         exact decide_eq_decide.2 (by omega)
       rw [e]
       clear h1
       try simp -dsimp (maxSteps := 1000000) only [go_sem, List.forall_mem_nil, ↓reduceIte, Nat.reduceEqDiff, Nat.reduceLT, Nat.reduceLeDiff, Nat.reduceAdd, Nat.reduceMul, reduceCtorEq, Tryz.f19, zBe, hu, Int.reduceEq, Int.reduceLE, decide_true, Bool.and_self, Bool.and_true, Bool.true_and, Bool.false_and, Bool.and_false, Bool.not_true, Bool.not_false, zAa, c3, w1]
     · have c3 : (decide ((1 : Int) ≤ c) && decide (c ≤ 100)) = false := by simp; omega
       have e : (decide (1 ≤ c) && (decide (c ≤ 100) && (decide (0 ≤ lf) && decide (lf < c)))) = false := by rw [← Bool.and_assoc, c3]; rfl
       rw [e]
       clear h1
       try simp -dsimp (maxSteps := 1000000) only [go_sem, List.forall_mem_nil, ↓reduceIte, Nat.reduceEqDiff, Nat.reduceLT, Nat.reduceLeDiff, Nat.reduceAdd, Nat.reduceMul, reduceCtorEq, Tryz.f19, zBe, hu, Int.reduceEq, Int.reduceLE, decide_true, Bool.and_self, Bool.and_true, Bool.true_and, Bool.false_and, Bool.and_false, Bool.not_true, Bool.not_false, zAa, c3]
end Go.SX
namespace Go.SX
open Go Go.Proofs Ieee
abbrev I64n := { n : Int // i64B n }
noncomputable def ct_l8Int : Ct := fam true (fun x : I64n => ([.c (.im (.int .i64 x.1))], [])) (fun x => .one { val := .c (.im (.str ⟨(Lib.itoa x.1).toArray⟩)) })
theorem zFq {n : Int} (h : i64B n) : ct_l8Int.run [.c (.im (.int .i64 n))] [] = some (.one { val := .c (.im (.str ⟨(Lib.itoa n).toArray⟩)) }) := zAd (args := fun x : I64n => ([D.c (.im (.int .i64 x.1))], [])) (fun a b h => by simp at h; exact Subtype.ext h) (⟨n, h⟩ : I64n)
set_option maxRecDepth 100000 in
theorem law_l8Int : Law Tryz.prog 101 ct_l8Int := by
 refine zAk (zAc law_l1NumberI zAf) hmixA Tryz.func101 rfl rfl (fun ⟨n, hn⟩ => ⟨zAt rfl, by simp [Tryz.f101], ?_⟩)
 simp only
 have h1 := hn.1
 have h2 := hn.2
 by_cases hs : n < -9223372036854775807
 · have e : n = -9223372036854775808 := by omega
   subst e
   have c : ((-9223372036854775808 : Int) < -9223372036854775807) = True := eq_true (by omega)
   have ei : Lib.itoa (-9223372036854775808) = [45, 57, 50, 50, 51, 51, 55, 50, 48, 51, 54, 56, 53, 52, 55, 55, 53, 56, 48, 56] := by decide +kernel
   try simp -dsimp (maxSteps := 1000000) only [go_sem, List.forall_mem_nil, ↓reduceIte, Nat.reduceEqDiff, Nat.reduceLT, Nat.reduceLeDiff, Nat.reduceAdd, Nat.reduceMul, reduceCtorEq, Tryz.f101, c, ei]
 · have c : (n < -9223372036854775807) = False := eq_false hs
   try simp -dsimp (maxSteps := 1000000) only [go_sem, List.forall_mem_nil, ↓reduceIte, Nat.reduceEqDiff, Nat.reduceLT, Nat.reduceLeDiff, Nat.reduceAdd, Nat.reduceMul, reduceCtorEq, Tryz.f101, c, zDd (n := n) ⟨by omega, h2⟩]
set_option maxRecDepth 100000 in
theorem law_l8Single : Law Tryz.prog 100 zFd := by
 refine zAk (zAc zFx (zAc zAv zAf)) hmixA Tryz.func100 rfl rfl (fun ⟨w, hw⟩ => ⟨zAt rfl, by simp [Tryz.f100], ?_⟩)
 simp only
 have f := finS_eq w
 by_cases h1 : 2139095040 < w % 2147483648
 · have hT : sglT w = nanT := by unfold sglT; rw [if_pos h1]
   have hn := neq_nan h1
   rw [hT, nanT]
   try simp -dsimp (maxSteps := 1000000) only [go_sem, List.forall_mem_nil, ↓reduceIte, Nat.reduceEqDiff, Nat.reduceLT, Nat.reduceLeDiff, Nat.reduceAdd, Nat.reduceMul, reduceCtorEq, Tryz.f100, hn]
 have hn := neq_num h1
 by_cases h2 : w % 2147483648 = 2139095040
 · have hf : isFin w = false := by simp only [isFin, decide_eq_false_iff_not]; omega
   rw [hf] at f
   by_cases h3 : 2147483648 ≤ w
   · have : w = 4286578688 := by omega
     subst this
     have hT : sglT 4286578688 = ninfT := by decide
     have g : fcmp .gtr .f32 4286578688 0 = false := by decide +kernel
     generalize (4286578688 : Nat) = w at *
     rw [hT, ninfT]
     try simp -dsimp (maxSteps := 1000000) only [go_sem, List.forall_mem_nil, ↓reduceIte, Nat.reduceEqDiff, Nat.reduceLT, Nat.reduceLeDiff, Nat.reduceAdd, Nat.reduceMul, reduceCtorEq, Tryz.f100, hn, zBp, f, g]
   · have : w = 2139095040 := by omega
     subst this
     have hT : sglT 2139095040 = infT := by decide
     have g : fcmp .gtr .f32 2139095040 0 = true := by decide +kernel
     generalize (2139095040 : Nat) = w at *
     rw [hT, infT]
     try simp -dsimp (maxSteps := 1000000) only [go_sem, List.forall_mem_nil, ↓reduceIte, Nat.reduceEqDiff, Nat.reduceLT, Nat.reduceLeDiff, Nat.reduceAdd, Nat.reduceMul, reduceCtorEq, Tryz.f100, hn, zBp, f, g]
 · have hf : isFin w = true := by simp only [isFin, decide_eq_true_eq]; omega
   rw [hf] at f
   have hT : sglT w = fsT w := by unfold sglT fsT; rw [if_neg h1, if_neg h2, if_pos hf]
   rw [hT]
   try simp -dsimp (maxSteps := 1000000) only [go_sem, List.forall_mem_nil, ↓reduceIte, Nat.reduceEqDiff, Nat.reduceLT, Nat.reduceLeDiff, Nat.reduceAdd, Nat.reduceMul, reduceCtorEq, Tryz.f100, hn, zBp, f, zAq hw]
set_option maxRecDepth 100000 in
theorem law_l8Point : Law Tryz.prog 99 zGa := by
 refine zAk (zAc law_l8Single zAf) hmixA Tryz.func99 rfl rfl (fun ⟨⟨u, v⟩, h1, h2⟩ => ⟨zAt rfl, by simp [Tryz.f99], ?_⟩)
 simp only [ptT]
 have r1 := zBo h1
 have r2 := zBo h2
 have la := zCt h1
 have lb := zCt h2
 simp only at la lb r1 r2
 generalize sglT u = A at *
 generalize sglT v = B at *
 have q5 : (A.length + 1 ≤ 4611686018427387904) = True := eq_true (by omega)
 have q6 : (A.length + 1 + B.length ≤ 4611686018427387904) = True := eq_true (by omega)
 have e : A ++ [32] ++ B = A ++ 32 :: B := by simp
 try simp -dsimp (maxSteps := 1000000) only [go_sem, List.forall_mem_nil, ↓reduceIte, Nat.reduceEqDiff, Nat.reduceLT, Nat.reduceLeDiff, Nat.reduceAdd, Nat.reduceMul, reduceCtorEq, Tryz.f99, r1, r2, q5, q6, zBr, e, List.size_toArray, List.length_append]
end Go.SX
