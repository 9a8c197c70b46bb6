/-
  spec.l8ReadSingle, l8ReadInt.
  impl.ParseModule.
  spec.l8Points: points, each of so many words.
  spec.l8Slicer.
  No condition.
-/
import Derived.Test.YtfmpjhjnpeheeaaGreatDoorPkI
set_option linter.unusedVariables false
set_option linter.unusedSimpArgs false
namespace Go.SX
open Go Go.Proofs Ieee
set_option maxRecDepth 100000 in
set_option maxHeartbeats 4000000 in
theorem zFj : Law Tryz.prog 96 zHd := by
 refine zAk (zAc law_sParseSingle zAf) hmixA Tryz.func96 rfl rfl (fun ⟨s, hs⟩ => ⟨okO_sg s, by simp [Tryz.f96], ?_⟩)
 simp only [oSg] at hs ⊢
 have f1 : fop .quo .f32 0 0 = qn .f32 := by decide +kernel
 have f2 : fop .quo .f32 1065353216 0 = 2139095040 := by decide +kernel
 have f3 : fop .quo .f32 3212836864 0 = 4286578688 := by decide +kernel
 by_cases h1 : s = [110, 97, 110]
 · have ho : sglP s = (qn .f32, true) := by simp [sglP, h1, nanT]
   have h1 := eq_true h1
   rw [ho]
   generalize qn .f32 = Q at *
   try simp -dsimp (maxSteps := 1000000) only [go_sem, List.forall_mem_nil, ↓reduceIte, Nat.reduceEqDiff, Nat.reduceLT, Nat.reduceLeDiff, Nat.reduceAdd, Nat.reduceMul, reduceCtorEq, Tryz.f96, zAj, h1, f1]
 by_cases h2 : s = [105, 110, 102]
 · have ho : sglP s = (2139095040, true) := by simp [sglP, h2, nanT, infT]
   have h1 := eq_false h1
   have h2 := eq_true h2
   rw [ho]
   generalize (2139095040 : Nat) = X2 at *
   try simp -dsimp (maxSteps := 1000000) only [go_sem, List.forall_mem_nil, ↓reduceIte, Nat.reduceEqDiff, Nat.reduceLT, Nat.reduceLeDiff, Nat.reduceAdd, Nat.reduceMul, reduceCtorEq, Tryz.f96, zAj, h1, h2, f2]
 by_cases h3 : s = [45, 105, 110, 102]
 · have ho : sglP s = (4286578688, true) := by simp [sglP, h3, nanT, infT, ninfT]
   have h1 := eq_false h1
   have h2 := eq_false h2
   have h3 := eq_true h3
   rw [ho]
   generalize (4286578688 : Nat) = X2 at *
   try simp -dsimp (maxSteps := 1000000) only [go_sem, List.forall_mem_nil, ↓reduceIte, Nat.reduceEqDiff, Nat.reduceLT, Nat.reduceLeDiff, Nat.reduceAdd, Nat.reduceMul, reduceCtorEq, Tryz.f96, zAj, h1, h2, h3, f3]
 have ho : sglP s = prsO s := by unfold sglP prsO; rw [if_neg (show ¬ s = nanT from h1), if_neg (show ¬ s = infT from h2), if_neg (show ¬ s = ninfT from h3)]; cases prsT s <;> rfl
 have rp := zFt hs
 simp only [oPs] at rp
 rw [ho]
 have h1 := eq_false h1
 have h2 := eq_false h2
 have h3 := eq_false h3
 clear f1 f2 f3
 try simp -dsimp (maxSteps := 1000000) only [go_sem, List.forall_mem_nil, ↓reduceIte, Nat.reduceEqDiff, Nat.reduceLT, Nat.reduceLeDiff, Nat.reduceAdd, Nat.reduceMul, reduceCtorEq, Tryz.f96, zAj, h1, h2, h3, rp]
theorem riD_drop {s : Txt} {i : Nat} {b : UInt8} {n : Int} (h : s[i]? = some b) : riD (s.drop i) n = if (48 ≤ b.toNat ∧ b.toNat ≤ 57) ∧ n ≤ 922337203685477580 ∧ ¬ (n = 922337203685477580 ∧ 55 < b.toNat) then riD (s.drop (i + 1)) (10 * n + ((b.toNat : Int) - 48)) else none := by
 have hlt : i < s.length := (List.getElem?_eq_some_iff.1 h).1
 have hb : s[i] = b := by rw [List.getElem?_eq_getElem hlt] at h; injection h
 rw [List.drop_eq_getElem_cons hlt, hb]
 rfl
noncomputable def ct_l8ReadInt : Ct := fam true (fun x : SAl => ([.c (.im (.str ⟨x.1.toArray⟩))], [])) (fun x => .one (rIB (riF x.1)))
theorem zDw {s : Txt} (h : s.length ≤ 2097152) : ct_l8ReadInt.run [.c (.im (.str ⟨s.toArray⟩))] [] = some (.one (rIB (riF s))) :=
 zAd (args := fun x : SAl => ([D.c (.im (.str ⟨x.1.toArray⟩))], [])) SAl_inj ⟨s, h⟩
set_option maxRecDepth 100000 in
set_option maxHeartbeats 16000000 in
theorem law_l8ReadInt : Law Tryz.prog 74 ct_l8ReadInt := by
 refine zAk zAf hmixA Tryz.func74 rfl rfl (fun ⟨s, hs⟩ => ⟨okO okR_ib, by simp [Tryz.f74], ?_⟩)
 simp only at hs ⊢
 have hmt : (s = [45, 57, 50, 50, 51, 51, 55, 50, 48, 51, 54, 56, 53, 52, 55, 55, 53, 56, 48, 56]) = (s = minT) := rfl
 by_cases hm : s = minT
 · have hr : riF s = (-9223372036854775808, true) := by unfold riF; rw [if_pos hm]
   have h1 := eq_true hm
   rw [hr]
   simp only [rIB]
   try simp -dsimp (maxSteps := 1000000) only [go_sem, List.forall_mem_nil, ↓reduceIte, Nat.reduceEqDiff, Nat.reduceLT, Nat.reduceLeDiff, Nat.reduceAdd, Nat.reduceMul, reduceCtorEq, Tryz.f74, zAj, hmt, h1]
 have h1 := eq_false hm
 by_cases h45 : s[0]? = some 45
 · obtain ⟨t, rfl⟩ : ∃ t, s = 45 :: t := by
     cases s with
     | nil => simp at h45
     | cons a t => exact ⟨t, by simp at h45; rw [h45]⟩
   have hr : riF (45 :: t) = riT (-1) t := by unfold riF; rw [if_neg hm, if_pos h45]; rfl
   have i0 : (⟨((45 : UInt8) :: t).toArray⟩ : ByteArray)[0]? = some 45 := zDo rfl
   have e0 : (((45 : UInt8).toNat : Int) = 45) = True := eq_true rfl
   have hx : (⟨((45 : UInt8) :: t).toArray⟩ : ByteArray).extract 1 (t.length + 1) = ⟨t.toArray⟩ := by
     rw [zDp, List.take_of_length_le (by simp)]; rfl
   have K1 : ((0 : Int) < ((t.length + 1 : Nat) : Int)) = True := eq_true (by omega)
   have K2 : ((1 : Int) ≤ ((t.length + 1 : Nat) : Int)) = True := eq_true (by omega)
   have h45t : ((45 :: t : Txt) = minT) = False := h1
   have hq0 : (⟨((45 : UInt8) :: t).toArray⟩ : ByteArray).toList = (⟨((45 : UInt8) :: t).toArray⟩ : ByteArray).toList := rfl
   by_cases hbad : t.length < 1 ∨ 19 < t.length
   · have hq : riT (-1) t = (0, false) := by unfold riT; rw [if_pos hbad]
     rw [hr, hq]
     simp only [rIB]
     by_cases hz : t.length < 1
     · have L1 : ((t.length : Int) < 1) = True := eq_true (by omega)
       try simp -dsimp (maxSteps := 1000000) only [go_sem, List.forall_mem_nil, ↓reduceIte, Nat.reduceEqDiff, Nat.reduceLT, Nat.reduceLeDiff, Nat.reduceAdd, Nat.reduceMul, reduceCtorEq, Tryz.f74, zAj, hmt, h1, zAo, i0, e0, hx, K1, K2, Int.toNat_zero, Int.toNat_one, Int.reduceLE, Int.toNat_natCast, L1]
     · have L1 : ((t.length : Int) < 1) = False := eq_false (by omega)
       have L2 : ((19 : Int) < (t.length : Int)) = True := eq_true (by omega)
       try simp -dsimp (maxSteps := 1000000) only [go_sem, List.forall_mem_nil, ↓reduceIte, Nat.reduceEqDiff, Nat.reduceLT, Nat.reduceLeDiff, Nat.reduceAdd, Nat.reduceMul, reduceCtorEq, Tryz.f74, zAj, hmt, h1, zAo, i0, e0, hx, K1, K2, Int.toNat_zero, Int.toNat_one, Int.reduceLE, Int.toNat_natCast, L1, L2]
   have hq : riT (-1) t = match riD t 0 with | some n => ((-1) * n, true) | none => (0, false) := by unfold riT; rw [if_neg hbad]; cases riD t 0 <;> rfl
   have L1 : ((t.length : Int) < 1) = False := eq_false (by omega)
   have L2 : ((19 : Int) < (t.length : Int)) = False := eq_false (by omega)
   rw [hr, hq]
   try simp -dsimp (maxSteps := 1000000) only [go_sem, List.forall_mem_nil, ↓reduceIte, Nat.reduceEqDiff, Nat.reduceLT, Nat.reduceLeDiff, Nat.reduceAdd, Nat.reduceMul, reduceCtorEq, Tryz.f74, zAj, hmt, h1, zAo, i0, e0, hx, K1, K2, Int.toNat_zero, Int.toNat_one, Int.reduceLE, Int.toNat_natCast, L1, L2]
   refine zBc (ι := { x : Nat × Int // x.1 ≤ t.length ∧ riD t 0 = riD (t.drop x.1) x.2 ∧ 0 ≤ x.2 ∧ x.2 ≤ 9223372036854775807 }) (fun x => ⟨[(0, some (.c (.im (.str ⟨t.toArray⟩)))), (4, some (.c (.im (.int .i64 (-1))))), (5, some (.c (.im (.int .i64 x.1.2)))), (6, some (.c (.im (.int .i64 (x.1.1 : Int)))))], [], 0⟩) (fun x => t.length - x.1.1) ⟨(0, 0), by simp⟩ ⟨[], [], by ((simp only [go_sem, eq_self, MvRb, MvRn, MvRt, List.nodup_cons, List.nodup_nil, ↓reduceIte, Nat.reduceEqDiff, Nat.reduceLT, Nat.reduceLeDiff, reduceCtorEq, List.forall_mem_nil, Nat.zero_le, false_implies, List.mem_singleton]) <;> (try (simp -dsimp only [go_sem, eq_self, MvRb, MvRn, MvRt, List.nodup_cons, List.nodup_nil, ↓reduceIte, Nat.reduceEqDiff, Nat.reduceLT, Nat.reduceLeDiff, reduceCtorEq, List.forall_mem_nil, Nat.zero_le, false_implies, List.mem_singleton]))) <;> simp⟩ (fun ⟨⟨i, n⟩, hi, hinv, hn0, hn1⟩ => ?_)
   simp only at hi hinv hn0 hn1 ⊢
   by_cases hlt : i < t.length
   · obtain ⟨b, hb⟩ : ∃ b, t[i]? = some b := ⟨_, List.getElem?_eq_getElem hlt⟩
     have hrow := zDo hb
     have hI : ((i : Int) < (t.length : Int)) = True := eq_true (by omega)
     have h0 : (0 ≤ (i : Int)) = True := eq_true (by omega)
     have hb8 := b.toNat_lt
     have hd := riD_drop (n := n) hb
     have hw : IntKind.i64.wrap ((i : Int) + 1) = ((i + 1 : Nat) : Int) := by rw [zAh (by omega) (by omega)]; omega
     have w0 : IntKind.i64.wrap (b.toNat : Int) = (b.toNat : Int) := zAh (by omega) (by omega)
     have w1 : IntKind.i64.wrap ((b.toNat : Int) - 48) = (b.toNat : Int) - 48 := zAh (by omega) (by omega)
     by_cases g1 : b.toNat < 48
     · have g1' : ((b.toNat : Int) - 48 < 0) = True := eq_true (by omega)
       rw [if_neg (by omega)] at hd
       rw [hinv, hd]
       simp only [rIB]
       try simp -dsimp (maxSteps := 1000000) only [go_sem, List.forall_mem_nil, ↓reduceIte, Nat.reduceEqDiff, Nat.reduceLT, Nat.reduceLeDiff, Nat.reduceAdd, Nat.reduceMul, reduceCtorEq, Tryz.f74, zAo, hI, h0, hrow, w0, w1, g1', Int.toNat_natCast]
     have g1' : ((b.toNat : Int) - 48 < 0) = False := eq_false (by omega)
     by_cases g2 : 57 < b.toNat
     · have g2' : (9 < (b.toNat : Int) - 48) = True := eq_true (by omega)
       rw [if_neg (by omega)] at hd
       rw [hinv, hd]
       simp only [rIB]
       try simp -dsimp (maxSteps := 1000000) only [go_sem, List.forall_mem_nil, ↓reduceIte, Nat.reduceEqDiff, Nat.reduceLT, Nat.reduceLeDiff, Nat.reduceAdd, Nat.reduceMul, reduceCtorEq, Tryz.f74, zAo, hI, h0, hrow, w0, w1, g1', g2', Int.toNat_natCast]
     have g2' : (9 < (b.toNat : Int) - 48) = False := eq_false (by omega)
     by_cases g3 : 922337203685477580 < n
     · have g3' := eq_true g3
       rw [if_neg (by omega)] at hd
       rw [hinv, hd]
       simp only [rIB]
       try simp -dsimp (maxSteps := 1000000) only [go_sem, List.forall_mem_nil, ↓reduceIte, Nat.reduceEqDiff, Nat.reduceLT, Nat.reduceLeDiff, Nat.reduceAdd, Nat.reduceMul, reduceCtorEq, Tryz.f74, zAo, hI, h0, hrow, w0, w1, g1', g2', g3', Int.toNat_natCast]
     have g3' := eq_false g3
     by_cases g4 : n = 922337203685477580
     · have g4' := eq_true g4
       by_cases g5 : 55 < b.toNat
       · have g5' : (7 < (b.toNat : Int) - 48) = True := eq_true (by omega)
         rw [if_neg (by omega)] at hd
         rw [hinv, hd]
         simp only [rIB]
         try simp -dsimp (maxSteps := 1000000) only [go_sem, List.forall_mem_nil, ↓reduceIte, Nat.reduceEqDiff, Nat.reduceLT, Nat.reduceLeDiff, Nat.reduceAdd, Nat.reduceMul, reduceCtorEq, Tryz.f74, zAo, hI, h0, hrow, w0, w1, g1', g2', g3', g4', g5', Int.toNat_natCast]
       have g5' : (7 < (b.toNat : Int) - 48) = False := eq_false (by omega)
       rw [if_pos (by omega)] at hd
       have w3 : IntKind.i64.wrap (10 * n) = 10 * n := zAh (by omega) (by omega)
       have w4 : IntKind.i64.wrap (10 * n + ((b.toNat : Int) - 48)) = 10 * n + ((b.toNat : Int) - 48) := zAh (by omega) (by omega)
       try simp -dsimp (maxSteps := 1000000) only [go_sem, List.forall_mem_nil, ↓reduceIte, Nat.reduceEqDiff, Nat.reduceLT, Nat.reduceLeDiff, Nat.reduceAdd, Nat.reduceMul, reduceCtorEq, Tryz.f74, zAo, hI, h0, hrow, w0, w1, g1', g2', g3', g4', g5', hw, w3, w4, Int.toNat_natCast]
       exact ⟨⟨(i + 1, 10 * n + ((b.toNat : Int) - 48)), by simp only []; omega, by rw [hinv, hd], by simp only []; omega, by simp only []; omega⟩, by simp only []; omega, [], [], by (simp only [go_sem, eq_self, MvRb, MvRn, MvRt, List.nodup_cons, List.nodup_nil, ↓reduceIte, Nat.reduceEqDiff, Nat.reduceLT, Nat.reduceLeDiff, reduceCtorEq, List.forall_mem_nil, Nat.zero_le, false_implies, List.mem_singleton]) <;> simp⟩
     have g4' := eq_false g4
     rw [if_pos (by omega)] at hd
     have w3 : IntKind.i64.wrap (10 * n) = 10 * n := zAh (by omega) (by omega)
     have w4 : IntKind.i64.wrap (10 * n + ((b.toNat : Int) - 48)) = 10 * n + ((b.toNat : Int) - 48) := zAh (by omega) (by omega)
     try simp -dsimp (maxSteps := 1000000) only [go_sem, List.forall_mem_nil, ↓reduceIte, Nat.reduceEqDiff, Nat.reduceLT, Nat.reduceLeDiff, Nat.reduceAdd, Nat.reduceMul, reduceCtorEq, Tryz.f74, zAo, hI, h0, hrow, w0, w1, g1', g2', g3', g4', hw, w3, w4, Int.toNat_natCast]
     exact ⟨⟨(i + 1, 10 * n + ((b.toNat : Int) - 48)), by simp only []; omega, by rw [hinv, hd], by simp only []; omega, by simp only []; omega⟩, by simp only []; omega, [], [], by (simp only [go_sem, eq_self, MvRb, MvRn, MvRt, List.nodup_cons, List.nodup_nil, ↓reduceIte, Nat.reduceEqDiff, Nat.reduceLT, Nat.reduceLeDiff, reduceCtorEq, List.forall_mem_nil, Nat.zero_le, false_implies, List.mem_singleton]) <;> simp⟩
   have hI : ((i : Int) < (t.length : Int)) = False := eq_false (by omega)
   have hie : i = t.length := by omega
   subst hie
   have hrr : riD t 0 = some n := by rw [hinv, List.drop_length]; rfl
   rw [hrr]
   have w5 : IntKind.i64.wrap ((-1) * n) = (-1) * n := zAh (by omega) (by omega)
   simp only [rIB]
   try simp -dsimp (maxSteps := 1000000) only [go_sem, List.forall_mem_nil, ↓reduceIte, Nat.reduceEqDiff, Nat.reduceLT, Nat.reduceLeDiff, Nat.reduceAdd, Nat.reduceMul, reduceCtorEq, Tryz.f74, zAo, hI, w5]
 have hr : riF s = riT 1 s := by unfold riF; rw [if_neg hm, if_neg h45]
 cases s with
 | nil =>
   have c0 : ((0 : Nat) : Int) = 0 := rfl
   rw [hr]
   have hq : riT 1 [] = (0, false) := rfl
   rw [hq]
   simp only [rIB]
   try simp -dsimp (maxSteps := 1000000) only [go_sem, List.forall_mem_nil, ↓reduceIte, Nat.reduceEqDiff, Nat.reduceLT, Nat.reduceLeDiff, Nat.reduceAdd, Nat.reduceMul, reduceCtorEq, Tryz.f74, zAj, h1, hmt, zAo, c0, Int.reduceLT]
 | cons b0 t0 =>
   have i0 : (⟨(b0 :: t0).toArray⟩ : ByteArray)[0]? = some b0 := zDo rfl
   have hb0 : ¬ b0 = 45 := fun e => h45 (by rw [e]; rfl)
   have e0 : ((b0.toNat : Int) = 45) = False := eq_false (fun e => hb0 (UInt8.toNat_inj.1 (Int.ofNat_inj.1 e)))
   generalize hs' : b0 :: t0 = s at *
   have hls : s.length = t0.length + 1 := by rw [← hs']; rfl
   have K1 : ((0 : Int) < (s.length : Int)) = True := eq_true (by omega)
   by_cases hbad : s.length < 1 ∨ 19 < s.length
   · have hq : riT (1) s = (0, false) := by unfold riT; rw [if_pos hbad]
     rw [hr, hq]
     simp only [rIB]
     by_cases hz : s.length < 1
     · have L1 : ((s.length : Int) < 1) = True := eq_true (by omega)
       try simp -dsimp (maxSteps := 1000000) only [go_sem, List.forall_mem_nil, ↓reduceIte, Nat.reduceEqDiff, Nat.reduceLT, Nat.reduceLeDiff, Nat.reduceAdd, Nat.reduceMul, reduceCtorEq, Tryz.f74, zAj, hmt, h1, zAo, i0, e0, K1, Int.toNat_zero, Int.toNat_one, Int.reduceLE, Int.toNat_natCast, L1]
     · have L1 : ((s.length : Int) < 1) = False := eq_false (by omega)
       have L2 : ((19 : Int) < (s.length : Int)) = True := eq_true (by omega)
       try simp -dsimp (maxSteps := 1000000) only [go_sem, List.forall_mem_nil, ↓reduceIte, Nat.reduceEqDiff, Nat.reduceLT, Nat.reduceLeDiff, Nat.reduceAdd, Nat.reduceMul, reduceCtorEq, Tryz.f74, zAj, hmt, h1, zAo, i0, e0, K1, Int.toNat_zero, Int.toNat_one, Int.reduceLE, Int.toNat_natCast, L1, L2]
   have hq : riT (1) s = match riD s 0 with | some n => ((1) * n, true) | none => (0, false) := by unfold riT; rw [if_neg hbad]; cases riD s 0 <;> rfl
   have L1 : ((s.length : Int) < 1) = False := eq_false (by omega)
   have L2 : ((19 : Int) < (s.length : Int)) = False := eq_false (by omega)
   rw [hr, hq]
   try simp -dsimp (maxSteps := 1000000) only [go_sem, List.forall_mem_nil, ↓reduceIte, Nat.reduceEqDiff, Nat.reduceLT, Nat.reduceLeDiff, Nat.reduceAdd, Nat.reduceMul, reduceCtorEq, Tryz.f74, zAj, hmt, h1, zAo, i0, e0, K1, Int.toNat_zero, Int.toNat_one, Int.reduceLE, Int.toNat_natCast, L1, L2]
   refine zBc (ι := { x : Nat × Int // x.1 ≤ s.length ∧ riD s 0 = riD (s.drop x.1) x.2 ∧ 0 ≤ x.2 ∧ x.2 ≤ 9223372036854775807 }) (fun x => ⟨[(0, some (.c (.im (.str ⟨s.toArray⟩)))), (4, some (.c (.im (.int .i64 (1))))), (5, some (.c (.im (.int .i64 x.1.2)))), (6, some (.c (.im (.int .i64 (x.1.1 : Int)))))], [], 0⟩) (fun x => s.length - x.1.1) ⟨(0, 0), by simp⟩ ⟨[], [], by ((simp only [go_sem, eq_self, MvRb, MvRn, MvRt, List.nodup_cons, List.nodup_nil, ↓reduceIte, Nat.reduceEqDiff, Nat.reduceLT, Nat.reduceLeDiff, reduceCtorEq, List.forall_mem_nil, Nat.zero_le, false_implies, List.mem_singleton]) <;> (try (simp -dsimp only [go_sem, eq_self, MvRb, MvRn, MvRt, List.nodup_cons, List.nodup_nil, ↓reduceIte, Nat.reduceEqDiff, Nat.reduceLT, Nat.reduceLeDiff, reduceCtorEq, List.forall_mem_nil, Nat.zero_le, false_implies, List.mem_singleton]))) <;> simp⟩ (fun ⟨⟨i, n⟩, hi, hinv, hn0, hn1⟩ => ?_)
   simp only at hi hinv hn0 hn1 ⊢
   by_cases hlt : i < s.length
   · obtain ⟨b, hb⟩ : ∃ b, s[i]? = some b := ⟨_, List.getElem?_eq_getElem hlt⟩
     have hrow := zDo hb
     have hI : ((i : Int) < (s.length : Int)) = True := eq_true (by omega)
     have h0 : (0 ≤ (i : Int)) = True := eq_true (by omega)
     have hb8 := b.toNat_lt
     have hd := riD_drop (n := n) hb
     have hw : IntKind.i64.wrap ((i : Int) + 1) = ((i + 1 : Nat) : Int) := by rw [zAh (by omega) (by omega)]; omega
     have w0 : IntKind.i64.wrap (b.toNat : Int) = (b.toNat : Int) := zAh (by omega) (by omega)
     have w1 : IntKind.i64.wrap ((b.toNat : Int) - 48) = (b.toNat : Int) - 48 := zAh (by omega) (by omega)
     by_cases g1 : b.toNat < 48
     · have g1' : ((b.toNat : Int) - 48 < 0) = True := eq_true (by omega)
       rw [if_neg (by omega)] at hd
       rw [hinv, hd]
       simp only [rIB]
       try simp -dsimp (maxSteps := 1000000) only [go_sem, List.forall_mem_nil, ↓reduceIte, Nat.reduceEqDiff, Nat.reduceLT, Nat.reduceLeDiff, Nat.reduceAdd, Nat.reduceMul, reduceCtorEq, Tryz.f74, zAo, hI, h0, hrow, w0, w1, g1', Int.toNat_natCast]
     have g1' : ((b.toNat : Int) - 48 < 0) = False := eq_false (by omega)
     by_cases g2 : 57 < b.toNat
     · have g2' : (9 < (b.toNat : Int) - 48) = True := eq_true (by omega)
       rw [if_neg (by omega)] at hd
       rw [hinv, hd]
       simp only [rIB]
       try simp -dsimp (maxSteps := 1000000) only [go_sem, List.forall_mem_nil, ↓reduceIte, Nat.reduceEqDiff, Nat.reduceLT, Nat.reduceLeDiff, Nat.reduceAdd, Nat.reduceMul, reduceCtorEq, Tryz.f74, zAo, hI, h0, hrow, w0, w1, g1', g2', Int.toNat_natCast]
     have g2' : (9 < (b.toNat : Int) - 48) = False := eq_false (by omega)
     by_cases g3 : 922337203685477580 < n
     · have g3' := eq_true g3
       rw [if_neg (by omega)] at hd
       rw [hinv, hd]
       simp only [rIB]
       try simp -dsimp (maxSteps := 1000000) only [go_sem, List.forall_mem_nil, ↓reduceIte, Nat.reduceEqDiff, Nat.reduceLT, Nat.reduceLeDiff, Nat.reduceAdd, Nat.reduceMul, reduceCtorEq, Tryz.f74, zAo, hI, h0, hrow, w0, w1, g1', g2', g3', Int.toNat_natCast]
     have g3' := eq_false g3
     by_cases g4 : n = 922337203685477580
     · have g4' := eq_true g4
       by_cases g5 : 55 < b.toNat
       · have g5' : (7 < (b.toNat : Int) - 48) = True := eq_true (by omega)
         rw [if_neg (by omega)] at hd
         rw [hinv, hd]
         simp only [rIB]
         try simp -dsimp (maxSteps := 1000000) only [go_sem, List.forall_mem_nil, ↓reduceIte, Nat.reduceEqDiff, Nat.reduceLT, Nat.reduceLeDiff, Nat.reduceAdd, Nat.reduceMul, reduceCtorEq, Tryz.f74, zAo, hI, h0, hrow, w0, w1, g1', g2', g3', g4', g5', Int.toNat_natCast]
       have g5' : (7 < (b.toNat : Int) - 48) = False := eq_false (by omega)
       rw [if_pos (by omega)] at hd
       have w3 : IntKind.i64.wrap (10 * n) = 10 * n := zAh (by omega) (by omega)
       have w4 : IntKind.i64.wrap (10 * n + ((b.toNat : Int) - 48)) = 10 * n + ((b.toNat : Int) - 48) := zAh (by omega) (by omega)
       try simp -dsimp (maxSteps := 1000000) only [go_sem, List.forall_mem_nil, ↓reduceIte, Nat.reduceEqDiff, Nat.reduceLT, Nat.reduceLeDiff, Nat.reduceAdd, Nat.reduceMul, reduceCtorEq, Tryz.f74, zAo, hI, h0, hrow, w0, w1, g1', g2', g3', g4', g5', hw, w3, w4, Int.toNat_natCast]
       exact ⟨⟨(i + 1, 10 * n + ((b.toNat : Int) - 48)), by simp only []; omega, by rw [hinv, hd], by simp only []; omega, by simp only []; omega⟩, by simp only []; omega, [], [], by (simp only [go_sem, eq_self, MvRb, MvRn, MvRt, List.nodup_cons, List.nodup_nil, ↓reduceIte, Nat.reduceEqDiff, Nat.reduceLT, Nat.reduceLeDiff, reduceCtorEq, List.forall_mem_nil, Nat.zero_le, false_implies, List.mem_singleton]) <;> simp⟩
     have g4' := eq_false g4
     rw [if_pos (by omega)] at hd
     have w3 : IntKind.i64.wrap (10 * n) = 10 * n := zAh (by omega) (by omega)
     have w4 : IntKind.i64.wrap (10 * n + ((b.toNat : Int) - 48)) = 10 * n + ((b.toNat : Int) - 48) := zAh (by omega) (by omega)
     try simp -dsimp (maxSteps := 1000000) only [go_sem, List.forall_mem_nil, ↓reduceIte, Nat.reduceEqDiff, Nat.reduceLT, Nat.reduceLeDiff, Nat.reduceAdd, Nat.reduceMul, reduceCtorEq, Tryz.f74, zAo, hI, h0, hrow, w0, w1, g1', g2', g3', g4', hw, w3, w4, Int.toNat_natCast]
     exact ⟨⟨(i + 1, 10 * n + ((b.toNat : Int) - 48)), by simp only []; omega, by rw [hinv, hd], by simp only []; omega, by simp only []; omega⟩, by simp only []; omega, [], [], by (simp only [go_sem, eq_self, MvRb, MvRn, MvRt, List.nodup_cons, List.nodup_nil, ↓reduceIte, Nat.reduceEqDiff, Nat.reduceLT, Nat.reduceLeDiff, reduceCtorEq, List.forall_mem_nil, Nat.zero_le, false_implies, List.mem_singleton]) <;> simp⟩
   have hI : ((i : Int) < (s.length : Int)) = False := eq_false (by omega)
   have hie : i = s.length := by omega
   subst hie
   have hrr : riD s 0 = some n := by rw [hinv, List.drop_length]; rfl
   rw [hrr]
   have w5 : IntKind.i64.wrap ((1) * n) = (1) * n := zAh (by omega) (by omega)
   simp only [rIB]
   try simp -dsimp (maxSteps := 1000000) only [go_sem, List.forall_mem_nil, ↓reduceIte, Nat.reduceEqDiff, Nat.reduceLT, Nat.reduceLeDiff, Nat.reduceAdd, Nat.reduceMul, reduceCtorEq, Tryz.f74, zAo, hI, w5]
end Go.SX
namespace Go.SX
open Go Go.Proofs Ieee
theorem tIZp_app (l : List Pt) (x y : Nat) : tI (rowsZ l) ++ [[T.im (.cpx .f32 x y)]] = tI (rowsZ (l ++ [(x, y)])) := by simp [tI, rowsZ]
theorem tINp_app (l : List Int) (x : Int) : tI (rowsN l) ++ [[T.im (.int .i64 x)]] = tI (rowsN (l ++ [x])) := by simp [tI, rowsN]
theorem MvR_Np (l : List Int) : MvR false (.arr 1 (tI (rowsN l))) = True := eq_true (sc_false _ _)
def kNms : List Txt := [[], [115, 111, 117, 114, 99, 101], [109, 105, 120, 101, 114], [103, 97, 105, 110], [100, 101, 108, 97, 121], [115, 117, 109], [115, 108, 105, 99, 101, 114], [109, 101, 116, 101, 114], [104, 111, 108, 100]]
theorem run_kindNames' : zGc.run [] [] = some (.one { val := .c (.view 0 1 0 9), roots := [.arr 1 (tI (rowsS kNms))] }) := zBm
theorem sc_rowsS (l : List Txt) : ∀ r ∈ rowsS l, ∀ i ∈ r, scI i = true := by
 intro r hr i hi
 simp only [rowsS, List.mem_map] at hr
 obtain ⟨p, _, rfl⟩ := hr
 simp only [List.mem_singleton] at hi
 subst hi; rfl
def kdF (w : Txt) : Nat → Int
 | 0 => 0
 | k + 1 => if 0 < k ∧ kNms.getD k [] = w then (k : Int) else kdF w k
theorem kdF_all (w : Txt) : kdF w 9 = kindT w := by
 simp only [kdF, kNms, kindT, sourceT, mixerT, gainT, delayT, sumT, slicerT, meterT, holdT, List.getD_cons_succ, List.getD_cons_zero]
 by_cases h1 : [115, 111, 117, 114, 99, 101] = w
 · subst h1; decide
 by_cases h2 : [109, 105, 120, 101, 114] = w
 · subst h2; decide
 by_cases h3 : [103, 97, 105, 110] = w
 · subst h3; decide
 by_cases h4 : [100, 101, 108, 97, 121] = w
 · subst h4; decide
 by_cases h5 : [115, 117, 109] = w
 · subst h5; decide
 by_cases h6 : [115, 108, 105, 99, 101, 114] = w
 · subst h6; decide
 by_cases h7 : [109, 101, 116, 101, 114] = w
 · subst h7; decide
 by_cases h8 : [104, 111, 108, 100] = w
 · subst h8; decide
 simp [h1, h2, h3, h4, h5, h6, h7, h8, Ne.symm h1, Ne.symm h2, Ne.symm h3, Ne.symm h4, Ne.symm h5, Ne.symm h6, Ne.symm h7, Ne.symm h8]
def rModB (m : Mod) (b : Bool) : Res := { val := .tup [.agg [.im (.int .i64 m.kind), .im (.cpx .f32 m.turn.1 m.turn.2), .im (.cpx .f32 m.state.1 m.state.2), .im (.flt .f32 m.level), .view 0 1 0 m.store.length, .im (.int .i64 m.rat), .im (.int .i64 m.rcnt), .view 1 1 0 m.pts.length, .view 2 1 0 m.lab.length, .im (.int .i64 m.count), .im (.int .i64 m.left)], .c (.im (.bool b))], roots := [.arr 1 (tI (rowsZ m.store)), .arr 1 (tI (rowsZ m.pts)), .arr 1 (tI (rowsN m.lab))] }
theorem okR_modB {sc : Bool} {m : Mod} {b : Bool} : OkR sc (rModB m b) := by
 refine ⟨.tup _ (fun d hd => ?_), fun r hr => ?_, by simp [rModB]⟩
 · simp only [rModB, List.mem_cons, List.not_mem_nil, or_false] at hd
   rcases hd with rfl | rfl
   · refine .inr ⟨_, rfl, fun x hx => ?_⟩
     simp only [List.mem_cons, List.not_mem_nil, or_false] at hx
     rcases hx with rfl | rfl | rfl | rfl | rfl | rfl | rfl | rfl | rfl | rfl | rfl <;> first | exact zGr rfl | exact .view _ _ _ _ (by simp [rModB])
   · exact .inl ⟨_, rfl, zGr rfl⟩
 · simp only [rModB, List.mem_cons, List.not_mem_nil, or_false] at hr
   rcases hr with rfl | rfl | rfl
   · exact mvR_tI (sc_rowsZ _)
   · exact mvR_tI (sc_rowsZ _)
   · exact mvR_tI (sc_rowsN _)
abbrev S20 := { s : Txt // s.length ≤ 1048576 }
noncomputable def oPm (s : Txt) : Outs := match implM s with
 | some m => .one (rModB m true)
 | none => .one (rModB (mod0 0) false)
noncomputable def zGu : Ct := fam true (fun s : S20 => ([.c (.im (.str ⟨s.1.toArray⟩))], [])) (fun s => oPm s.1)
theorem S20_inj : ∀ a b : S20, ([D.c (.im (.str ⟨a.1.toArray⟩))], ([] : List (List B))) = ([D.c (.im (.str ⟨b.1.toArray⟩))], []) → a = b := by
 rintro ⟨a, _⟩ ⟨b, _⟩ h
 simp only [Prod.mk.injEq, List.cons.injEq, D.c.injEq, C.im.injEq, I.str.injEq, zGf, true_and, and_true] at h
 exact Subtype.ext h
theorem run_ParseModule {s : Txt} (h : s.length ≤ 1048576) : zGu.run [.c (.im (.str ⟨s.toArray⟩))] [] = some (oPm s) :=
 zAd (args := fun s : S20 => ([D.c (.im (.str ⟨s.1.toArray⟩))], [])) S20_inj ⟨s, h⟩
theorem okO_pm (s : Txt) {sc : Bool} : ∀ res, (oPm s).mem res → OkR sc res := by
 unfold oPm
 cases implM s with
 | none => exact okO okR_modB
 | some m => exact okO okR_modB
theorem qn_lt : qn .f32 < 4294967296 := by decide
theorem sglP_lt (s : Txt) : (sglP s).1 < 4294967296 := by
 unfold sglP
 split
 · exact qn_lt
 split
 · decide
 split
 · decide
 · cases h : prsT s with
   | none => simp
   | some w => exact (zHr h).1.lt
theorem rdS_lt (ps : List Txt) (bad : Bool) : (rdS ps bad).1 < 4294967296 := by
 cases ps with
 | nil => simp [rdS]
 | cons p t => exact sglP_lt p
theorem rdI_b (ps : List Txt) (bad : Bool) : i64B (rdI ps bad).1 := by
 cases ps with
 | nil => simp [rdI, i64B]
 | cons p t => exact numF_bounds p
theorem zGq (ps : List Txt) (bad : Bool) : (rdP ps bad).1.1 < 4294967296 ∧ (rdP ps bad).1.2 < 4294967296 := ⟨rdS_lt _ _, rdS_lt _ _⟩
theorem dlyP_ok : ∀ (n : Nat) (ps : List Txt) (bad : Bool), ps.length ≤ n → (dlyP ps bad).1.length ≤ ps.length ∧ ∀ p ∈ (dlyP ps bad).1, p.1 < 4294967296 ∧ p.2 < 4294967296
 | 0, ps, bad, h => by
   have : ps = [] := List.eq_nil_of_length_eq_zero (by omega)
   subst this
   unfold dlyP; simp
 | n + 1, ps, bad, h => by
   unfold dlyP
   split
   · rename_i hc
     have hl : 0 < ps.length := List.length_pos_iff.2 hc.1
     have ih := dlyP_ok n (rdP ps bad).2.1 (rdP ps bad).2.2 (by rw [zEk]; omega)
     rw [zEk] at ih
     refine ⟨by simp only [List.length_cons]; omega, fun p hp => ?_⟩
     rcases List.mem_cons.1 hp with rfl | hp
     · exact zGq _ _
     · exact ih.2 p hp
   · simp
theorem slcP_ok : ∀ (n : Nat) (ps : List Txt) (bad : Bool), ps.length ≤ n → (slcP ps bad).1.length ≤ ps.length ∧ (slcP ps bad).2.1.length = (slcP ps bad).1.length ∧ (∀ p ∈ (slcP ps bad).1, p.1 < 4294967296 ∧ p.2 < 4294967296) ∧ ∀ x ∈ (slcP ps bad).2.1, i64B x
 | 0, ps, bad, h => by
   have : ps = [] := List.eq_nil_of_length_eq_zero (by omega)
   subst this
   unfold slcP; simp
 | n + 1, ps, bad, h => by
   unfold slcP
   split
   · rename_i hc
     have hl : 0 < ps.length := List.length_pos_iff.2 hc.1
     have ih := slcP_ok n (rdI (rdP ps bad).2.1 (rdP ps bad).2.2).2.1 (rdI (rdP ps bad).2.1 (rdP ps bad).2.2).2.2 (by rw [zEv, zEk]; omega)
     rw [zEv, zEk] at ih
     refine ⟨by simp only [List.length_cons]; omega, by simp only [List.length_cons]; omega, fun p hp => ?_, fun x hx => ?_⟩
     · rcases List.mem_cons.1 hp with rfl | hp
       · exact zGq _ _
       · exact ih.2.2.1 p hp
     · rcases List.mem_cons.1 hx with rfl | hx
       · exact rdI_b _ _
       · exact ih.2.2.2 x hx
   · simp
theorem zAs : (zFf.sc = true) = True := by simp [zFf, fam]
theorem zBw : (ct_point.sc = true) = False := by simp [ct_point, fam]
theorem zCn : (zEr.sc = true) = False := by simp [zEr, fam]
theorem zCw : (zGn.sc = true) = False := by simp [zGn, fam]
theorem pm_of {s w : Txt} {ps rest : List Txt} {M : Mod} {bd : Bool} (hws : splT 32 s = w :: ps) (hR : readM (kindT w) ps = (M, rest, bd)) :
   oPm s = if bd = false ∧ rest = [] ∧ isModuleF M = true ∧ fmtM M = s then .one (rModB M true) else .one (rModB (mod0 0) false) := by
 have h : implM s = if bd = false ∧ rest = [] ∧ isModuleF M = true ∧ fmtM M = s then some M else none := by
   unfold implM
   rw [hws]
   simp only [hR]
 unfold oPm
 rw [h]
 by_cases hc : bd = false ∧ rest = [] ∧ isModuleF M = true ∧ fmtM M = s
 · rw [if_pos hc, if_pos hc]
 · rw [if_neg hc, if_neg hc]
theorem kindT_cases (w : Txt) : kindT w = 1 ∨ kindT w = 2 ∨ kindT w = 3 ∨ kindT w = 4 ∨ kindT w = 5 ∨ kindT w = 6 ∨ kindT w = 7 ∨ kindT w = 8 ∨ kindT w = 0 := by
 unfold kindT
 repeat' split
 all_goals simp
set_option maxRecDepth 100000 in
set_option maxHeartbeats 16000000 in
theorem law_ParseModule : Law Tryz.prog 8 zGu := by
 refine zEj (zAc law_Split (zAc law_take (zAc law_kindNames (zAc law_point (zAc law_single (zAc law_integer (zAc law_IsModule (zAc law_FormatModule zAf)))))))) hmixA Tryz.func8 rfl rfl (fun ⟨s, hs⟩ => ⟨okO_pm s, by simp [Tryz.f8], ?_⟩)
 simp only at hs ⊢
 have hsm : sm = 16777216 := rfl
 have c9 : ((9 : Nat) : Int) = 9 := rfl
 have MvR_S : MvR false (.arr 1 (tI (rowsS kNms))) = True := eq_true (mvR_tI (sc_rowsS _))
 have rsp := run_Split (s := s) (by omega) 32
 obtain ⟨w, ps, hws⟩ : ∃ w ps, splT 32 s = w :: ps := by
   cases h : splT 32 s with
   | nil => exact absurd h (splT_ne _ _)
   | cons w ps => exact ⟨w, ps, rfl⟩
 have hlen := splT_len 32 s
 have hsub := splT_sub 32 s
 rw [hws] at hlen hsub rsp
 have hlp : (w :: ps).length ≤ sm := by omega
 have hp21 : ∀ p ∈ w :: ps, p.length ≤ 2097152 := fun p hp => by have := hsub p hp; omega
 have rt := run_take (ps := w :: ps) (bad := false) hlp hp21
 simp only [takF, hsRd] at rt
 try simp -dsimp (maxSteps := 1000000) only [go_sem, List.forall_mem_nil, ↓reduceIte, Nat.reduceEqDiff, Nat.reduceLT, Nat.reduceLeDiff, Nat.reduceAdd, Nat.reduceMul, reduceCtorEq, Tryz.f8, rsp, sc_Split, rt, sc_take, run_kindNames']
 refine zBc (ι := { k : Nat // k ≤ 9 }) (fun k => ⟨[(0, some (.c (.im (.str ⟨s.toArray⟩)))), (2, some (.c (.ptr 0 0 0 0))), (4, some (.c (.ptr 1 0 0 0))), (5, some (.c (.im (.str ⟨w.toArray⟩)))), (6, some (.c (.ptr 2 0 0 0))), (16, some (.c (.view 3 1 0 9))), (17, some (.c (.im (.int .i64 9)))), (18, some (.c (.im (.int .i64 (k.1 : Int)))))],
   [(0, some (.box [.t (.im (.int .i64 0)), .t (.im (.cpx .f32 0 0)), .t (.im (.cpx .f32 0 0)), .t (.im (.flt .f32 0)), .t .nil, .t (.im (.int .i64 0)), .t (.im (.int .i64 0)), .t .nil, .t .nil, .t (.im (.int .i64 0)), .t (.im (.int .i64 0))])),
    (1, some (.box [.t (.im (.sl 1 (rowsS ps))), .t (.im (.bool false))])),
    (2, some (.box [.t (.im (.int .i64 (kdF w k.1))), .t (.im (.cpx .f32 0 0)), .t (.im (.cpx .f32 0 0)), .t (.im (.flt .f32 0)), .t (.lent 4 1 0), .t (.im (.int .i64 0)), .t (.im (.int .i64 0)), .t (.lent 5 1 0), .t (.lent 6 1 0), .t (.im (.int .i64 0)), .t (.im (.int .i64 0))])),
    (3, some (.arr 1 (tI (rowsS kNms)))), (4, some (.arr 1 [])), (5, some (.arr 1 [])), (6, some (.arr 1 []))], 7⟩) (fun k => 9 - k.1) ⟨0, by omega⟩ ⟨[.nilT 2 0 4 1, .nilT 2 0 7 1, .nilT 2 0 8 1, .unf 2 0 4, .unf 2 0 7, .unf 2 0 8], [0, 1, 2, 3, 4, 5, 6], ?sub⟩ (fun ⟨k, hk⟩ => ?_)
 case sub =>
   ((simp only [go_sem, eq_self, MvRb, MvRn, MvRt, List.nodup_cons, List.nodup_nil, ↓reduceIte, Nat.reduceEqDiff, Nat.reduceLT, Nat.reduceLeDiff, reduceCtorEq, List.forall_mem_nil, Nat.zero_le, false_implies, List.mem_singleton, Option.map_some, c9, kdF, MvR_S, zCb, zFg]) <;> (try (simp -dsimp only [go_sem, eq_self, MvRb, MvRn, MvRt, List.nodup_cons, List.nodup_nil, ↓reduceIte, Nat.reduceEqDiff, Nat.reduceLT, Nat.reduceLeDiff, reduceCtorEq, List.forall_mem_nil, Nat.zero_le, false_implies, List.mem_singleton, Option.map_some, c9, kdF, MvR_S, zCb, zFg])))
   all_goals simp [lk, zCb, zFg]
 simp only
 by_cases hk9 : k < 9
 · obtain ⟨q, hq⟩ : ∃ q, kNms[k]? = some q := ⟨kNms[k]'(by simpa [kNms] using hk9), List.getElem?_eq_getElem _⟩
   have hrow : (tI (rowsS kNms))[k]? = some [T.im (.str ⟨q.toArray⟩)] := by simp [tI, rowsS, hq]
   have hI : ((k : Int) < 9) = True := eq_true (by omega)
   have b0 : (0 ≤ (k : Int)) = True := eq_true (by omega)
   have hwr : IntKind.i64.wrap ((k : Int) + 1) = ((k + 1 : Nat) : Int) := by rw [zAh (by omega) (by omega)]; omega
   have hln : (tI (rowsS kNms)).length = 9 := rfl
   have hgd : kNms.getD k [] = q := by rw [List.getD_eq_getElem?_getD, hq]; rfl
   by_cases hk0 : 0 < k
   · have g0 := eq_true (show (0 : Int) < (k : Int) by omega)
     by_cases he : q = w
     · have he' := eq_true he
       have hkd : kdF w (k + 1) = (k : Int) := by simp only [kdF, hgd]; rw [if_pos ⟨hk0, he⟩]
       try simp -dsimp (maxSteps := 1000000) only [go_sem, List.forall_mem_nil, ↓reduceIte, Nat.reduceEqDiff, Nat.reduceLT, Nat.reduceLeDiff, Nat.reduceAdd, Nat.reduceMul, reduceCtorEq, Tryz.f8, hI, b0, hrow, hln, hwr, c9, g0, zAj, he', Int.toNat_natCast]
       refine ⟨⟨k + 1, by omega⟩, by simp only []; omega, [], [0, 1, 2, 3, 4, 5, 6], ?_⟩
       (simp only [go_sem, eq_self, MvRb, MvRn, MvRt, List.nodup_cons, List.nodup_nil, ↓reduceIte, Nat.reduceEqDiff, Nat.reduceLT, Nat.reduceLeDiff, reduceCtorEq, List.forall_mem_nil, Nat.zero_le, false_implies, List.mem_singleton, hkd, MvR_S, zCb])
       all_goals simp [lk, zCb, zFg]
     · have he' := eq_false he
       have hkd : kdF w (k + 1) = kdF w k := by simp only [kdF, hgd]; rw [if_neg (fun h => he h.2)]
       try simp -dsimp (maxSteps := 1000000) only [go_sem, List.forall_mem_nil, ↓reduceIte, Nat.reduceEqDiff, Nat.reduceLT, Nat.reduceLeDiff, Nat.reduceAdd, Nat.reduceMul, reduceCtorEq, Tryz.f8, hI, b0, hrow, hln, hwr, c9, g0, zAj, he', Int.toNat_natCast]
       refine ⟨⟨k + 1, by omega⟩, by simp only []; omega, [], [0, 1, 2, 3, 4, 5, 6], ?_⟩
       (simp only [go_sem, eq_self, MvRb, MvRn, MvRt, List.nodup_cons, List.nodup_nil, ↓reduceIte, Nat.reduceEqDiff, Nat.reduceLT, Nat.reduceLeDiff, reduceCtorEq, List.forall_mem_nil, Nat.zero_le, false_implies, List.mem_singleton, hkd, MvR_S, zCb])
       all_goals simp [lk, zCb, zFg]
   · have hke : k = 0 := by omega
     subst hke
     have hkd : kdF w (0 + 1) = kdF w 0 := by simp [kdF]
     have g0 : ((0 : Int) < ((0 : Nat) : Int)) = False := by simp
     try simp -dsimp (maxSteps := 1000000) only [go_sem, List.forall_mem_nil, ↓reduceIte, Nat.reduceEqDiff, Nat.reduceLT, Nat.reduceLeDiff, Nat.reduceAdd, Nat.reduceMul, reduceCtorEq, Tryz.f8, hI, b0, hrow, hln, hwr, c9, g0, Int.toNat_natCast]
     refine ⟨⟨0 + 1, by omega⟩, by simp only []; omega, [], [0, 1, 2, 3, 4, 5, 6], ?_⟩
     (simp only [go_sem, eq_self, MvRb, MvRn, MvRt, List.nodup_cons, List.nodup_nil, ↓reduceIte, Nat.reduceEqDiff, Nat.reduceLT, Nat.reduceLeDiff, reduceCtorEq, List.forall_mem_nil, Nat.zero_le, false_implies, List.mem_singleton, hkd, MvR_S, zCb])
     all_goals simp [lk, zCb, zFg]
 have hI : ((k : Int) < 9) = False := eq_false (by omega)
 have hke : k = 9 := by omega
 subst hke
 rw [kdF_all]
 have hlps : ps.length ≤ sm := by simp only [List.length_cons] at hlp; omega
 have hsps : ∀ p ∈ ps, p.length ≤ 2097152 := fun p hp => hp21 p (List.mem_cons_of_mem _ hp)
 clear rsp rt hI hlp hp21
 have c0 : ((0 : Nat) : Int) = 0 := rfl
 rcases kindT_cases w with hK | hK | hK | hK | hK | hK | hK | hK | hK
 · have hR : readM (kindT w) ps = (⟨1, (rdP ps false).1, (rdP (rdP ps false).2.1 (rdP ps false).2.2).1, 0, [], 0, 0, [], [], 0, 0⟩, (rdP (rdP ps false).2.1 (rdP ps false).2.2).2) := by rw [hK]; simp [readM, mod0]
   have r1 := zEb (bad := false) hlps hsps
   have r2 := zEb (ps := (rdP ps false).2.1) (bad := (rdP ps false).2.2) (by rw [zEk]; omega) (rdP_sub hsps)
   have w1 := zGq ps false
   have w2 := zGq (rdP ps false).2.1 (rdP ps false).2.2
   simp only [hsRd] at r1 r2
   rw [hK]
   generalize rdP (rdP ps false).2.1 (rdP ps false).2.2 = Y at *
   generalize rdP ps false = X at *
   obtain ⟨⟨t1, t2⟩, ps1, b1⟩ := X
   obtain ⟨⟨s1, s2⟩, rest, bd⟩ := Y
   simp only at r1 r2 w1 w2 hR
   have ho := pm_of hws hR
   cases bd with
   | true =>
     rw [ho, if_neg (by simp)]
     try simp -dsimp (maxSteps := 1000000) only [go_sem, List.forall_mem_nil, ↓reduceIte, Nat.reduceEqDiff, Nat.reduceLT, Nat.reduceLeDiff, Nat.reduceAdd, Nat.reduceMul, reduceCtorEq, Tryz.f8, c9, r1, r2, zBw, zAs, List.take_nil, List.take_zero, Int.reduceLT, Int.reduceEq, Bool.not_true, Bool.not_false, Bool.or_self, Bool.true_or, Bool.false_or, Bool.or_true, zAe]
     refine zAr [.nilT 0 0 4 1, .nilT 0 0 7 1, .nilT 0 0 8 1, .unf 0 0 4, .unf 0 0 7, .unf 0 0 8] ?_
     simp -dsimp (maxSteps := 1000000) only [go_sem, List.forall_mem_nil, ↓reduceIte, Nat.reduceEqDiff, Nat.reduceLT, Nat.reduceLeDiff, Nat.reduceAdd, Nat.reduceMul, reduceCtorEq, Option.map_some, rModB, mod0]
     refine ⟨[7, 8, 9], ?_, ?_, ?_, rfl, rfl, rfl⟩ <;> simp [rtOk, tI, rowsZ, rowsN]
   | false =>
   cases rest with
   | cons p0 t0 =>
     have hg : ((0 : Int) < ((t0.length + 1 : Nat) : Int)) = True := eq_true (by omega)
     rw [ho, if_neg (by simp)]
     try simp -dsimp (maxSteps := 1000000) only [go_sem, List.forall_mem_nil, ↓reduceIte, Nat.reduceEqDiff, Nat.reduceLT, Nat.reduceLeDiff, Nat.reduceAdd, Nat.reduceMul, reduceCtorEq, Tryz.f8, c9, r1, r2, zBw, zAs, List.take_nil, List.take_zero, Int.reduceLT, Int.reduceEq, Bool.not_true, Bool.not_false, Bool.or_self, Bool.true_or, Bool.false_or, Bool.or_true, zAe, hg]
     refine zAr [.nilT 0 0 4 1, .nilT 0 0 7 1, .nilT 0 0 8 1, .unf 0 0 4, .unf 0 0 7, .unf 0 0 8] ?_
     simp -dsimp (maxSteps := 1000000) only [go_sem, List.forall_mem_nil, ↓reduceIte, Nat.reduceEqDiff, Nat.reduceLT, Nat.reduceLeDiff, Nat.reduceAdd, Nat.reduceMul, reduceCtorEq, Option.map_some, rModB, mod0]
     refine ⟨[7, 8, 9], ?_, ?_, ?_, rfl, rfl, rfl⟩ <;> simp [rtOk, tI, rowsZ, rowsN]
   | nil =>
   have ri := zBg (k := 1) (t1 := t1) (t2 := t2) (s1 := s1) (s2 := s2) (lv := 0) (st := []) (ra := 0) (rc := 0) (pts := []) (lab := []) (c := 0) (l := 0) (by simp) (by simp) (by simp)
   have rf := zAy ⟨⟨1, (t1, t2), (s1, s2), 0, [], 0, 0, [], [], 0, 0⟩, ⟨by simp, by simp, by simp⟩, ⟨w1, w2, by simp, by simp, by simp⟩, by simp [i64B], by simp [i64B], by simp [i64B], by simp⟩
   simp only [modC, zAg, zAl] at ri rf
   cases hv : isModuleF ⟨1, (t1, t2), (s1, s2), 0, [], 0, 0, [], [], 0, 0⟩ with
   | false =>
     rw [hv] at ri
     rw [ho, if_neg (by simp [hv])]
     try simp -dsimp (maxSteps := 1000000) only [go_sem, List.forall_mem_nil, ↓reduceIte, Nat.reduceEqDiff, Nat.reduceLT, Nat.reduceLeDiff, Nat.reduceAdd, Nat.reduceMul, reduceCtorEq, Tryz.f8, c9, r1, r2, zBw, zAs, List.take_nil, List.take_zero, Int.reduceLT, Int.reduceEq, Bool.not_true, Bool.not_false, Bool.or_self, Bool.true_or, Bool.false_or, Bool.or_true, zAn, c0, ri]
     refine zAr [.nilT 0 0 4 1, .nilT 0 0 7 1, .nilT 0 0 8 1, .unf 0 0 4, .unf 0 0 7, .unf 0 0 8] ?_
     simp -dsimp (maxSteps := 1000000) only [go_sem, List.forall_mem_nil, ↓reduceIte, Nat.reduceEqDiff, Nat.reduceLT, Nat.reduceLeDiff, Nat.reduceAdd, Nat.reduceMul, reduceCtorEq, Option.map_some, rModB, mod0]
     refine ⟨[7, 8, 9], ?_, ?_, ?_, rfl, rfl, rfl⟩ <;> simp [rtOk, tI, rowsZ, rowsN]
   | true =>
   rw [hv] at ri
   by_cases hf : fmtM ⟨1, (t1, t2), (s1, s2), 0, [], 0, 0, [], [], 0, 0⟩ = s
   · have hf' := eq_true hf
     rw [ho, if_pos ⟨rfl, rfl, hv, hf⟩]
     try simp -dsimp (maxSteps := 1000000) only [go_sem, List.forall_mem_nil, ↓reduceIte, Nat.reduceEqDiff, Nat.reduceLT, Nat.reduceLeDiff, Nat.reduceAdd, Nat.reduceMul, reduceCtorEq, Tryz.f8, c9, r1, r2, zBw, zAs, List.take_nil, List.take_zero, Int.reduceLT, Int.reduceEq, Bool.not_true, Bool.not_false, Bool.or_self, Bool.true_or, Bool.false_or, Bool.or_true, zAn, c0, ri, rf, zAp, zAj, hf']
     refine zAr [] ?_
     simp -dsimp (maxSteps := 1000000) only [go_sem, List.forall_mem_nil, ↓reduceIte, Nat.reduceEqDiff, Nat.reduceLT, Nat.reduceLeDiff, Nat.reduceAdd, Nat.reduceMul, reduceCtorEq, rModB]
     refine ⟨[4, 5, 6], ?_, ?_, ?_, rfl, rfl, rfl⟩ <;> simp [rtOk, tI, rowsZ, rowsN]
   · have hf' := eq_false hf
     rw [ho, if_neg (fun h => hf h.2.2.2)]
     try simp -dsimp (maxSteps := 1000000) only [go_sem, List.forall_mem_nil, ↓reduceIte, Nat.reduceEqDiff, Nat.reduceLT, Nat.reduceLeDiff, Nat.reduceAdd, Nat.reduceMul, reduceCtorEq, Tryz.f8, c9, r1, r2, zBw, zAs, List.take_nil, List.take_zero, Int.reduceLT, Int.reduceEq, Bool.not_true, Bool.not_false, Bool.or_self, Bool.true_or, Bool.false_or, Bool.or_true, zAn, c0, ri, rf, zAp, zAj, hf']
     refine zAr [.nilT 0 0 4 1, .nilT 0 0 7 1, .nilT 0 0 8 1, .unf 0 0 4, .unf 0 0 7, .unf 0 0 8] ?_
     simp -dsimp (maxSteps := 1000000) only [go_sem, List.forall_mem_nil, ↓reduceIte, Nat.reduceEqDiff, Nat.reduceLT, Nat.reduceLeDiff, Nat.reduceAdd, Nat.reduceMul, reduceCtorEq, Option.map_some, rModB, mod0]
     refine ⟨[7, 8, 9], ?_, ?_, ?_, rfl, rfl, rfl⟩ <;> simp [rtOk, tI, rowsZ, rowsN]
 · have hR : readM (kindT w) ps = (⟨2, (rdP ps false).1, (rdP (rdP ps false).2.1 (rdP ps false).2.2).1, 0, [], 0, 0, [], [], 0, 0⟩, (rdP (rdP ps false).2.1 (rdP ps false).2.2).2) := by rw [hK]; simp [readM, mod0]
   have r1 := zEb (bad := false) hlps hsps
   have r2 := zEb (ps := (rdP ps false).2.1) (bad := (rdP ps false).2.2) (by rw [zEk]; omega) (rdP_sub hsps)
   have w1 := zGq ps false
   have w2 := zGq (rdP ps false).2.1 (rdP ps false).2.2
   simp only [hsRd] at r1 r2
   rw [hK]
   generalize rdP (rdP ps false).2.1 (rdP ps false).2.2 = Y at *
   generalize rdP ps false = X at *
   obtain ⟨⟨t1, t2⟩, ps1, b1⟩ := X
   obtain ⟨⟨s1, s2⟩, rest, bd⟩ := Y
   simp only at r1 r2 w1 w2 hR
   have ho := pm_of hws hR
   cases bd with
   | true =>
     rw [ho, if_neg (by simp)]
     try simp -dsimp (maxSteps := 1000000) only [go_sem, List.forall_mem_nil, ↓reduceIte, Nat.reduceEqDiff, Nat.reduceLT, Nat.reduceLeDiff, Nat.reduceAdd, Nat.reduceMul, reduceCtorEq, Tryz.f8, c9, r1, r2, zBw, zAs, List.take_nil, List.take_zero, Int.reduceLT, Int.reduceEq, Bool.not_true, Bool.not_false, Bool.or_self, Bool.true_or, Bool.false_or, Bool.or_true, zAe]
     refine zAr [.nilT 0 0 4 1, .nilT 0 0 7 1, .nilT 0 0 8 1, .unf 0 0 4, .unf 0 0 7, .unf 0 0 8] ?_
     simp -dsimp (maxSteps := 1000000) only [go_sem, List.forall_mem_nil, ↓reduceIte, Nat.reduceEqDiff, Nat.reduceLT, Nat.reduceLeDiff, Nat.reduceAdd, Nat.reduceMul, reduceCtorEq, Option.map_some, rModB, mod0]
     refine ⟨[7, 8, 9], ?_, ?_, ?_, rfl, rfl, rfl⟩ <;> simp [rtOk, tI, rowsZ, rowsN]
   | false =>
   cases rest with
   | cons p0 t0 =>
     have hg : ((0 : Int) < ((t0.length + 1 : Nat) : Int)) = True := eq_true (by omega)
     rw [ho, if_neg (by simp)]
     try simp -dsimp (maxSteps := 1000000) only [go_sem, List.forall_mem_nil, ↓reduceIte, Nat.reduceEqDiff, Nat.reduceLT, Nat.reduceLeDiff, Nat.reduceAdd, Nat.reduceMul, reduceCtorEq, Tryz.f8, c9, r1, r2, zBw, zAs, List.take_nil, List.take_zero, Int.reduceLT, Int.reduceEq, Bool.not_true, Bool.not_false, Bool.or_self, Bool.true_or, Bool.false_or, Bool.or_true, zAe, hg]
     refine zAr [.nilT 0 0 4 1, .nilT 0 0 7 1, .nilT 0 0 8 1, .unf 0 0 4, .unf 0 0 7, .unf 0 0 8] ?_
     simp -dsimp (maxSteps := 1000000) only [go_sem, List.forall_mem_nil, ↓reduceIte, Nat.reduceEqDiff, Nat.reduceLT, Nat.reduceLeDiff, Nat.reduceAdd, Nat.reduceMul, reduceCtorEq, Option.map_some, rModB, mod0]
     refine ⟨[7, 8, 9], ?_, ?_, ?_, rfl, rfl, rfl⟩ <;> simp [rtOk, tI, rowsZ, rowsN]
   | nil =>
   have ri := zBg (k := 2) (t1 := t1) (t2 := t2) (s1 := s1) (s2 := s2) (lv := 0) (st := []) (ra := 0) (rc := 0) (pts := []) (lab := []) (c := 0) (l := 0) (by simp) (by simp) (by simp)
   have rf := zAy ⟨⟨2, (t1, t2), (s1, s2), 0, [], 0, 0, [], [], 0, 0⟩, ⟨by simp, by simp, by simp⟩, ⟨w1, w2, by simp, by simp, by simp⟩, by simp [i64B], by simp [i64B], by simp [i64B], by simp⟩
   simp only [modC, zAg, zAl] at ri rf
   cases hv : isModuleF ⟨2, (t1, t2), (s1, s2), 0, [], 0, 0, [], [], 0, 0⟩ with
   | false =>
     rw [hv] at ri
     rw [ho, if_neg (by simp [hv])]
     try simp -dsimp (maxSteps := 1000000) only [go_sem, List.forall_mem_nil, ↓reduceIte, Nat.reduceEqDiff, Nat.reduceLT, Nat.reduceLeDiff, Nat.reduceAdd, Nat.reduceMul, reduceCtorEq, Tryz.f8, c9, r1, r2, zBw, zAs, List.take_nil, List.take_zero, Int.reduceLT, Int.reduceEq, Bool.not_true, Bool.not_false, Bool.or_self, Bool.true_or, Bool.false_or, Bool.or_true, zAn, c0, ri]
     refine zAr [.nilT 0 0 4 1, .nilT 0 0 7 1, .nilT 0 0 8 1, .unf 0 0 4, .unf 0 0 7, .unf 0 0 8] ?_
     simp -dsimp (maxSteps := 1000000) only [go_sem, List.forall_mem_nil, ↓reduceIte, Nat.reduceEqDiff, Nat.reduceLT, Nat.reduceLeDiff, Nat.reduceAdd, Nat.reduceMul, reduceCtorEq, Option.map_some, rModB, mod0]
     refine ⟨[7, 8, 9], ?_, ?_, ?_, rfl, rfl, rfl⟩ <;> simp [rtOk, tI, rowsZ, rowsN]
   | true =>
   rw [hv] at ri
   by_cases hf : fmtM ⟨2, (t1, t2), (s1, s2), 0, [], 0, 0, [], [], 0, 0⟩ = s
   · have hf' := eq_true hf
     rw [ho, if_pos ⟨rfl, rfl, hv, hf⟩]
     try simp -dsimp (maxSteps := 1000000) only [go_sem, List.forall_mem_nil, ↓reduceIte, Nat.reduceEqDiff, Nat.reduceLT, Nat.reduceLeDiff, Nat.reduceAdd, Nat.reduceMul, reduceCtorEq, Tryz.f8, c9, r1, r2, zBw, zAs, List.take_nil, List.take_zero, Int.reduceLT, Int.reduceEq, Bool.not_true, Bool.not_false, Bool.or_self, Bool.true_or, Bool.false_or, Bool.or_true, zAn, c0, ri, rf, zAp, zAj, hf']
     refine zAr [] ?_
     simp -dsimp (maxSteps := 1000000) only [go_sem, List.forall_mem_nil, ↓reduceIte, Nat.reduceEqDiff, Nat.reduceLT, Nat.reduceLeDiff, Nat.reduceAdd, Nat.reduceMul, reduceCtorEq, rModB]
     refine ⟨[4, 5, 6], ?_, ?_, ?_, rfl, rfl, rfl⟩ <;> simp [rtOk, tI, rowsZ, rowsN]
   · have hf' := eq_false hf
     rw [ho, if_neg (fun h => hf h.2.2.2)]
     try simp -dsimp (maxSteps := 1000000) only [go_sem, List.forall_mem_nil, ↓reduceIte, Nat.reduceEqDiff, Nat.reduceLT, Nat.reduceLeDiff, Nat.reduceAdd, Nat.reduceMul, reduceCtorEq, Tryz.f8, c9, r1, r2, zBw, zAs, List.take_nil, List.take_zero, Int.reduceLT, Int.reduceEq, Bool.not_true, Bool.not_false, Bool.or_self, Bool.true_or, Bool.false_or, Bool.or_true, zAn, c0, ri, rf, zAp, zAj, hf']
     refine zAr [.nilT 0 0 4 1, .nilT 0 0 7 1, .nilT 0 0 8 1, .unf 0 0 4, .unf 0 0 7, .unf 0 0 8] ?_
     simp -dsimp (maxSteps := 1000000) only [go_sem, List.forall_mem_nil, ↓reduceIte, Nat.reduceEqDiff, Nat.reduceLT, Nat.reduceLeDiff, Nat.reduceAdd, Nat.reduceMul, reduceCtorEq, Option.map_some, rModB, mod0]
     refine ⟨[7, 8, 9], ?_, ?_, ?_, rfl, rfl, rfl⟩ <;> simp [rtOk, tI, rowsZ, rowsN]
 · have hR : readM (kindT w) ps = (⟨3, (0, 0), (0, 0), (rdS ps false).1, [], 0, 0, [], [], 0, 0⟩, (rdS ps false).2) := by rw [hK]; simp [readM, mod0]
   have r1 := zGh (bad := false) hlps hsps
   have w1 := rdS_lt ps false
   simp only [hsRd] at r1
   rw [hK]
   generalize rdS ps false = X at *
   obtain ⟨lv, rest, bd⟩ := X
   simp only at r1 w1 hR
   have ho := pm_of hws hR
   cases bd with
   | true =>
     rw [ho, if_neg (by simp)]
     try simp -dsimp (maxSteps := 1000000) only [go_sem, List.forall_mem_nil, ↓reduceIte, Nat.reduceEqDiff, Nat.reduceLT, Nat.reduceLeDiff, Nat.reduceAdd, Nat.reduceMul, reduceCtorEq, Tryz.f8, c9, r1, zCn, zAs, List.take_nil, List.take_zero, Int.reduceLT, Int.reduceEq, Bool.not_true, Bool.not_false, Bool.or_self, Bool.true_or, Bool.false_or, Bool.or_true, zAe]
     refine zAr [.nilT 0 0 4 1, .nilT 0 0 7 1, .nilT 0 0 8 1, .unf 0 0 4, .unf 0 0 7, .unf 0 0 8] ?_
     simp -dsimp (maxSteps := 1000000) only [go_sem, List.forall_mem_nil, ↓reduceIte, Nat.reduceEqDiff, Nat.reduceLT, Nat.reduceLeDiff, Nat.reduceAdd, Nat.reduceMul, reduceCtorEq, Option.map_some, rModB, mod0]
     refine ⟨[7, 8, 9], ?_, ?_, ?_, rfl, rfl, rfl⟩ <;> simp [rtOk, tI, rowsZ, rowsN]
   | false =>
   cases rest with
   | cons p0 t0 =>
     have hg : ((0 : Int) < ((t0.length + 1 : Nat) : Int)) = True := eq_true (by omega)
     rw [ho, if_neg (by simp)]
     try simp -dsimp (maxSteps := 1000000) only [go_sem, List.forall_mem_nil, ↓reduceIte, Nat.reduceEqDiff, Nat.reduceLT, Nat.reduceLeDiff, Nat.reduceAdd, Nat.reduceMul, reduceCtorEq, Tryz.f8, c9, r1, zCn, zAs, List.take_nil, List.take_zero, Int.reduceLT, Int.reduceEq, Bool.not_true, Bool.not_false, Bool.or_self, Bool.true_or, Bool.false_or, Bool.or_true, zAe, hg]
     refine zAr [.nilT 0 0 4 1, .nilT 0 0 7 1, .nilT 0 0 8 1, .unf 0 0 4, .unf 0 0 7, .unf 0 0 8] ?_
     simp -dsimp (maxSteps := 1000000) only [go_sem, List.forall_mem_nil, ↓reduceIte, Nat.reduceEqDiff, Nat.reduceLT, Nat.reduceLeDiff, Nat.reduceAdd, Nat.reduceMul, reduceCtorEq, Option.map_some, rModB, mod0]
     refine ⟨[7, 8, 9], ?_, ?_, ?_, rfl, rfl, rfl⟩ <;> simp [rtOk, tI, rowsZ, rowsN]
   | nil =>
   have ri := zBg (k := 3) (t1 := 0) (t2 := 0) (s1 := 0) (s2 := 0) (lv := lv) (st := []) (ra := 0) (rc := 0) (pts := []) (lab := []) (c := 0) (l := 0) (by simp) (by simp) (by simp)
   have rf := zAy ⟨⟨3, (0, 0), (0, 0), lv, [], 0, 0, [], [], 0, 0⟩, ⟨by simp, by simp, by simp⟩, ⟨⟨by simp, by simp⟩, ⟨by simp, by simp⟩, w1, by simp, by simp⟩, by simp [i64B], by simp [i64B], by simp [i64B], by simp⟩
   simp only [modC, zAg, zAl] at ri rf
   cases hv : isModuleF ⟨3, (0, 0), (0, 0), lv, [], 0, 0, [], [], 0, 0⟩ with
   | false =>
     rw [hv] at ri
     rw [ho, if_neg (by simp [hv])]
     try simp -dsimp (maxSteps := 1000000) only [go_sem, List.forall_mem_nil, ↓reduceIte, Nat.reduceEqDiff, Nat.reduceLT, Nat.reduceLeDiff, Nat.reduceAdd, Nat.reduceMul, reduceCtorEq, Tryz.f8, c9, r1, zCn, zAs, List.take_nil, List.take_zero, Int.reduceLT, Int.reduceEq, Bool.not_true, Bool.not_false, Bool.or_self, Bool.true_or, Bool.false_or, Bool.or_true, zAn, c0, ri]
     refine zAr [.nilT 0 0 4 1, .nilT 0 0 7 1, .nilT 0 0 8 1, .unf 0 0 4, .unf 0 0 7, .unf 0 0 8] ?_
     simp -dsimp (maxSteps := 1000000) only [go_sem, List.forall_mem_nil, ↓reduceIte, Nat.reduceEqDiff, Nat.reduceLT, Nat.reduceLeDiff, Nat.reduceAdd, Nat.reduceMul, reduceCtorEq, Option.map_some, rModB, mod0]
     refine ⟨[7, 8, 9], ?_, ?_, ?_, rfl, rfl, rfl⟩ <;> simp [rtOk, tI, rowsZ, rowsN]
   | true =>
   rw [hv] at ri
   by_cases hf : fmtM ⟨3, (0, 0), (0, 0), lv, [], 0, 0, [], [], 0, 0⟩ = s
   · have hf' := eq_true hf
     rw [ho, if_pos ⟨rfl, rfl, hv, hf⟩]
     try simp -dsimp (maxSteps := 1000000) only [go_sem, List.forall_mem_nil, ↓reduceIte, Nat.reduceEqDiff, Nat.reduceLT, Nat.reduceLeDiff, Nat.reduceAdd, Nat.reduceMul, reduceCtorEq, Tryz.f8, c9, r1, zCn, zAs, List.take_nil, List.take_zero, Int.reduceLT, Int.reduceEq, Bool.not_true, Bool.not_false, Bool.or_self, Bool.true_or, Bool.false_or, Bool.or_true, zAn, c0, ri, rf, zAp, zAj, hf']
     refine zAr [] ?_
     simp -dsimp (maxSteps := 1000000) only [go_sem, List.forall_mem_nil, ↓reduceIte, Nat.reduceEqDiff, Nat.reduceLT, Nat.reduceLeDiff, Nat.reduceAdd, Nat.reduceMul, reduceCtorEq, rModB]
     refine ⟨[4, 5, 6], ?_, ?_, ?_, rfl, rfl, rfl⟩ <;> simp [rtOk, tI, rowsZ, rowsN]
   · have hf' := eq_false hf
     rw [ho, if_neg (fun h => hf h.2.2.2)]
     try simp -dsimp (maxSteps := 1000000) only [go_sem, List.forall_mem_nil, ↓reduceIte, Nat.reduceEqDiff, Nat.reduceLT, Nat.reduceLeDiff, Nat.reduceAdd, Nat.reduceMul, reduceCtorEq, Tryz.f8, c9, r1, zCn, zAs, List.take_nil, List.take_zero, Int.reduceLT, Int.reduceEq, Bool.not_true, Bool.not_false, Bool.or_self, Bool.true_or, Bool.false_or, Bool.or_true, zAn, c0, ri, rf, zAp, zAj, hf']
     refine zAr [.nilT 0 0 4 1, .nilT 0 0 7 1, .nilT 0 0 8 1, .unf 0 0 4, .unf 0 0 7, .unf 0 0 8] ?_
     simp -dsimp (maxSteps := 1000000) only [go_sem, List.forall_mem_nil, ↓reduceIte, Nat.reduceEqDiff, Nat.reduceLT, Nat.reduceLeDiff, Nat.reduceAdd, Nat.reduceMul, reduceCtorEq, Option.map_some, rModB, mod0]
     refine ⟨[7, 8, 9], ?_, ?_, ?_, rfl, rfl, rfl⟩ <;> simp [rtOk, tI, rowsZ, rowsN]
 · have hR : readM (kindT w) ps = (⟨4, (0, 0), (0, 0), 0, (dlyP (rdI ps false).2.1 (rdI ps false).2.2).1, (rdI ps false).1, ((dlyP (rdI ps false).2.1 (rdI ps false).2.2).1.length : Int), [], [], 0, 0⟩, (dlyP (rdI ps false).2.1 (rdI ps false).2.2).2) := by rw [hK]; simp [readM, mod0]
   have r1 := zEc (bad := false) hlps hsps
   have w1 := rdI_b ps false
   have l1 := zEv ps false
   have s1 := rdI_sub (bad := false) hsps
   simp only [hsRd] at r1
   rw [hK]
   generalize rdI ps false = X at *
   obtain ⟨ra, ps1, b1⟩ := X
   simp only at r1 w1 l1 s1 hR
   have hl1 : ps1.length ≤ 1048576 := by simp only [List.length_cons] at hlen; omega
   have hdk := dlyP_ok _ ps1 b1 (Nat.le_refl _)
   try simp -dsimp (maxSteps := 1000000) only [go_sem, List.forall_mem_nil, ↓reduceIte, Nat.reduceEqDiff, Nat.reduceLT, Nat.reduceLeDiff, Nat.reduceAdd, Nat.reduceMul, reduceCtorEq, Tryz.f8, c9, r1, zCw, Int.reduceLT, Int.reduceEq]
   refine zBc (ι := { x : List Pt × List Txt × Bool // dlyP ps1 b1 = (x.1 ++ (dlyP x.2.1 x.2.2).1, (dlyP x.2.1 x.2.2).2) ∧ x.2.1.length ≤ ps1.length ∧ x.1.length ≤ ps1.length ∧ ∀ p ∈ x.2.1, p.length ≤ 2097152 }) (fun x => ⟨[(0, some (.c (.im (.str ⟨s.toArray⟩)))), (2, some (.c (.ptr 0 0 0 0))), (4, some (.c (.ptr 1 0 0 0))), (6, some (.c (.ptr 2 0 0 0)))],
     [(0, some (.box [.t (.im (.int .i64 0)), .t (.im (.cpx .f32 0 0)), .t (.im (.cpx .f32 0 0)), .t (.im (.flt .f32 0)), .t .nil, .t (.im (.int .i64 0)), .t (.im (.int .i64 0)), .t .nil, .t .nil, .t (.im (.int .i64 0)), .t (.im (.int .i64 0))])),
      (1, some (.box [.t (.im (.sl 1 (rowsS x.1.2.1))), .t (.im (.bool x.1.2.2))])),
      (2, some (.box [.t (.im (.int .i64 4)), .t (.im (.cpx .f32 0 0)), .t (.im (.cpx .f32 0 0)), .t (.im (.flt .f32 0)), .t (.lent 4 1 x.1.1.length), .t (.im (.int .i64 ra)), .t (.im (.int .i64 0)), .t (.lent 5 1 0), .t (.lent 6 1 0), .t (.im (.int .i64 0)), .t (.im (.int .i64 0))])),
      (4, some (.arr 1 (tI (rowsZ x.1.1)))), (5, some (.arr 1 [])), (6, some (.arr 1 []))], 7⟩) (fun x => x.1.2.1.length) ⟨([], ps1, b1), by simp, by simp, by simp, s1⟩ ⟨[], [0, 1, 2, 4, 5, 6], ?sub⟩ (fun ⟨⟨acc, qs, b⟩, hinv, hq1, hq2, hq3⟩ => ?_)
   case sub =>
     ((simp only [go_sem, eq_self, MvRb, MvRn, MvRt, List.nodup_cons, List.nodup_nil, ↓reduceIte, Nat.reduceEqDiff, Nat.reduceLT, Nat.reduceLeDiff, reduceCtorEq, List.forall_mem_nil, Nat.zero_le, false_implies, List.mem_singleton, MvR_Z, zCb, zAg, tI_nil]) <;> (try (simp -dsimp only [go_sem, eq_self, MvRb, MvRn, MvRt, List.nodup_cons, List.nodup_nil, ↓reduceIte, Nat.reduceEqDiff, Nat.reduceLT, Nat.reduceLeDiff, reduceCtorEq, List.forall_mem_nil, Nat.zero_le, false_implies, List.mem_singleton, MvR_Z, zCb, zAg, tI_nil])))
     all_goals simp [lk, zCb, zFg, tI, rowsZ]
   simp only at hinv hq1 hq2 hq3 ⊢
   by_cases hgo : qs ≠ [] ∧ b = false
   · obtain ⟨hne, rfl⟩ := hgo
     have hql : 0 < qs.length := List.length_pos_iff.2 hne
     have hu : dlyP qs false = ((rdP qs false).1 :: (dlyP (rdP qs false).2.1 (rdP qs false).2.2).1, (dlyP (rdP qs false).2.1 (rdP qs false).2.2).2) := by
       conv => lhs; unfold dlyP
       rw [dif_pos ⟨hne, rfl⟩]
     rw [hu] at hinv
     have rp := zEb (ps := qs) (bad := false) (by omega) hq3
     have pl := zEk qs false
     have psb := rdP_sub (bad := false) hq3
     have hal : (acc ++ (rdP qs false).1 :: (dlyP (rdP qs false).2.1 (rdP qs false).2.2).1).length ≤ ps1.length := by
       have := hdk.1; rw [hinv] at this; exact this
     simp only [hsRd] at rp
     generalize rdP qs false = Y at *
     obtain ⟨⟨u, v⟩, qs2, b2⟩ := Y
     simp only at rp pl psb hinv hal
     have hal2 : acc.length + 1 ≤ ps1.length := by simp only [List.length_append, List.length_cons] at hal; omega
     have hg : ((0 : Int) < (qs.length : Int)) = True := eq_true (by omega)
     have hb1 : ((acc.length + 1) * 8 ≤ 140737488355328) = True := eq_true (by omega)
     have tk : List.take acc.length (tI (rowsZ acc)) = tI (rowsZ acc) := List.take_of_length_le (by rw [zBa, zAa]; omega)
     try simp -dsimp (maxSteps := 1000000) only [go_sem, List.forall_mem_nil, ↓reduceIte, Nat.reduceEqDiff, Nat.reduceLT, Nat.reduceLeDiff, Nat.reduceAdd, Nat.reduceMul, reduceCtorEq, Tryz.f8, zAe, hg, rp, zBw, hb1, tk, tIZp_app, zBa, zAa, appendH, srcRows, List.take_succ_cons, List.take_zero, List.all_cons, List.all_nil, okT, Bool.and_true, List.length_append, Bool.not_false, Nat.sub_zero, Nat.add_zero]
     repeat' (first
       | ((with_reducible refine sl_i ?_ ?_); focus kernel_rfl)
       | ((with_reducible refine ro_i ?_ ?_); focus kernel_rfl))
     refine ⟨⟨(acc ++ [(u, v)], qs2, b2), by rw [hinv]; simp, by simp only []; omega, by simp only [List.length_append, List.length_cons, List.length_nil]; omega, psb⟩, by simp only []; omega, [], [0, 1, 2, 55, 5, 6], ?_⟩
     (simp only [go_sem, eq_self, MvRb, MvRn, MvRt, List.nodup_cons, List.nodup_nil, ↓reduceIte, Nat.reduceEqDiff, Nat.reduceLT, Nat.reduceLeDiff, reduceCtorEq, List.forall_mem_nil, Nat.zero_le, false_implies, List.mem_singleton, MvR_Z, zCb, List.length_append, List.length_cons, List.length_nil])
   · have hdq : dlyP qs b = ([], qs, b) := by unfold dlyP; rw [dif_neg hgo]
     rw [hdq, List.append_nil] at hinv
     rw [hinv] at hR hdk
     simp only at hR hdk
     have hal : acc.length ≤ 1048576 := Nat.le_trans hq2 hl1
     have tkl : List.take acc.length (tI (rowsZ acc)) = tI (rowsZ acc) := List.take_of_length_le (by rw [zBa, zAa]; omega)
     have hg : ((0 : Int) < ((0 : Nat) : Int)) = False := eq_false (by omega)
     have ri := zBg (k := 4) (t1 := 0) (t2 := 0) (s1 := 0) (s2 := 0) (lv := 0) (st := acc) (ra := ra) (rc := (acc.length : Int)) (pts := []) (lab := []) (c := 0) (l := 0) (by simp only [sm]; omega) (by simp) (by simp)
     have rf := zAy ⟨⟨4, (0, 0), (0, 0), 0, acc, ra, (acc.length : Int), [], [], 0, 0⟩, ⟨by simp only [sm]; omega, by simp, by simp⟩, ⟨⟨by simp, by simp⟩, ⟨by simp, by simp⟩, by simp, hdk.2, by simp⟩, w1, by simp [i64B], by simp [i64B], by simp⟩
     simp only [modC, zAg, zAl] at ri rf
     have ho := pm_of hws hR
     cases b with
     | true =>
       rw [ho, if_neg (by simp)]
       cases qs with
       | nil =>
         try simp -dsimp (maxSteps := 1000000) only [go_sem, List.forall_mem_nil, ↓reduceIte, Nat.reduceEqDiff, Nat.reduceLT, Nat.reduceLeDiff, Nat.reduceAdd, Nat.reduceMul, reduceCtorEq, Tryz.f8, c9, zAs, List.take_nil, List.take_zero, Int.reduceLT, Int.reduceEq, Bool.not_true, Bool.not_false, Bool.or_self, Bool.true_or, Bool.false_or, Bool.or_true, zBa, zFh, zAa, tkl, zAn, c0, hg]
         refine zAr [.nilT 0 0 4 1, .nilT 0 0 7 1, .nilT 0 0 8 1, .unf 0 0 4, .unf 0 0 7, .unf 0 0 8] ?_
         simp -dsimp (maxSteps := 1000000) only [go_sem, List.forall_mem_nil, ↓reduceIte, Nat.reduceEqDiff, Nat.reduceLT, Nat.reduceLeDiff, Nat.reduceAdd, Nat.reduceMul, reduceCtorEq, Option.map_some, rModB, mod0]
         refine ⟨[7, 8, 9], ?_, ?_, ?_, rfl, rfl, rfl⟩ <;> simp [rtOk, tI, rowsZ, rowsN]
       | cons p0 t0 =>
         have hg2 : ((0 : Int) < ((t0.length + 1 : Nat) : Int)) = True := eq_true (by omega)
         try simp -dsimp (maxSteps := 1000000) only [go_sem, List.forall_mem_nil, ↓reduceIte, Nat.reduceEqDiff, Nat.reduceLT, Nat.reduceLeDiff, Nat.reduceAdd, Nat.reduceMul, reduceCtorEq, Tryz.f8, c9, zAs, List.take_nil, List.take_zero, Int.reduceLT, Int.reduceEq, Bool.not_true, Bool.not_false, Bool.or_self, Bool.true_or, Bool.false_or, Bool.or_true, zBa, zFh, zAa, tkl, zAe, zAu, List.length_cons, hg2]
         refine zAr [.nilT 0 0 4 1, .nilT 0 0 7 1, .nilT 0 0 8 1, .unf 0 0 4, .unf 0 0 7, .unf 0 0 8] ?_
         simp -dsimp (maxSteps := 1000000) only [go_sem, List.forall_mem_nil, ↓reduceIte, Nat.reduceEqDiff, Nat.reduceLT, Nat.reduceLeDiff, Nat.reduceAdd, Nat.reduceMul, reduceCtorEq, Option.map_some, rModB, mod0]
         refine ⟨[7, 8, 9], ?_, ?_, ?_, rfl, rfl, rfl⟩ <;> simp [rtOk, tI, rowsZ, rowsN]
     | false =>
       cases qs with
       | cons p0 t0 => exact absurd ⟨by simp, rfl⟩ hgo
       | nil =>
       cases hv : isModuleF ⟨4, (0, 0), (0, 0), 0, acc, ra, (acc.length : Int), [], [], 0, 0⟩ with
       | false =>
         rw [hv] at ri
         rw [ho, if_neg (by simp [hv])]
         try simp -dsimp (maxSteps := 1000000) only [go_sem, List.forall_mem_nil, ↓reduceIte, Nat.reduceEqDiff, Nat.reduceLT, Nat.reduceLeDiff, Nat.reduceAdd, Nat.reduceMul, reduceCtorEq, Tryz.f8, c9, zAs, List.take_nil, List.take_zero, Int.reduceLT, Int.reduceEq, Bool.not_true, Bool.not_false, Bool.or_self, Bool.true_or, Bool.false_or, Bool.or_true, zBa, zFh, zAa, tkl, zAn, c0, hg, ri]
         refine zAr [.nilT 0 0 4 1, .nilT 0 0 7 1, .nilT 0 0 8 1, .unf 0 0 4, .unf 0 0 7, .unf 0 0 8] ?_
         simp -dsimp (maxSteps := 1000000) only [go_sem, List.forall_mem_nil, ↓reduceIte, Nat.reduceEqDiff, Nat.reduceLT, Nat.reduceLeDiff, Nat.reduceAdd, Nat.reduceMul, reduceCtorEq, Option.map_some, rModB, mod0]
         refine ⟨[7, 8, 9], ?_, ?_, ?_, rfl, rfl, rfl⟩ <;> simp [rtOk, tI, rowsZ, rowsN]
       | true =>
       rw [hv] at ri
       by_cases hf : fmtM ⟨4, (0, 0), (0, 0), 0, acc, ra, (acc.length : Int), [], [], 0, 0⟩ = s
       · have hf' := eq_true hf
         rw [ho, if_pos ⟨rfl, rfl, hv, hf⟩]
         try simp -dsimp (maxSteps := 1000000) only [go_sem, List.forall_mem_nil, ↓reduceIte, Nat.reduceEqDiff, Nat.reduceLT, Nat.reduceLeDiff, Nat.reduceAdd, Nat.reduceMul, reduceCtorEq, Tryz.f8, c9, zAs, List.take_nil, List.take_zero, Int.reduceLT, Int.reduceEq, Bool.not_true, Bool.not_false, Bool.or_self, Bool.true_or, Bool.false_or, Bool.or_true, zBa, zFh, zAa, tkl, zAn, c0, hg, ri, rf, zAp, zAj, hf']
         refine zAr [] ?_
         simp -dsimp (maxSteps := 1000000) only [go_sem, List.forall_mem_nil, ↓reduceIte, Nat.reduceEqDiff, Nat.reduceLT, Nat.reduceLeDiff, Nat.reduceAdd, Nat.reduceMul, reduceCtorEq, rModB]
         refine ⟨[4, 5, 6], ?_, ?_, ?_, rfl, rfl, rfl⟩ <;> simp [rtOk, tI, rowsZ, rowsN]
       · have hf' := eq_false hf
         rw [ho, if_neg (fun h => hf h.2.2.2)]
         try simp -dsimp (maxSteps := 1000000) only [go_sem, List.forall_mem_nil, ↓reduceIte, Nat.reduceEqDiff, Nat.reduceLT, Nat.reduceLeDiff, Nat.reduceAdd, Nat.reduceMul, reduceCtorEq, Tryz.f8, c9, zAs, List.take_nil, List.take_zero, Int.reduceLT, Int.reduceEq, Bool.not_true, Bool.not_false, Bool.or_self, Bool.true_or, Bool.false_or, Bool.or_true, zBa, zFh, zAa, tkl, zAn, c0, hg, ri, rf, zAp, zAj, hf']
         refine zAr [.nilT 0 0 4 1, .nilT 0 0 7 1, .nilT 0 0 8 1, .unf 0 0 4, .unf 0 0 7, .unf 0 0 8] ?_
         simp -dsimp (maxSteps := 1000000) only [go_sem, List.forall_mem_nil, ↓reduceIte, Nat.reduceEqDiff, Nat.reduceLT, Nat.reduceLeDiff, Nat.reduceAdd, Nat.reduceMul, reduceCtorEq, Option.map_some, rModB, mod0]
         refine ⟨[7, 8, 9], ?_, ?_, ?_, rfl, rfl, rfl⟩ <;> simp [rtOk, tI, rowsZ, rowsN]
 · have hR : readM (kindT w) ps = (⟨5, (0, 0), (0, 0), 0, [], 0, 0, [], [], 0, 0⟩, ps, false) := by rw [hK]; simp [readM, mod0]
   rw [hK]
   generalize ps = rest at *
   have ho := pm_of hws hR
   cases rest with
   | cons p0 t0 =>
     have hg : ((0 : Int) < ((t0.length + 1 : Nat) : Int)) = True := eq_true (by omega)
     rw [ho, if_neg (by simp)]
     try simp -dsimp (maxSteps := 1000000) only [go_sem, List.forall_mem_nil, ↓reduceIte, Nat.reduceEqDiff, Nat.reduceLT, Nat.reduceLeDiff, Nat.reduceAdd, Nat.reduceMul, reduceCtorEq, Tryz.f8, c9, c9, zAs, List.take_nil, List.take_zero, Int.reduceLT, Int.reduceEq, Bool.not_true, Bool.not_false, Bool.or_self, Bool.true_or, Bool.false_or, Bool.or_true, zAe, hg]
     refine zAr [.nilT 0 0 4 1, .nilT 0 0 7 1, .nilT 0 0 8 1, .unf 0 0 4, .unf 0 0 7, .unf 0 0 8] ?_
     simp -dsimp (maxSteps := 1000000) only [go_sem, List.forall_mem_nil, ↓reduceIte, Nat.reduceEqDiff, Nat.reduceLT, Nat.reduceLeDiff, Nat.reduceAdd, Nat.reduceMul, reduceCtorEq, Option.map_some, rModB, mod0]
     refine ⟨[7, 8, 9], ?_, ?_, ?_, rfl, rfl, rfl⟩ <;> simp [rtOk, tI, rowsZ, rowsN]
   | nil =>
   have ri := zBg (k := 5) (t1 := 0) (t2 := 0) (s1 := 0) (s2 := 0) (lv := 0) (st := []) (ra := 0) (rc := 0) (pts := []) (lab := []) (c := 0) (l := 0) (by simp) (by simp) (by simp)
   have rf := zAy ⟨⟨5, (0, 0), (0, 0), 0, [], 0, 0, [], [], 0, 0⟩, ⟨by simp, by simp, by simp⟩, ⟨⟨by simp, by simp⟩, ⟨by simp, by simp⟩, by simp, by simp, by simp⟩, by simp [i64B], by simp [i64B], by simp [i64B], by simp⟩
   simp only [modC, zAg, zAl] at ri rf
   cases hv : isModuleF ⟨5, (0, 0), (0, 0), 0, [], 0, 0, [], [], 0, 0⟩ with
   | false =>
     rw [hv] at ri
     rw [ho, if_neg (by simp [hv])]
     try simp -dsimp (maxSteps := 1000000) only [go_sem, List.forall_mem_nil, ↓reduceIte, Nat.reduceEqDiff, Nat.reduceLT, Nat.reduceLeDiff, Nat.reduceAdd, Nat.reduceMul, reduceCtorEq, Tryz.f8, c9, c9, zAs, List.take_nil, List.take_zero, Int.reduceLT, Int.reduceEq, Bool.not_true, Bool.not_false, Bool.or_self, Bool.true_or, Bool.false_or, Bool.or_true, zAn, c0, ri]
     refine zAr [.nilT 0 0 4 1, .nilT 0 0 7 1, .nilT 0 0 8 1, .unf 0 0 4, .unf 0 0 7, .unf 0 0 8] ?_
     simp -dsimp (maxSteps := 1000000) only [go_sem, List.forall_mem_nil, ↓reduceIte, Nat.reduceEqDiff, Nat.reduceLT, Nat.reduceLeDiff, Nat.reduceAdd, Nat.reduceMul, reduceCtorEq, Option.map_some, rModB, mod0]
     refine ⟨[7, 8, 9], ?_, ?_, ?_, rfl, rfl, rfl⟩ <;> simp [rtOk, tI, rowsZ, rowsN]
   | true =>
   rw [hv] at ri
   by_cases hf : fmtM ⟨5, (0, 0), (0, 0), 0, [], 0, 0, [], [], 0, 0⟩ = s
   · have hf' := eq_true hf
     rw [ho, if_pos ⟨rfl, rfl, hv, hf⟩]
     try simp -dsimp (maxSteps := 1000000) only [go_sem, List.forall_mem_nil, ↓reduceIte, Nat.reduceEqDiff, Nat.reduceLT, Nat.reduceLeDiff, Nat.reduceAdd, Nat.reduceMul, reduceCtorEq, Tryz.f8, c9, c9, zAs, List.take_nil, List.take_zero, Int.reduceLT, Int.reduceEq, Bool.not_true, Bool.not_false, Bool.or_self, Bool.true_or, Bool.false_or, Bool.or_true, zAn, c0, ri, rf, zAp, zAj, hf']
     refine zAr [] ?_
     simp -dsimp (maxSteps := 1000000) only [go_sem, List.forall_mem_nil, ↓reduceIte, Nat.reduceEqDiff, Nat.reduceLT, Nat.reduceLeDiff, Nat.reduceAdd, Nat.reduceMul, reduceCtorEq, rModB]
     refine ⟨[4, 5, 6], ?_, ?_, ?_, rfl, rfl, rfl⟩ <;> simp [rtOk, tI, rowsZ, rowsN]
   · have hf' := eq_false hf
     rw [ho, if_neg (fun h => hf h.2.2.2)]
     try simp -dsimp (maxSteps := 1000000) only [go_sem, List.forall_mem_nil, ↓reduceIte, Nat.reduceEqDiff, Nat.reduceLT, Nat.reduceLeDiff, Nat.reduceAdd, Nat.reduceMul, reduceCtorEq, Tryz.f8, c9, c9, zAs, List.take_nil, List.take_zero, Int.reduceLT, Int.reduceEq, Bool.not_true, Bool.not_false, Bool.or_self, Bool.true_or, Bool.false_or, Bool.or_true, zAn, c0, ri, rf, zAp, zAj, hf']
     refine zAr [.nilT 0 0 4 1, .nilT 0 0 7 1, .nilT 0 0 8 1, .unf 0 0 4, .unf 0 0 7, .unf 0 0 8] ?_
     simp -dsimp (maxSteps := 1000000) only [go_sem, List.forall_mem_nil, ↓reduceIte, Nat.reduceEqDiff, Nat.reduceLT, Nat.reduceLeDiff, Nat.reduceAdd, Nat.reduceMul, reduceCtorEq, Option.map_some, rModB, mod0]
     refine ⟨[7, 8, 9], ?_, ?_, ?_, rfl, rfl, rfl⟩ <;> simp [rtOk, tI, rowsZ, rowsN]
 · have hR : readM (kindT w) ps = (⟨6, (0, 0), (0, 0), 0, [], 0, 0, (slcP (rdI ps false).2.1 (rdI ps false).2.2).1, (slcP (rdI ps false).2.1 (rdI ps false).2.2).2.1, (rdI ps false).1, 0⟩, (slcP (rdI ps false).2.1 (rdI ps false).2.2).2.2) := by rw [hK]; simp [readM, mod0]
   have r1 := zEc (bad := false) hlps hsps
   have w1 := rdI_b ps false
   have l1 := zEv ps false
   have s1 := rdI_sub (bad := false) hsps
   simp only [hsRd] at r1
   rw [hK]
   generalize rdI ps false = X at *
   obtain ⟨ra, ps1, b1⟩ := X
   simp only at r1 w1 l1 s1 hR
   have hl1 : ps1.length ≤ 1048576 := by simp only [List.length_cons] at hlen; omega
   have hdk := slcP_ok _ ps1 b1 (Nat.le_refl _)
   try simp -dsimp (maxSteps := 1000000) only [go_sem, List.forall_mem_nil, ↓reduceIte, Nat.reduceEqDiff, Nat.reduceLT, Nat.reduceLeDiff, Nat.reduceAdd, Nat.reduceMul, reduceCtorEq, Tryz.f8, c9, r1, zCw, Int.reduceLT, Int.reduceEq]
   refine zBc (ι := { x : List Pt × List Int × List Txt × Bool // slcP ps1 b1 = (x.1 ++ (slcP x.2.2.1 x.2.2.2).1, x.2.1 ++ (slcP x.2.2.1 x.2.2.2).2.1, (slcP x.2.2.1 x.2.2.2).2.2) ∧ x.2.2.1.length ≤ ps1.length ∧ x.1.length ≤ ps1.length ∧ x.2.1.length ≤ ps1.length ∧ ∀ p ∈ x.2.2.1, p.length ≤ 2097152 }) (fun x => ⟨[(0, some (.c (.im (.str ⟨s.toArray⟩)))), (2, some (.c (.ptr 0 0 0 0))), (4, some (.c (.ptr 1 0 0 0))), (6, some (.c (.ptr 2 0 0 0)))],
     [(0, some (.box [.t (.im (.int .i64 0)), .t (.im (.cpx .f32 0 0)), .t (.im (.cpx .f32 0 0)), .t (.im (.flt .f32 0)), .t .nil, .t (.im (.int .i64 0)), .t (.im (.int .i64 0)), .t .nil, .t .nil, .t (.im (.int .i64 0)), .t (.im (.int .i64 0))])),
      (1, some (.box [.t (.im (.sl 1 (rowsS x.1.2.2.1))), .t (.im (.bool x.1.2.2.2))])),
      (2, some (.box [.t (.im (.int .i64 6)), .t (.im (.cpx .f32 0 0)), .t (.im (.cpx .f32 0 0)), .t (.im (.flt .f32 0)), .t (.lent 4 1 0), .t (.im (.int .i64 0)), .t (.im (.int .i64 0)), .t (.lent 5 1 x.1.1.length), .t (.lent 6 1 x.1.2.1.length), .t (.im (.int .i64 ra)), .t (.im (.int .i64 0))])),
      (4, some (.arr 1 [])), (5, some (.arr 1 (tI (rowsZ x.1.1)))), (6, some (.arr 1 (tI (rowsN x.1.2.1))))], 7⟩) (fun x => x.1.2.2.1.length) ⟨([], [], ps1, b1), by simp, by simp, by simp, by simp, s1⟩ ⟨[], [0, 1, 2, 4, 5, 6], ?sub⟩ (fun ⟨⟨acc, acl, qs, b⟩, hinv, hq1, hq2, hq4, hq3⟩ => ?_)
   case sub =>
     ((simp only [go_sem, eq_self, MvRb, MvRn, MvRt, List.nodup_cons, List.nodup_nil, ↓reduceIte, Nat.reduceEqDiff, Nat.reduceLT, Nat.reduceLeDiff, reduceCtorEq, List.forall_mem_nil, Nat.zero_le, false_implies, List.mem_singleton, MvR_Z, MvR_Np, zCb, zAg, zAl, tI_nil]) <;> (try (simp -dsimp only [go_sem, eq_self, MvRb, MvRn, MvRt, List.nodup_cons, List.nodup_nil, ↓reduceIte, Nat.reduceEqDiff, Nat.reduceLT, Nat.reduceLeDiff, reduceCtorEq, List.forall_mem_nil, Nat.zero_le, false_implies, List.mem_singleton, MvR_Z, MvR_Np, zCb, zAg, zAl, tI_nil])))
     all_goals simp [lk, zCb, zFg, tI, rowsZ, rowsN]
   simp only at hinv hq1 hq2 hq3 hq4 ⊢
   by_cases hgo : qs ≠ [] ∧ b = false
   · obtain ⟨hne, rfl⟩ := hgo
     have hql : 0 < qs.length := List.length_pos_iff.2 hne
     have hu : slcP qs false = ((rdP qs false).1 :: (slcP (rdI (rdP qs false).2.1 (rdP qs false).2.2).2.1 (rdI (rdP qs false).2.1 (rdP qs false).2.2).2.2).1,
         (rdI (rdP qs false).2.1 (rdP qs false).2.2).1 :: (slcP (rdI (rdP qs false).2.1 (rdP qs false).2.2).2.1 (rdI (rdP qs false).2.1 (rdP qs false).2.2).2.2).2.1,
         (slcP (rdI (rdP qs false).2.1 (rdP qs false).2.2).2.1 (rdI (rdP qs false).2.1 (rdP qs false).2.2).2.2).2.2) := by
       conv => lhs; unfold slcP
       rw [dif_pos ⟨hne, rfl⟩]
     rw [hu] at hinv
     have rp := zEb (ps := qs) (bad := false) (by omega) hq3
     have pl := zEk qs false
     have psb := rdP_sub (bad := false) hq3
     have rn := zEc (ps := (rdP qs false).2.1) (bad := (rdP qs false).2.2) (by rw [pl]; omega) psb
     have nl := zEv (rdP qs false).2.1 (rdP qs false).2.2
     have nsb := rdI_sub (bad := (rdP qs false).2.2) psb
     have hal : (acc ++ (rdP qs false).1 :: (slcP (rdI (rdP qs false).2.1 (rdP qs false).2.2).2.1 (rdI (rdP qs false).2.1 (rdP qs false).2.2).2.2).1).length ≤ ps1.length := by
       have := hdk.1; rw [hinv] at this; exact this
     have hal' : (acl ++ (rdI (rdP qs false).2.1 (rdP qs false).2.2).1 :: (slcP (rdI (rdP qs false).2.1 (rdP qs false).2.2).2.1 (rdI (rdP qs false).2.1 (rdP qs false).2.2).2.2).2.1).length ≤ ps1.length := by
       have := hdk.1; have h2 := hdk.2.1; rw [hinv] at this h2; simp only at this h2; omega
     simp only [hsRd] at rp rn
     generalize rdI (rdP qs false).2.1 (rdP qs false).2.2 = Y2 at *
     generalize rdP qs false = Y at *
     obtain ⟨⟨u, v⟩, qs2, b2⟩ := Y
     obtain ⟨lb, qs3, b3⟩ := Y2
     simp only at rp pl psb rn nl nsb hinv hal hal'
     have hal2 : acc.length + 1 ≤ ps1.length := by simp only [List.length_append, List.length_cons] at hal; omega
     have hal3 : acl.length + 1 ≤ ps1.length := by simp only [List.length_append, List.length_cons] at hal'; omega
     have hg : ((0 : Int) < (qs.length : Int)) = True := eq_true (by omega)
     have hb1 : ((acc.length + 1) * 8 ≤ 140737488355328) = True := eq_true (by omega)
     have hb2 : ((acl.length + 1) * 8 ≤ 140737488355328) = True := eq_true (by omega)
     have tk : List.take acc.length (tI (rowsZ acc)) = tI (rowsZ acc) := List.take_of_length_le (by rw [zBa, zAa]; omega)
     have tkn : List.take acl.length (tI (rowsN acl)) = tI (rowsN acl) := List.take_of_length_le (by rw [zBa, zAb]; omega)
     try simp -dsimp (maxSteps := 1000000) only [go_sem, List.forall_mem_nil, ↓reduceIte, Nat.reduceEqDiff, Nat.reduceLT, Nat.reduceLeDiff, Nat.reduceAdd, Nat.reduceMul, reduceCtorEq, Tryz.f8, zAe, hg, rp, rn, zBw, zCw, hb1, hb2, tk, tkn, tIZp_app, tINp_app, zBa, zAa, zAb, appendH, srcRows, List.take_succ_cons, List.take_zero, List.all_cons, List.all_nil, okT, Bool.and_true, List.length_append, Bool.not_false, Nat.sub_zero, Nat.add_zero]
     repeat' (first
       | ((with_reducible refine sl_i ?_ ?_); focus kernel_rfl)
       | ((with_reducible refine ro_i ?_ ?_); focus kernel_rfl))
     refine ⟨⟨(acc ++ [(u, v)], acl ++ [lb], qs3, b3), by rw [hinv]; simp, by simp only []; omega, by simp only [List.length_append, List.length_cons, List.length_nil]; omega, by simp only [List.length_append, List.length_cons, List.length_nil]; omega, nsb⟩, by simp only []; omega, [], [0, 1, 2, 4, 55, 135], ?_⟩
     (simp only [go_sem, eq_self, MvRb, MvRn, MvRt, List.nodup_cons, List.nodup_nil, ↓reduceIte, Nat.reduceEqDiff, Nat.reduceLT, Nat.reduceLeDiff, reduceCtorEq, List.forall_mem_nil, Nat.zero_le, false_implies, List.mem_singleton, MvR_Z, MvR_Np, zCb, List.length_append, List.length_cons, List.length_nil])
   · have hdq : slcP qs b = ([], [], qs, b) := by unfold slcP; rw [dif_neg hgo]
     rw [hdq, List.append_nil, List.append_nil] at hinv
     rw [hinv] at hR hdk
     simp only at hR hdk
     have hal : acc.length ≤ 1048576 := Nat.le_trans hq2 hl1
     have hall : acl.length ≤ 1048576 := Nat.le_trans hq4 hl1
     have tkl : List.take acc.length (tI (rowsZ acc)) = tI (rowsZ acc) := List.take_of_length_le (by rw [zBa, zAa]; omega)
     have tkm : List.take acl.length (tI (rowsN acl)) = tI (rowsN acl) := List.take_of_length_le (by rw [zBa, zAb]; omega)
     have hg : ((0 : Int) < ((0 : Nat) : Int)) = False := eq_false (by omega)
     have ri := zBg (k := 6) (t1 := 0) (t2 := 0) (s1 := 0) (s2 := 0) (lv := 0) (st := []) (ra := 0) (rc := 0) (pts := acc) (lab := acl) (c := ra) (l := 0) (by simp) (by simp only [sm]; omega) (by simp only [sm]; omega)
     have rf := zAy ⟨⟨6, (0, 0), (0, 0), 0, [], 0, 0, acc, acl, ra, 0⟩, ⟨by simp, by simp only [sm]; omega, by simp only [sm]; omega⟩, ⟨⟨by simp, by simp⟩, ⟨by simp, by simp⟩, by simp, by simp, hdk.2.2.1⟩, by simp [i64B], w1, by simp [i64B], hdk.2.2.2⟩
     simp only [modC, zAg, zAl] at ri rf
     have ho := pm_of hws hR
     cases b with
     | true =>
       rw [ho, if_neg (by simp)]
       cases qs with
       | nil =>
         try simp -dsimp (maxSteps := 1000000) only [go_sem, List.forall_mem_nil, ↓reduceIte, Nat.reduceEqDiff, Nat.reduceLT, Nat.reduceLeDiff, Nat.reduceAdd, Nat.reduceMul, reduceCtorEq, Tryz.f8, c9, zAs, List.take_nil, List.take_zero, Int.reduceLT, Int.reduceEq, Bool.not_true, Bool.not_false, Bool.or_self, Bool.true_or, Bool.false_or, Bool.or_true, zBa, zFh, zAa, zAb, tkl, tkm, zAn, c0, hg]
         refine zAr [.nilT 0 0 4 1, .nilT 0 0 7 1, .nilT 0 0 8 1, .unf 0 0 4, .unf 0 0 7, .unf 0 0 8] ?_
         simp -dsimp (maxSteps := 1000000) only [go_sem, List.forall_mem_nil, ↓reduceIte, Nat.reduceEqDiff, Nat.reduceLT, Nat.reduceLeDiff, Nat.reduceAdd, Nat.reduceMul, reduceCtorEq, Option.map_some, rModB, mod0]
         refine ⟨[7, 8, 9], ?_, ?_, ?_, rfl, rfl, rfl⟩ <;> simp [rtOk, tI, rowsZ, rowsN]
       | cons p0 t0 =>
         have hg2 : ((0 : Int) < ((t0.length + 1 : Nat) : Int)) = True := eq_true (by omega)
         try simp -dsimp (maxSteps := 1000000) only [go_sem, List.forall_mem_nil, ↓reduceIte, Nat.reduceEqDiff, Nat.reduceLT, Nat.reduceLeDiff, Nat.reduceAdd, Nat.reduceMul, reduceCtorEq, Tryz.f8, c9, zAs, List.take_nil, List.take_zero, Int.reduceLT, Int.reduceEq, Bool.not_true, Bool.not_false, Bool.or_self, Bool.true_or, Bool.false_or, Bool.or_true, zBa, zFh, zAa, zAb, tkl, tkm, zAe, zAu, List.length_cons, hg2]
         refine zAr [.nilT 0 0 4 1, .nilT 0 0 7 1, .nilT 0 0 8 1, .unf 0 0 4, .unf 0 0 7, .unf 0 0 8] ?_
         simp -dsimp (maxSteps := 1000000) only [go_sem, List.forall_mem_nil, ↓reduceIte, Nat.reduceEqDiff, Nat.reduceLT, Nat.reduceLeDiff, Nat.reduceAdd, Nat.reduceMul, reduceCtorEq, Option.map_some, rModB, mod0]
         refine ⟨[7, 8, 9], ?_, ?_, ?_, rfl, rfl, rfl⟩ <;> simp [rtOk, tI, rowsZ, rowsN]
     | false =>
       cases qs with
       | cons p0 t0 => exact absurd ⟨by simp, rfl⟩ hgo
       | nil =>
       cases hv : isModuleF ⟨6, (0, 0), (0, 0), 0, [], 0, 0, acc, acl, ra, 0⟩ with
       | false =>
         rw [hv] at ri
         rw [ho, if_neg (by simp [hv])]
         try simp -dsimp (maxSteps := 1000000) only [go_sem, List.forall_mem_nil, ↓reduceIte, Nat.reduceEqDiff, Nat.reduceLT, Nat.reduceLeDiff, Nat.reduceAdd, Nat.reduceMul, reduceCtorEq, Tryz.f8, c9, zAs, List.take_nil, List.take_zero, Int.reduceLT, Int.reduceEq, Bool.not_true, Bool.not_false, Bool.or_self, Bool.true_or, Bool.false_or, Bool.or_true, zBa, zFh, zAa, zAb, tkl, tkm, zAn, c0, hg, ri]
         refine zAr [.nilT 0 0 4 1, .nilT 0 0 7 1, .nilT 0 0 8 1, .unf 0 0 4, .unf 0 0 7, .unf 0 0 8] ?_
         simp -dsimp (maxSteps := 1000000) only [go_sem, List.forall_mem_nil, ↓reduceIte, Nat.reduceEqDiff, Nat.reduceLT, Nat.reduceLeDiff, Nat.reduceAdd, Nat.reduceMul, reduceCtorEq, Option.map_some, rModB, mod0]
         refine ⟨[7, 8, 9], ?_, ?_, ?_, rfl, rfl, rfl⟩ <;> simp [rtOk, tI, rowsZ, rowsN]
       | true =>
       rw [hv] at ri
       by_cases hf : fmtM ⟨6, (0, 0), (0, 0), 0, [], 0, 0, acc, acl, ra, 0⟩ = s
       · have hf' := eq_true hf
         rw [ho, if_pos ⟨rfl, rfl, hv, hf⟩]
         try simp -dsimp (maxSteps := 1000000) only [go_sem, List.forall_mem_nil, ↓reduceIte, Nat.reduceEqDiff, Nat.reduceLT, Nat.reduceLeDiff, Nat.reduceAdd, Nat.reduceMul, reduceCtorEq, Tryz.f8, c9, zAs, List.take_nil, List.take_zero, Int.reduceLT, Int.reduceEq, Bool.not_true, Bool.not_false, Bool.or_self, Bool.true_or, Bool.false_or, Bool.or_true, zBa, zFh, zAa, zAb, tkl, tkm, zAn, c0, hg, ri, rf, zAp, zAj, hf']
         refine zAr [] ?_
         simp -dsimp (maxSteps := 1000000) only [go_sem, List.forall_mem_nil, ↓reduceIte, Nat.reduceEqDiff, Nat.reduceLT, Nat.reduceLeDiff, Nat.reduceAdd, Nat.reduceMul, reduceCtorEq, rModB]
         refine ⟨[4, 5, 6], ?_, ?_, ?_, rfl, rfl, rfl⟩ <;> simp [rtOk, tI, rowsZ, rowsN]
       · have hf' := eq_false hf
         rw [ho, if_neg (fun h => hf h.2.2.2)]
         try simp -dsimp (maxSteps := 1000000) only [go_sem, List.forall_mem_nil, ↓reduceIte, Nat.reduceEqDiff, Nat.reduceLT, Nat.reduceLeDiff, Nat.reduceAdd, Nat.reduceMul, reduceCtorEq, Tryz.f8, c9, zAs, List.take_nil, List.take_zero, Int.reduceLT, Int.reduceEq, Bool.not_true, Bool.not_false, Bool.or_self, Bool.true_or, Bool.false_or, Bool.or_true, zBa, zFh, zAa, zAb, tkl, tkm, zAn, c0, hg, ri, rf, zAp, zAj, hf']
         refine zAr [.nilT 0 0 4 1, .nilT 0 0 7 1, .nilT 0 0 8 1, .unf 0 0 4, .unf 0 0 7, .unf 0 0 8] ?_
         simp -dsimp (maxSteps := 1000000) only [go_sem, List.forall_mem_nil, ↓reduceIte, Nat.reduceEqDiff, Nat.reduceLT, Nat.reduceLeDiff, Nat.reduceAdd, Nat.reduceMul, reduceCtorEq, Option.map_some, rModB, mod0]
         refine ⟨[7, 8, 9], ?_, ?_, ?_, rfl, rfl, rfl⟩ <;> simp [rtOk, tI, rowsZ, rowsN]
 · have hR : readM (kindT w) ps = (⟨7, (0, 0), (0, 0), (rdS ps false).1, [], 0, 0, [], [], 0, 0⟩, (rdS ps false).2) := by rw [hK]; simp [readM, mod0]
   have r1 := zGh (bad := false) hlps hsps
   have w1 := rdS_lt ps false
   simp only [hsRd] at r1
   rw [hK]
   generalize rdS ps false = X at *
   obtain ⟨lv, rest, bd⟩ := X
   simp only at r1 w1 hR
   have ho := pm_of hws hR
   cases bd with
   | true =>
     rw [ho, if_neg (by simp)]
     try simp -dsimp (maxSteps := 1000000) only [go_sem, List.forall_mem_nil, ↓reduceIte, Nat.reduceEqDiff, Nat.reduceLT, Nat.reduceLeDiff, Nat.reduceAdd, Nat.reduceMul, reduceCtorEq, Tryz.f8, c9, r1, zCn, zAs, List.take_nil, List.take_zero, Int.reduceLT, Int.reduceEq, Bool.not_true, Bool.not_false, Bool.or_self, Bool.true_or, Bool.false_or, Bool.or_true, zAe]
     refine zAr [.nilT 0 0 4 1, .nilT 0 0 7 1, .nilT 0 0 8 1, .unf 0 0 4, .unf 0 0 7, .unf 0 0 8] ?_
     simp -dsimp (maxSteps := 1000000) only [go_sem, List.forall_mem_nil, ↓reduceIte, Nat.reduceEqDiff, Nat.reduceLT, Nat.reduceLeDiff, Nat.reduceAdd, Nat.reduceMul, reduceCtorEq, Option.map_some, rModB, mod0]
     refine ⟨[7, 8, 9], ?_, ?_, ?_, rfl, rfl, rfl⟩ <;> simp [rtOk, tI, rowsZ, rowsN]
   | false =>
   cases rest with
   | cons p0 t0 =>
     have hg : ((0 : Int) < ((t0.length + 1 : Nat) : Int)) = True := eq_true (by omega)
     rw [ho, if_neg (by simp)]
     try simp -dsimp (maxSteps := 1000000) only [go_sem, List.forall_mem_nil, ↓reduceIte, Nat.reduceEqDiff, Nat.reduceLT, Nat.reduceLeDiff, Nat.reduceAdd, Nat.reduceMul, reduceCtorEq, Tryz.f8, c9, r1, zCn, zAs, List.take_nil, List.take_zero, Int.reduceLT, Int.reduceEq, Bool.not_true, Bool.not_false, Bool.or_self, Bool.true_or, Bool.false_or, Bool.or_true, zAe, hg]
     refine zAr [.nilT 0 0 4 1, .nilT 0 0 7 1, .nilT 0 0 8 1, .unf 0 0 4, .unf 0 0 7, .unf 0 0 8] ?_
     simp -dsimp (maxSteps := 1000000) only [go_sem, List.forall_mem_nil, ↓reduceIte, Nat.reduceEqDiff, Nat.reduceLT, Nat.reduceLeDiff, Nat.reduceAdd, Nat.reduceMul, reduceCtorEq, Option.map_some, rModB, mod0]
     refine ⟨[7, 8, 9], ?_, ?_, ?_, rfl, rfl, rfl⟩ <;> simp [rtOk, tI, rowsZ, rowsN]
   | nil =>
   have ri := zBg (k := 7) (t1 := 0) (t2 := 0) (s1 := 0) (s2 := 0) (lv := lv) (st := []) (ra := 0) (rc := 0) (pts := []) (lab := []) (c := 0) (l := 0) (by simp) (by simp) (by simp)
   have rf := zAy ⟨⟨7, (0, 0), (0, 0), lv, [], 0, 0, [], [], 0, 0⟩, ⟨by simp, by simp, by simp⟩, ⟨⟨by simp, by simp⟩, ⟨by simp, by simp⟩, w1, by simp, by simp⟩, by simp [i64B], by simp [i64B], by simp [i64B], by simp⟩
   simp only [modC, zAg, zAl] at ri rf
   cases hv : isModuleF ⟨7, (0, 0), (0, 0), lv, [], 0, 0, [], [], 0, 0⟩ with
   | false =>
     rw [hv] at ri
     rw [ho, if_neg (by simp [hv])]
     try simp -dsimp (maxSteps := 1000000) only [go_sem, List.forall_mem_nil, ↓reduceIte, Nat.reduceEqDiff, Nat.reduceLT, Nat.reduceLeDiff, Nat.reduceAdd, Nat.reduceMul, reduceCtorEq, Tryz.f8, c9, r1, zCn, zAs, List.take_nil, List.take_zero, Int.reduceLT, Int.reduceEq, Bool.not_true, Bool.not_false, Bool.or_self, Bool.true_or, Bool.false_or, Bool.or_true, zAn, c0, ri]
     refine zAr [.nilT 0 0 4 1, .nilT 0 0 7 1, .nilT 0 0 8 1, .unf 0 0 4, .unf 0 0 7, .unf 0 0 8] ?_
     simp -dsimp (maxSteps := 1000000) only [go_sem, List.forall_mem_nil, ↓reduceIte, Nat.reduceEqDiff, Nat.reduceLT, Nat.reduceLeDiff, Nat.reduceAdd, Nat.reduceMul, reduceCtorEq, Option.map_some, rModB, mod0]
     refine ⟨[7, 8, 9], ?_, ?_, ?_, rfl, rfl, rfl⟩ <;> simp [rtOk, tI, rowsZ, rowsN]
   | true =>
   rw [hv] at ri
   by_cases hf : fmtM ⟨7, (0, 0), (0, 0), lv, [], 0, 0, [], [], 0, 0⟩ = s
   · have hf' := eq_true hf
     rw [ho, if_pos ⟨rfl, rfl, hv, hf⟩]
     try simp -dsimp (maxSteps := 1000000) only [go_sem, List.forall_mem_nil, ↓reduceIte, Nat.reduceEqDiff, Nat.reduceLT, Nat.reduceLeDiff, Nat.reduceAdd, Nat.reduceMul, reduceCtorEq, Tryz.f8, c9, r1, zCn, zAs, List.take_nil, List.take_zero, Int.reduceLT, Int.reduceEq, Bool.not_true, Bool.not_false, Bool.or_self, Bool.true_or, Bool.false_or, Bool.or_true, zAn, c0, ri, rf, zAp, zAj, hf']
     refine zAr [] ?_
     simp -dsimp (maxSteps := 1000000) only [go_sem, List.forall_mem_nil, ↓reduceIte, Nat.reduceEqDiff, Nat.reduceLT, Nat.reduceLeDiff, Nat.reduceAdd, Nat.reduceMul, reduceCtorEq, rModB]
     refine ⟨[4, 5, 6], ?_, ?_, ?_, rfl, rfl, rfl⟩ <;> simp [rtOk, tI, rowsZ, rowsN]
   · have hf' := eq_false hf
     rw [ho, if_neg (fun h => hf h.2.2.2)]
     try simp -dsimp (maxSteps := 1000000) only [go_sem, List.forall_mem_nil, ↓reduceIte, Nat.reduceEqDiff, Nat.reduceLT, Nat.reduceLeDiff, Nat.reduceAdd, Nat.reduceMul, reduceCtorEq, Tryz.f8, c9, r1, zCn, zAs, List.take_nil, List.take_zero, Int.reduceLT, Int.reduceEq, Bool.not_true, Bool.not_false, Bool.or_self, Bool.true_or, Bool.false_or, Bool.or_true, zAn, c0, ri, rf, zAp, zAj, hf']
     refine zAr [.nilT 0 0 4 1, .nilT 0 0 7 1, .nilT 0 0 8 1, .unf 0 0 4, .unf 0 0 7, .unf 0 0 8] ?_
     simp -dsimp (maxSteps := 1000000) only [go_sem, List.forall_mem_nil, ↓reduceIte, Nat.reduceEqDiff, Nat.reduceLT, Nat.reduceLeDiff, Nat.reduceAdd, Nat.reduceMul, reduceCtorEq, Option.map_some, rModB, mod0]
     refine ⟨[7, 8, 9], ?_, ?_, ?_, rfl, rfl, rfl⟩ <;> simp [rtOk, tI, rowsZ, rowsN]
 · have hR : readM (kindT w) ps = (⟨8, (0, 0), (rdP (rdI (rdI ps false).2.1 (rdI ps false).2.2).2.1 (rdI (rdI ps false).2.1 (rdI ps false).2.2).2.2).1, 0, [], 0, 0, [], [], (rdI ps false).1, (rdI (rdI ps false).2.1 (rdI ps false).2.2).1⟩, (rdP (rdI (rdI ps false).2.1 (rdI ps false).2.2).2.1 (rdI (rdI ps false).2.1 (rdI ps false).2.2).2.2).2) := by rw [hK]; simp [readM, mod0]
   have r1 := zEc (bad := false) hlps hsps
   have r2 := zEc (ps := (rdI ps false).2.1) (bad := (rdI ps false).2.2) (by rw [zEv]; omega) (rdI_sub hsps)
   have r3 := zEb (ps := (rdI (rdI ps false).2.1 (rdI ps false).2.2).2.1) (bad := (rdI (rdI ps false).2.1 (rdI ps false).2.2).2.2) (by rw [zEv, zEv]; omega) (rdI_sub (rdI_sub hsps))
   have w1 := rdI_b ps false
   have w2 := rdI_b (rdI ps false).2.1 (rdI ps false).2.2
   have w3 := zGq (rdI (rdI ps false).2.1 (rdI ps false).2.2).2.1 (rdI (rdI ps false).2.1 (rdI ps false).2.2).2.2
   simp only [hsRd] at r1 r2 r3
   rw [hK]
   generalize rdP (rdI (rdI ps false).2.1 (rdI ps false).2.2).2.1 (rdI (rdI ps false).2.1 (rdI ps false).2.2).2.2 = Z at *
   generalize rdI (rdI ps false).2.1 (rdI ps false).2.2 = Y at *
   generalize rdI ps false = X at *
   obtain ⟨c, ps1, b1⟩ := X
   obtain ⟨lf, ps2, b2⟩ := Y
   obtain ⟨⟨s1, s2⟩, rest, bd⟩ := Z
   simp only at r1 r2 r3 w1 w2 w3 hR
   have ho := pm_of hws hR
   cases bd with
   | true =>
     rw [ho, if_neg (by simp)]
     try simp -dsimp (maxSteps := 1000000) only [go_sem, List.forall_mem_nil, ↓reduceIte, Nat.reduceEqDiff, Nat.reduceLT, Nat.reduceLeDiff, Nat.reduceAdd, Nat.reduceMul, reduceCtorEq, Tryz.f8, c9, r1, r2, r3, zCw, zBw, zAs, List.take_nil, List.take_zero, Int.reduceLT, Int.reduceEq, Bool.not_true, Bool.not_false, Bool.or_self, Bool.true_or, Bool.false_or, Bool.or_true, zAe]
     refine zAr [.nilT 0 0 4 1, .nilT 0 0 7 1, .nilT 0 0 8 1, .unf 0 0 4, .unf 0 0 7, .unf 0 0 8] ?_
     simp -dsimp (maxSteps := 1000000) only [go_sem, List.forall_mem_nil, ↓reduceIte, Nat.reduceEqDiff, Nat.reduceLT, Nat.reduceLeDiff, Nat.reduceAdd, Nat.reduceMul, reduceCtorEq, Option.map_some, rModB, mod0]
     refine ⟨[7, 8, 9], ?_, ?_, ?_, rfl, rfl, rfl⟩ <;> simp [rtOk, tI, rowsZ, rowsN]
   | false =>
   cases rest with
   | cons p0 t0 =>
     have hg : ((0 : Int) < ((t0.length + 1 : Nat) : Int)) = True := eq_true (by omega)
     rw [ho, if_neg (by simp)]
     try simp -dsimp (maxSteps := 1000000) only [go_sem, List.forall_mem_nil, ↓reduceIte, Nat.reduceEqDiff, Nat.reduceLT, Nat.reduceLeDiff, Nat.reduceAdd, Nat.reduceMul, reduceCtorEq, Tryz.f8, c9, r1, r2, r3, zCw, zBw, zAs, List.take_nil, List.take_zero, Int.reduceLT, Int.reduceEq, Bool.not_true, Bool.not_false, Bool.or_self, Bool.true_or, Bool.false_or, Bool.or_true, zAe, hg]
     refine zAr [.nilT 0 0 4 1, .nilT 0 0 7 1, .nilT 0 0 8 1, .unf 0 0 4, .unf 0 0 7, .unf 0 0 8] ?_
     simp -dsimp (maxSteps := 1000000) only [go_sem, List.forall_mem_nil, ↓reduceIte, Nat.reduceEqDiff, Nat.reduceLT, Nat.reduceLeDiff, Nat.reduceAdd, Nat.reduceMul, reduceCtorEq, Option.map_some, rModB, mod0]
     refine ⟨[7, 8, 9], ?_, ?_, ?_, rfl, rfl, rfl⟩ <;> simp [rtOk, tI, rowsZ, rowsN]
   | nil =>
   have ri := zBg (k := 8) (t1 := 0) (t2 := 0) (s1 := s1) (s2 := s2) (lv := 0) (st := []) (ra := 0) (rc := 0) (pts := []) (lab := []) (c := c) (l := lf) (by simp) (by simp) (by simp)
   have rf := zAy ⟨⟨8, (0, 0), (s1, s2), 0, [], 0, 0, [], [], c, lf⟩, ⟨by simp, by simp, by simp⟩, ⟨⟨by simp, by simp⟩, w3, by simp, by simp, by simp⟩, by simp [i64B], w1, w2, by simp⟩
   simp only [modC, zAg, zAl] at ri rf
   cases hv : isModuleF ⟨8, (0, 0), (s1, s2), 0, [], 0, 0, [], [], c, lf⟩ with
   | false =>
     rw [hv] at ri
     rw [ho, if_neg (by simp [hv])]
     try simp -dsimp (maxSteps := 1000000) only [go_sem, List.forall_mem_nil, ↓reduceIte, Nat.reduceEqDiff, Nat.reduceLT, Nat.reduceLeDiff, Nat.reduceAdd, Nat.reduceMul, reduceCtorEq, Tryz.f8, c9, r1, r2, r3, zCw, zBw, zAs, List.take_nil, List.take_zero, Int.reduceLT, Int.reduceEq, Bool.not_true, Bool.not_false, Bool.or_self, Bool.true_or, Bool.false_or, Bool.or_true, zAn, c0, ri]
     refine zAr [.nilT 0 0 4 1, .nilT 0 0 7 1, .nilT 0 0 8 1, .unf 0 0 4, .unf 0 0 7, .unf 0 0 8] ?_
     simp -dsimp (maxSteps := 1000000) only [go_sem, List.forall_mem_nil, ↓reduceIte, Nat.reduceEqDiff, Nat.reduceLT, Nat.reduceLeDiff, Nat.reduceAdd, Nat.reduceMul, reduceCtorEq, Option.map_some, rModB, mod0]
     refine ⟨[7, 8, 9], ?_, ?_, ?_, rfl, rfl, rfl⟩ <;> simp [rtOk, tI, rowsZ, rowsN]
   | true =>
   rw [hv] at ri
   by_cases hf : fmtM ⟨8, (0, 0), (s1, s2), 0, [], 0, 0, [], [], c, lf⟩ = s
   · have hf' := eq_true hf
     rw [ho, if_pos ⟨rfl, rfl, hv, hf⟩]
     try simp -dsimp (maxSteps := 1000000) only [go_sem, List.forall_mem_nil, ↓reduceIte, Nat.reduceEqDiff, Nat.reduceLT, Nat.reduceLeDiff, Nat.reduceAdd, Nat.reduceMul, reduceCtorEq, Tryz.f8, c9, r1, r2, r3, zCw, zBw, zAs, List.take_nil, List.take_zero, Int.reduceLT, Int.reduceEq, Bool.not_true, Bool.not_false, Bool.or_self, Bool.true_or, Bool.false_or, Bool.or_true, zAn, c0, ri, rf, zAp, zAj, hf']
     refine zAr [] ?_
     simp -dsimp (maxSteps := 1000000) only [go_sem, List.forall_mem_nil, ↓reduceIte, Nat.reduceEqDiff, Nat.reduceLT, Nat.reduceLeDiff, Nat.reduceAdd, Nat.reduceMul, reduceCtorEq, rModB]
     refine ⟨[4, 5, 6], ?_, ?_, ?_, rfl, rfl, rfl⟩ <;> simp [rtOk, tI, rowsZ, rowsN]
   · have hf' := eq_false hf
     rw [ho, if_neg (fun h => hf h.2.2.2)]
     try simp -dsimp (maxSteps := 1000000) only [go_sem, List.forall_mem_nil, ↓reduceIte, Nat.reduceEqDiff, Nat.reduceLT, Nat.reduceLeDiff, Nat.reduceAdd, Nat.reduceMul, reduceCtorEq, Tryz.f8, c9, r1, r2, r3, zCw, zBw, zAs, List.take_nil, List.take_zero, Int.reduceLT, Int.reduceEq, Bool.not_true, Bool.not_false, Bool.or_self, Bool.true_or, Bool.false_or, Bool.or_true, zAn, c0, ri, rf, zAp, zAj, hf']
     refine zAr [.nilT 0 0 4 1, .nilT 0 0 7 1, .nilT 0 0 8 1, .unf 0 0 4, .unf 0 0 7, .unf 0 0 8] ?_
     simp -dsimp (maxSteps := 1000000) only [go_sem, List.forall_mem_nil, ↓reduceIte, Nat.reduceEqDiff, Nat.reduceLT, Nat.reduceLeDiff, Nat.reduceAdd, Nat.reduceMul, reduceCtorEq, Option.map_some, rModB, mod0]
     refine ⟨[7, 8, 9], ?_, ?_, ?_, rfl, rfl, rfl⟩ <;> simp [rtOk, tI, rowsZ, rowsN]
 · have hR : readM (kindT w) ps = (⟨0, (0, 0), (0, 0), 0, [], 0, 0, [], [], 0, 0⟩, ps, false) := by rw [hK]; simp [readM, mod0]
   rw [hK]
   generalize ps = rest at *
   have ho := pm_of hws hR
   cases rest with
   | cons p0 t0 =>
     have hg : ((0 : Int) < ((t0.length + 1 : Nat) : Int)) = True := eq_true (by omega)
     rw [ho, if_neg (by simp)]
     try simp -dsimp (maxSteps := 1000000) only [go_sem, List.forall_mem_nil, ↓reduceIte, Nat.reduceEqDiff, Nat.reduceLT, Nat.reduceLeDiff, Nat.reduceAdd, Nat.reduceMul, reduceCtorEq, Tryz.f8, c9, c9, zAs, List.take_nil, List.take_zero, Int.reduceLT, Int.reduceEq, Bool.not_true, Bool.not_false, Bool.or_self, Bool.true_or, Bool.false_or, Bool.or_true, zAe, hg]
     refine zAr [.nilT 0 0 4 1, .nilT 0 0 7 1, .nilT 0 0 8 1, .unf 0 0 4, .unf 0 0 7, .unf 0 0 8] ?_
     simp -dsimp (maxSteps := 1000000) only [go_sem, List.forall_mem_nil, ↓reduceIte, Nat.reduceEqDiff, Nat.reduceLT, Nat.reduceLeDiff, Nat.reduceAdd, Nat.reduceMul, reduceCtorEq, Option.map_some, rModB, mod0]
     refine ⟨[7, 8, 9], ?_, ?_, ?_, rfl, rfl, rfl⟩ <;> simp [rtOk, tI, rowsZ, rowsN]
   | nil =>
   have ri := zBg (k := 0) (t1 := 0) (t2 := 0) (s1 := 0) (s2 := 0) (lv := 0) (st := []) (ra := 0) (rc := 0) (pts := []) (lab := []) (c := 0) (l := 0) (by simp) (by simp) (by simp)
   have rf := zAy ⟨⟨0, (0, 0), (0, 0), 0, [], 0, 0, [], [], 0, 0⟩, ⟨by simp, by simp, by simp⟩, ⟨⟨by simp, by simp⟩, ⟨by simp, by simp⟩, by simp, by simp, by simp⟩, by simp [i64B], by simp [i64B], by simp [i64B], by simp⟩
   simp only [modC, zAg, zAl] at ri rf
   cases hv : isModuleF ⟨0, (0, 0), (0, 0), 0, [], 0, 0, [], [], 0, 0⟩ with
   | false =>
     rw [hv] at ri
     rw [ho, if_neg (by simp [hv])]
     try simp -dsimp (maxSteps := 1000000) only [go_sem, List.forall_mem_nil, ↓reduceIte, Nat.reduceEqDiff, Nat.reduceLT, Nat.reduceLeDiff, Nat.reduceAdd, Nat.reduceMul, reduceCtorEq, Tryz.f8, c9, c9, zAs, List.take_nil, List.take_zero, Int.reduceLT, Int.reduceEq, Bool.not_true, Bool.not_false, Bool.or_self, Bool.true_or, Bool.false_or, Bool.or_true, zAn, c0, ri]
     refine zAr [.nilT 0 0 4 1, .nilT 0 0 7 1, .nilT 0 0 8 1, .unf 0 0 4, .unf 0 0 7, .unf 0 0 8] ?_
     simp -dsimp (maxSteps := 1000000) only [go_sem, List.forall_mem_nil, ↓reduceIte, Nat.reduceEqDiff, Nat.reduceLT, Nat.reduceLeDiff, Nat.reduceAdd, Nat.reduceMul, reduceCtorEq, Option.map_some, rModB, mod0]
     refine ⟨[7, 8, 9], ?_, ?_, ?_, rfl, rfl, rfl⟩ <;> simp [rtOk, tI, rowsZ, rowsN]
   | true =>
   rw [hv] at ri
   by_cases hf : fmtM ⟨0, (0, 0), (0, 0), 0, [], 0, 0, [], [], 0, 0⟩ = s
   · have hf' := eq_true hf
     rw [ho, if_pos ⟨rfl, rfl, hv, hf⟩]
     try simp -dsimp (maxSteps := 1000000) only [go_sem, List.forall_mem_nil, ↓reduceIte, Nat.reduceEqDiff, Nat.reduceLT, Nat.reduceLeDiff, Nat.reduceAdd, Nat.reduceMul, reduceCtorEq, Tryz.f8, c9, c9, zAs, List.take_nil, List.take_zero, Int.reduceLT, Int.reduceEq, Bool.not_true, Bool.not_false, Bool.or_self, Bool.true_or, Bool.false_or, Bool.or_true, zAn, c0, ri, rf, zAp, zAj, hf']
     refine zAr [] ?_
     simp -dsimp (maxSteps := 1000000) only [go_sem, List.forall_mem_nil, ↓reduceIte, Nat.reduceEqDiff, Nat.reduceLT, Nat.reduceLeDiff, Nat.reduceAdd, Nat.reduceMul, reduceCtorEq, rModB]
     refine ⟨[4, 5, 6], ?_, ?_, ?_, rfl, rfl, rfl⟩ <;> simp [rtOk, tI, rowsZ, rowsN]
   · have hf' := eq_false hf
     rw [ho, if_neg (fun h => hf h.2.2.2)]
     try simp -dsimp (maxSteps := 1000000) only [go_sem, List.forall_mem_nil, ↓reduceIte, Nat.reduceEqDiff, Nat.reduceLT, Nat.reduceLeDiff, Nat.reduceAdd, Nat.reduceMul, reduceCtorEq, Tryz.f8, c9, c9, zAs, List.take_nil, List.take_zero, Int.reduceLT, Int.reduceEq, Bool.not_true, Bool.not_false, Bool.or_self, Bool.true_or, Bool.false_or, Bool.or_true, zAn, c0, ri, rf, zAp, zAj, hf']
     refine zAr [.nilT 0 0 4 1, .nilT 0 0 7 1, .nilT 0 0 8 1, .unf 0 0 4, .unf 0 0 7, .unf 0 0 8] ?_
     simp -dsimp (maxSteps := 1000000) only [go_sem, List.forall_mem_nil, ↓reduceIte, Nat.reduceEqDiff, Nat.reduceLT, Nat.reduceLeDiff, Nat.reduceAdd, Nat.reduceMul, reduceCtorEq, Option.map_some, rModB, mod0]
     refine ⟨[7, 8, 9], ?_, ?_, ?_, rfl, rfl, rfl⟩ <;> simp [rtOk, tI, rowsZ, rowsN]
end Go.SX
namespace Go.SX
open Go Go.Proofs Ieee
noncomputable def ptsG (k : Nat) : Nat → List Txt → Option (List Pt)
 | 0, _ => some []
 | f + 1, ws => if k ≤ ws.length then
     (if (sglP (ws.getD 0 [])).2 = true ∧ (sglP (ws.getD 1 [])).2 = true then (ptsG k f (ws.drop k)).map (((sglP (ws.getD 0 [])).1, (sglP (ws.getD 1 [])).1) :: ·) else none)
   else some []
noncomputable def ptsO (k : Nat) (ws : List Txt) : Option (List Pt) := ptsG k (ws.length + 1) ws
noncomputable def pPts (k : Nat) (ws : List Txt) : List Pt × Bool := match ptsO k ws with
 | some l => (l, decide (ws.length % k = 0))
 | none => ([], false)
structure AWs where
 ws : List Txt
 k : Nat
 len : ws.length ≤ 1024
 sub : ∀ p ∈ ws, p.length ≤ 2097152
 hk : k = 2 ∨ k = 3
def rPB (x : List Pt × Bool) : Res := { val := .tup [.c (.im (.sl 1 (rowsZ x.1))), .c (.im (.bool x.2))] }
theorem okR_pb {x : List Pt × Bool} : OkR false (rPB x) := by
 refine ⟨.tup _ (fun d hd => ?_), by simp [rPB], by simp [rPB]⟩
 simp only [List.mem_cons, List.not_mem_nil, or_false] at hd
 rcases hd with rfl | rfl <;> exact .inl ⟨_, rfl, .im _ (.inl rfl)⟩
noncomputable def ct_l8Points : Ct := fam false (fun x : AWs => ([.c (.im (.sl 1 (rowsS x.ws))), .c (.im (.int .i64 (x.k : Int)))], [])) (fun x => .one (rPB (pPts x.k x.ws)))
theorem zEf {ws : List Txt} {k : Nat} (h1 : ws.length ≤ 1024) (h2 : ∀ p ∈ ws, p.length ≤ 2097152) (h3 : k = 2 ∨ k = 3) : ct_l8Points.run [.c (.im (.sl 1 (rowsS ws))), .c (.im (.int .i64 (k : Int)))] [] = some (.one (rPB (pPts k ws))) := by
 refine zAd (args := fun x : AWs => ([D.c (.im (.sl 1 (rowsS x.ws))), .c (.im (.int .i64 (x.k : Int)))], [])) ?_ ⟨ws, k, h1, h2, h3⟩
 rintro ⟨a, k, _, _, _⟩ ⟨b, k', _, _, _⟩ h
 simp only [Prod.mk.injEq, List.cons.injEq, D.c.injEq, C.im.injEq, I.sl.injEq, I.int.injEq, rowsS_eq, true_and, and_true] at h
 obtain ⟨rfl, h⟩ := h
 have := Int.ofNat_inj.1 h
 subst this; rfl
structure Pts (k : Nat) (ws : List Txt) (f i : Nat) (out : List Pt) : Prop where
 le : i ≤ ws.length
 fu : ws.length < f + i
 ln : out.length ≤ i
 eq : ptsO k ws = (ptsG k f (ws.drop i)).map (out ++ ·)
theorem zEq {ws : List Txt} {i j : Nat} {a : Txt} (h : ws[i + j]? = some a) : (ws.drop i).getD j [] = a := by
 rw [List.getD_eq_getElem?_getD, List.getElem?_drop, h]; rfl
theorem pts_hit {k : Nat} {ws : List Txt} {f i : Nat} {out : List Pt} (h : Pts k ws f i out) (hk : 0 < k) (hi : i + k ≤ ws.length) {a b : Txt} (ha : ws[i]? = some a) (hb : ws[i + 1]? = some b) (h1 : (sglP a).2 = true) (h2 : (sglP b).2 = true) :
   ∃ f', f = f' + 1 ∧ Pts k ws f' (i + k) (out ++ [((sglP a).1, (sglP b).1)]) := by
 obtain ⟨q1, q2, q3, q4⟩ := h
 match f, q2, q4 with
 | 0, q2, q4 => exfalso; omega
 | f' + 1, q2, q4 =>
   refine ⟨f', rfl, hi, by omega, by simp; omega, ?_⟩
   rw [q4, ptsG, if_pos (by rw [List.length_drop]; omega), zEq (j := 0) ha, zEq (j := 1) hb, if_pos ⟨h1, h2⟩, List.drop_drop, Option.map_map]
   congr 1
   funext l
   simp
theorem pts_bad {k : Nat} {ws : List Txt} {f i : Nat} {out : List Pt} (h : Pts k ws f i out) (hi : i + k ≤ ws.length) (hk : 0 < k) {a b : Txt} (ha : ws[i]? = some a) (hb : ws[i + 1]? = some b) (h1 : ¬ ((sglP a).2 = true ∧ (sglP b).2 = true)) : pPts k ws = ([], false) := by
 obtain ⟨q1, q2, q3, q4⟩ := h
 match f, q2, q4 with
 | 0, q2, q4 => exfalso; omega
 | f' + 1, q2, q4 =>
   unfold pPts
   rw [q4, ptsG, if_pos (by rw [List.length_drop]; omega), zEq (j := 0) ha, zEq (j := 1) hb, if_neg h1]
   rfl
theorem pts_end {k : Nat} {ws : List Txt} {f i : Nat} {out : List Pt} (h : Pts k ws f i out) (hi : ¬ i + k ≤ ws.length) : pPts k ws = (out, decide (ws.length % k = 0)) := by
 obtain ⟨q1, q2, q3, q4⟩ := h
 have e : ptsG k f (ws.drop i) = some [] := by
   match f with
   | 0 => rfl
   | f' + 1 => rw [ptsG, if_neg (by rw [List.length_drop]; omega)]
 unfold pPts
 rw [q4, e]
 simp
set_option maxRecDepth 100000 in
set_option maxHeartbeats 8000000 in
theorem law_l8Points : Law Tryz.prog 97 ct_l8Points := by
 refine zEj (zAc zFj zAf) hmixA Tryz.func97 rfl rfl (fun ⟨ws, k, hl, hsub, hk⟩ => ⟨okO okR_pb, by simp [Tryz.f97], ?_⟩)
 simp only at hl hsub hk ⊢
 try simp -dsimp (maxSteps := 1000000) only [go_sem, List.forall_mem_nil, ↓reduceIte, Nat.reduceEqDiff, Nat.reduceLT, Nat.reduceLeDiff, Nat.reduceAdd, Nat.reduceMul, reduceCtorEq, Tryz.f97]
 refine zBc (ι := { x : Nat × Nat × List Pt // Pts k ws x.1 x.2.1 x.2.2 }) (fun x => ⟨[(0, some (.c (.im (.sl 1 (rowsS ws))))), (1, some (.c (.im (.int .i64 (k : Int))))), (6, some (.c (.view 0 1 0 x.1.2.2.length))), (7, some (.c (.im (.int .i64 (x.1.2.1 : Int)))))],
   [(0, some (.arr 1 (tI (rowsZ x.1.2.2))))], 1⟩) (fun x => x.1.1) ⟨(ws.length + 1, 0, []), ⟨by simp, by simp, by simp, by simp [ptsO]⟩⟩ ⟨[], [0], by ((simp only [go_sem, eq_self, MvRb, MvRn, MvRt, List.nodup_cons, List.nodup_nil, ↓reduceIte, Nat.reduceEqDiff, Nat.reduceLT, Nat.reduceLeDiff, reduceCtorEq, List.forall_mem_nil, Nat.zero_le, false_implies, List.mem_singleton, MvR_Z, zAg]) <;> (try (simp -dsimp only [go_sem, eq_self, MvRb, MvRn, MvRt, List.nodup_cons, List.nodup_nil, ↓reduceIte, Nat.reduceEqDiff, Nat.reduceLT, Nat.reduceLeDiff, reduceCtorEq, List.forall_mem_nil, Nat.zero_le, false_implies, List.mem_singleton, MvR_Z, zAg]))) <;> simp [lk, tI, zAg]⟩ (fun ⟨⟨f, i, out⟩, hP⟩ => ?_)
 simp only at hP ⊢
 have q1 := hP.le
 have q3 := hP.ln
 have w1 : IntKind.i64.wrap ((i : Int) + (k : Int)) = ((i + k : Nat) : Int) := by rw [zAh (by omega) (by omega)]; omega
 have w2 : IntKind.i64.wrap ((i : Int) + 1) = ((i + 1 : Nat) : Int) := by rw [zAh (by omega) (by omega)]; omega
 by_cases hi : i + k ≤ ws.length
 · have hI : (((i + k : Nat) : Int) ≤ (ws.length : Int)) = True := eq_true (by omega)
   obtain ⟨a, ha⟩ : ∃ a, ws[i]? = some a := ⟨_, List.getElem?_eq_getElem (by omega)⟩
   obtain ⟨b, hb⟩ : ∃ b, ws[i + 1]? = some b := ⟨_, List.getElem?_eq_getElem (by omega)⟩
   have ra := rowsS_at ha
   have rb := rowsS_at hb
   have r1 := zDt (hsub a (List.mem_of_getElem? ha))
   have r2 := zDt (hsub b (List.mem_of_getElem? hb))
   simp only [oSg] at r1 r2
   have h0 : (0 ≤ (i : Int)) = True := eq_true (by omega)
   have h0' : (0 ≤ ((i + 1 : Nat) : Int)) = True := eq_true (by omega)
   have hI1 : ((i : Int) < (ws.length : Int)) = True := eq_true (by omega)
   have hI2 : (((i + 1 : Nat) : Int) < (ws.length : Int)) = True := eq_true (by omega)
   cases e1 : (sglP a).2 with
   | false =>
     rw [pts_bad hP hi (by omega) ha hb (by simp [e1])]
     simp only [e1] at r1
     simp only [rPB]
     try simp -dsimp (maxSteps := 1000000) only [go_sem, List.forall_mem_nil, ↓reduceIte, Nat.reduceEqDiff, Nat.reduceLT, Nat.reduceLeDiff, Nat.reduceAdd, Nat.reduceMul, reduceCtorEq, Tryz.f97, w1, w2, hI, hI1, hI2, h0, h0', ra, rb, r1, r2, zAe, Int.toNat_natCast, Bool.not_false, Bool.not_true]
     refine zAr [.nilI 1 [.s 4]] ?_
     simp -dsimp (maxSteps := 1000000) only [go_sem, List.forall_mem_nil, ↓reduceIte, Nat.reduceEqDiff, Nat.reduceLT, Nat.reduceLeDiff, Nat.reduceAdd, Nat.reduceMul, reduceCtorEq, zAg]
   | true =>
     simp only [e1] at r1
     cases e2 : (sglP b).2 with
     | false =>
       rw [pts_bad hP hi (by omega) ha hb (by simp [e2])]
       simp only [e2] at r2
       simp only [rPB]
       try simp -dsimp (maxSteps := 1000000) only [go_sem, List.forall_mem_nil, ↓reduceIte, Nat.reduceEqDiff, Nat.reduceLT, Nat.reduceLeDiff, Nat.reduceAdd, Nat.reduceMul, reduceCtorEq, Tryz.f97, w1, w2, hI, hI1, hI2, h0, h0', ra, rb, r1, r2, zAe, Int.toNat_natCast, Bool.not_false, Bool.not_true]
       refine zAr [.nilI 1 [.s 4]] ?_
       simp -dsimp (maxSteps := 1000000) only [go_sem, List.forall_mem_nil, ↓reduceIte, Nat.reduceEqDiff, Nat.reduceLT, Nat.reduceLeDiff, Nat.reduceAdd, Nat.reduceMul, reduceCtorEq, zAg]
     | true =>
       simp only [e2] at r2
       obtain ⟨f', rfl, hn⟩ := pts_hit hP (by omega) hi ha hb e1 e2
       generalize (sglP a).1 = X at *
       generalize (sglP b).1 = Y at *
       have hby : ((out.length + 1) * 8 ≤ 140737488355328) = True := eq_true (by omega)
       have hap := tIZp_app out X Y
       try simp -dsimp (maxSteps := 1000000) only [go_sem, List.forall_mem_nil, ↓reduceIte, Nat.reduceEqDiff, Nat.reduceLT, Nat.reduceLeDiff, Nat.reduceAdd, Nat.reduceMul, reduceCtorEq, Tryz.f97, w1, w2, hI, hI1, hI2, h0, h0', ra, rb, r1, r2, zAe, Int.toNat_natCast, Bool.not_false, Bool.not_true, hby, hap, zBa, zAa, appendH, srcRows, List.take_succ_cons, List.take_zero, List.all_cons, List.all_nil, okT, Bool.and_true, List.length_append]
       exact ⟨⟨(f', i + k, out ++ [(X, Y)]), hn⟩, by simp only []; omega, [], [2], by ((simp only [go_sem, eq_self, MvRb, MvRn, MvRt, List.nodup_cons, List.nodup_nil, ↓reduceIte, Nat.reduceEqDiff, Nat.reduceLT, Nat.reduceLeDiff, reduceCtorEq, List.forall_mem_nil, Nat.zero_le, false_implies, List.mem_singleton, MvR_Z]) <;> (try (simp -dsimp only [go_sem, eq_self, MvRb, MvRn, MvRt, List.nodup_cons, List.nodup_nil, ↓reduceIte, Nat.reduceEqDiff, Nat.reduceLT, Nat.reduceLeDiff, reduceCtorEq, List.forall_mem_nil, Nat.zero_le, false_implies, List.mem_singleton, MvR_Z]))) <;> simp [lk]⟩
 · have hI : (((i + k : Nat) : Int) ≤ (ws.length : Int)) = False := eq_false (by omega)
   rw [pts_end hP hi]
   have hk0 : ((k : Int) = 0) = False := eq_false (by omega)
   have hm : (ws.length : Int).tmod (k : Int) = ((ws.length % k : Nat) : Int) := by rw [Int.tmod_eq_emod_of_nonneg (by omega)]; exact (Int.natCast_emod _ _).symm
   have hd : decide (((ws.length % k : Nat) : Int) = 0) = decide (ws.length % k = 0) := by
     by_cases h : ws.length % k = 0
     · rw [decide_eq_true h, decide_eq_true (by omega)]
     · rw [decide_eq_false h, decide_eq_false (by omega)]
   have hmp : mapO (mapO imT) (tI (rowsZ out)) = some (rowsZ out) := tI_imT _
   simp only [rPB]
   try simp -dsimp (maxSteps := 1000000) only [go_sem, List.forall_mem_nil, ↓reduceIte, Nat.reduceEqDiff, Nat.reduceLT, Nat.reduceLeDiff, Nat.reduceAdd, Nat.reduceMul, reduceCtorEq, Tryz.f97, w1, hI, hk0, hm, zAe, zBa, zAa]
   repeat' (first
     | ((with_reducible refine sl_i ?_ ?_); focus kernel_rfl)
     | ((with_reducible refine ro_i ?_ ?_); focus kernel_rfl))
   refine zAr [.frz 0 [.s 4]] ?_
   simp -dsimp (maxSteps := 1000000) only [go_sem, List.forall_mem_nil, ↓reduceIte, Nat.reduceEqDiff, Nat.reduceLT, Nat.reduceLeDiff, Nat.reduceAdd, Nat.reduceMul, reduceCtorEq, hmp, hd, zBa, zAa]
end Go.SX
namespace Go.SX
open Go Go.Proofs Ieee
def labG : Nat → List Txt → List Int × Bool
 | 0, _ => ([], true)
 | f + 1, ws => if 0 < ws.length then
     (if (riF (ws.getD 0 [])).2 = true then ((riF (ws.getD 0 [])).1 :: (labG f (ws.drop 3)).1, (labG f (ws.drop 3)).2) else ([], false))
   else ([], true)
noncomputable def pSlc (ws : List Txt) : Mod × Bool :=
 (⟨6, (0, 0), (0, 0), 0, [], 0, 0, (pPts 3 ws.tail).1, (labG (ws.length + 1) (ws.drop 3)).1, (riF (ws.getD 0 [])).1, 0⟩,
   (labG (ws.length + 1) (ws.drop 3)).2 && ((riF (ws.getD 0 [])).2 && (pPts 3 ws.tail).2))
structure ALb where
 ws : List Txt
 ne : 0 < ws.length
 len : ws.length ≤ 1024
 sub : ∀ p ∈ ws, p.length ≤ 2097152
theorem okR_MBw {m : Mod} {b : Bool} : OkR false (rMB m b) := okR_MB
noncomputable def ct_l8Slicer : Ct := fam false (fun x : ALb => ([.c (.im (.sl 1 (rowsS x.ws)))], [])) (fun x => .one (rMB (pSlc x.ws).1 (pSlc x.ws).2))
theorem run_l8Slicer {ws : List Txt} (h0 : 0 < ws.length) (h1 : ws.length ≤ 1024) (h2 : ∀ p ∈ ws, p.length ≤ 2097152) : ct_l8Slicer.run [.c (.im (.sl 1 (rowsS ws)))] [] = some (.one (rMB (pSlc ws).1 (pSlc ws).2)) := by
 refine zAd (args := fun x : ALb => ([D.c (.im (.sl 1 (rowsS x.ws)))], [])) ?_ ⟨ws, h0, h1, h2⟩
 rintro ⟨a, _, _, _⟩ ⟨b, _, _, _⟩ h
 simp only [Prod.mk.injEq, List.cons.injEq, D.c.injEq, C.im.injEq, I.sl.injEq, rowsS_eq, true_and, and_true] at h
 subst h; rfl
structure Lbs (ws : List Txt) (f i : Nat) (out : List Int) : Prop where
 ge : 3 ≤ i
 fu : ws.length < f + i
 ln : out.length ≤ i
 eq : labG (ws.length + 1) (ws.drop 3) = (out ++ (labG f (ws.drop i)).1, (labG f (ws.drop i)).2)
theorem lbs_hit {ws : List Txt} {f i : Nat} {out : List Int} (h : Lbs ws f i out) {a : Txt} (ha : ws[i]? = some a) (h1 : (riF a).2 = true) : ∃ f', f = f' + 1 ∧ Lbs ws f' (i + 3) (out ++ [(riF a).1]) := by
 obtain ⟨q1, q2, q3, q4⟩ := h
 have hlt := (List.getElem?_eq_some_iff.1 ha).1
 match f, q2, q4 with
 | 0, q2, q4 => exfalso; omega
 | f' + 1, q2, q4 =>
   refine ⟨f', rfl, by omega, by omega, by simp; omega, ?_⟩
   rw [q4, labG, if_pos (by rw [List.length_drop]; omega), zEq (j := 0) ha, if_pos h1, List.drop_drop]
   simp
theorem lbs_bad {ws : List Txt} {f i : Nat} {out : List Int} (h : Lbs ws f i out) {a : Txt} (ha : ws[i]? = some a) (h1 : (riF a).2 = false) : labG (ws.length + 1) (ws.drop 3) = (out, false) := by
 obtain ⟨q1, q2, q3, q4⟩ := h
 have hlt := (List.getElem?_eq_some_iff.1 ha).1
 match f, q2, q4 with
 | 0, q2, q4 => exfalso; omega
 | f' + 1, q2, q4 =>
   rw [q4, labG, if_pos (by rw [List.length_drop]; omega), zEq (j := 0) ha, if_neg (by rw [h1]; simp)]
   simp
theorem lbs_end {ws : List Txt} {f i : Nat} {out : List Int} (h : Lbs ws f i out) (hi : ws.length ≤ i) : labG (ws.length + 1) (ws.drop 3) = (out, true) := by
 obtain ⟨q1, q2, q3, q4⟩ := h
 have e : labG f (ws.drop i) = ([], true) := by
   match f with
   | 0 => rfl
   | f' + 1 => rw [labG, if_neg (by rw [List.length_drop]; omega)]
 rw [q4, e]
 simp
set_option maxRecDepth 100000 in
set_option maxHeartbeats 8000000 in
theorem law_l8Slicer : Law Tryz.prog 98 ct_l8Slicer := by
 refine zEj (zAc law_l8ReadInt (zAc law_l8Points zAf)) hmixA Tryz.func98 rfl rfl (fun ⟨ws, hne, hl, hsub⟩ => ⟨okO okR_MBw, by simp [Tryz.f98], ?_⟩)
 simp only at hne hl hsub ⊢
 obtain ⟨w0, t, rfl⟩ : ∃ w0 t, ws = w0 :: t := by
   cases ws with
   | nil => simp at hne
   | cons a t => exact ⟨a, t, rfl⟩
 have rn := zDw (hsub w0 (by simp))
 have rp := zEf (ws := t) (k := 3) (by simp at hl; omega) (fun p hp => hsub p (by simp [hp])) (.inr rfl)
 have c3 : ((3 : Nat) : Int) = 3 := rfl
 rw [c3] at rp
 obtain ⟨n, hn⟩ : ∃ n, (riF w0).1 = n := ⟨_, rfl⟩
 obtain ⟨one, h1⟩ : ∃ n, (riF w0).2 = n := ⟨_, rfl⟩
 obtain ⟨P, hP⟩ : ∃ P, (pPts 3 t).1 = P := ⟨_, rfl⟩
 obtain ⟨two, h2⟩ : ∃ P, (pPts 3 t).2 = P := ⟨_, rfl⟩
 simp only [rIB, hn, h1] at rn
 simp only [rPB, hP, h2] at rp
 have g0 : (w0 :: t).getD 0 [] = w0 := rfl
 have L0 : ((0 : Int) < ((t.length + 1 : Nat) : Int)) = True := eq_true (by omega)
 have L1 : ((1 : Int) ≤ ((t.length + 1 : Nat) : Int)) = True := eq_true (by omega)
 have h4 : List.drop 1 (List.take (t.length + 1) ([I.str ⟨w0.toArray⟩] :: rowsS t)) = rowsS t := by rw [List.take_of_length_le (by simp [zAe])]; rfl
 have hS : ∀ L, labG ((w0 :: t).length + 1) ((w0 :: t).drop 3) = L → pSlc (w0 :: t) = (⟨6, (0, 0), (0, 0), 0, [], 0, 0, P, L.1, n, 0⟩, L.2 && (one && two)) := fun L hL => by
   unfold pSlc
   rw [hL, g0, List.tail_cons, hn, h1, hP, h2]
 try simp -dsimp (maxSteps := 1000000) only [go_sem, List.forall_mem_nil, ↓reduceIte, Nat.reduceEqDiff, Nat.reduceLT, Nat.reduceLeDiff, Nat.reduceAdd, Nat.reduceMul, reduceCtorEq, Tryz.f98, zAe, zAu, L0, L1, h4, rn, rp, List.drop_succ_cons, List.drop_zero, Int.toNat_one, Int.toNat_zero, Int.toNat_natCast, Int.reduceLE]
 refine zBc (ι := { x : Nat × Nat × List Int // Lbs (w0 :: t) x.1 x.2.1 x.2.2 }) (fun x => ⟨[(0, some (.c (.im (.sl 1 (rowsS (w0 :: t)))))), (2, some (.c (.ptr 0 0 0 0))), (4, some (.c (.ptr 1 0 0 0))), (6, some (.c (.im (.bool one)))), (8, some (.c (.im (.bool two)))), (9, some (.c (.im (.int .i64 (x.1.2.1 : Int)))))],
   [(0, some (.box mz11)), (1, some (.box [.t (.im (.int .i64 6)), .t (.im (.cpx .f32 0 0)), .t (.im (.cpx .f32 0 0)), .t (.im (.flt .f32 0)), .t .nil, .t (.im (.int .i64 0)), .t (.im (.int .i64 0)), .t (.im (.sl 1 (rowsZ P))), .t (.own 1 (tI (rowsN x.1.2.2))), .t (.im (.int .i64 n)), .t (.im (.int .i64 0))]))], 2⟩) (fun x => x.1.1) ⟨((w0 :: t).length + 1, 3, []), ⟨Nat.le_refl _, by simp only []; omega, by simp, by simp⟩⟩ ⟨[.nilT 1 0 8 1], [0, 1], by ((simp only [go_sem, eq_self, MvRb, MvRn, MvRt, List.nodup_cons, List.nodup_nil, ↓reduceIte, Nat.reduceEqDiff, Nat.reduceLT, Nat.reduceLeDiff, reduceCtorEq, List.forall_mem_nil, Nat.zero_le, false_implies, List.mem_singleton, Option.map_some, MvB_N, mz11, zAu]) <;> (try (simp -dsimp only [go_sem, eq_self, MvRb, MvRn, MvRt, List.nodup_cons, List.nodup_nil, ↓reduceIte, Nat.reduceEqDiff, Nat.reduceLT, Nat.reduceLeDiff, reduceCtorEq, List.forall_mem_nil, Nat.zero_le, false_implies, List.mem_singleton, Option.map_some, MvB_N, mz11, zAu]))) <;> simp [lk, zCb, MvB_N, tI, zAl, zAu]⟩ (fun ⟨⟨f, i, out⟩, hQ⟩ => ?_)
 simp only [mz11] at hQ ⊢
 have q1 := hQ.ge
 have q3 := hQ.ln
 have hll : (w0 :: t).length = t.length + 1 := rfl
 by_cases hi : i < (w0 :: t).length
 · have hI : ((i : Int) < ((t.length + 1 : Nat) : Int)) = True := eq_true (by omega)
   have h0 : (0 ≤ (i : Int)) = True := eq_true (by omega)
   obtain ⟨a, ha⟩ : ∃ a, (w0 :: t)[i]? = some a := ⟨_, List.getElem?_eq_getElem hi⟩
   have ra := rowsS_at ha
   rw [zAu] at ra
   have r1 := zDw (hsub a (List.mem_of_getElem? ha))
   simp only [rIB] at r1
   have hw : IntKind.i64.wrap ((i : Int) + 3) = ((i + 3 : Nat) : Int) := by rw [zAh (by omega) (by omega)]; omega
   cases e1 : (riF a).2 with
   | false =>
     rw [hS _ (lbs_bad hQ ha e1)]
     simp only [e1] at r1
     simp only [rMB, modC, zAg, Bool.false_and]
     have hmp : mapO (mapO imT) (tI (rowsN out)) = some (rowsN out) := tI_imT _
     try simp -dsimp (maxSteps := 1000000) only [go_sem, List.forall_mem_nil, ↓reduceIte, Nat.reduceEqDiff, Nat.reduceLT, Nat.reduceLeDiff, Nat.reduceAdd, Nat.reduceMul, reduceCtorEq, Tryz.f98, hI, h0, ra, r1, zAe, zAu, MvB_N, zBa, zAb, Int.toNat_natCast, Bool.not_false, Bool.not_true]
     refine zAr [.frz 2 [.b 0 0 8], .nilI 1 [.b 0 0 4]] ?_
     simp -dsimp (maxSteps := 1000000) only [go_sem, List.forall_mem_nil, ↓reduceIte, Nat.reduceEqDiff, Nat.reduceLT, Nat.reduceLeDiff, Nat.reduceAdd, Nat.reduceMul, reduceCtorEq, hmp, zBa, zAb, Bool.false_and, Bool.true_and, Bool.and_false, Bool.and_true]
   | true =>
     simp only [e1] at r1
     obtain ⟨f', rfl, hn'⟩ := lbs_hit hQ ha e1
     generalize (riF a).1 = X at *
     have hby : ((out.length + 1) * 8 ≤ 140737488355328) = True := eq_true (by omega)
     have hap := tINp_app out X
     try simp -dsimp (maxSteps := 1000000) only [go_sem, List.forall_mem_nil, ↓reduceIte, Nat.reduceEqDiff, Nat.reduceLT, Nat.reduceLeDiff, Nat.reduceAdd, Nat.reduceMul, reduceCtorEq, Tryz.f98, hI, h0, ra, r1, hw, zAe, zAu, MvB_N, Int.toNat_natCast, Bool.not_false, Bool.not_true, hby, hap, zBa, zAb, appendH, srcRows, List.take_succ_cons, List.take_zero, List.all_cons, List.all_nil, okT, Bool.and_true, List.length_append]
     exact ⟨⟨(f', i + 3, out ++ [X]), hn'⟩, by simp only []; omega, [.fold 1 0 8], [0, 1], by (simp only [go_sem, eq_self, MvRb, MvRn, MvRt, List.nodup_cons, List.nodup_nil, ↓reduceIte, Nat.reduceEqDiff, Nat.reduceLT, Nat.reduceLeDiff, reduceCtorEq, List.forall_mem_nil, Nat.zero_le, false_implies, List.mem_singleton, Option.map_some, MvB_N, mz11, zBa, zAb, List.length_append]) <;> simp [lk, zCb, MvB_N, zBa, zAb]⟩
 · have hI : ((i : Int) < ((t.length + 1 : Nat) : Int)) = False := eq_false (by omega)
   rw [hS _ (lbs_end hQ (by omega))]
   have hmp : mapO (mapO imT) (tI (rowsN out)) = some (rowsN out) := tI_imT _
   simp only [rMB, modC, zAg, Bool.true_and]
   cases one with
   | false =>
     try simp -dsimp (maxSteps := 1000000) only [go_sem, List.forall_mem_nil, ↓reduceIte, Nat.reduceEqDiff, Nat.reduceLT, Nat.reduceLeDiff, Nat.reduceAdd, Nat.reduceMul, reduceCtorEq, Tryz.f98, hI, zAe, zAu, MvB_N, zBa, zAb, Bool.false_and]
     refine zAr [.frz 2 [.b 0 0 8], .nilI 1 [.b 0 0 4]] ?_
     simp -dsimp (maxSteps := 1000000) only [go_sem, List.forall_mem_nil, ↓reduceIte, Nat.reduceEqDiff, Nat.reduceLT, Nat.reduceLeDiff, Nat.reduceAdd, Nat.reduceMul, reduceCtorEq, hmp, zBa, zAb, Bool.false_and, Bool.true_and, Bool.and_false, Bool.and_true]
   | true =>
     try simp -dsimp (maxSteps := 1000000) only [go_sem, List.forall_mem_nil, ↓reduceIte, Nat.reduceEqDiff, Nat.reduceLT, Nat.reduceLeDiff, Nat.reduceAdd, Nat.reduceMul, reduceCtorEq, Tryz.f98, hI, zAe, zAu, MvB_N, zBa, zAb, Bool.true_and]
     refine zAr [.frz 2 [.b 0 0 8], .nilI 1 [.b 0 0 4]] ?_
     simp -dsimp (maxSteps := 1000000) only [go_sem, List.forall_mem_nil, ↓reduceIte, Nat.reduceEqDiff, Nat.reduceLT, Nat.reduceLeDiff, Nat.reduceAdd, Nat.reduceMul, reduceCtorEq, hmp, zBa, zAb, Bool.false_and, Bool.true_and, Bool.and_false, Bool.and_true]
end Go.SX
