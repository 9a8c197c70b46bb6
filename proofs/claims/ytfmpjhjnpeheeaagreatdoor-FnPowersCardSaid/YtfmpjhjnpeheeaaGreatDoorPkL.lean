/-
  spec: l1Number at integers, FormatSingle at every word.
  spec: l4Zero and IsRing at every word.
  spec: l5Unused and IsModule at any module.
  spec.l5Unused at any module of kind 1.
  spec.l5Unused at any module of kind 2.
  spec.l5Unused at any module of kind 3.
  spec.l5Unused at any module of kind 4.
  spec.l5Unused at any module of kind 5.
  spec.l5Unused at any module of kind 6.
  spec.l5Unused at any module of kind 7.
  spec.l5Unused at any module of kind 8.
  spec: l5Unused and IsModule at any module.
  No condition.
-/
import Derived.Test.YtfmpjhjnpeheeaaGreatDoorPkK
set_option linter.unusedVariables false
set_option linter.unusedSimpArgs false
namespace Go.SX
open Go Go.Proofs Ieee
theorem digF_dec : ∀ (f n : Nat), n < 10 ^ f → 0 < f → digF f n = Lib.decDigits n
 | 0, _, _, h => by omega
 | f + 1, n, h, _ => by
   unfold Lib.decDigits
   simp only [digF]
   split
   · rename_i h1
     rfl
   · rename_i h1
     rw [Nat.pow_succ] at h
     have a : n / 10 < 10 ^ f := Nat.div_lt_of_lt_mul (by omega)
     have b : 0 < f := by
       rcases Nat.eq_zero_or_pos f with rfl | h2
       · simp at a; omega
       · exact h2
     rw [digF_dec f (n / 10) a b]
     rfl
theorem digs_dec {n : Nat} (h : n < 100000000000000000000) : digs n = Lib.decDigits n := digF_dec 20 n h (by omega)
theorem itoa_natS (n : Nat) : Lib.itoa (n : Int) = Lib.decDigits n := by
 unfold Lib.itoa
 rw [if_neg (by omega), Int.toNat_natCast]
theorem itoa_neg {n : Int} (h : n < 0) : Lib.itoa n = 45 :: Lib.decDigits (-n).toNat := by
 unfold Lib.itoa
 rw [if_pos h]
 congr 2
 omega
abbrev INum := { n : Int // -9223372036854775807 ≤ n ∧ n ≤ 9223372036854775807 }
noncomputable def ct_l1NumberI : Ct := fam true (fun x : INum => ([.c (.im (.int .i64 x.1))], [])) (fun x => .one { val := .c (.im (.str ⟨(Lib.itoa x.1).toArray⟩)) })
theorem zEv {n : Int} (h : -9223372036854775807 ≤ n ∧ n ≤ 9223372036854775807) : ct_l1NumberI.run [.c (.im (.int .i64 n))] [] = some (.one { val := .c (.im (.str ⟨(Lib.itoa n).toArray⟩)) }) := zAd (args := fun x : INum => ([D.c (.im (.int .i64 x.1))], [])) (fun a b h => by simp at h; exact Subtype.ext h) (⟨n, h⟩ : INum)
set_option maxRecDepth 100000 in
set_option maxHeartbeats 8000000 in
theorem law_l1NumberI : Law Tryz.prog 133 ct_l1NumberI := by
 refine zAf (zAc law_l1Number zAe) hmixA Tryz.func133 rfl rfl (fun ⟨n, hn1, hn2⟩ => ⟨zAv rfl, by simp [Tryz.f133], ?_⟩)
 simp only
 by_cases hneg0 : n < 0
 · obtain ⟨k, hk⟩ : ∃ k : Nat, -n = (k : Int) := ⟨(-n).toNat, by omega⟩
   have hneg : (n < 0) = True := eq_true hneg0
   have hw : IntKind.i64.wrap (0 - n) = (k : Int) := by rw [zAi (by omega) (by omega)]; omega
   have hw2 : IntKind.i64.wrap (-n) = (k : Int) := by rw [zAi (by omega) (by omega)]; omega
   have hi : Lib.itoa n = [45] ++ digs k := by
     rw [itoa_neg hneg0, digs_dec (by omega), hk, Int.toNat_natCast]; rfl
   have hl := digs_len 20 k
   have hsz : (1 + (digs k).length ≤ 4611686018427387904) = True := eq_true (by unfold digs; omega)
   have rn := run_l1Number (n := k) (by omega)
   unfold strL at rn
   rw [hi]
   generalize digs k = X at *
   try simp -dsimp (maxSteps := 1000000) only [go_sem, List.forall_mem_nil, ↓reduceIte, Nat.reduceEqDiff, Nat.reduceLT, Nat.reduceLeDiff, Nat.reduceAdd, Nat.reduceMul, reduceCtorEq, Tryz.f133, hneg, hw, hw2, rn, zDd, zEr, hsz, List.size_toArray, List.length_cons, List.length_nil, Nat.zero_add]
 obtain ⟨n, rfl⟩ : ∃ k : Nat, n = (k : Int) := ⟨n.toNat, by omega⟩
 have hn : n < 9223372036854775808 := by omega
 have hi : (⟨(Lib.itoa (n : Int)).toArray⟩ : ByteArray) = strL (digs n) := by rw [itoa_natS, digs_dec (by omega)]; rfl
 rw [hi]
 have hneg : ((n : Int) < 0) = False := eq_false (by omega)
 have h10 : ((10 : Int) = 0) = False := by simp
 have hm : ∀ k : Nat, (k : Int).tmod 10 = ((k % 10 : Nat) : Int) := fun k => by rw [Int.tmod_eq_emod_of_nonneg (by omega)]; omega
 have hd : ∀ k : Nat, k < 9223372036854775808 → IntKind.i64.wrap ((k : Int).tdiv 10) = ((k / 10 : Nat) : Int) := fun k hk => by
   rw [Int.tdiv_eq_ediv_of_nonneg (by omega), zAi (by omega) (by omega)]; omega
 have hw : ∀ k : Nat, IntKind.i64.wrap (48 + ((k % 10 : Nat) : Int)) = ((48 + k % 10 : Nat) : Int) := fun k => by rw [zAi (by omega) (by omega)]; omega
 have hw8 : ∀ k : Nat, IntKind.u8.wrap ((48 + k % 10 : Nat) : Int) = ((48 + k % 10 : Nat) : Int) := fun k => by
   show (((48 + k % 10 : Nat) : Int) % 256) = _
   omega
 have hbs : ∀ k : Nat, bytesS [((48 + k % 10 : Nat) : Int)] = strL [dig (k % 10)] := fun k => by rw [bytesS_cons]; rfl
 try simp -dsimp (maxSteps := 1000000) only [go_sem, List.forall_mem_nil, ↓reduceIte, Nat.reduceEqDiff, Nat.reduceLT, Nat.reduceLeDiff, Nat.reduceAdd, Nat.reduceMul, reduceCtorEq, Tryz.f133, hneg, h10, hm, hd n hn, hw, hw8, hbs]
 refine zBh (ι := { x : Nat × List UInt8 // x.1 < 9223372036854775808 ∧ digR x.1 x.2 = digs n }) (fun x => ⟨[(0, some (.c (.im (.int .i64 (x.1.1 : Int))))), (3, some (.c (.im (.str (strL x.1.2)))))], [], 0⟩) (fun x => x.1.1)
   ⟨(n / 10, [dig (n % 10)]), by omega, by
     by_cases h0 : n = 0
     · subst h0; rfl
     · rw [← digR_step (by omega) (by omega) []]; simp [digR, h0]⟩ ⟨[], [], by (simp only [go_sem, eq_self, MvRb, MvRn, MvRt, List.nodup_cons, List.nodup_nil, ↓reduceIte, Nat.reduceEqDiff, Nat.reduceLT, Nat.reduceLeDiff, reduceCtorEq, List.forall_mem_nil, Nat.zero_le, false_implies, List.mem_singleton]) <;> simp⟩ (fun ⟨⟨k, cur⟩, hk, hinv⟩ => ?_)
 simp only at hk hinv ⊢
 by_cases h0 : k = 0
 · subst h0
   have hI : ((0 : Int) < ((0 : Nat) : Int)) = False := by simp
   simp only [digR, if_true] at hinv
   try simp -dsimp (maxSteps := 1000000) only [go_sem, List.forall_mem_nil, ↓reduceIte, Nat.reduceEqDiff, Nat.reduceLT, Nat.reduceLeDiff, Nat.reduceAdd, Nat.reduceMul, reduceCtorEq, Tryz.f133, hI, hinv]
 · have hI : ((0 : Int) < (k : Int)) = True := eq_true (by omega)
   have hlen : cur.length ≤ 20 := by
     have := congrArg List.length hinv
     have h20 := digs_len 20 n
     simp only [digR, h0, if_false, List.length_append] at this
     unfold digs at this
     omega
   have hsz : ((strL [dig (k % 10)]).size + (strL cur).size ≤ 4611686018427387904) = True := eq_true (by rw [strL_size, strL_size]; simp; omega)
   rw [digR_step (by omega) (by omega)] at hinv
   try simp -dsimp (maxSteps := 1000000) only [go_sem, List.forall_mem_nil, ↓reduceIte, Nat.reduceEqDiff, Nat.reduceLT, Nat.reduceLeDiff, Nat.reduceAdd, Nat.reduceMul, reduceCtorEq, Tryz.f133, hI, h10, hm, hd k hk, hw, hw8, hbs, hsz, strL_app]
   exact ⟨⟨(k / 10, dig (k % 10) :: cur), by omega, hinv⟩, by simp only []; omega, [], [], by (simp only [go_sem, eq_self, MvRb, MvRn, MvRt, List.nodup_cons, List.nodup_nil, ↓reduceIte, Nat.reduceEqDiff, Nat.reduceLT, Nat.reduceLeDiff, reduceCtorEq, List.forall_mem_nil, Nat.zero_le, false_implies, List.mem_singleton]) <;> simp⟩
theorem lss0 {r : Nat} (h0 : 0 < r) (h1 : r < 2139095040) (s : Bool) : fcmp .lss .f32 (single.word s r) 0 = s := by
 have hr := zEn (f := single) (by decide) (r := r) (by rw [ir1]; exact h1) s
 have hz : single.read 0 = .number false 0 (-149) := by decide
 show (single.order (single.word s r) 0 == some .lt) = s
 unfold Format.order
 rw [hr, hz]
 simp only [Datum.order]
 have hp := zFf h0
 have h2 : ∀ k, signed false 0 k = 0 := fun k => by simp [signed]
 rw [h2]
 obtain ⟨k, hk⟩ : ∃ k, (rgE single r - min (rgE single r) (-149)).toNat = k := ⟨_, rfl⟩
 rw [hk]
 have hX := Nat.mul_pos hp (Nat.two_pow_pos k)
 generalize hx : rgM single r * 2 ^ k = X at hX
 cases s with
 | false =>
   have e : signed false (rgM single r) k = (X : Int) := by simp [signed, zEc, hx]
   have a : ¬ ((X : Int) < 0) := by omega
   rw [e]
   simp only [compare, compareOfLessAndEq]
   rw [if_neg a]
   split <;> rfl
 | true =>
   have e : signed true (rgM single r) k = -(X : Int) := by simp [signed, zEc, hx]
   have a : (-(X : Int) < 0) := by omega
   rw [e]
   simp only [compare, compareOfLessAndEq]
   rw [if_pos a]
   rfl
theorem word_of {w : Nat} (h : w < 4294967296) : w = single.word (decide (2147483648 ≤ w)) (w % 2147483648) := by
 unfold Format.word
 rw [sw1]
 by_cases hs : 2147483648 ≤ w
 · rw [if_pos (by simp [hs])]; omega
 · rw [if_neg (by simp [hs])]; omega
theorem neg_wordS {w : Nat} (h : 2147483648 ≤ w) (h2 : w < 4294967296) : Op.negFloat .f32 w = w % 2147483648 := by
 have hx : Op.negFloat .f32 w = w ^^^ 2 ^ 31 := rfl
 rw [hx]
 apply Nat.eq_of_testBit_eq
 intro i
 rw [Nat.testBit_xor, show (2147483648 : Nat) = 2 ^ 31 from rfl, Nat.testBit_mod_two_pow, Nat.testBit_two_pow]
 by_cases h31 : i = 31
 · subst h31
   have : w.testBit 31 = true := by
     rw [Nat.testBit_eq_decide_div_mod_eq]
     have : w / 2 ^ 31 = 1 := by omega
     rw [this]; rfl
   rw [this]; simp
 · by_cases hlt : i < 31
   · have : ¬ 31 = i := by omega
     simp [hlt, this]
   · have a : w < 2 ^ i := Nat.lt_of_lt_of_le h2 (show 2 ^ 32 ≤ 2 ^ i from Nat.pow_le_pow_right (by omega) (by omega))
     rw [Nat.testBit_lt_two_pow a]
     have : ¬ 31 = i := by omega
     simp [this]
theorem absS_fin {w : Nat} (h : w < 4294967296) (h0 : 0 < w % 2147483648) (h1 : w % 2147483648 < 2139095040) : absS w = w % 2147483648 := by
 have e := word_of h
 have l := lss0 h0 h1 (decide (2147483648 ≤ w))
 have q := eql0_no h0 h1 (decide (2147483648 ≤ w))
 rw [← e] at l q
 unfold absS
 rw [l, q]
 by_cases hs : 2147483648 ≤ w
 · rw [if_pos (by simp [hs]), neg_wordS hs h]
 · rw [if_neg (by simp [hs]), if_neg (by simp)]; omega
theorem sv_bound {m : Nat} {e : Int} {r : Nat} (h0 : 0 < m) (hr0 : 0 < r) (hr : r < 2139095040) (h : SV m e (rgM single r) (rgE single r)) : e + m.log2 ≤ 127 ∧ -149 ≤ e + m.log2 := by
 have a := h.log h0
 have b := rungE_lt hr
 have c := zCh (k := 23) (zFf hr0) (rungM_lt (r := r))
 omega
set_option maxRecDepth 100000 in
set_option maxHeartbeats 8000000 in
theorem zBa : Law Tryz.prog 63 zDz := by
 refine zAf (zAc law_l1Finite (zAc law_l1Abs (zAc law_l1NumberI zAe))) hmixA Tryz.func63 rfl rfl (fun ⟨w, hw⟩ => ⟨zAv rfl, by simp [Tryz.f63], ?_⟩)
 simp only
 have f := finS_eq w
 cases hf : isFin w with
 | false =>
   have e : fsT w = [] := by simp [fsT, hf]
   rw [hf] at f
   try simp -dsimp (maxSteps := 1000000) only [go_sem, List.forall_mem_nil, ↓reduceIte, Nat.reduceEqDiff, Nat.reduceLT, Nat.reduceLeDiff, Nat.reduceAdd, Nat.reduceMul, reduceCtorEq, Tryz.f63, zCu, f, e, Bool.not_false]
 | true =>
   rw [hf] at f
   have hr : w % 2147483648 < 2139095040 := by simp only [isFin, decide_eq_true_eq] at hf; omega
   by_cases h0 : w % 2147483648 = 0
   · rcases (show w = 0 ∨ w = 2147483648 by omega) with rfl | rfl
     · have f2 : fcmp .eql .f32 0 0 = true := by decide +kernel
       have f3 : fcmp .lss .f32 (fop .quo .f32 1065353216 0) 0 = false := by decide +kernel
       have e : fsT 0 = [48] := by decide +kernel
       try simp -dsimp (maxSteps := 1000000) only [go_sem, List.forall_mem_nil, ↓reduceIte, Nat.reduceEqDiff, Nat.reduceLT, Nat.reduceLeDiff, Nat.reduceAdd, Nat.reduceMul, reduceCtorEq, Tryz.f63, zCu, f, f2, f3, e, Bool.not_true]
     · have f2 : fcmp .eql .f32 2147483648 0 = true := by decide +kernel
       have f3 : fcmp .lss .f32 (fop .quo .f32 1065353216 2147483648) 0 = true := by decide +kernel
       have e : fsT 2147483648 = [45, 48] := by decide +kernel
       try simp -dsimp (maxSteps := 1000000) only [go_sem, List.forall_mem_nil, ↓reduceIte, Nat.reduceEqDiff, Nat.reduceLT, Nat.reduceLeDiff, Nat.reduceAdd, Nat.reduceMul, reduceCtorEq, Tryz.f63, zCu, f, f2, f3, e, Bool.not_true]
   have h0 : 0 < w % 2147483648 := Nat.pos_of_ne_zero h0
   have ew := word_of hw
   have l := lss0 h0 hr (decide (2147483648 ≤ w))
   have q := eql0_no h0 hr (decide (2147483648 ≤ w))
   rw [← ew] at l q
   have ab := absS_fin hw h0 hr
   have hT : fsT w = sgnT (decide (2147483648 ≤ w)) ++ magT (w % 2147483648) := by simp [fsT, hf, fmtT]
   obtain ⟨S, hS, sl, c31⟩ : ∃ S : Txt, fsT w = S ++ magT (w % 2147483648) ∧ S.length ≤ 1 ∧ (fcmp .lss .f32 w 0 = true ∧ S = [45] ∨ fcmp .lss .f32 w 0 = false ∧ S = []) := by
     rw [hT]
     by_cases hs : 2147483648 ≤ w
     · exact ⟨[45], by simp [sgnT, hs], by simp, .inl ⟨by rw [l]; simp [hs], rfl⟩⟩
     · exact ⟨[], by simp [sgnT, hs], by simp, .inr ⟨by rw [l]; simp [hs], rfl⟩⟩
   clear hT l
   rw [hS]
   generalize hre : w % 2147483648 = r at *
   have fw := fconv_wide h0 hr
   have hmd := md_of h0 hr
   have hMp := zFf h0
   have hMl := rungM_lt (r := r)
   have hM2 := zCh (k := 23) hMp hMl
   obtain ⟨E1, E2⟩ := rungE_lt hr
   have hmag : magT r = Lib.itoa (mdM r) ++ [112] ++ Lib.itoa (mdE r) := by simp [magT, Nat.ne_of_gt h0]
   have svb := fun (m : Nat) (e : Int) (h0' : 0 < m) (h : SV m e (rgM single r) (rgE single r)) => sv_bound h0' h0 hr h
   have hun := fun (m : Nat) (e : Int) (h : SV m e (rgM single r) (rgE single r)) (ho : m % 2 = 1) => odd_unique (h.trans hmd.sv.symm) ho hmd.odd
   generalize hM : rgM single r = M at *
   generalize hE : rgE single r = E at *
   have n2 : ((2 : Int) = 0) = False := by simp
   have i1 : IntKind.i64.min = -9223372036854775808 := by decide
   have i2 : IntKind.i64.max = 9223372036854775807 := by decide
   have dr : ∀ a : Int, -200 ≤ a → a ≤ 200 → Dr M a := fun a h1 h2 => ⟨hMp, by omega, by omega, by omega⟩
   obtain ⟨Y0, hY0⟩ : ∃ y, y = dW M E := ⟨_, rfl⟩
   rw [← hY0] at fw
   rcases c31 with ⟨c31, rfl⟩ | ⟨c31, rfl⟩
   · skip
     try simp -dsimp (maxSteps := 1000000) only [go_sem, List.forall_mem_nil, ↓reduceIte, Nat.reduceEqDiff, Nat.reduceLT, Nat.reduceLeDiff, Nat.reduceAdd, Nat.reduceMul, reduceCtorEq, Tryz.f63, zCu, f, q, c31, zFh, ab, fw, Bool.not_true]
     refine zBh (ι := { x : Nat × Int // x.1 = dW M x.2 ∧ x.2 ≤ E ∧ (x.2 = E ∨ 0 ≤ x.2) }) (fun a => ⟨[(3, some (.c (.im (.str ⟨([45] : Txt).toArray⟩)))), (4, some (.c (.im (.flt .f64 a.1.1)))), (5, some (.c (.im (.int .i64 (E - a.1.2)))))], [], 0⟩) (fun a => (a.1.2 + 1).toNat) ⟨(Y0, E), hY0, by omega, .inl rfl⟩ ⟨[], [], by (simp only [go_sem, eq_self, MvRb, MvRn, MvRt, List.nodup_cons, List.nodup_nil, ↓reduceIte, Nat.reduceEqDiff, Nat.reduceLT, Nat.reduceLeDiff, reduceCtorEq, List.forall_mem_nil, Nat.zero_le, false_implies, List.mem_singleton, Int.sub_self]) <;> simp⟩ (fun ⟨⟨Y, a⟩, hY, ha1, ha2⟩ => ?_)
     simp only at hY ha1 ha2 ⊢
     obtain ⟨Y', hY'⟩ : ∃ y, y = dW M (a - 1) := ⟨_, rfl⟩
     by_cases hg0 : 24 ≤ a + M.log2
     · have hg : fcmp .geq .f64 Y 4715268809856909312 = true := by rw [hY, geq24 (dr a (by omega) (by omega)), decide_eq_true hg0]
       have hh := half64 (dr a (by omega) (by omega))
       rw [← hY, ← hY'] at hh
       have hw1 : IntKind.i64.wrap (E - a + 1) = E - (a - 1) := by rw [zAi (by omega) (by omega)]; omega
       try simp -dsimp (maxSteps := 1000000) only [go_sem, List.forall_mem_nil, ↓reduceIte, Nat.reduceEqDiff, Nat.reduceLT, Nat.reduceLeDiff, Nat.reduceAdd, Nat.reduceMul, reduceCtorEq, Tryz.f63, hg, hh, hw1]
       exact ⟨⟨(Y', a - 1), hY', by simp only []; omega, .inr (by simp only []; omega)⟩, by simp only []; omega, [], [], by (simp only [go_sem, eq_self, MvRb, MvRn, MvRt, List.nodup_cons, List.nodup_nil, ↓reduceIte, Nat.reduceEqDiff, Nat.reduceLT, Nat.reduceLeDiff, reduceCtorEq, List.forall_mem_nil, Nat.zero_le, false_implies, List.mem_singleton]) <;> simp⟩
     have hg : fcmp .geq .f64 Y 4715268809856909312 = false := by rw [hY, geq24 (dr a (by omega) (by omega)), decide_eq_false hg0]
     try simp -dsimp (maxSteps := 1000000) only [go_sem, List.forall_mem_nil, ↓reduceIte, Nat.reduceEqDiff, Nat.reduceLT, Nat.reduceLeDiff, Nat.reduceAdd, Nat.reduceMul, reduceCtorEq, Tryz.f63, hg]
     refine zBh (ι := { x : Nat × Int // x.1 = dW M x.2 ∧ -149 ≤ x.2 ∧ x.2 ≤ 104 ∧ x.2 + M.log2 ≤ 23 }) (fun a => ⟨[(3, some (.c (.im (.str ⟨([45] : Txt).toArray⟩)))), (4, some (.c (.im (.flt .f64 a.1.1)))), (5, some (.c (.im (.int .i64 (E - a.1.2)))))], [], 0⟩) (fun a => (-a.1.2).toNat) ⟨(Y, a), hY, by simp only []; omega, by simp only []; omega, by simp only []; omega⟩ ⟨[], [], by (simp only [go_sem, eq_self, MvRb, MvRn, MvRt, List.nodup_cons, List.nodup_nil, ↓reduceIte, Nat.reduceEqDiff, Nat.reduceLT, Nat.reduceLeDiff, reduceCtorEq, List.forall_mem_nil, Nat.zero_le, false_implies, List.mem_singleton]) <;> simp⟩ (fun ⟨⟨Y, a⟩, hY, ha1, ha2, ha3⟩ => ?_)
     simp only at hY ha1 ha2 ha3 ⊢
     obtain ⟨Y', hY'⟩ : ∃ y, y = dW M (a + 1) := ⟨_, rfl⟩
     have da := dr a (by omega) (by omega)
     have nn := dW_nan da
     obtain ⟨T, hT, hti, hcase⟩ := whole64 da ha3
     rw [← hY] at nn hti hcase
     obtain ⟨N, hN⟩ : ∃ n, n = FloatKind.f64.nearest (T : Int) := ⟨_, rfl⟩
     rw [← hN] at hcase
     have hN' := hN.symm
     have r1 : (IntKind.i64.min ≤ (T : Int) ∧ (T : Int) ≤ IntKind.i64.max) = True := eq_true (by rw [i1, i2]; omega)
     rcases hcase with ⟨hq, hsv, hT0⟩ | ⟨hq, hneg⟩
     case inr =>
       have h2 := twice64 da (dr (a + 1) (by omega) (by omega))
       rw [← hY, ← hY'] at h2
       have hw1 : IntKind.i64.wrap (E - a - 1) = E - (a + 1) := by rw [zAi (by omega) (by omega)]; omega
       try simp -dsimp (maxSteps := 1000000) only [go_sem, List.forall_mem_nil, ↓reduceIte, Nat.reduceEqDiff, Nat.reduceLT, Nat.reduceLeDiff, Nat.reduceAdd, Nat.reduceMul, reduceCtorEq, Tryz.f63, nn, hti, r1, hN', hq, h2, hw1]
       exact ⟨⟨(Y', a + 1), hY', by simp only []; omega, by simp only []; omega, by simp only []; omega⟩, by simp only []; omega, [], [], by (simp only [go_sem, eq_self, MvRb, MvRn, MvRt, List.nodup_cons, List.nodup_nil, ↓reduceIte, Nat.reduceEqDiff, Nat.reduceLT, Nat.reduceLeDiff, reduceCtorEq, List.forall_mem_nil, Nat.zero_le, false_implies, List.mem_singleton]) <;> simp⟩
     have hs0 : SV T (E - a) M E := by
       have := hsv.symm.add (E - a)
       have z1 : (0 : Int) + (E - a) = E - a := by omega
       have z2 : a + (E - a) = E := by omega
       rw [z1, z2] at this
       exact this
     try simp -dsimp (maxSteps := 1000000) only [go_sem, List.forall_mem_nil, ↓reduceIte, Nat.reduceEqDiff, Nat.reduceLT, Nat.reduceLeDiff, Nat.reduceAdd, Nat.reduceMul, reduceCtorEq, Tryz.f63, nn, hti, r1, hN', hq]
     refine zBh (ι := { x : Nat × Int // 0 < x.1 ∧ x.1 < 16777216 ∧ SV x.1 x.2 M E }) (fun x => ⟨[(3, some (.c (.im (.str ⟨([45] : Txt).toArray⟩)))), (5, some (.c (.im (.int .i64 x.1.2)))), (6, some (.c (.im (.int .i64 (x.1.1 : Int)))))], [], 0⟩) (fun x => x.1.1) ⟨(T, E - a), hT0, hT, hs0⟩ ⟨[], [], by (simp only [go_sem, eq_self, MvRb, MvRn, MvRt, List.nodup_cons, List.nodup_nil, ↓reduceIte, Nat.reduceEqDiff, Nat.reduceLT, Nat.reduceLeDiff, reduceCtorEq, List.forall_mem_nil, Nat.zero_le, false_implies, List.mem_singleton]) <;> simp⟩ (fun ⟨⟨m, e⟩, q1, q2, q3⟩ => ?_)
     simp only at q1 q2 q3 ⊢
     have hb := svb m e q1 q3
     have hl := zCh (k := 23) q1 q2
     have hm : (m : Int).tmod 2 = ((m % 2 : Nat) : Int) := by rw [Int.tmod_eq_emod_of_nonneg (by omega)]; omega
     by_cases hev : m % 2 = 0
     · have h1 : (((m % 2 : Nat) : Int) = 0) = True := eq_true (by omega)
       have hd : IntKind.i64.wrap ((m : Int).tdiv 2) = ((m / 2 : Nat) : Int) := by rw [Int.tdiv_eq_ediv_of_nonneg (by omega), zAi (by omega) (by omega)]; omega
       have he : IntKind.i64.wrap (e + 1) = e + 1 := zAi (by omega) (by omega)
       have hs1 : SV (m / 2) (e + 1) M E := by
         have := SV.shl (m / 2) (e + 1) 1
         have z1 : m / 2 * 2 ^ 1 = m := by omega
         have z2 : e + 1 - ((1 : Nat) : Int) = e := by omega
         rw [z1, z2] at this
         exact this.trans q3
       try simp -dsimp (maxSteps := 1000000) only [go_sem, List.forall_mem_nil, ↓reduceIte, Nat.reduceEqDiff, Nat.reduceLT, Nat.reduceLeDiff, Nat.reduceAdd, Nat.reduceMul, reduceCtorEq, Tryz.f63, n2, hm, h1, hd, he]
       exact ⟨⟨(m / 2, e + 1), by simp only []; omega, by simp only []; omega, hs1⟩, by simp only []; omega, [], [], by (simp only [go_sem, eq_self, MvRb, MvRn, MvRt, List.nodup_cons, List.nodup_nil, ↓reduceIte, Nat.reduceEqDiff, Nat.reduceLT, Nat.reduceLeDiff, reduceCtorEq, List.forall_mem_nil, Nat.zero_le, false_implies, List.mem_singleton]) <;> simp⟩
     · have h1 : (((m % 2 : Nat) : Int) = 0) = False := eq_false (by omega)
       obtain ⟨u1, u2⟩ := hun m e q3 (by omega)
       have b1 : -9223372036854775807 ≤ (m : Int) ∧ (m : Int) ≤ 9223372036854775807 := by omega
       have b2 : -9223372036854775807 ≤ e ∧ e ≤ 9223372036854775807 := by omega
       have ri1 := zEv b1
       have ri2 := zEv b2
       have la := zBv (n := (m : Int)) ⟨by omega, by omega⟩
       have lb := zBv (n := e) ⟨by omega, by omega⟩
       rw [hmag, ← u1, ← u2]
       generalize Lib.itoa (m : Int) = A at *
       generalize Lib.itoa e = B at *
       have hfin : ([45] : Txt) ++ (A ++ [112] ++ B) = [45] ++ A ++ [112] ++ B := by simp
       rw [hfin]
       have z1 : (([45] ++ A : Txt).length ≤ 4611686018427387904) = True := eq_true (by simp; omega)
       have x0 : (1 + A.length ≤ 4611686018427387904) = True := eq_true (by omega)
       have x1 : (A.length + 1 ≤ 4611686018427387904) = True := eq_true (by omega)
       have x2 : (A.length + 1 + B.length ≤ 4611686018427387904) = True := eq_true (by omega)
       have x3 : (A.length + 1 + 1 ≤ 4611686018427387904) = True := eq_true (by omega)
       have x4 : (A.length + 1 + 1 + B.length ≤ 4611686018427387904) = True := eq_true (by omega)
       have x5 : (1 + A.length + 1 ≤ 4611686018427387904) = True := eq_true (by omega)
       have x6 : (1 + A.length + 1 + B.length ≤ 4611686018427387904) = True := eq_true (by omega)
       have x7 : (A.length ≤ 4611686018427387904) = True := eq_true (by omega)
       try simp -dsimp (maxSteps := 1000000) only [go_sem, List.forall_mem_nil, ↓reduceIte, Nat.reduceEqDiff, Nat.reduceLT, Nat.reduceLeDiff, Nat.reduceAdd, Nat.reduceMul, reduceCtorEq, Tryz.f63, n2, hm, h1, ri1, ri2, zDd, zEr, List.size_toArray, List.length_append, List.length_cons, List.length_nil, Nat.zero_add, x0, x1, x2, x3, x4, x5, x6, x7, List.nil_append]
   · skip
     try simp -dsimp (maxSteps := 1000000) only [go_sem, List.forall_mem_nil, ↓reduceIte, Nat.reduceEqDiff, Nat.reduceLT, Nat.reduceLeDiff, Nat.reduceAdd, Nat.reduceMul, reduceCtorEq, Tryz.f63, zCu, f, q, c31, zFh, ab, fw, Bool.not_true]
     refine zBh (ι := { x : Nat × Int // x.1 = dW M x.2 ∧ x.2 ≤ E ∧ (x.2 = E ∨ 0 ≤ x.2) }) (fun a => ⟨[(3, some (.c (.im (.str ⟨([] : Txt).toArray⟩)))), (4, some (.c (.im (.flt .f64 a.1.1)))), (5, some (.c (.im (.int .i64 (E - a.1.2)))))], [], 0⟩) (fun a => (a.1.2 + 1).toNat) ⟨(Y0, E), hY0, by omega, .inl rfl⟩ ⟨[], [], by (simp only [go_sem, eq_self, MvRb, MvRn, MvRt, List.nodup_cons, List.nodup_nil, ↓reduceIte, Nat.reduceEqDiff, Nat.reduceLT, Nat.reduceLeDiff, reduceCtorEq, List.forall_mem_nil, Nat.zero_le, false_implies, List.mem_singleton, Int.sub_self]) <;> simp⟩ (fun ⟨⟨Y, a⟩, hY, ha1, ha2⟩ => ?_)
     simp only at hY ha1 ha2 ⊢
     obtain ⟨Y', hY'⟩ : ∃ y, y = dW M (a - 1) := ⟨_, rfl⟩
     by_cases hg0 : 24 ≤ a + M.log2
     · have hg : fcmp .geq .f64 Y 4715268809856909312 = true := by rw [hY, geq24 (dr a (by omega) (by omega)), decide_eq_true hg0]
       have hh := half64 (dr a (by omega) (by omega))
       rw [← hY, ← hY'] at hh
       have hw1 : IntKind.i64.wrap (E - a + 1) = E - (a - 1) := by rw [zAi (by omega) (by omega)]; omega
       try simp -dsimp (maxSteps := 1000000) only [go_sem, List.forall_mem_nil, ↓reduceIte, Nat.reduceEqDiff, Nat.reduceLT, Nat.reduceLeDiff, Nat.reduceAdd, Nat.reduceMul, reduceCtorEq, Tryz.f63, hg, hh, hw1]
       exact ⟨⟨(Y', a - 1), hY', by simp only []; omega, .inr (by simp only []; omega)⟩, by simp only []; omega, [], [], by (simp only [go_sem, eq_self, MvRb, MvRn, MvRt, List.nodup_cons, List.nodup_nil, ↓reduceIte, Nat.reduceEqDiff, Nat.reduceLT, Nat.reduceLeDiff, reduceCtorEq, List.forall_mem_nil, Nat.zero_le, false_implies, List.mem_singleton]) <;> simp⟩
     have hg : fcmp .geq .f64 Y 4715268809856909312 = false := by rw [hY, geq24 (dr a (by omega) (by omega)), decide_eq_false hg0]
     try simp -dsimp (maxSteps := 1000000) only [go_sem, List.forall_mem_nil, ↓reduceIte, Nat.reduceEqDiff, Nat.reduceLT, Nat.reduceLeDiff, Nat.reduceAdd, Nat.reduceMul, reduceCtorEq, Tryz.f63, hg]
     refine zBh (ι := { x : Nat × Int // x.1 = dW M x.2 ∧ -149 ≤ x.2 ∧ x.2 ≤ 104 ∧ x.2 + M.log2 ≤ 23 }) (fun a => ⟨[(3, some (.c (.im (.str ⟨([] : Txt).toArray⟩)))), (4, some (.c (.im (.flt .f64 a.1.1)))), (5, some (.c (.im (.int .i64 (E - a.1.2)))))], [], 0⟩) (fun a => (-a.1.2).toNat) ⟨(Y, a), hY, by simp only []; omega, by simp only []; omega, by simp only []; omega⟩ ⟨[], [], by (simp only [go_sem, eq_self, MvRb, MvRn, MvRt, List.nodup_cons, List.nodup_nil, ↓reduceIte, Nat.reduceEqDiff, Nat.reduceLT, Nat.reduceLeDiff, reduceCtorEq, List.forall_mem_nil, Nat.zero_le, false_implies, List.mem_singleton]) <;> simp⟩ (fun ⟨⟨Y, a⟩, hY, ha1, ha2, ha3⟩ => ?_)
     simp only at hY ha1 ha2 ha3 ⊢
     obtain ⟨Y', hY'⟩ : ∃ y, y = dW M (a + 1) := ⟨_, rfl⟩
     have da := dr a (by omega) (by omega)
     have nn := dW_nan da
     obtain ⟨T, hT, hti, hcase⟩ := whole64 da ha3
     rw [← hY] at nn hti hcase
     obtain ⟨N, hN⟩ : ∃ n, n = FloatKind.f64.nearest (T : Int) := ⟨_, rfl⟩
     rw [← hN] at hcase
     have hN' := hN.symm
     have r1 : (IntKind.i64.min ≤ (T : Int) ∧ (T : Int) ≤ IntKind.i64.max) = True := eq_true (by rw [i1, i2]; omega)
     rcases hcase with ⟨hq, hsv, hT0⟩ | ⟨hq, hneg⟩
     case inr =>
       have h2 := twice64 da (dr (a + 1) (by omega) (by omega))
       rw [← hY, ← hY'] at h2
       have hw1 : IntKind.i64.wrap (E - a - 1) = E - (a + 1) := by rw [zAi (by omega) (by omega)]; omega
       try simp -dsimp (maxSteps := 1000000) only [go_sem, List.forall_mem_nil, ↓reduceIte, Nat.reduceEqDiff, Nat.reduceLT, Nat.reduceLeDiff, Nat.reduceAdd, Nat.reduceMul, reduceCtorEq, Tryz.f63, nn, hti, r1, hN', hq, h2, hw1]
       exact ⟨⟨(Y', a + 1), hY', by simp only []; omega, by simp only []; omega, by simp only []; omega⟩, by simp only []; omega, [], [], by (simp only [go_sem, eq_self, MvRb, MvRn, MvRt, List.nodup_cons, List.nodup_nil, ↓reduceIte, Nat.reduceEqDiff, Nat.reduceLT, Nat.reduceLeDiff, reduceCtorEq, List.forall_mem_nil, Nat.zero_le, false_implies, List.mem_singleton]) <;> simp⟩
     have hs0 : SV T (E - a) M E := by
       have := hsv.symm.add (E - a)
       have z1 : (0 : Int) + (E - a) = E - a := by omega
       have z2 : a + (E - a) = E := by omega
       rw [z1, z2] at this
       exact this
     try simp -dsimp (maxSteps := 1000000) only [go_sem, List.forall_mem_nil, ↓reduceIte, Nat.reduceEqDiff, Nat.reduceLT, Nat.reduceLeDiff, Nat.reduceAdd, Nat.reduceMul, reduceCtorEq, Tryz.f63, nn, hti, r1, hN', hq]
     refine zBh (ι := { x : Nat × Int // 0 < x.1 ∧ x.1 < 16777216 ∧ SV x.1 x.2 M E }) (fun x => ⟨[(3, some (.c (.im (.str ⟨([] : Txt).toArray⟩)))), (5, some (.c (.im (.int .i64 x.1.2)))), (6, some (.c (.im (.int .i64 (x.1.1 : Int)))))], [], 0⟩) (fun x => x.1.1) ⟨(T, E - a), hT0, hT, hs0⟩ ⟨[], [], by (simp only [go_sem, eq_self, MvRb, MvRn, MvRt, List.nodup_cons, List.nodup_nil, ↓reduceIte, Nat.reduceEqDiff, Nat.reduceLT, Nat.reduceLeDiff, reduceCtorEq, List.forall_mem_nil, Nat.zero_le, false_implies, List.mem_singleton]) <;> simp⟩ (fun ⟨⟨m, e⟩, q1, q2, q3⟩ => ?_)
     simp only at q1 q2 q3 ⊢
     have hb := svb m e q1 q3
     have hl := zCh (k := 23) q1 q2
     have hm : (m : Int).tmod 2 = ((m % 2 : Nat) : Int) := by rw [Int.tmod_eq_emod_of_nonneg (by omega)]; omega
     by_cases hev : m % 2 = 0
     · have h1 : (((m % 2 : Nat) : Int) = 0) = True := eq_true (by omega)
       have hd : IntKind.i64.wrap ((m : Int).tdiv 2) = ((m / 2 : Nat) : Int) := by rw [Int.tdiv_eq_ediv_of_nonneg (by omega), zAi (by omega) (by omega)]; omega
       have he : IntKind.i64.wrap (e + 1) = e + 1 := zAi (by omega) (by omega)
       have hs1 : SV (m / 2) (e + 1) M E := by
         have := SV.shl (m / 2) (e + 1) 1
         have z1 : m / 2 * 2 ^ 1 = m := by omega
         have z2 : e + 1 - ((1 : Nat) : Int) = e := by omega
         rw [z1, z2] at this
         exact this.trans q3
       try simp -dsimp (maxSteps := 1000000) only [go_sem, List.forall_mem_nil, ↓reduceIte, Nat.reduceEqDiff, Nat.reduceLT, Nat.reduceLeDiff, Nat.reduceAdd, Nat.reduceMul, reduceCtorEq, Tryz.f63, n2, hm, h1, hd, he]
       exact ⟨⟨(m / 2, e + 1), by simp only []; omega, by simp only []; omega, hs1⟩, by simp only []; omega, [], [], by (simp only [go_sem, eq_self, MvRb, MvRn, MvRt, List.nodup_cons, List.nodup_nil, ↓reduceIte, Nat.reduceEqDiff, Nat.reduceLT, Nat.reduceLeDiff, reduceCtorEq, List.forall_mem_nil, Nat.zero_le, false_implies, List.mem_singleton]) <;> simp⟩
     · have h1 : (((m % 2 : Nat) : Int) = 0) = False := eq_false (by omega)
       obtain ⟨u1, u2⟩ := hun m e q3 (by omega)
       have b1 : -9223372036854775807 ≤ (m : Int) ∧ (m : Int) ≤ 9223372036854775807 := by omega
       have b2 : -9223372036854775807 ≤ e ∧ e ≤ 9223372036854775807 := by omega
       have ri1 := zEv b1
       have ri2 := zEv b2
       have la := zBv (n := (m : Int)) ⟨by omega, by omega⟩
       have lb := zBv (n := e) ⟨by omega, by omega⟩
       rw [hmag, ← u1, ← u2]
       generalize Lib.itoa (m : Int) = A at *
       generalize Lib.itoa e = B at *
       have hfin : ([] : Txt) ++ (A ++ [112] ++ B) = [] ++ A ++ [112] ++ B := by simp
       rw [hfin]
       have z1 : (([] ++ A : Txt).length ≤ 4611686018427387904) = True := eq_true (by simp; omega)
       have x0 : (0 + A.length ≤ 4611686018427387904) = True := eq_true (by omega)
       have x1 : (A.length + 1 ≤ 4611686018427387904) = True := eq_true (by omega)
       have x2 : (A.length + 1 + B.length ≤ 4611686018427387904) = True := eq_true (by omega)
       have x3 : (A.length + 1 + 1 ≤ 4611686018427387904) = True := eq_true (by omega)
       have x4 : (A.length + 1 + 1 + B.length ≤ 4611686018427387904) = True := eq_true (by omega)
       have x5 : (1 + A.length + 1 ≤ 4611686018427387904) = True := eq_true (by omega)
       have x6 : (1 + A.length + 1 + B.length ≤ 4611686018427387904) = True := eq_true (by omega)
       have x7 : (A.length ≤ 4611686018427387904) = True := eq_true (by omega)
       try simp -dsimp (maxSteps := 1000000) only [go_sem, List.forall_mem_nil, ↓reduceIte, Nat.reduceEqDiff, Nat.reduceLT, Nat.reduceLeDiff, Nat.reduceAdd, Nat.reduceMul, reduceCtorEq, Tryz.f63, n2, hm, h1, ri1, ri2, zDd, zEr, List.size_toArray, List.length_append, List.length_cons, List.length_nil, Nat.zero_add, x0, x1, x2, x3, x4, x5, x6, x7, List.nil_append]
end Go.SX
namespace Go.SX
open Go Go.Proofs Ieee
theorem fsT_48 {w : Nat} (h : w < 4294967296) : (fsT w = [48]) = (w = 0) := by
 apply propext
 constructor
 · intro hf
   unfold fsT at hf
   split at hf
   · rename_i hn
     have h1 : Fin32 w := ⟨h, by simp only [isFin, decide_eq_true_eq] at hn; omega⟩
     have h2 : Fin32 0 := ⟨by omega, by omega⟩
     have e : fmtT 0 = [48] := by decide +kernel
     exact fmtT_inj h1 h2 (hf.trans e.symm)
   · cases hf
 · rintro rfl; decide +kernel
theorem fsT_45 {w : Nat} (h : w < 4294967296) : (fsT w = [45, 48]) = (w = 2147483648) := by
 apply propext
 constructor
 · intro hf
   unfold fsT at hf
   split at hf
   · rename_i hn
     have h1 : Fin32 w := ⟨h, by simp only [isFin, decide_eq_true_eq] at hn; omega⟩
     have h2 : Fin32 2147483648 := ⟨by omega, by omega⟩
     have e : fmtT 2147483648 = [45, 48] := by decide +kernel
     exact fmtT_inj h1 h2 (hf.trans e.symm)
   · cases hf
 · rintro rfl; decide +kernel
theorem fs_nz {w : Nat} (h : w < 4294967296) : decide (fsT w = [48]) = nz w := by
 rw [show decide (fsT w = [48]) = decide (w = 0) from by simp only [fsT_48 h]]
 unfold nz
 congr 1
 exact propext ⟨fun h => by omega, fun h => by omega⟩
abbrev Pt32 := { p : Pt // p.1 < 4294967296 ∧ p.2 < 4294967296 }
noncomputable def ct_l4ZeroA : Ct := fam true (fun p : Pt32 => ([.c (.im (.cpx .f32 p.1.1 p.1.2))], [])) (fun p => .one { val := .c (.im (.bool (nzP p.1))) })
theorem zBe {x y : Nat} (hx : x < 4294967296) (hy : y < 4294967296) : ct_l4ZeroA.run [.c (.im (.cpx .f32 x y))] [] = some (.one { val := .c (.im (.bool (nzP (x, y)))) }) := by
 refine zAd (args := fun p : Pt32 => ([D.c (.im (.cpx .f32 p.1.1 p.1.2))], [])) ?_ (⟨(x, y), hx, hy⟩ : Pt32)
 rintro ⟨⟨a, b⟩, _⟩ ⟨⟨c, d⟩, _⟩ h
 simp at h
 exact Subtype.ext (Prod.ext h.1 h.2)
set_option maxRecDepth 100000 in
theorem zCo : Law Tryz.prog 129 ct_l4ZeroA := by
 refine zAf (zAc zBa zAe) hmixA Tryz.func129 rfl rfl (fun ⟨⟨x, y⟩, hx, hy⟩ => ⟨zAv rfl, by simp [Tryz.f129], ?_⟩)
 simp only at hx hy ⊢
 have e1 := fs_nz hx
 have e2 := fs_nz hy
 have b1 : ((⟨(fsT x).toArray⟩ : ByteArray).toList == (⟨#[48]⟩ : ByteArray).toList) = nz x := (zAz (fsT x) [48]).trans e1
 have b2 : ((⟨(fsT y).toArray⟩ : ByteArray).toList == (⟨#[48]⟩ : ByteArray).toList) = nz y := (zAz (fsT y) [48]).trans e2
 simp only [nzP]
 cases h1 : nz x with
 | false =>
   rw [h1] at b1
   try simp -dsimp (maxSteps := 1000000) only [go_sem, List.forall_mem_nil, ↓reduceIte, Nat.reduceEqDiff, Nat.reduceLT, Nat.reduceLeDiff, Nat.reduceAdd, Nat.reduceMul, reduceCtorEq, Tryz.f129, zAu hx, b1, Bool.false_and]
 | true =>
   rw [h1] at b1
   try simp -dsimp (maxSteps := 1000000) only [go_sem, List.forall_mem_nil, ↓reduceIte, Nat.reduceEqDiff, Nat.reduceLT, Nat.reduceLeDiff, Nat.reduceAdd, Nat.reduceMul, reduceCtorEq, Tryz.f129, zAu hx, zAu hy, b1, b2, Bool.true_and]
theorem ringGo_step {st : List Pt} {a k : Nat} {f i : Nat} {p : Pt} (hp : st[(a + i) % st.length]? = some p) : ringGo st a (f + 1) i = (nzP p && ringGo st a f (i + 1)) := by
 simp only [ringGo, List.getD_eq_getElem?_getD, hp, Option.getD_some]
structure ARgA where
 st : List Pt
 a : Int
 c : Int
 h : st.length ≤ sm
 w : ∀ p ∈ st, p.1 < 4294967296 ∧ p.2 < 4294967296
noncomputable def ct_sIsRingA : Ct := fam true (fun x : ARgA => ([.agg [.im (.sl 1 (rowsZ x.st)), .im (.int .i64 x.a), .im (.int .i64 x.c)]], [])) (fun x => .one { val := .c (.im (.bool (isRingF x.st x.a x.c))) })
theorem run_sIsRingA {st : List Pt} (a c : Int) (h : st.length ≤ sm) (w : ∀ p ∈ st, p.1 < 4294967296 ∧ p.2 < 4294967296) : ct_sIsRingA.run [.agg [.im (.sl 1 (rowsZ st)), .im (.int .i64 a), .im (.int .i64 c)]] [] = some (.one { val := .c (.im (.bool (isRingF st a c))) }) := by
 refine zAd (args := fun x : ARgA => ([D.agg [.im (.sl 1 (rowsZ x.st)), .im (.int .i64 x.a), .im (.int .i64 x.c)]], [])) ?_ (⟨st, a, c, h, w⟩ : ARgA)
 rintro ⟨a, _, _, _, _⟩ ⟨b, _, _, _, _⟩ h
 simp [zAs] at h
 obtain ⟨rfl, rfl, rfl⟩ := h
 rfl
set_option maxRecDepth 100000 in
set_option maxHeartbeats 4000000 in
theorem law_sIsRingA : Law Tryz.prog 61 ct_sIsRingA := by
 refine zAf (zAc law_l1In (zAc zCo zAe)) hmixA Tryz.func61 rfl rfl (fun ⟨st, a, c, hs, hw⟩ => ⟨zAv rfl, by simp [Tryz.f61], ?_⟩)
 simp only
 have hsm : sm = 16777216 := rfl
 have c0 : isRingF st a c = (decide (ringC st a c) && ringGo st a.toNat (st.length - c.toNat) c.toNat) := rfl
 by_cases k1 : 1 ≤ st.length ∧ st.length ≤ 16
 rotate_left
 · have c1 : (decide ((1 : Int) ≤ (st.length : Int)) && decide ((st.length : Int) ≤ 16)) = false := by simp; omega
   have r : isRingF st a c = false := by rw [c0, decide_eq_false (by unfold ringC; omega)]; rfl
   try simp -dsimp (maxSteps := 1000000) only [go_sem, List.forall_mem_nil, ↓reduceIte, Nat.reduceEqDiff, Nat.reduceLT, Nat.reduceLeDiff, Nat.reduceAdd, Nat.reduceMul, reduceCtorEq, Tryz.f61, zBm, c1, r, zAa, Bool.not_false]
 have c1 : (decide ((1 : Int) ≤ (st.length : Int)) && decide ((st.length : Int) ≤ 16)) = true := by simp; omega
 have w1 : IntKind.i64.wrap ((st.length : Int) - 1) = (st.length : Int) - 1 := zAi (by omega) (by omega)
 by_cases k2 : 0 ≤ a ∧ a < st.length
 rotate_left
 · have c2 : (decide ((0 : Int) ≤ a) && decide (a ≤ (st.length : Int) - 1)) = false := by simp; omega
   have r : isRingF st a c = false := by rw [c0, decide_eq_false (by unfold ringC; omega)]; rfl
   try simp -dsimp (maxSteps := 1000000) only [go_sem, List.forall_mem_nil, ↓reduceIte, Nat.reduceEqDiff, Nat.reduceLT, Nat.reduceLeDiff, Nat.reduceAdd, Nat.reduceMul, reduceCtorEq, Tryz.f61, zBm, c1, c2, w1, r, zAa, Bool.not_false, Bool.not_true]
 have c2 : (decide ((0 : Int) ≤ a) && decide (a ≤ (st.length : Int) - 1)) = true := by simp; omega
 by_cases k3 : 0 ≤ c ∧ c ≤ st.length
 rotate_left
 · have c3 : (decide ((0 : Int) ≤ c) && decide (c ≤ (st.length : Int))) = false := by simp; omega
   have r : isRingF st a c = false := by rw [c0, decide_eq_false (by unfold ringC; omega)]; rfl
   try simp -dsimp (maxSteps := 1000000) only [go_sem, List.forall_mem_nil, ↓reduceIte, Nat.reduceEqDiff, Nat.reduceLT, Nat.reduceLeDiff, Nat.reduceAdd, Nat.reduceMul, reduceCtorEq, Tryz.f61, zBm, c1, c2, c3, w1, r, zAa, Bool.not_false, Bool.not_true]
 have c3 : (decide ((0 : Int) ≤ c) && decide (c ≤ (st.length : Int))) = true := by simp; omega
 obtain ⟨A, rfl⟩ := Int.eq_ofNat_of_zero_le k2.1
 obtain ⟨C, rfl⟩ := Int.eq_ofNat_of_zero_le k3.1
 have r : isRingF st (A : Int) (C : Int) = ringGo st A (st.length - C) C := by rw [c0, decide_eq_true (by unfold ringC; omega), Int.toNat_natCast, Int.toNat_natCast]; rfl
 rw [r]
 try simp -dsimp (maxSteps := 1000000) only [go_sem, List.forall_mem_nil, ↓reduceIte, Nat.reduceEqDiff, Nat.reduceLT, Nat.reduceLeDiff, Nat.reduceAdd, Nat.reduceMul, reduceCtorEq, Tryz.f61, zBm, c1, c2, c3, w1, zAa, Bool.not_true]
 refine zBh (ι := { k : Nat // k ≤ st.length ∧ ringGo st A (st.length - C) C = ringGo st A (st.length - k) k }) (fun k => ⟨[(1, some (.c (.ptr 0 0 0 0))), (3, some (.c (.im (.int .i64 (st.length : Int))))), (4, some (.c (.im (.int .i64 (k.1 : Int)))))],
   [(0, some (.box [.t (.im (.sl 1 (rowsZ st))), .t (.im (.int .i64 (A : Int))), .t (.im (.int .i64 (C : Int)))]))], 1⟩) (fun k => st.length - k.1) ⟨C, by omega, rfl⟩ ⟨[], [], by (simp only [go_sem, eq_self, MvRb, MvRn, MvRt, List.nodup_cons, List.nodup_nil, ↓reduceIte, Nat.reduceEqDiff, Nat.reduceLT, Nat.reduceLeDiff, reduceCtorEq, List.forall_mem_nil, Nat.zero_le, false_implies, List.mem_singleton]) <;> simp [lk, zBg]⟩ (fun ⟨k, hk, hinv⟩ => ?_)
 simp only at hk hinv ⊢
 by_cases hlt : k < st.length
 rotate_left
 · have hI : ((k : Int) < (st.length : Int)) = False := eq_false (by omega)
   have z : st.length - k = 0 := by omega
   rw [z] at hinv
   simp only [ringGo] at hinv
   try simp -dsimp (maxSteps := 1000000) only [go_sem, List.forall_mem_nil, ↓reduceIte, Nat.reduceEqDiff, Nat.reduceLT, Nat.reduceLeDiff, Nat.reduceAdd, Nat.reduceMul, reduceCtorEq, Tryz.f61, hI, hinv]
 have hI : ((k : Int) < (st.length : Int)) = True := eq_true (by omega)
 obtain ⟨q, hq⟩ : ∃ q, (A + k) % st.length = q := ⟨_, rfl⟩
 have hql : q < st.length := by rw [← hq]; exact Nat.mod_lt _ (by omega)
 obtain ⟨p, hp⟩ : ∃ p, st[q]? = some p := ⟨_, List.getElem?_eq_getElem hql⟩
 have hrow := zCf hp
 obtain ⟨hp1, hp2⟩ := hw p (List.mem_of_getElem? hp)
 have hst : ringGo st A (st.length - k) k = (nzP p && ringGo st A (st.length - (k + 1)) (k + 1)) := by
   have z : st.length - k = (st.length - (k + 1)) + 1 := by omega
   rw [z]
   exact ringGo_step (k := 0) (by rw [hq]; exact hp)
 obtain ⟨x, y⟩ := p
 have n0 : ((st.length : Int) = 0) = False := eq_false (by omega)
 have w2 : IntKind.i64.wrap ((A : Int) + (k : Int)) = ((A + k : Nat) : Int) := by rw [zAi (by omega) (by omega)]; omega
 have hm : ((A + k : Nat) : Int).tmod (st.length : Int) = (q : Int) := by rw [Int.tmod_eq_emod_of_nonneg (by omega), ← hq]; omega
 have w3 : IntKind.i64.wrap (q : Int) = (q : Int) := zAi (by omega) (by omega)
 have h0 : (0 ≤ (q : Int)) = True := by simp
 have hqI : ((q : Int) < (st.length : Int)) = True := eq_true (by omega)
 have rz := zBe hp1 hp2
 have w4 : IntKind.i64.wrap ((k : Int) + 1) = ((k + 1 : Nat) : Int) := by rw [zAi (by omega) (by omega)]; omega
 simp only at hrow
 cases hz : nzP (x, y) with
 | false =>
   rw [hz] at rz hst
   rw [hst] at hinv
   simp only [Bool.false_and] at hinv
   try simp -dsimp (maxSteps := 1000000) only [go_sem, List.forall_mem_nil, ↓reduceIte, Nat.reduceEqDiff, Nat.reduceLT, Nat.reduceLeDiff, Nat.reduceAdd, Nat.reduceMul, reduceCtorEq, Tryz.f61, hI, n0, w2, hm, w3, h0, hqI, hrow, rz, hinv, zAa, Int.toNat_natCast, Bool.not_false]
   repeat' (first
     | ((with_reducible refine sl_i ?_ ?_); focus kernel_rfl)
     | ((with_reducible refine ro_e ?_); kernel_rfl))
 | true =>
   rw [hz] at rz hst
   rw [hst] at hinv
   simp only [Bool.true_and] at hinv
   try simp -dsimp (maxSteps := 1000000) only [go_sem, List.forall_mem_nil, ↓reduceIte, Nat.reduceEqDiff, Nat.reduceLT, Nat.reduceLeDiff, Nat.reduceAdd, Nat.reduceMul, reduceCtorEq, Tryz.f61, hI, n0, w2, hm, w3, w4, h0, hqI, hrow, rz, zAa, Int.toNat_natCast, Bool.not_true]
   repeat' (first
     | ((with_reducible refine sl_i ?_ ?_); focus kernel_rfl)
     | ((with_reducible refine ro_i ?_ ?_); focus kernel_rfl))
   exact ⟨⟨k + 1, by omega, hinv⟩, by simp only []; omega, [], [], by (simp only [go_sem, eq_self, MvRb, MvRn, MvRt, List.nodup_cons, List.nodup_nil, ↓reduceIte, Nat.reduceEqDiff, Nat.reduceLT, Nat.reduceLeDiff, reduceCtorEq, List.forall_mem_nil, Nat.zero_le, false_implies, List.mem_singleton]) <;> simp [lk, zBg]⟩
end Go.SX
namespace Go.SX
open Go Go.Proofs Ieee
def restM (m : Mod) : Mod :=
 if m.kind = 1 ∨ m.kind = 2 then { m with turn := (0, 0), state := (0, 0) }
 else if m.kind = 3 ∨ m.kind = 7 then { m with level := 0 }
 else if m.kind = 4 then { m with store := [], rat := 0, rcnt := 0 }
 else if m.kind = 6 then { m with pts := [], lab := [], count := 0 }
 else if m.kind = 8 then { m with state := (0, 0), count := 0, left := 0 }
 else m
def unuF (m : Mod) : Bool := bareF (restM m)
theorem nzP00 : nzP (0, 0) = true := by decide
theorem nz00 : nz 0 = true := by decide
structure AUn where
 m : Mod
 ok : OkM m
 w : W32 m
 k : m.kind = 1 ∨ m.kind = 2 ∨ m.kind = 3 ∨ m.kind = 4 ∨ m.kind = 5 ∨ m.kind = 6 ∨ m.kind = 7 ∨ m.kind = 8
noncomputable def ct_l5UnusedA : Ct := fam true (fun x : AUn => ([.agg (modC x.m)], [])) (fun x => .one { val := .c (.im (.bool (unuF x.m))) })
theorem run_l5UnusedA (x : AUn) : ct_l5UnusedA.run [.agg (modC x.m)] [] = some (.one { val := .c (.im (.bool (unuF x.m))) }) := by
 refine zAd (args := fun x : AUn => ([D.agg (modC x.m)], [])) ?_ x
 rintro ⟨a, _, _, _⟩ ⟨b, _, _, _⟩ h
 simp only [Prod.mk.injEq, List.cons.injEq, D.agg.injEq, and_true] at h
 have := zDg h
 subst this; rfl
theorem law_cover {P : Program} {f : FuncId} {ct c0 : Ct} (h0 : Law P f c0) (h : ∀ ds hs o, ct.run ds hs = some o → ∃ c, Law P f c ∧ c.sc = ct.sc ∧ c.run ds hs = some o) : Law P f ct := by
 refine ⟨⟨fun ds hs o ho => ?_, fun ds hs o ho => ?_⟩, h0.2⟩
 · obtain ⟨c, hl, hs', hr⟩ := h ds hs o ho
   rw [← hs']
   exact hl.1.ok ds hs o hr
 · obtain ⟨c, hl, hs', hr⟩ := h ds hs o ho
   exact hl.1.at_ ds hs o hr
noncomputable def ct_un (k : Int) : Ct := fam true (fun x : { x : AUn // x.m.kind = k } => ([.agg (modC x.1.m)], [])) (fun x => .one { val := .c (.im (.bool (unuF x.1.m))) })
theorem un_inj {k : Int} : ∀ a b : { x : AUn // x.m.kind = k }, ([D.agg (modC a.1.m)], ([] : List (List B))) = ([D.agg (modC b.1.m)], []) → a = b := by
 rintro ⟨⟨a, _, _, _⟩, _⟩ ⟨⟨b, _, _, _⟩, _⟩ h
 simp only [Prod.mk.injEq, List.cons.injEq, D.agg.injEq, and_true] at h
 have := zDg h
 subst this; rfl
end Go.SX
namespace Go.SX
open Go Go.Proofs Ieee
set_option maxRecDepth 100000 in
set_option maxHeartbeats 32000000 in
theorem law_un1 : Law Tryz.prog 60 (ct_un 1) := by
 refine zAf (zAc zDo (zAc zCo (zAc zBa zAe))) hmixA Tryz.func60 rfl rfl (fun ⟨⟨⟨k, ⟨t1, t2⟩, ⟨s1, s2⟩, lv, st, ra, rc, pts, lab, c, lf⟩, ok, w32, hkk⟩, hk⟩ => ⟨zAv rfl, by simp [Tryz.f60], ?_⟩)
 simp only [modC] at hk ⊢
 have rt := zBe w32.turn.1 w32.turn.2
 have rs := zBe w32.state.1 w32.state.2
 have rl := zAu w32.level
 have bl : ((⟨(fsT lv).toArray⟩ : ByteArray).toList == (⟨#[48]⟩ : ByteArray).toList) = nz lv := (zAz (fsT lv) [48]).trans (fs_nz w32.level)
 simp only at rt rs rl
 clear ok w32 hkk
 subst hk
 have z := zDl (k := 1) (by simp)
 cases hAl : nz lv with
 | false =>
   have r : unuF ⟨1, (t1, t2), (s1, s2), lv, st, ra, rc, pts, lab, c, lf⟩ = false := by simp [unuF, restM, bareF, nzP00, nz00, hAl]
   rw [r]
   try simp -dsimp (maxSteps := 1000000) only [go_sem, List.forall_mem_nil, ↓reduceIte, Nat.reduceEqDiff, Nat.reduceLT, Nat.reduceLeDiff, Nat.reduceAdd, Nat.reduceMul, reduceCtorEq, Tryz.f60, z, rt, rs, rl, bl, usesF, zAa, zAb, Int.reduceEq, Int.reduceLT, Int.reduceLE, Int.reduceToNat, Bool.not_true, Bool.not_false, hAl]
 | true =>
 by_cases hAst : (st.length : Int) = 0
 rotate_left
 · have r : unuF ⟨1, (t1, t2), (s1, s2), lv, st, ra, rc, pts, lab, c, lf⟩ = false := by
     have d := decide_eq_false hAst
     unfold unuF restM bareF
     simp only [Int.reduceEq, or_self, or_false, or_true, if_true, if_false, nzP00, nz00, d, Bool.false_and, Bool.and_false, Bool.true_and, List.length_nil, Int.natCast_zero, Int.ofNat_zero, hAl]
   have est : ((0 : Int) < (st.length : Int)) = True := eq_true (by omega)
   clear hAst
   rw [r]
   try simp -dsimp (maxSteps := 1000000) only [go_sem, List.forall_mem_nil, ↓reduceIte, Nat.reduceEqDiff, Nat.reduceLT, Nat.reduceLeDiff, Nat.reduceAdd, Nat.reduceMul, reduceCtorEq, Tryz.f60, z, rt, rs, rl, bl, usesF, zAa, zAb, Int.reduceEq, Int.reduceLT, Int.reduceLE, Int.reduceToNat, Bool.not_true, Bool.not_false, hAl, est]
 have dst := decide_eq_true hAst
 have est : ((0 : Int) < (st.length : Int)) = False := eq_false (by omega)
 by_cases hAra : ra = 0
 rotate_left
 · have r : unuF ⟨1, (t1, t2), (s1, s2), lv, st, ra, rc, pts, lab, c, lf⟩ = false := by
     have d := decide_eq_false hAra
     unfold unuF restM bareF
     simp only [Int.reduceEq, or_self, or_false, or_true, if_true, if_false, nzP00, nz00, d, Bool.false_and, Bool.and_false, Bool.true_and, List.length_nil, Int.natCast_zero, Int.ofNat_zero, hAl, dst]
   have era : (ra = 0) = False := eq_false hAra
   clear hAra
   rw [r]
   try simp -dsimp (maxSteps := 1000000) only [go_sem, List.forall_mem_nil, ↓reduceIte, Nat.reduceEqDiff, Nat.reduceLT, Nat.reduceLeDiff, Nat.reduceAdd, Nat.reduceMul, reduceCtorEq, Tryz.f60, z, rt, rs, rl, bl, usesF, zAa, zAb, Int.reduceEq, Int.reduceLT, Int.reduceLE, Int.reduceToNat, Bool.not_true, Bool.not_false, hAl, est, era]
 have dra := decide_eq_true hAra
 have era : (ra = 0) = True := eq_true hAra
 by_cases hArc : rc = 0
 rotate_left
 · have r : unuF ⟨1, (t1, t2), (s1, s2), lv, st, ra, rc, pts, lab, c, lf⟩ = false := by
     have d := decide_eq_false hArc
     unfold unuF restM bareF
     simp only [Int.reduceEq, or_self, or_false, or_true, if_true, if_false, nzP00, nz00, d, Bool.false_and, Bool.and_false, Bool.true_and, List.length_nil, Int.natCast_zero, Int.ofNat_zero, hAl, dst, dra]
   have erc : (rc = 0) = False := eq_false hArc
   clear hArc
   rw [r]
   try simp -dsimp (maxSteps := 1000000) only [go_sem, List.forall_mem_nil, ↓reduceIte, Nat.reduceEqDiff, Nat.reduceLT, Nat.reduceLeDiff, Nat.reduceAdd, Nat.reduceMul, reduceCtorEq, Tryz.f60, z, rt, rs, rl, bl, usesF, zAa, zAb, Int.reduceEq, Int.reduceLT, Int.reduceLE, Int.reduceToNat, Bool.not_true, Bool.not_false, hAl, est, era, erc]
 have drc := decide_eq_true hArc
 have erc : (rc = 0) = True := eq_true hArc
 by_cases hAp : (pts.length : Int) = 0
 rotate_left
 · have r : unuF ⟨1, (t1, t2), (s1, s2), lv, st, ra, rc, pts, lab, c, lf⟩ = false := by
     have d := decide_eq_false hAp
     unfold unuF restM bareF
     simp only [Int.reduceEq, or_self, or_false, or_true, if_true, if_false, nzP00, nz00, d, Bool.false_and, Bool.and_false, Bool.true_and, List.length_nil, Int.natCast_zero, Int.ofNat_zero, hAl, dst, dra, drc]
   have ep : ((0 : Int) < (pts.length : Int)) = True := eq_true (by omega)
   clear hAp
   rw [r]
   try simp -dsimp (maxSteps := 1000000) only [go_sem, List.forall_mem_nil, ↓reduceIte, Nat.reduceEqDiff, Nat.reduceLT, Nat.reduceLeDiff, Nat.reduceAdd, Nat.reduceMul, reduceCtorEq, Tryz.f60, z, rt, rs, rl, bl, usesF, zAa, zAb, Int.reduceEq, Int.reduceLT, Int.reduceLE, Int.reduceToNat, Bool.not_true, Bool.not_false, hAl, est, era, erc, ep]
 have dp := decide_eq_true hAp
 have ep : ((0 : Int) < (pts.length : Int)) = False := eq_false (by omega)
 by_cases hAla : (lab.length : Int) = 0
 rotate_left
 · have r : unuF ⟨1, (t1, t2), (s1, s2), lv, st, ra, rc, pts, lab, c, lf⟩ = false := by
     have d := decide_eq_false hAla
     unfold unuF restM bareF
     simp only [Int.reduceEq, or_self, or_false, or_true, if_true, if_false, nzP00, nz00, d, Bool.false_and, Bool.and_false, Bool.true_and, List.length_nil, Int.natCast_zero, Int.ofNat_zero, hAl, dst, dra, drc, dp]
   have ela : ((0 : Int) < (lab.length : Int)) = True := eq_true (by omega)
   clear hAla
   rw [r]
   try simp -dsimp (maxSteps := 1000000) only [go_sem, List.forall_mem_nil, ↓reduceIte, Nat.reduceEqDiff, Nat.reduceLT, Nat.reduceLeDiff, Nat.reduceAdd, Nat.reduceMul, reduceCtorEq, Tryz.f60, z, rt, rs, rl, bl, usesF, zAa, zAb, Int.reduceEq, Int.reduceLT, Int.reduceLE, Int.reduceToNat, Bool.not_true, Bool.not_false, hAl, est, era, erc, ep, ela]
 have dla := decide_eq_true hAla
 have ela : ((0 : Int) < (lab.length : Int)) = False := eq_false (by omega)
 by_cases hAc : c = 0
 rotate_left
 · have r : unuF ⟨1, (t1, t2), (s1, s2), lv, st, ra, rc, pts, lab, c, lf⟩ = false := by
     have d := decide_eq_false hAc
     unfold unuF restM bareF
     simp only [Int.reduceEq, or_self, or_false, or_true, if_true, if_false, nzP00, nz00, d, Bool.false_and, Bool.and_false, Bool.true_and, List.length_nil, Int.natCast_zero, Int.ofNat_zero, hAl, dst, dra, drc, dp, dla]
   have ec : (c = 0) = False := eq_false hAc
   clear hAc
   rw [r]
   try simp -dsimp (maxSteps := 1000000) only [go_sem, List.forall_mem_nil, ↓reduceIte, Nat.reduceEqDiff, Nat.reduceLT, Nat.reduceLeDiff, Nat.reduceAdd, Nat.reduceMul, reduceCtorEq, Tryz.f60, z, rt, rs, rl, bl, usesF, zAa, zAb, Int.reduceEq, Int.reduceLT, Int.reduceLE, Int.reduceToNat, Bool.not_true, Bool.not_false, hAl, est, era, erc, ep, ela, ec]
 have dc := decide_eq_true hAc
 have ec : (c = 0) = True := eq_true hAc
 by_cases hAf : lf = 0
 rotate_left
 · have r : unuF ⟨1, (t1, t2), (s1, s2), lv, st, ra, rc, pts, lab, c, lf⟩ = false := by
     have d := decide_eq_false hAf
     unfold unuF restM bareF
     simp only [Int.reduceEq, or_self, or_false, or_true, if_true, if_false, nzP00, nz00, d, Bool.false_and, Bool.and_false, Bool.true_and, List.length_nil, Int.natCast_zero, Int.ofNat_zero, hAl, dst, dra, drc, dp, dla, dc]
   have ef : (lf = 0) = False := eq_false hAf
   clear hAf
   rw [r]
   try simp -dsimp (maxSteps := 1000000) only [go_sem, List.forall_mem_nil, ↓reduceIte, Nat.reduceEqDiff, Nat.reduceLT, Nat.reduceLeDiff, Nat.reduceAdd, Nat.reduceMul, reduceCtorEq, Tryz.f60, z, rt, rs, rl, bl, usesF, zAa, zAb, Int.reduceEq, Int.reduceLT, Int.reduceLE, Int.reduceToNat, Bool.not_true, Bool.not_false, hAl, est, era, erc, ep, ela, ec, ef]
 have df := decide_eq_true hAf
 have ef : (lf = 0) = True := eq_true hAf
 have r : unuF ⟨1, (t1, t2), (s1, s2), lv, st, ra, rc, pts, lab, c, lf⟩ = true := by
   unfold unuF restM bareF
   simp only [Int.reduceEq, or_self, or_false, or_true, if_true, if_false, nzP00, nz00, Bool.and_self, Bool.true_and, List.length_nil, Int.natCast_zero, Int.ofNat_zero, decide_true, hAl, dst, dra, drc, dp, dla, dc, df]
 rw [r]
 try simp -dsimp (maxSteps := 1000000) only [go_sem, List.forall_mem_nil, ↓reduceIte, Nat.reduceEqDiff, Nat.reduceLT, Nat.reduceLeDiff, Nat.reduceAdd, Nat.reduceMul, reduceCtorEq, Tryz.f60, z, rt, rs, rl, bl, usesF, zAa, zAb, Int.reduceEq, Int.reduceLT, Int.reduceLE, Int.reduceToNat, Bool.not_true, Bool.not_false, hAl, est, era, erc, ep, ela, ec, ef]
end Go.SX
namespace Go.SX
open Go Go.Proofs Ieee
set_option maxRecDepth 100000 in
set_option maxHeartbeats 32000000 in
theorem law_un2 : Law Tryz.prog 60 (ct_un 2) := by
 refine zAf (zAc zDo (zAc zCo (zAc zBa zAe))) hmixA Tryz.func60 rfl rfl (fun ⟨⟨⟨k, ⟨t1, t2⟩, ⟨s1, s2⟩, lv, st, ra, rc, pts, lab, c, lf⟩, ok, w32, hkk⟩, hk⟩ => ⟨zAv rfl, by simp [Tryz.f60], ?_⟩)
 simp only [modC] at hk ⊢
 have rt := zBe w32.turn.1 w32.turn.2
 have rs := zBe w32.state.1 w32.state.2
 have rl := zAu w32.level
 have bl : ((⟨(fsT lv).toArray⟩ : ByteArray).toList == (⟨#[48]⟩ : ByteArray).toList) = nz lv := (zAz (fsT lv) [48]).trans (fs_nz w32.level)
 simp only at rt rs rl
 clear ok w32 hkk
 subst hk
 have z := zDl (k := 2) (by simp)
 cases hAl : nz lv with
 | false =>
   have r : unuF ⟨2, (t1, t2), (s1, s2), lv, st, ra, rc, pts, lab, c, lf⟩ = false := by simp [unuF, restM, bareF, nzP00, nz00, hAl]
   rw [r]
   try simp -dsimp (maxSteps := 1000000) only [go_sem, List.forall_mem_nil, ↓reduceIte, Nat.reduceEqDiff, Nat.reduceLT, Nat.reduceLeDiff, Nat.reduceAdd, Nat.reduceMul, reduceCtorEq, Tryz.f60, z, rt, rs, rl, bl, usesF, zAa, zAb, Int.reduceEq, Int.reduceLT, Int.reduceLE, Int.reduceToNat, Bool.not_true, Bool.not_false, hAl]
 | true =>
 by_cases hAst : (st.length : Int) = 0
 rotate_left
 · have r : unuF ⟨2, (t1, t2), (s1, s2), lv, st, ra, rc, pts, lab, c, lf⟩ = false := by
     have d := decide_eq_false hAst
     unfold unuF restM bareF
     simp only [Int.reduceEq, or_self, or_false, or_true, if_true, if_false, nzP00, nz00, d, Bool.false_and, Bool.and_false, Bool.true_and, List.length_nil, Int.natCast_zero, Int.ofNat_zero, hAl]
   have est : ((0 : Int) < (st.length : Int)) = True := eq_true (by omega)
   clear hAst
   rw [r]
   try simp -dsimp (maxSteps := 1000000) only [go_sem, List.forall_mem_nil, ↓reduceIte, Nat.reduceEqDiff, Nat.reduceLT, Nat.reduceLeDiff, Nat.reduceAdd, Nat.reduceMul, reduceCtorEq, Tryz.f60, z, rt, rs, rl, bl, usesF, zAa, zAb, Int.reduceEq, Int.reduceLT, Int.reduceLE, Int.reduceToNat, Bool.not_true, Bool.not_false, hAl, est]
 have dst := decide_eq_true hAst
 have est : ((0 : Int) < (st.length : Int)) = False := eq_false (by omega)
 by_cases hAra : ra = 0
 rotate_left
 · have r : unuF ⟨2, (t1, t2), (s1, s2), lv, st, ra, rc, pts, lab, c, lf⟩ = false := by
     have d := decide_eq_false hAra
     unfold unuF restM bareF
     simp only [Int.reduceEq, or_self, or_false, or_true, if_true, if_false, nzP00, nz00, d, Bool.false_and, Bool.and_false, Bool.true_and, List.length_nil, Int.natCast_zero, Int.ofNat_zero, hAl, dst]
   have era : (ra = 0) = False := eq_false hAra
   clear hAra
   rw [r]
   try simp -dsimp (maxSteps := 1000000) only [go_sem, List.forall_mem_nil, ↓reduceIte, Nat.reduceEqDiff, Nat.reduceLT, Nat.reduceLeDiff, Nat.reduceAdd, Nat.reduceMul, reduceCtorEq, Tryz.f60, z, rt, rs, rl, bl, usesF, zAa, zAb, Int.reduceEq, Int.reduceLT, Int.reduceLE, Int.reduceToNat, Bool.not_true, Bool.not_false, hAl, est, era]
 have dra := decide_eq_true hAra
 have era : (ra = 0) = True := eq_true hAra
 by_cases hArc : rc = 0
 rotate_left
 · have r : unuF ⟨2, (t1, t2), (s1, s2), lv, st, ra, rc, pts, lab, c, lf⟩ = false := by
     have d := decide_eq_false hArc
     unfold unuF restM bareF
     simp only [Int.reduceEq, or_self, or_false, or_true, if_true, if_false, nzP00, nz00, d, Bool.false_and, Bool.and_false, Bool.true_and, List.length_nil, Int.natCast_zero, Int.ofNat_zero, hAl, dst, dra]
   have erc : (rc = 0) = False := eq_false hArc
   clear hArc
   rw [r]
   try simp -dsimp (maxSteps := 1000000) only [go_sem, List.forall_mem_nil, ↓reduceIte, Nat.reduceEqDiff, Nat.reduceLT, Nat.reduceLeDiff, Nat.reduceAdd, Nat.reduceMul, reduceCtorEq, Tryz.f60, z, rt, rs, rl, bl, usesF, zAa, zAb, Int.reduceEq, Int.reduceLT, Int.reduceLE, Int.reduceToNat, Bool.not_true, Bool.not_false, hAl, est, era, erc]
 have drc := decide_eq_true hArc
 have erc : (rc = 0) = True := eq_true hArc
 by_cases hAp : (pts.length : Int) = 0
 rotate_left
 · have r : unuF ⟨2, (t1, t2), (s1, s2), lv, st, ra, rc, pts, lab, c, lf⟩ = false := by
     have d := decide_eq_false hAp
     unfold unuF restM bareF
     simp only [Int.reduceEq, or_self, or_false, or_true, if_true, if_false, nzP00, nz00, d, Bool.false_and, Bool.and_false, Bool.true_and, List.length_nil, Int.natCast_zero, Int.ofNat_zero, hAl, dst, dra, drc]
   have ep : ((0 : Int) < (pts.length : Int)) = True := eq_true (by omega)
   clear hAp
   rw [r]
   try simp -dsimp (maxSteps := 1000000) only [go_sem, List.forall_mem_nil, ↓reduceIte, Nat.reduceEqDiff, Nat.reduceLT, Nat.reduceLeDiff, Nat.reduceAdd, Nat.reduceMul, reduceCtorEq, Tryz.f60, z, rt, rs, rl, bl, usesF, zAa, zAb, Int.reduceEq, Int.reduceLT, Int.reduceLE, Int.reduceToNat, Bool.not_true, Bool.not_false, hAl, est, era, erc, ep]
 have dp := decide_eq_true hAp
 have ep : ((0 : Int) < (pts.length : Int)) = False := eq_false (by omega)
 by_cases hAla : (lab.length : Int) = 0
 rotate_left
 · have r : unuF ⟨2, (t1, t2), (s1, s2), lv, st, ra, rc, pts, lab, c, lf⟩ = false := by
     have d := decide_eq_false hAla
     unfold unuF restM bareF
     simp only [Int.reduceEq, or_self, or_false, or_true, if_true, if_false, nzP00, nz00, d, Bool.false_and, Bool.and_false, Bool.true_and, List.length_nil, Int.natCast_zero, Int.ofNat_zero, hAl, dst, dra, drc, dp]
   have ela : ((0 : Int) < (lab.length : Int)) = True := eq_true (by omega)
   clear hAla
   rw [r]
   try simp -dsimp (maxSteps := 1000000) only [go_sem, List.forall_mem_nil, ↓reduceIte, Nat.reduceEqDiff, Nat.reduceLT, Nat.reduceLeDiff, Nat.reduceAdd, Nat.reduceMul, reduceCtorEq, Tryz.f60, z, rt, rs, rl, bl, usesF, zAa, zAb, Int.reduceEq, Int.reduceLT, Int.reduceLE, Int.reduceToNat, Bool.not_true, Bool.not_false, hAl, est, era, erc, ep, ela]
 have dla := decide_eq_true hAla
 have ela : ((0 : Int) < (lab.length : Int)) = False := eq_false (by omega)
 by_cases hAc : c = 0
 rotate_left
 · have r : unuF ⟨2, (t1, t2), (s1, s2), lv, st, ra, rc, pts, lab, c, lf⟩ = false := by
     have d := decide_eq_false hAc
     unfold unuF restM bareF
     simp only [Int.reduceEq, or_self, or_false, or_true, if_true, if_false, nzP00, nz00, d, Bool.false_and, Bool.and_false, Bool.true_and, List.length_nil, Int.natCast_zero, Int.ofNat_zero, hAl, dst, dra, drc, dp, dla]
   have ec : (c = 0) = False := eq_false hAc
   clear hAc
   rw [r]
   try simp -dsimp (maxSteps := 1000000) only [go_sem, List.forall_mem_nil, ↓reduceIte, Nat.reduceEqDiff, Nat.reduceLT, Nat.reduceLeDiff, Nat.reduceAdd, Nat.reduceMul, reduceCtorEq, Tryz.f60, z, rt, rs, rl, bl, usesF, zAa, zAb, Int.reduceEq, Int.reduceLT, Int.reduceLE, Int.reduceToNat, Bool.not_true, Bool.not_false, hAl, est, era, erc, ep, ela, ec]
 have dc := decide_eq_true hAc
 have ec : (c = 0) = True := eq_true hAc
 by_cases hAf : lf = 0
 rotate_left
 · have r : unuF ⟨2, (t1, t2), (s1, s2), lv, st, ra, rc, pts, lab, c, lf⟩ = false := by
     have d := decide_eq_false hAf
     unfold unuF restM bareF
     simp only [Int.reduceEq, or_self, or_false, or_true, if_true, if_false, nzP00, nz00, d, Bool.false_and, Bool.and_false, Bool.true_and, List.length_nil, Int.natCast_zero, Int.ofNat_zero, hAl, dst, dra, drc, dp, dla, dc]
   have ef : (lf = 0) = False := eq_false hAf
   clear hAf
   rw [r]
   try simp -dsimp (maxSteps := 1000000) only [go_sem, List.forall_mem_nil, ↓reduceIte, Nat.reduceEqDiff, Nat.reduceLT, Nat.reduceLeDiff, Nat.reduceAdd, Nat.reduceMul, reduceCtorEq, Tryz.f60, z, rt, rs, rl, bl, usesF, zAa, zAb, Int.reduceEq, Int.reduceLT, Int.reduceLE, Int.reduceToNat, Bool.not_true, Bool.not_false, hAl, est, era, erc, ep, ela, ec, ef]
 have df := decide_eq_true hAf
 have ef : (lf = 0) = True := eq_true hAf
 have r : unuF ⟨2, (t1, t2), (s1, s2), lv, st, ra, rc, pts, lab, c, lf⟩ = true := by
   unfold unuF restM bareF
   simp only [Int.reduceEq, or_self, or_false, or_true, if_true, if_false, nzP00, nz00, Bool.and_self, Bool.true_and, List.length_nil, Int.natCast_zero, Int.ofNat_zero, decide_true, hAl, dst, dra, drc, dp, dla, dc, df]
 rw [r]
 try simp -dsimp (maxSteps := 1000000) only [go_sem, List.forall_mem_nil, ↓reduceIte, Nat.reduceEqDiff, Nat.reduceLT, Nat.reduceLeDiff, Nat.reduceAdd, Nat.reduceMul, reduceCtorEq, Tryz.f60, z, rt, rs, rl, bl, usesF, zAa, zAb, Int.reduceEq, Int.reduceLT, Int.reduceLE, Int.reduceToNat, Bool.not_true, Bool.not_false, hAl, est, era, erc, ep, ela, ec, ef]
end Go.SX
namespace Go.SX
open Go Go.Proofs Ieee
set_option maxRecDepth 100000 in
set_option maxHeartbeats 32000000 in
theorem law_un3 : Law Tryz.prog 60 (ct_un 3) := by
 refine zAf (zAc zDo (zAc zCo (zAc zBa zAe))) hmixA Tryz.func60 rfl rfl (fun ⟨⟨⟨k, ⟨t1, t2⟩, ⟨s1, s2⟩, lv, st, ra, rc, pts, lab, c, lf⟩, ok, w32, hkk⟩, hk⟩ => ⟨zAv rfl, by simp [Tryz.f60], ?_⟩)
 simp only [modC] at hk ⊢
 have rt := zBe w32.turn.1 w32.turn.2
 have rs := zBe w32.state.1 w32.state.2
 have rl := zAu w32.level
 have bl : ((⟨(fsT lv).toArray⟩ : ByteArray).toList == (⟨#[48]⟩ : ByteArray).toList) = nz lv := (zAz (fsT lv) [48]).trans (fs_nz w32.level)
 simp only at rt rs rl
 clear ok w32 hkk
 subst hk
 have z := zDl (k := 3) (by simp)
 cases hAt : nzP (t1, t2) with
 | false =>
   have r : unuF ⟨3, (t1, t2), (s1, s2), lv, st, ra, rc, pts, lab, c, lf⟩ = false := by simp [unuF, restM, bareF, nzP00, nz00, hAt]
   rw [r]
   try simp -dsimp (maxSteps := 1000000) only [go_sem, List.forall_mem_nil, ↓reduceIte, Nat.reduceEqDiff, Nat.reduceLT, Nat.reduceLeDiff, Nat.reduceAdd, Nat.reduceMul, reduceCtorEq, Tryz.f60, z, rt, rs, rl, bl, usesF, zAa, zAb, Int.reduceEq, Int.reduceLT, Int.reduceLE, Int.reduceToNat, Bool.not_true, Bool.not_false, hAt]
 | true =>
 cases hAs : nzP (s1, s2) with
 | false =>
   have r : unuF ⟨3, (t1, t2), (s1, s2), lv, st, ra, rc, pts, lab, c, lf⟩ = false := by simp [unuF, restM, bareF, nzP00, nz00, hAs, hAt]
   rw [r]
   try simp -dsimp (maxSteps := 1000000) only [go_sem, List.forall_mem_nil, ↓reduceIte, Nat.reduceEqDiff, Nat.reduceLT, Nat.reduceLeDiff, Nat.reduceAdd, Nat.reduceMul, reduceCtorEq, Tryz.f60, z, rt, rs, rl, bl, usesF, zAa, zAb, Int.reduceEq, Int.reduceLT, Int.reduceLE, Int.reduceToNat, Bool.not_true, Bool.not_false, hAt, hAs]
 | true =>
 by_cases hAst : (st.length : Int) = 0
 rotate_left
 · have r : unuF ⟨3, (t1, t2), (s1, s2), lv, st, ra, rc, pts, lab, c, lf⟩ = false := by
     have d := decide_eq_false hAst
     unfold unuF restM bareF
     simp only [Int.reduceEq, or_self, or_false, or_true, if_true, if_false, nzP00, nz00, d, Bool.false_and, Bool.and_false, Bool.true_and, List.length_nil, Int.natCast_zero, Int.ofNat_zero, hAt, hAs]
   have est : ((0 : Int) < (st.length : Int)) = True := eq_true (by omega)
   clear hAst
   rw [r]
   try simp -dsimp (maxSteps := 1000000) only [go_sem, List.forall_mem_nil, ↓reduceIte, Nat.reduceEqDiff, Nat.reduceLT, Nat.reduceLeDiff, Nat.reduceAdd, Nat.reduceMul, reduceCtorEq, Tryz.f60, z, rt, rs, rl, bl, usesF, zAa, zAb, Int.reduceEq, Int.reduceLT, Int.reduceLE, Int.reduceToNat, Bool.not_true, Bool.not_false, hAt, hAs, est]
 have dst := decide_eq_true hAst
 have est : ((0 : Int) < (st.length : Int)) = False := eq_false (by omega)
 by_cases hAra : ra = 0
 rotate_left
 · have r : unuF ⟨3, (t1, t2), (s1, s2), lv, st, ra, rc, pts, lab, c, lf⟩ = false := by
     have d := decide_eq_false hAra
     unfold unuF restM bareF
     simp only [Int.reduceEq, or_self, or_false, or_true, if_true, if_false, nzP00, nz00, d, Bool.false_and, Bool.and_false, Bool.true_and, List.length_nil, Int.natCast_zero, Int.ofNat_zero, hAt, hAs, dst]
   have era : (ra = 0) = False := eq_false hAra
   clear hAra
   rw [r]
   try simp -dsimp (maxSteps := 1000000) only [go_sem, List.forall_mem_nil, ↓reduceIte, Nat.reduceEqDiff, Nat.reduceLT, Nat.reduceLeDiff, Nat.reduceAdd, Nat.reduceMul, reduceCtorEq, Tryz.f60, z, rt, rs, rl, bl, usesF, zAa, zAb, Int.reduceEq, Int.reduceLT, Int.reduceLE, Int.reduceToNat, Bool.not_true, Bool.not_false, hAt, hAs, est, era]
 have dra := decide_eq_true hAra
 have era : (ra = 0) = True := eq_true hAra
 by_cases hArc : rc = 0
 rotate_left
 · have r : unuF ⟨3, (t1, t2), (s1, s2), lv, st, ra, rc, pts, lab, c, lf⟩ = false := by
     have d := decide_eq_false hArc
     unfold unuF restM bareF
     simp only [Int.reduceEq, or_self, or_false, or_true, if_true, if_false, nzP00, nz00, d, Bool.false_and, Bool.and_false, Bool.true_and, List.length_nil, Int.natCast_zero, Int.ofNat_zero, hAt, hAs, dst, dra]
   have erc : (rc = 0) = False := eq_false hArc
   clear hArc
   rw [r]
   try simp -dsimp (maxSteps := 1000000) only [go_sem, List.forall_mem_nil, ↓reduceIte, Nat.reduceEqDiff, Nat.reduceLT, Nat.reduceLeDiff, Nat.reduceAdd, Nat.reduceMul, reduceCtorEq, Tryz.f60, z, rt, rs, rl, bl, usesF, zAa, zAb, Int.reduceEq, Int.reduceLT, Int.reduceLE, Int.reduceToNat, Bool.not_true, Bool.not_false, hAt, hAs, est, era, erc]
 have drc := decide_eq_true hArc
 have erc : (rc = 0) = True := eq_true hArc
 by_cases hAp : (pts.length : Int) = 0
 rotate_left
 · have r : unuF ⟨3, (t1, t2), (s1, s2), lv, st, ra, rc, pts, lab, c, lf⟩ = false := by
     have d := decide_eq_false hAp
     unfold unuF restM bareF
     simp only [Int.reduceEq, or_self, or_false, or_true, if_true, if_false, nzP00, nz00, d, Bool.false_and, Bool.and_false, Bool.true_and, List.length_nil, Int.natCast_zero, Int.ofNat_zero, hAt, hAs, dst, dra, drc]
   have ep : ((0 : Int) < (pts.length : Int)) = True := eq_true (by omega)
   clear hAp
   rw [r]
   try simp -dsimp (maxSteps := 1000000) only [go_sem, List.forall_mem_nil, ↓reduceIte, Nat.reduceEqDiff, Nat.reduceLT, Nat.reduceLeDiff, Nat.reduceAdd, Nat.reduceMul, reduceCtorEq, Tryz.f60, z, rt, rs, rl, bl, usesF, zAa, zAb, Int.reduceEq, Int.reduceLT, Int.reduceLE, Int.reduceToNat, Bool.not_true, Bool.not_false, hAt, hAs, est, era, erc, ep]
 have dp := decide_eq_true hAp
 have ep : ((0 : Int) < (pts.length : Int)) = False := eq_false (by omega)
 by_cases hAla : (lab.length : Int) = 0
 rotate_left
 · have r : unuF ⟨3, (t1, t2), (s1, s2), lv, st, ra, rc, pts, lab, c, lf⟩ = false := by
     have d := decide_eq_false hAla
     unfold unuF restM bareF
     simp only [Int.reduceEq, or_self, or_false, or_true, if_true, if_false, nzP00, nz00, d, Bool.false_and, Bool.and_false, Bool.true_and, List.length_nil, Int.natCast_zero, Int.ofNat_zero, hAt, hAs, dst, dra, drc, dp]
   have ela : ((0 : Int) < (lab.length : Int)) = True := eq_true (by omega)
   clear hAla
   rw [r]
   try simp -dsimp (maxSteps := 1000000) only [go_sem, List.forall_mem_nil, ↓reduceIte, Nat.reduceEqDiff, Nat.reduceLT, Nat.reduceLeDiff, Nat.reduceAdd, Nat.reduceMul, reduceCtorEq, Tryz.f60, z, rt, rs, rl, bl, usesF, zAa, zAb, Int.reduceEq, Int.reduceLT, Int.reduceLE, Int.reduceToNat, Bool.not_true, Bool.not_false, hAt, hAs, est, era, erc, ep, ela]
 have dla := decide_eq_true hAla
 have ela : ((0 : Int) < (lab.length : Int)) = False := eq_false (by omega)
 by_cases hAc : c = 0
 rotate_left
 · have r : unuF ⟨3, (t1, t2), (s1, s2), lv, st, ra, rc, pts, lab, c, lf⟩ = false := by
     have d := decide_eq_false hAc
     unfold unuF restM bareF
     simp only [Int.reduceEq, or_self, or_false, or_true, if_true, if_false, nzP00, nz00, d, Bool.false_and, Bool.and_false, Bool.true_and, List.length_nil, Int.natCast_zero, Int.ofNat_zero, hAt, hAs, dst, dra, drc, dp, dla]
   have ec : (c = 0) = False := eq_false hAc
   clear hAc
   rw [r]
   try simp -dsimp (maxSteps := 1000000) only [go_sem, List.forall_mem_nil, ↓reduceIte, Nat.reduceEqDiff, Nat.reduceLT, Nat.reduceLeDiff, Nat.reduceAdd, Nat.reduceMul, reduceCtorEq, Tryz.f60, z, rt, rs, rl, bl, usesF, zAa, zAb, Int.reduceEq, Int.reduceLT, Int.reduceLE, Int.reduceToNat, Bool.not_true, Bool.not_false, hAt, hAs, est, era, erc, ep, ela, ec]
 have dc := decide_eq_true hAc
 have ec : (c = 0) = True := eq_true hAc
 by_cases hAf : lf = 0
 rotate_left
 · have r : unuF ⟨3, (t1, t2), (s1, s2), lv, st, ra, rc, pts, lab, c, lf⟩ = false := by
     have d := decide_eq_false hAf
     unfold unuF restM bareF
     simp only [Int.reduceEq, or_self, or_false, or_true, if_true, if_false, nzP00, nz00, d, Bool.false_and, Bool.and_false, Bool.true_and, List.length_nil, Int.natCast_zero, Int.ofNat_zero, hAt, hAs, dst, dra, drc, dp, dla, dc]
   have ef : (lf = 0) = False := eq_false hAf
   clear hAf
   rw [r]
   try simp -dsimp (maxSteps := 1000000) only [go_sem, List.forall_mem_nil, ↓reduceIte, Nat.reduceEqDiff, Nat.reduceLT, Nat.reduceLeDiff, Nat.reduceAdd, Nat.reduceMul, reduceCtorEq, Tryz.f60, z, rt, rs, rl, bl, usesF, zAa, zAb, Int.reduceEq, Int.reduceLT, Int.reduceLE, Int.reduceToNat, Bool.not_true, Bool.not_false, hAt, hAs, est, era, erc, ep, ela, ec, ef]
 have df := decide_eq_true hAf
 have ef : (lf = 0) = True := eq_true hAf
 have r : unuF ⟨3, (t1, t2), (s1, s2), lv, st, ra, rc, pts, lab, c, lf⟩ = true := by
   unfold unuF restM bareF
   simp only [Int.reduceEq, or_self, or_false, or_true, if_true, if_false, nzP00, nz00, Bool.and_self, Bool.true_and, List.length_nil, Int.natCast_zero, Int.ofNat_zero, decide_true, hAt, hAs, dst, dra, drc, dp, dla, dc, df]
 rw [r]
 try simp -dsimp (maxSteps := 1000000) only [go_sem, List.forall_mem_nil, ↓reduceIte, Nat.reduceEqDiff, Nat.reduceLT, Nat.reduceLeDiff, Nat.reduceAdd, Nat.reduceMul, reduceCtorEq, Tryz.f60, z, rt, rs, rl, bl, usesF, zAa, zAb, Int.reduceEq, Int.reduceLT, Int.reduceLE, Int.reduceToNat, Bool.not_true, Bool.not_false, hAt, hAs, est, era, erc, ep, ela, ec, ef]
end Go.SX
namespace Go.SX
open Go Go.Proofs Ieee
set_option maxRecDepth 100000 in
set_option maxHeartbeats 32000000 in
theorem law_un4 : Law Tryz.prog 60 (ct_un 4) := by
 refine zAf (zAc zDo (zAc zCo (zAc zBa zAe))) hmixA Tryz.func60 rfl rfl (fun ⟨⟨⟨k, ⟨t1, t2⟩, ⟨s1, s2⟩, lv, st, ra, rc, pts, lab, c, lf⟩, ok, w32, hkk⟩, hk⟩ => ⟨zAv rfl, by simp [Tryz.f60], ?_⟩)
 simp only [modC] at hk ⊢
 have rt := zBe w32.turn.1 w32.turn.2
 have rs := zBe w32.state.1 w32.state.2
 have rl := zAu w32.level
 have bl : ((⟨(fsT lv).toArray⟩ : ByteArray).toList == (⟨#[48]⟩ : ByteArray).toList) = nz lv := (zAz (fsT lv) [48]).trans (fs_nz w32.level)
 simp only at rt rs rl
 clear ok w32 hkk
 subst hk
 have z := zDl (k := 4) (by simp)
 cases hAt : nzP (t1, t2) with
 | false =>
   have r : unuF ⟨4, (t1, t2), (s1, s2), lv, st, ra, rc, pts, lab, c, lf⟩ = false := by simp [unuF, restM, bareF, nzP00, nz00, hAt]
   rw [r]
   try simp -dsimp (maxSteps := 1000000) only [go_sem, List.forall_mem_nil, ↓reduceIte, Nat.reduceEqDiff, Nat.reduceLT, Nat.reduceLeDiff, Nat.reduceAdd, Nat.reduceMul, reduceCtorEq, Tryz.f60, z, rt, rs, rl, bl, usesF, zAa, zAb, Int.reduceEq, Int.reduceLT, Int.reduceLE, Int.reduceToNat, Bool.not_true, Bool.not_false, hAt]
 | true =>
 cases hAs : nzP (s1, s2) with
 | false =>
   have r : unuF ⟨4, (t1, t2), (s1, s2), lv, st, ra, rc, pts, lab, c, lf⟩ = false := by simp [unuF, restM, bareF, nzP00, nz00, hAs, hAt]
   rw [r]
   try simp -dsimp (maxSteps := 1000000) only [go_sem, List.forall_mem_nil, ↓reduceIte, Nat.reduceEqDiff, Nat.reduceLT, Nat.reduceLeDiff, Nat.reduceAdd, Nat.reduceMul, reduceCtorEq, Tryz.f60, z, rt, rs, rl, bl, usesF, zAa, zAb, Int.reduceEq, Int.reduceLT, Int.reduceLE, Int.reduceToNat, Bool.not_true, Bool.not_false, hAt, hAs]
 | true =>
 cases hAl : nz lv with
 | false =>
   have r : unuF ⟨4, (t1, t2), (s1, s2), lv, st, ra, rc, pts, lab, c, lf⟩ = false := by simp [unuF, restM, bareF, nzP00, nz00, hAl, hAt, hAs]
   rw [r]
   try simp -dsimp (maxSteps := 1000000) only [go_sem, List.forall_mem_nil, ↓reduceIte, Nat.reduceEqDiff, Nat.reduceLT, Nat.reduceLeDiff, Nat.reduceAdd, Nat.reduceMul, reduceCtorEq, Tryz.f60, z, rt, rs, rl, bl, usesF, zAa, zAb, Int.reduceEq, Int.reduceLT, Int.reduceLE, Int.reduceToNat, Bool.not_true, Bool.not_false, hAt, hAs, hAl]
 | true =>
 by_cases hAp : (pts.length : Int) = 0
 rotate_left
 · have r : unuF ⟨4, (t1, t2), (s1, s2), lv, st, ra, rc, pts, lab, c, lf⟩ = false := by
     have d := decide_eq_false hAp
     unfold unuF restM bareF
     simp only [Int.reduceEq, or_self, or_false, or_true, if_true, if_false, nzP00, nz00, d, Bool.false_and, Bool.and_false, Bool.true_and, List.length_nil, Int.natCast_zero, Int.ofNat_zero, hAt, hAs, hAl]
   have ep : ((0 : Int) < (pts.length : Int)) = True := eq_true (by omega)
   clear hAp
   rw [r]
   try simp -dsimp (maxSteps := 1000000) only [go_sem, List.forall_mem_nil, ↓reduceIte, Nat.reduceEqDiff, Nat.reduceLT, Nat.reduceLeDiff, Nat.reduceAdd, Nat.reduceMul, reduceCtorEq, Tryz.f60, z, rt, rs, rl, bl, usesF, zAa, zAb, Int.reduceEq, Int.reduceLT, Int.reduceLE, Int.reduceToNat, Bool.not_true, Bool.not_false, hAt, hAs, hAl, ep]
 have dp := decide_eq_true hAp
 have ep : ((0 : Int) < (pts.length : Int)) = False := eq_false (by omega)
 by_cases hAla : (lab.length : Int) = 0
 rotate_left
 · have r : unuF ⟨4, (t1, t2), (s1, s2), lv, st, ra, rc, pts, lab, c, lf⟩ = false := by
     have d := decide_eq_false hAla
     unfold unuF restM bareF
     simp only [Int.reduceEq, or_self, or_false, or_true, if_true, if_false, nzP00, nz00, d, Bool.false_and, Bool.and_false, Bool.true_and, List.length_nil, Int.natCast_zero, Int.ofNat_zero, hAt, hAs, hAl, dp]
   have ela : ((0 : Int) < (lab.length : Int)) = True := eq_true (by omega)
   clear hAla
   rw [r]
   try simp -dsimp (maxSteps := 1000000) only [go_sem, List.forall_mem_nil, ↓reduceIte, Nat.reduceEqDiff, Nat.reduceLT, Nat.reduceLeDiff, Nat.reduceAdd, Nat.reduceMul, reduceCtorEq, Tryz.f60, z, rt, rs, rl, bl, usesF, zAa, zAb, Int.reduceEq, Int.reduceLT, Int.reduceLE, Int.reduceToNat, Bool.not_true, Bool.not_false, hAt, hAs, hAl, ep, ela]
 have dla := decide_eq_true hAla
 have ela : ((0 : Int) < (lab.length : Int)) = False := eq_false (by omega)
 by_cases hAc : c = 0
 rotate_left
 · have r : unuF ⟨4, (t1, t2), (s1, s2), lv, st, ra, rc, pts, lab, c, lf⟩ = false := by
     have d := decide_eq_false hAc
     unfold unuF restM bareF
     simp only [Int.reduceEq, or_self, or_false, or_true, if_true, if_false, nzP00, nz00, d, Bool.false_and, Bool.and_false, Bool.true_and, List.length_nil, Int.natCast_zero, Int.ofNat_zero, hAt, hAs, hAl, dp, dla]
   have ec : (c = 0) = False := eq_false hAc
   clear hAc
   rw [r]
   try simp -dsimp (maxSteps := 1000000) only [go_sem, List.forall_mem_nil, ↓reduceIte, Nat.reduceEqDiff, Nat.reduceLT, Nat.reduceLeDiff, Nat.reduceAdd, Nat.reduceMul, reduceCtorEq, Tryz.f60, z, rt, rs, rl, bl, usesF, zAa, zAb, Int.reduceEq, Int.reduceLT, Int.reduceLE, Int.reduceToNat, Bool.not_true, Bool.not_false, hAt, hAs, hAl, ep, ela, ec]
 have dc := decide_eq_true hAc
 have ec : (c = 0) = True := eq_true hAc
 by_cases hAf : lf = 0
 rotate_left
 · have r : unuF ⟨4, (t1, t2), (s1, s2), lv, st, ra, rc, pts, lab, c, lf⟩ = false := by
     have d := decide_eq_false hAf
     unfold unuF restM bareF
     simp only [Int.reduceEq, or_self, or_false, or_true, if_true, if_false, nzP00, nz00, d, Bool.false_and, Bool.and_false, Bool.true_and, List.length_nil, Int.natCast_zero, Int.ofNat_zero, hAt, hAs, hAl, dp, dla, dc]
   have ef : (lf = 0) = False := eq_false hAf
   clear hAf
   rw [r]
   try simp -dsimp (maxSteps := 1000000) only [go_sem, List.forall_mem_nil, ↓reduceIte, Nat.reduceEqDiff, Nat.reduceLT, Nat.reduceLeDiff, Nat.reduceAdd, Nat.reduceMul, reduceCtorEq, Tryz.f60, z, rt, rs, rl, bl, usesF, zAa, zAb, Int.reduceEq, Int.reduceLT, Int.reduceLE, Int.reduceToNat, Bool.not_true, Bool.not_false, hAt, hAs, hAl, ep, ela, ec, ef]
 have df := decide_eq_true hAf
 have ef : (lf = 0) = True := eq_true hAf
 have r : unuF ⟨4, (t1, t2), (s1, s2), lv, st, ra, rc, pts, lab, c, lf⟩ = true := by
   unfold unuF restM bareF
   simp only [Int.reduceEq, or_self, or_false, or_true, if_true, if_false, nzP00, nz00, Bool.and_self, Bool.true_and, List.length_nil, Int.natCast_zero, Int.ofNat_zero, decide_true, hAt, hAs, hAl, dp, dla, dc, df]
 rw [r]
 try simp -dsimp (maxSteps := 1000000) only [go_sem, List.forall_mem_nil, ↓reduceIte, Nat.reduceEqDiff, Nat.reduceLT, Nat.reduceLeDiff, Nat.reduceAdd, Nat.reduceMul, reduceCtorEq, Tryz.f60, z, rt, rs, rl, bl, usesF, zAa, zAb, Int.reduceEq, Int.reduceLT, Int.reduceLE, Int.reduceToNat, Bool.not_true, Bool.not_false, hAt, hAs, hAl, ep, ela, ec, ef]
end Go.SX
namespace Go.SX
open Go Go.Proofs Ieee
set_option maxRecDepth 100000 in
set_option maxHeartbeats 32000000 in
theorem law_un5 : Law Tryz.prog 60 (ct_un 5) := by
 refine zAf (zAc zDo (zAc zCo (zAc zBa zAe))) hmixA Tryz.func60 rfl rfl (fun ⟨⟨⟨k, ⟨t1, t2⟩, ⟨s1, s2⟩, lv, st, ra, rc, pts, lab, c, lf⟩, ok, w32, hkk⟩, hk⟩ => ⟨zAv rfl, by simp [Tryz.f60], ?_⟩)
 simp only [modC] at hk ⊢
 have rt := zBe w32.turn.1 w32.turn.2
 have rs := zBe w32.state.1 w32.state.2
 have rl := zAu w32.level
 have bl : ((⟨(fsT lv).toArray⟩ : ByteArray).toList == (⟨#[48]⟩ : ByteArray).toList) = nz lv := (zAz (fsT lv) [48]).trans (fs_nz w32.level)
 simp only at rt rs rl
 clear ok w32 hkk
 subst hk
 have z := zDl (k := 5) (by simp)
 cases hAt : nzP (t1, t2) with
 | false =>
   have r : unuF ⟨5, (t1, t2), (s1, s2), lv, st, ra, rc, pts, lab, c, lf⟩ = false := by simp [unuF, restM, bareF, nzP00, nz00, hAt]
   rw [r]
   try simp -dsimp (maxSteps := 1000000) only [go_sem, List.forall_mem_nil, ↓reduceIte, Nat.reduceEqDiff, Nat.reduceLT, Nat.reduceLeDiff, Nat.reduceAdd, Nat.reduceMul, reduceCtorEq, Tryz.f60, z, rt, rs, rl, bl, usesF, zAa, zAb, Int.reduceEq, Int.reduceLT, Int.reduceLE, Int.reduceToNat, Bool.not_true, Bool.not_false, hAt]
 | true =>
 cases hAs : nzP (s1, s2) with
 | false =>
   have r : unuF ⟨5, (t1, t2), (s1, s2), lv, st, ra, rc, pts, lab, c, lf⟩ = false := by simp [unuF, restM, bareF, nzP00, nz00, hAs, hAt]
   rw [r]
   try simp -dsimp (maxSteps := 1000000) only [go_sem, List.forall_mem_nil, ↓reduceIte, Nat.reduceEqDiff, Nat.reduceLT, Nat.reduceLeDiff, Nat.reduceAdd, Nat.reduceMul, reduceCtorEq, Tryz.f60, z, rt, rs, rl, bl, usesF, zAa, zAb, Int.reduceEq, Int.reduceLT, Int.reduceLE, Int.reduceToNat, Bool.not_true, Bool.not_false, hAt, hAs]
 | true =>
 cases hAl : nz lv with
 | false =>
   have r : unuF ⟨5, (t1, t2), (s1, s2), lv, st, ra, rc, pts, lab, c, lf⟩ = false := by simp [unuF, restM, bareF, nzP00, nz00, hAl, hAt, hAs]
   rw [r]
   try simp -dsimp (maxSteps := 1000000) only [go_sem, List.forall_mem_nil, ↓reduceIte, Nat.reduceEqDiff, Nat.reduceLT, Nat.reduceLeDiff, Nat.reduceAdd, Nat.reduceMul, reduceCtorEq, Tryz.f60, z, rt, rs, rl, bl, usesF, zAa, zAb, Int.reduceEq, Int.reduceLT, Int.reduceLE, Int.reduceToNat, Bool.not_true, Bool.not_false, hAt, hAs, hAl]
 | true =>
 by_cases hAst : (st.length : Int) = 0
 rotate_left
 · have r : unuF ⟨5, (t1, t2), (s1, s2), lv, st, ra, rc, pts, lab, c, lf⟩ = false := by
     have d := decide_eq_false hAst
     unfold unuF restM bareF
     simp only [Int.reduceEq, or_self, or_false, or_true, if_true, if_false, nzP00, nz00, d, Bool.false_and, Bool.and_false, Bool.true_and, List.length_nil, Int.natCast_zero, Int.ofNat_zero, hAt, hAs, hAl]
   have est : ((0 : Int) < (st.length : Int)) = True := eq_true (by omega)
   clear hAst
   rw [r]
   try simp -dsimp (maxSteps := 1000000) only [go_sem, List.forall_mem_nil, ↓reduceIte, Nat.reduceEqDiff, Nat.reduceLT, Nat.reduceLeDiff, Nat.reduceAdd, Nat.reduceMul, reduceCtorEq, Tryz.f60, z, rt, rs, rl, bl, usesF, zAa, zAb, Int.reduceEq, Int.reduceLT, Int.reduceLE, Int.reduceToNat, Bool.not_true, Bool.not_false, hAt, hAs, hAl, est]
 have dst := decide_eq_true hAst
 have est : ((0 : Int) < (st.length : Int)) = False := eq_false (by omega)
 by_cases hAra : ra = 0
 rotate_left
 · have r : unuF ⟨5, (t1, t2), (s1, s2), lv, st, ra, rc, pts, lab, c, lf⟩ = false := by
     have d := decide_eq_false hAra
     unfold unuF restM bareF
     simp only [Int.reduceEq, or_self, or_false, or_true, if_true, if_false, nzP00, nz00, d, Bool.false_and, Bool.and_false, Bool.true_and, List.length_nil, Int.natCast_zero, Int.ofNat_zero, hAt, hAs, hAl, dst]
   have era : (ra = 0) = False := eq_false hAra
   clear hAra
   rw [r]
   try simp -dsimp (maxSteps := 1000000) only [go_sem, List.forall_mem_nil, ↓reduceIte, Nat.reduceEqDiff, Nat.reduceLT, Nat.reduceLeDiff, Nat.reduceAdd, Nat.reduceMul, reduceCtorEq, Tryz.f60, z, rt, rs, rl, bl, usesF, zAa, zAb, Int.reduceEq, Int.reduceLT, Int.reduceLE, Int.reduceToNat, Bool.not_true, Bool.not_false, hAt, hAs, hAl, est, era]
 have dra := decide_eq_true hAra
 have era : (ra = 0) = True := eq_true hAra
 by_cases hArc : rc = 0
 rotate_left
 · have r : unuF ⟨5, (t1, t2), (s1, s2), lv, st, ra, rc, pts, lab, c, lf⟩ = false := by
     have d := decide_eq_false hArc
     unfold unuF restM bareF
     simp only [Int.reduceEq, or_self, or_false, or_true, if_true, if_false, nzP00, nz00, d, Bool.false_and, Bool.and_false, Bool.true_and, List.length_nil, Int.natCast_zero, Int.ofNat_zero, hAt, hAs, hAl, dst, dra]
   have erc : (rc = 0) = False := eq_false hArc
   clear hArc
   rw [r]
   try simp -dsimp (maxSteps := 1000000) only [go_sem, List.forall_mem_nil, ↓reduceIte, Nat.reduceEqDiff, Nat.reduceLT, Nat.reduceLeDiff, Nat.reduceAdd, Nat.reduceMul, reduceCtorEq, Tryz.f60, z, rt, rs, rl, bl, usesF, zAa, zAb, Int.reduceEq, Int.reduceLT, Int.reduceLE, Int.reduceToNat, Bool.not_true, Bool.not_false, hAt, hAs, hAl, est, era, erc]
 have drc := decide_eq_true hArc
 have erc : (rc = 0) = True := eq_true hArc
 by_cases hAp : (pts.length : Int) = 0
 rotate_left
 · have r : unuF ⟨5, (t1, t2), (s1, s2), lv, st, ra, rc, pts, lab, c, lf⟩ = false := by
     have d := decide_eq_false hAp
     unfold unuF restM bareF
     simp only [Int.reduceEq, or_self, or_false, or_true, if_true, if_false, nzP00, nz00, d, Bool.false_and, Bool.and_false, Bool.true_and, List.length_nil, Int.natCast_zero, Int.ofNat_zero, hAt, hAs, hAl, dst, dra, drc]
   have ep : ((0 : Int) < (pts.length : Int)) = True := eq_true (by omega)
   clear hAp
   rw [r]
   try simp -dsimp (maxSteps := 1000000) only [go_sem, List.forall_mem_nil, ↓reduceIte, Nat.reduceEqDiff, Nat.reduceLT, Nat.reduceLeDiff, Nat.reduceAdd, Nat.reduceMul, reduceCtorEq, Tryz.f60, z, rt, rs, rl, bl, usesF, zAa, zAb, Int.reduceEq, Int.reduceLT, Int.reduceLE, Int.reduceToNat, Bool.not_true, Bool.not_false, hAt, hAs, hAl, est, era, erc, ep]
 have dp := decide_eq_true hAp
 have ep : ((0 : Int) < (pts.length : Int)) = False := eq_false (by omega)
 by_cases hAla : (lab.length : Int) = 0
 rotate_left
 · have r : unuF ⟨5, (t1, t2), (s1, s2), lv, st, ra, rc, pts, lab, c, lf⟩ = false := by
     have d := decide_eq_false hAla
     unfold unuF restM bareF
     simp only [Int.reduceEq, or_self, or_false, or_true, if_true, if_false, nzP00, nz00, d, Bool.false_and, Bool.and_false, Bool.true_and, List.length_nil, Int.natCast_zero, Int.ofNat_zero, hAt, hAs, hAl, dst, dra, drc, dp]
   have ela : ((0 : Int) < (lab.length : Int)) = True := eq_true (by omega)
   clear hAla
   rw [r]
   try simp -dsimp (maxSteps := 1000000) only [go_sem, List.forall_mem_nil, ↓reduceIte, Nat.reduceEqDiff, Nat.reduceLT, Nat.reduceLeDiff, Nat.reduceAdd, Nat.reduceMul, reduceCtorEq, Tryz.f60, z, rt, rs, rl, bl, usesF, zAa, zAb, Int.reduceEq, Int.reduceLT, Int.reduceLE, Int.reduceToNat, Bool.not_true, Bool.not_false, hAt, hAs, hAl, est, era, erc, ep, ela]
 have dla := decide_eq_true hAla
 have ela : ((0 : Int) < (lab.length : Int)) = False := eq_false (by omega)
 by_cases hAc : c = 0
 rotate_left
 · have r : unuF ⟨5, (t1, t2), (s1, s2), lv, st, ra, rc, pts, lab, c, lf⟩ = false := by
     have d := decide_eq_false hAc
     unfold unuF restM bareF
     simp only [Int.reduceEq, or_self, or_false, or_true, if_true, if_false, nzP00, nz00, d, Bool.false_and, Bool.and_false, Bool.true_and, List.length_nil, Int.natCast_zero, Int.ofNat_zero, hAt, hAs, hAl, dst, dra, drc, dp, dla]
   have ec : (c = 0) = False := eq_false hAc
   clear hAc
   rw [r]
   try simp -dsimp (maxSteps := 1000000) only [go_sem, List.forall_mem_nil, ↓reduceIte, Nat.reduceEqDiff, Nat.reduceLT, Nat.reduceLeDiff, Nat.reduceAdd, Nat.reduceMul, reduceCtorEq, Tryz.f60, z, rt, rs, rl, bl, usesF, zAa, zAb, Int.reduceEq, Int.reduceLT, Int.reduceLE, Int.reduceToNat, Bool.not_true, Bool.not_false, hAt, hAs, hAl, est, era, erc, ep, ela, ec]
 have dc := decide_eq_true hAc
 have ec : (c = 0) = True := eq_true hAc
 by_cases hAf : lf = 0
 rotate_left
 · have r : unuF ⟨5, (t1, t2), (s1, s2), lv, st, ra, rc, pts, lab, c, lf⟩ = false := by
     have d := decide_eq_false hAf
     unfold unuF restM bareF
     simp only [Int.reduceEq, or_self, or_false, or_true, if_true, if_false, nzP00, nz00, d, Bool.false_and, Bool.and_false, Bool.true_and, List.length_nil, Int.natCast_zero, Int.ofNat_zero, hAt, hAs, hAl, dst, dra, drc, dp, dla, dc]
   have ef : (lf = 0) = False := eq_false hAf
   clear hAf
   rw [r]
   try simp -dsimp (maxSteps := 1000000) only [go_sem, List.forall_mem_nil, ↓reduceIte, Nat.reduceEqDiff, Nat.reduceLT, Nat.reduceLeDiff, Nat.reduceAdd, Nat.reduceMul, reduceCtorEq, Tryz.f60, z, rt, rs, rl, bl, usesF, zAa, zAb, Int.reduceEq, Int.reduceLT, Int.reduceLE, Int.reduceToNat, Bool.not_true, Bool.not_false, hAt, hAs, hAl, est, era, erc, ep, ela, ec, ef]
 have df := decide_eq_true hAf
 have ef : (lf = 0) = True := eq_true hAf
 have r : unuF ⟨5, (t1, t2), (s1, s2), lv, st, ra, rc, pts, lab, c, lf⟩ = true := by
   unfold unuF restM bareF
   simp only [Int.reduceEq, or_self, or_false, or_true, if_true, if_false, nzP00, nz00, Bool.and_self, Bool.true_and, List.length_nil, Int.natCast_zero, Int.ofNat_zero, decide_true, hAt, hAs, hAl, dst, dra, drc, dp, dla, dc, df]
 rw [r]
 try simp -dsimp (maxSteps := 1000000) only [go_sem, List.forall_mem_nil, ↓reduceIte, Nat.reduceEqDiff, Nat.reduceLT, Nat.reduceLeDiff, Nat.reduceAdd, Nat.reduceMul, reduceCtorEq, Tryz.f60, z, rt, rs, rl, bl, usesF, zAa, zAb, Int.reduceEq, Int.reduceLT, Int.reduceLE, Int.reduceToNat, Bool.not_true, Bool.not_false, hAt, hAs, hAl, est, era, erc, ep, ela, ec, ef]
end Go.SX
namespace Go.SX
open Go Go.Proofs Ieee
set_option maxRecDepth 100000 in
set_option maxHeartbeats 32000000 in
theorem law_un6 : Law Tryz.prog 60 (ct_un 6) := by
 refine zAf (zAc zDo (zAc zCo (zAc zBa zAe))) hmixA Tryz.func60 rfl rfl (fun ⟨⟨⟨k, ⟨t1, t2⟩, ⟨s1, s2⟩, lv, st, ra, rc, pts, lab, c, lf⟩, ok, w32, hkk⟩, hk⟩ => ⟨zAv rfl, by simp [Tryz.f60], ?_⟩)
 simp only [modC] at hk ⊢
 have rt := zBe w32.turn.1 w32.turn.2
 have rs := zBe w32.state.1 w32.state.2
 have rl := zAu w32.level
 have bl : ((⟨(fsT lv).toArray⟩ : ByteArray).toList == (⟨#[48]⟩ : ByteArray).toList) = nz lv := (zAz (fsT lv) [48]).trans (fs_nz w32.level)
 simp only at rt rs rl
 clear ok w32 hkk
 subst hk
 have z := zDl (k := 6) (by simp)
 cases hAt : nzP (t1, t2) with
 | false =>
   have r : unuF ⟨6, (t1, t2), (s1, s2), lv, st, ra, rc, pts, lab, c, lf⟩ = false := by simp [unuF, restM, bareF, nzP00, nz00, hAt]
   rw [r]
   try simp -dsimp (maxSteps := 1000000) only [go_sem, List.forall_mem_nil, ↓reduceIte, Nat.reduceEqDiff, Nat.reduceLT, Nat.reduceLeDiff, Nat.reduceAdd, Nat.reduceMul, reduceCtorEq, Tryz.f60, z, rt, rs, rl, bl, usesF, zAa, zAb, Int.reduceEq, Int.reduceLT, Int.reduceLE, Int.reduceToNat, Bool.not_true, Bool.not_false, hAt]
 | true =>
 cases hAs : nzP (s1, s2) with
 | false =>
   have r : unuF ⟨6, (t1, t2), (s1, s2), lv, st, ra, rc, pts, lab, c, lf⟩ = false := by simp [unuF, restM, bareF, nzP00, nz00, hAs, hAt]
   rw [r]
   try simp -dsimp (maxSteps := 1000000) only [go_sem, List.forall_mem_nil, ↓reduceIte, Nat.reduceEqDiff, Nat.reduceLT, Nat.reduceLeDiff, Nat.reduceAdd, Nat.reduceMul, reduceCtorEq, Tryz.f60, z, rt, rs, rl, bl, usesF, zAa, zAb, Int.reduceEq, Int.reduceLT, Int.reduceLE, Int.reduceToNat, Bool.not_true, Bool.not_false, hAt, hAs]
 | true =>
 cases hAl : nz lv with
 | false =>
   have r : unuF ⟨6, (t1, t2), (s1, s2), lv, st, ra, rc, pts, lab, c, lf⟩ = false := by simp [unuF, restM, bareF, nzP00, nz00, hAl, hAt, hAs]
   rw [r]
   try simp -dsimp (maxSteps := 1000000) only [go_sem, List.forall_mem_nil, ↓reduceIte, Nat.reduceEqDiff, Nat.reduceLT, Nat.reduceLeDiff, Nat.reduceAdd, Nat.reduceMul, reduceCtorEq, Tryz.f60, z, rt, rs, rl, bl, usesF, zAa, zAb, Int.reduceEq, Int.reduceLT, Int.reduceLE, Int.reduceToNat, Bool.not_true, Bool.not_false, hAt, hAs, hAl]
 | true =>
 by_cases hAst : (st.length : Int) = 0
 rotate_left
 · have r : unuF ⟨6, (t1, t2), (s1, s2), lv, st, ra, rc, pts, lab, c, lf⟩ = false := by
     have d := decide_eq_false hAst
     unfold unuF restM bareF
     simp only [Int.reduceEq, or_self, or_false, or_true, if_true, if_false, nzP00, nz00, d, Bool.false_and, Bool.and_false, Bool.true_and, List.length_nil, Int.natCast_zero, Int.ofNat_zero, hAt, hAs, hAl]
   have est : ((0 : Int) < (st.length : Int)) = True := eq_true (by omega)
   clear hAst
   rw [r]
   try simp -dsimp (maxSteps := 1000000) only [go_sem, List.forall_mem_nil, ↓reduceIte, Nat.reduceEqDiff, Nat.reduceLT, Nat.reduceLeDiff, Nat.reduceAdd, Nat.reduceMul, reduceCtorEq, Tryz.f60, z, rt, rs, rl, bl, usesF, zAa, zAb, Int.reduceEq, Int.reduceLT, Int.reduceLE, Int.reduceToNat, Bool.not_true, Bool.not_false, hAt, hAs, hAl, est]
 have dst := decide_eq_true hAst
 have est : ((0 : Int) < (st.length : Int)) = False := eq_false (by omega)
 by_cases hAra : ra = 0
 rotate_left
 · have r : unuF ⟨6, (t1, t2), (s1, s2), lv, st, ra, rc, pts, lab, c, lf⟩ = false := by
     have d := decide_eq_false hAra
     unfold unuF restM bareF
     simp only [Int.reduceEq, or_self, or_false, or_true, if_true, if_false, nzP00, nz00, d, Bool.false_and, Bool.and_false, Bool.true_and, List.length_nil, Int.natCast_zero, Int.ofNat_zero, hAt, hAs, hAl, dst]
   have era : (ra = 0) = False := eq_false hAra
   clear hAra
   rw [r]
   try simp -dsimp (maxSteps := 1000000) only [go_sem, List.forall_mem_nil, ↓reduceIte, Nat.reduceEqDiff, Nat.reduceLT, Nat.reduceLeDiff, Nat.reduceAdd, Nat.reduceMul, reduceCtorEq, Tryz.f60, z, rt, rs, rl, bl, usesF, zAa, zAb, Int.reduceEq, Int.reduceLT, Int.reduceLE, Int.reduceToNat, Bool.not_true, Bool.not_false, hAt, hAs, hAl, est, era]
 have dra := decide_eq_true hAra
 have era : (ra = 0) = True := eq_true hAra
 by_cases hArc : rc = 0
 rotate_left
 · have r : unuF ⟨6, (t1, t2), (s1, s2), lv, st, ra, rc, pts, lab, c, lf⟩ = false := by
     have d := decide_eq_false hArc
     unfold unuF restM bareF
     simp only [Int.reduceEq, or_self, or_false, or_true, if_true, if_false, nzP00, nz00, d, Bool.false_and, Bool.and_false, Bool.true_and, List.length_nil, Int.natCast_zero, Int.ofNat_zero, hAt, hAs, hAl, dst, dra]
   have erc : (rc = 0) = False := eq_false hArc
   clear hArc
   rw [r]
   try simp -dsimp (maxSteps := 1000000) only [go_sem, List.forall_mem_nil, ↓reduceIte, Nat.reduceEqDiff, Nat.reduceLT, Nat.reduceLeDiff, Nat.reduceAdd, Nat.reduceMul, reduceCtorEq, Tryz.f60, z, rt, rs, rl, bl, usesF, zAa, zAb, Int.reduceEq, Int.reduceLT, Int.reduceLE, Int.reduceToNat, Bool.not_true, Bool.not_false, hAt, hAs, hAl, est, era, erc]
 have drc := decide_eq_true hArc
 have erc : (rc = 0) = True := eq_true hArc
 by_cases hAf : lf = 0
 rotate_left
 · have r : unuF ⟨6, (t1, t2), (s1, s2), lv, st, ra, rc, pts, lab, c, lf⟩ = false := by
     have d := decide_eq_false hAf
     unfold unuF restM bareF
     simp only [Int.reduceEq, or_self, or_false, or_true, if_true, if_false, nzP00, nz00, d, Bool.false_and, Bool.and_false, Bool.true_and, List.length_nil, Int.natCast_zero, Int.ofNat_zero, hAt, hAs, hAl, dst, dra, drc]
   have ef : (lf = 0) = False := eq_false hAf
   clear hAf
   rw [r]
   try simp -dsimp (maxSteps := 1000000) only [go_sem, List.forall_mem_nil, ↓reduceIte, Nat.reduceEqDiff, Nat.reduceLT, Nat.reduceLeDiff, Nat.reduceAdd, Nat.reduceMul, reduceCtorEq, Tryz.f60, z, rt, rs, rl, bl, usesF, zAa, zAb, Int.reduceEq, Int.reduceLT, Int.reduceLE, Int.reduceToNat, Bool.not_true, Bool.not_false, hAt, hAs, hAl, est, era, erc, ef]
 have df := decide_eq_true hAf
 have ef : (lf = 0) = True := eq_true hAf
 have r : unuF ⟨6, (t1, t2), (s1, s2), lv, st, ra, rc, pts, lab, c, lf⟩ = true := by
   unfold unuF restM bareF
   simp only [Int.reduceEq, or_self, or_false, or_true, if_true, if_false, nzP00, nz00, Bool.and_self, Bool.true_and, List.length_nil, Int.natCast_zero, Int.ofNat_zero, decide_true, hAt, hAs, hAl, dst, dra, drc, df]
 rw [r]
 try simp -dsimp (maxSteps := 1000000) only [go_sem, List.forall_mem_nil, ↓reduceIte, Nat.reduceEqDiff, Nat.reduceLT, Nat.reduceLeDiff, Nat.reduceAdd, Nat.reduceMul, reduceCtorEq, Tryz.f60, z, rt, rs, rl, bl, usesF, zAa, zAb, Int.reduceEq, Int.reduceLT, Int.reduceLE, Int.reduceToNat, Bool.not_true, Bool.not_false, hAt, hAs, hAl, est, era, erc, ef]
end Go.SX
namespace Go.SX
open Go Go.Proofs Ieee
set_option maxRecDepth 100000 in
set_option maxHeartbeats 32000000 in
theorem law_un7 : Law Tryz.prog 60 (ct_un 7) := by
 refine zAf (zAc zDo (zAc zCo (zAc zBa zAe))) hmixA Tryz.func60 rfl rfl (fun ⟨⟨⟨k, ⟨t1, t2⟩, ⟨s1, s2⟩, lv, st, ra, rc, pts, lab, c, lf⟩, ok, w32, hkk⟩, hk⟩ => ⟨zAv rfl, by simp [Tryz.f60], ?_⟩)
 simp only [modC] at hk ⊢
 have rt := zBe w32.turn.1 w32.turn.2
 have rs := zBe w32.state.1 w32.state.2
 have rl := zAu w32.level
 have bl : ((⟨(fsT lv).toArray⟩ : ByteArray).toList == (⟨#[48]⟩ : ByteArray).toList) = nz lv := (zAz (fsT lv) [48]).trans (fs_nz w32.level)
 simp only at rt rs rl
 clear ok w32 hkk
 subst hk
 have z := zDl (k := 7) (by simp)
 cases hAt : nzP (t1, t2) with
 | false =>
   have r : unuF ⟨7, (t1, t2), (s1, s2), lv, st, ra, rc, pts, lab, c, lf⟩ = false := by simp [unuF, restM, bareF, nzP00, nz00, hAt]
   rw [r]
   try simp -dsimp (maxSteps := 1000000) only [go_sem, List.forall_mem_nil, ↓reduceIte, Nat.reduceEqDiff, Nat.reduceLT, Nat.reduceLeDiff, Nat.reduceAdd, Nat.reduceMul, reduceCtorEq, Tryz.f60, z, rt, rs, rl, bl, usesF, zAa, zAb, Int.reduceEq, Int.reduceLT, Int.reduceLE, Int.reduceToNat, Bool.not_true, Bool.not_false, hAt]
 | true =>
 cases hAs : nzP (s1, s2) with
 | false =>
   have r : unuF ⟨7, (t1, t2), (s1, s2), lv, st, ra, rc, pts, lab, c, lf⟩ = false := by simp [unuF, restM, bareF, nzP00, nz00, hAs, hAt]
   rw [r]
   try simp -dsimp (maxSteps := 1000000) only [go_sem, List.forall_mem_nil, ↓reduceIte, Nat.reduceEqDiff, Nat.reduceLT, Nat.reduceLeDiff, Nat.reduceAdd, Nat.reduceMul, reduceCtorEq, Tryz.f60, z, rt, rs, rl, bl, usesF, zAa, zAb, Int.reduceEq, Int.reduceLT, Int.reduceLE, Int.reduceToNat, Bool.not_true, Bool.not_false, hAt, hAs]
 | true =>
 by_cases hAst : (st.length : Int) = 0
 rotate_left
 · have r : unuF ⟨7, (t1, t2), (s1, s2), lv, st, ra, rc, pts, lab, c, lf⟩ = false := by
     have d := decide_eq_false hAst
     unfold unuF restM bareF
     simp only [Int.reduceEq, or_self, or_false, or_true, if_true, if_false, nzP00, nz00, d, Bool.false_and, Bool.and_false, Bool.true_and, List.length_nil, Int.natCast_zero, Int.ofNat_zero, hAt, hAs]
   have est : ((0 : Int) < (st.length : Int)) = True := eq_true (by omega)
   clear hAst
   rw [r]
   try simp -dsimp (maxSteps := 1000000) only [go_sem, List.forall_mem_nil, ↓reduceIte, Nat.reduceEqDiff, Nat.reduceLT, Nat.reduceLeDiff, Nat.reduceAdd, Nat.reduceMul, reduceCtorEq, Tryz.f60, z, rt, rs, rl, bl, usesF, zAa, zAb, Int.reduceEq, Int.reduceLT, Int.reduceLE, Int.reduceToNat, Bool.not_true, Bool.not_false, hAt, hAs, est]
 have dst := decide_eq_true hAst
 have est : ((0 : Int) < (st.length : Int)) = False := eq_false (by omega)
 by_cases hAra : ra = 0
 rotate_left
 · have r : unuF ⟨7, (t1, t2), (s1, s2), lv, st, ra, rc, pts, lab, c, lf⟩ = false := by
     have d := decide_eq_false hAra
     unfold unuF restM bareF
     simp only [Int.reduceEq, or_self, or_false, or_true, if_true, if_false, nzP00, nz00, d, Bool.false_and, Bool.and_false, Bool.true_and, List.length_nil, Int.natCast_zero, Int.ofNat_zero, hAt, hAs, dst]
   have era : (ra = 0) = False := eq_false hAra
   clear hAra
   rw [r]
   try simp -dsimp (maxSteps := 1000000) only [go_sem, List.forall_mem_nil, ↓reduceIte, Nat.reduceEqDiff, Nat.reduceLT, Nat.reduceLeDiff, Nat.reduceAdd, Nat.reduceMul, reduceCtorEq, Tryz.f60, z, rt, rs, rl, bl, usesF, zAa, zAb, Int.reduceEq, Int.reduceLT, Int.reduceLE, Int.reduceToNat, Bool.not_true, Bool.not_false, hAt, hAs, est, era]
 have dra := decide_eq_true hAra
 have era : (ra = 0) = True := eq_true hAra
 by_cases hArc : rc = 0
 rotate_left
 · have r : unuF ⟨7, (t1, t2), (s1, s2), lv, st, ra, rc, pts, lab, c, lf⟩ = false := by
     have d := decide_eq_false hArc
     unfold unuF restM bareF
     simp only [Int.reduceEq, or_self, or_false, or_true, if_true, if_false, nzP00, nz00, d, Bool.false_and, Bool.and_false, Bool.true_and, List.length_nil, Int.natCast_zero, Int.ofNat_zero, hAt, hAs, dst, dra]
   have erc : (rc = 0) = False := eq_false hArc
   clear hArc
   rw [r]
   try simp -dsimp (maxSteps := 1000000) only [go_sem, List.forall_mem_nil, ↓reduceIte, Nat.reduceEqDiff, Nat.reduceLT, Nat.reduceLeDiff, Nat.reduceAdd, Nat.reduceMul, reduceCtorEq, Tryz.f60, z, rt, rs, rl, bl, usesF, zAa, zAb, Int.reduceEq, Int.reduceLT, Int.reduceLE, Int.reduceToNat, Bool.not_true, Bool.not_false, hAt, hAs, est, era, erc]
 have drc := decide_eq_true hArc
 have erc : (rc = 0) = True := eq_true hArc
 by_cases hAp : (pts.length : Int) = 0
 rotate_left
 · have r : unuF ⟨7, (t1, t2), (s1, s2), lv, st, ra, rc, pts, lab, c, lf⟩ = false := by
     have d := decide_eq_false hAp
     unfold unuF restM bareF
     simp only [Int.reduceEq, or_self, or_false, or_true, if_true, if_false, nzP00, nz00, d, Bool.false_and, Bool.and_false, Bool.true_and, List.length_nil, Int.natCast_zero, Int.ofNat_zero, hAt, hAs, dst, dra, drc]
   have ep : ((0 : Int) < (pts.length : Int)) = True := eq_true (by omega)
   clear hAp
   rw [r]
   try simp -dsimp (maxSteps := 1000000) only [go_sem, List.forall_mem_nil, ↓reduceIte, Nat.reduceEqDiff, Nat.reduceLT, Nat.reduceLeDiff, Nat.reduceAdd, Nat.reduceMul, reduceCtorEq, Tryz.f60, z, rt, rs, rl, bl, usesF, zAa, zAb, Int.reduceEq, Int.reduceLT, Int.reduceLE, Int.reduceToNat, Bool.not_true, Bool.not_false, hAt, hAs, est, era, erc, ep]
 have dp := decide_eq_true hAp
 have ep : ((0 : Int) < (pts.length : Int)) = False := eq_false (by omega)
 by_cases hAla : (lab.length : Int) = 0
 rotate_left
 · have r : unuF ⟨7, (t1, t2), (s1, s2), lv, st, ra, rc, pts, lab, c, lf⟩ = false := by
     have d := decide_eq_false hAla
     unfold unuF restM bareF
     simp only [Int.reduceEq, or_self, or_false, or_true, if_true, if_false, nzP00, nz00, d, Bool.false_and, Bool.and_false, Bool.true_and, List.length_nil, Int.natCast_zero, Int.ofNat_zero, hAt, hAs, dst, dra, drc, dp]
   have ela : ((0 : Int) < (lab.length : Int)) = True := eq_true (by omega)
   clear hAla
   rw [r]
   try simp -dsimp (maxSteps := 1000000) only [go_sem, List.forall_mem_nil, ↓reduceIte, Nat.reduceEqDiff, Nat.reduceLT, Nat.reduceLeDiff, Nat.reduceAdd, Nat.reduceMul, reduceCtorEq, Tryz.f60, z, rt, rs, rl, bl, usesF, zAa, zAb, Int.reduceEq, Int.reduceLT, Int.reduceLE, Int.reduceToNat, Bool.not_true, Bool.not_false, hAt, hAs, est, era, erc, ep, ela]
 have dla := decide_eq_true hAla
 have ela : ((0 : Int) < (lab.length : Int)) = False := eq_false (by omega)
 by_cases hAc : c = 0
 rotate_left
 · have r : unuF ⟨7, (t1, t2), (s1, s2), lv, st, ra, rc, pts, lab, c, lf⟩ = false := by
     have d := decide_eq_false hAc
     unfold unuF restM bareF
     simp only [Int.reduceEq, or_self, or_false, or_true, if_true, if_false, nzP00, nz00, d, Bool.false_and, Bool.and_false, Bool.true_and, List.length_nil, Int.natCast_zero, Int.ofNat_zero, hAt, hAs, dst, dra, drc, dp, dla]
   have ec : (c = 0) = False := eq_false hAc
   clear hAc
   rw [r]
   try simp -dsimp (maxSteps := 1000000) only [go_sem, List.forall_mem_nil, ↓reduceIte, Nat.reduceEqDiff, Nat.reduceLT, Nat.reduceLeDiff, Nat.reduceAdd, Nat.reduceMul, reduceCtorEq, Tryz.f60, z, rt, rs, rl, bl, usesF, zAa, zAb, Int.reduceEq, Int.reduceLT, Int.reduceLE, Int.reduceToNat, Bool.not_true, Bool.not_false, hAt, hAs, est, era, erc, ep, ela, ec]
 have dc := decide_eq_true hAc
 have ec : (c = 0) = True := eq_true hAc
 by_cases hAf : lf = 0
 rotate_left
 · have r : unuF ⟨7, (t1, t2), (s1, s2), lv, st, ra, rc, pts, lab, c, lf⟩ = false := by
     have d := decide_eq_false hAf
     unfold unuF restM bareF
     simp only [Int.reduceEq, or_self, or_false, or_true, if_true, if_false, nzP00, nz00, d, Bool.false_and, Bool.and_false, Bool.true_and, List.length_nil, Int.natCast_zero, Int.ofNat_zero, hAt, hAs, dst, dra, drc, dp, dla, dc]
   have ef : (lf = 0) = False := eq_false hAf
   clear hAf
   rw [r]
   try simp -dsimp (maxSteps := 1000000) only [go_sem, List.forall_mem_nil, ↓reduceIte, Nat.reduceEqDiff, Nat.reduceLT, Nat.reduceLeDiff, Nat.reduceAdd, Nat.reduceMul, reduceCtorEq, Tryz.f60, z, rt, rs, rl, bl, usesF, zAa, zAb, Int.reduceEq, Int.reduceLT, Int.reduceLE, Int.reduceToNat, Bool.not_true, Bool.not_false, hAt, hAs, est, era, erc, ep, ela, ec, ef]
 have df := decide_eq_true hAf
 have ef : (lf = 0) = True := eq_true hAf
 have r : unuF ⟨7, (t1, t2), (s1, s2), lv, st, ra, rc, pts, lab, c, lf⟩ = true := by
   unfold unuF restM bareF
   simp only [Int.reduceEq, or_self, or_false, or_true, if_true, if_false, nzP00, nz00, Bool.and_self, Bool.true_and, List.length_nil, Int.natCast_zero, Int.ofNat_zero, decide_true, hAt, hAs, dst, dra, drc, dp, dla, dc, df]
 rw [r]
 try simp -dsimp (maxSteps := 1000000) only [go_sem, List.forall_mem_nil, ↓reduceIte, Nat.reduceEqDiff, Nat.reduceLT, Nat.reduceLeDiff, Nat.reduceAdd, Nat.reduceMul, reduceCtorEq, Tryz.f60, z, rt, rs, rl, bl, usesF, zAa, zAb, Int.reduceEq, Int.reduceLT, Int.reduceLE, Int.reduceToNat, Bool.not_true, Bool.not_false, hAt, hAs, est, era, erc, ep, ela, ec, ef]
end Go.SX
namespace Go.SX
open Go Go.Proofs Ieee
set_option maxRecDepth 100000 in
set_option maxHeartbeats 32000000 in
theorem law_un8 : Law Tryz.prog 60 (ct_un 8) := by
 refine zAf (zAc zDo (zAc zCo (zAc zBa zAe))) hmixA Tryz.func60 rfl rfl (fun ⟨⟨⟨k, ⟨t1, t2⟩, ⟨s1, s2⟩, lv, st, ra, rc, pts, lab, c, lf⟩, ok, w32, hkk⟩, hk⟩ => ⟨zAv rfl, by simp [Tryz.f60], ?_⟩)
 simp only [modC] at hk ⊢
 have rt := zBe w32.turn.1 w32.turn.2
 have rs := zBe w32.state.1 w32.state.2
 have rl := zAu w32.level
 have bl : ((⟨(fsT lv).toArray⟩ : ByteArray).toList == (⟨#[48]⟩ : ByteArray).toList) = nz lv := (zAz (fsT lv) [48]).trans (fs_nz w32.level)
 simp only at rt rs rl
 clear ok w32 hkk
 subst hk
 have z := zDl (k := 8) (by simp)
 cases hAt : nzP (t1, t2) with
 | false =>
   have r : unuF ⟨8, (t1, t2), (s1, s2), lv, st, ra, rc, pts, lab, c, lf⟩ = false := by simp [unuF, restM, bareF, nzP00, nz00, hAt]
   rw [r]
   try simp -dsimp (maxSteps := 1000000) only [go_sem, List.forall_mem_nil, ↓reduceIte, Nat.reduceEqDiff, Nat.reduceLT, Nat.reduceLeDiff, Nat.reduceAdd, Nat.reduceMul, reduceCtorEq, Tryz.f60, z, rt, rs, rl, bl, usesF, zAa, zAb, Int.reduceEq, Int.reduceLT, Int.reduceLE, Int.reduceToNat, Bool.not_true, Bool.not_false, hAt]
 | true =>
 cases hAl : nz lv with
 | false =>
   have r : unuF ⟨8, (t1, t2), (s1, s2), lv, st, ra, rc, pts, lab, c, lf⟩ = false := by simp [unuF, restM, bareF, nzP00, nz00, hAl, hAt]
   rw [r]
   try simp -dsimp (maxSteps := 1000000) only [go_sem, List.forall_mem_nil, ↓reduceIte, Nat.reduceEqDiff, Nat.reduceLT, Nat.reduceLeDiff, Nat.reduceAdd, Nat.reduceMul, reduceCtorEq, Tryz.f60, z, rt, rs, rl, bl, usesF, zAa, zAb, Int.reduceEq, Int.reduceLT, Int.reduceLE, Int.reduceToNat, Bool.not_true, Bool.not_false, hAt, hAl]
 | true =>
 by_cases hAst : (st.length : Int) = 0
 rotate_left
 · have r : unuF ⟨8, (t1, t2), (s1, s2), lv, st, ra, rc, pts, lab, c, lf⟩ = false := by
     have d := decide_eq_false hAst
     unfold unuF restM bareF
     simp only [Int.reduceEq, or_self, or_false, or_true, if_true, if_false, nzP00, nz00, d, Bool.false_and, Bool.and_false, Bool.true_and, List.length_nil, Int.natCast_zero, Int.ofNat_zero, hAt, hAl]
   have est : ((0 : Int) < (st.length : Int)) = True := eq_true (by omega)
   clear hAst
   rw [r]
   try simp -dsimp (maxSteps := 1000000) only [go_sem, List.forall_mem_nil, ↓reduceIte, Nat.reduceEqDiff, Nat.reduceLT, Nat.reduceLeDiff, Nat.reduceAdd, Nat.reduceMul, reduceCtorEq, Tryz.f60, z, rt, rs, rl, bl, usesF, zAa, zAb, Int.reduceEq, Int.reduceLT, Int.reduceLE, Int.reduceToNat, Bool.not_true, Bool.not_false, hAt, hAl, est]
 have dst := decide_eq_true hAst
 have est : ((0 : Int) < (st.length : Int)) = False := eq_false (by omega)
 by_cases hAra : ra = 0
 rotate_left
 · have r : unuF ⟨8, (t1, t2), (s1, s2), lv, st, ra, rc, pts, lab, c, lf⟩ = false := by
     have d := decide_eq_false hAra
     unfold unuF restM bareF
     simp only [Int.reduceEq, or_self, or_false, or_true, if_true, if_false, nzP00, nz00, d, Bool.false_and, Bool.and_false, Bool.true_and, List.length_nil, Int.natCast_zero, Int.ofNat_zero, hAt, hAl, dst]
   have era : (ra = 0) = False := eq_false hAra
   clear hAra
   rw [r]
   try simp -dsimp (maxSteps := 1000000) only [go_sem, List.forall_mem_nil, ↓reduceIte, Nat.reduceEqDiff, Nat.reduceLT, Nat.reduceLeDiff, Nat.reduceAdd, Nat.reduceMul, reduceCtorEq, Tryz.f60, z, rt, rs, rl, bl, usesF, zAa, zAb, Int.reduceEq, Int.reduceLT, Int.reduceLE, Int.reduceToNat, Bool.not_true, Bool.not_false, hAt, hAl, est, era]
 have dra := decide_eq_true hAra
 have era : (ra = 0) = True := eq_true hAra
 by_cases hArc : rc = 0
 rotate_left
 · have r : unuF ⟨8, (t1, t2), (s1, s2), lv, st, ra, rc, pts, lab, c, lf⟩ = false := by
     have d := decide_eq_false hArc
     unfold unuF restM bareF
     simp only [Int.reduceEq, or_self, or_false, or_true, if_true, if_false, nzP00, nz00, d, Bool.false_and, Bool.and_false, Bool.true_and, List.length_nil, Int.natCast_zero, Int.ofNat_zero, hAt, hAl, dst, dra]
   have erc : (rc = 0) = False := eq_false hArc
   clear hArc
   rw [r]
   try simp -dsimp (maxSteps := 1000000) only [go_sem, List.forall_mem_nil, ↓reduceIte, Nat.reduceEqDiff, Nat.reduceLT, Nat.reduceLeDiff, Nat.reduceAdd, Nat.reduceMul, reduceCtorEq, Tryz.f60, z, rt, rs, rl, bl, usesF, zAa, zAb, Int.reduceEq, Int.reduceLT, Int.reduceLE, Int.reduceToNat, Bool.not_true, Bool.not_false, hAt, hAl, est, era, erc]
 have drc := decide_eq_true hArc
 have erc : (rc = 0) = True := eq_true hArc
 by_cases hAp : (pts.length : Int) = 0
 rotate_left
 · have r : unuF ⟨8, (t1, t2), (s1, s2), lv, st, ra, rc, pts, lab, c, lf⟩ = false := by
     have d := decide_eq_false hAp
     unfold unuF restM bareF
     simp only [Int.reduceEq, or_self, or_false, or_true, if_true, if_false, nzP00, nz00, d, Bool.false_and, Bool.and_false, Bool.true_and, List.length_nil, Int.natCast_zero, Int.ofNat_zero, hAt, hAl, dst, dra, drc]
   have ep : ((0 : Int) < (pts.length : Int)) = True := eq_true (by omega)
   clear hAp
   rw [r]
   try simp -dsimp (maxSteps := 1000000) only [go_sem, List.forall_mem_nil, ↓reduceIte, Nat.reduceEqDiff, Nat.reduceLT, Nat.reduceLeDiff, Nat.reduceAdd, Nat.reduceMul, reduceCtorEq, Tryz.f60, z, rt, rs, rl, bl, usesF, zAa, zAb, Int.reduceEq, Int.reduceLT, Int.reduceLE, Int.reduceToNat, Bool.not_true, Bool.not_false, hAt, hAl, est, era, erc, ep]
 have dp := decide_eq_true hAp
 have ep : ((0 : Int) < (pts.length : Int)) = False := eq_false (by omega)
 by_cases hAla : (lab.length : Int) = 0
 rotate_left
 · have r : unuF ⟨8, (t1, t2), (s1, s2), lv, st, ra, rc, pts, lab, c, lf⟩ = false := by
     have d := decide_eq_false hAla
     unfold unuF restM bareF
     simp only [Int.reduceEq, or_self, or_false, or_true, if_true, if_false, nzP00, nz00, d, Bool.false_and, Bool.and_false, Bool.true_and, List.length_nil, Int.natCast_zero, Int.ofNat_zero, hAt, hAl, dst, dra, drc, dp]
   have ela : ((0 : Int) < (lab.length : Int)) = True := eq_true (by omega)
   clear hAla
   rw [r]
   try simp -dsimp (maxSteps := 1000000) only [go_sem, List.forall_mem_nil, ↓reduceIte, Nat.reduceEqDiff, Nat.reduceLT, Nat.reduceLeDiff, Nat.reduceAdd, Nat.reduceMul, reduceCtorEq, Tryz.f60, z, rt, rs, rl, bl, usesF, zAa, zAb, Int.reduceEq, Int.reduceLT, Int.reduceLE, Int.reduceToNat, Bool.not_true, Bool.not_false, hAt, hAl, est, era, erc, ep, ela]
 have dla := decide_eq_true hAla
 have ela : ((0 : Int) < (lab.length : Int)) = False := eq_false (by omega)
 have r : unuF ⟨8, (t1, t2), (s1, s2), lv, st, ra, rc, pts, lab, c, lf⟩ = true := by
   unfold unuF restM bareF
   simp only [Int.reduceEq, or_self, or_false, or_true, if_true, if_false, nzP00, nz00, Bool.and_self, Bool.true_and, List.length_nil, Int.natCast_zero, Int.ofNat_zero, decide_true, hAt, hAl, dst, dra, drc, dp, dla]
 rw [r]
 try simp -dsimp (maxSteps := 1000000) only [go_sem, List.forall_mem_nil, ↓reduceIte, Nat.reduceEqDiff, Nat.reduceLT, Nat.reduceLeDiff, Nat.reduceAdd, Nat.reduceMul, reduceCtorEq, Tryz.f60, z, rt, rs, rl, bl, usesF, zAa, zAb, Int.reduceEq, Int.reduceLT, Int.reduceLE, Int.reduceToNat, Bool.not_true, Bool.not_false, hAt, hAl, est, era, erc, ep, ela]
end Go.SX
namespace Go.SX
open Go Go.Proofs Ieee
theorem law_l5UnusedA : Law Tryz.prog 60 ct_l5UnusedA := by
 refine law_cover law_un1 (fun ds hs o ho => ?_)
 obtain ⟨x, hx⟩ : ∃ x : AUn, ([D.agg (modC x.m)], ([] : List (List B))) = (ds, hs) := by
   apply Classical.byContradiction
   intro hn
   have : ct_l5UnusedA.run ds hs = none := dif_neg hn
   rw [this] at ho; cases ho
 injection hx with e1 e2
 subst e1; subst e2
 rw [run_l5UnusedA x] at ho
 have key : (ct_un x.m.kind).run [D.agg (modC x.m)] [] = some o := by
   rw [← ho]
   exact zAd (args := fun y : { y : AUn // y.m.kind = x.m.kind } => ([D.agg (modC y.1.m)], [])) un_inj ⟨x, rfl⟩
 rcases x.k with h | h | h | h | h | h | h | h <;> rw [h] at key
 · exact ⟨_, law_un1, rfl, key⟩
 · exact ⟨_, law_un2, rfl, key⟩
 · exact ⟨_, law_un3, rfl, key⟩
 · exact ⟨_, law_un4, rfl, key⟩
 · exact ⟨_, law_un5, rfl, key⟩
 · exact ⟨_, law_un6, rfl, key⟩
 · exact ⟨_, law_un7, rfl, key⟩
 · exact ⟨_, law_un8, rfl, key⟩
structure AMo where
 m : Mod
 ok : OkM m
 w : W32 m
noncomputable def zEy : Ct := fam true (fun x : AMo => ([.agg (modC x.m)], [])) (fun x => .one { val := .c (.im (.bool (isModuleF x.m))) })
theorem zCk (x : AMo) : zEy.run [.agg (modC x.m)] [] = some (.one { val := .c (.im (.bool (isModuleF x.m))) }) := by
 refine zAd (args := fun x : AMo => ([D.agg (modC x.m)], [])) ?_ x
 rintro ⟨a, _, _⟩ ⟨b, _, _⟩ h
 simp only [Prod.mk.injEq, List.cons.injEq, D.agg.injEq, and_true] at h
 have := zDg h
 subst this; rfl
end Go.SX
