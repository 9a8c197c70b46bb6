/-
  impl.singleText, pointText, pointsText, intsText, kindNames.
  impl.pointText, pointsText, intsText, kindNames.
  impl.kindNames, FormatModule.
  math.Ldexp at whole numbers.
  math.Ldexp at whole numbers, math.NaN, math.Inf, strings.CutPrefix at one byte: the walks.
  strings.CutPrefix at one byte; impl.ParseSingle, singleOf.
  spec.l1Split: a text cut at each byte.
  spec.l1Read: an integer of at most 17 digits.
  No condition.
-/
import Derived.Test.YtfmpjhjnpeheeaaGreatDoorPkG
set_option linter.unusedVariables false
set_option linter.unusedSimpArgs false
namespace Go.SX
open Go Go.Proofs Ieee
theorem max_read : double.read 9218868437227405311 = .number false 9007199254740991 971 := by decide +kernel
theorem gtr_max {y : Nat} {s : Bool} {m : Nat} {e : Int} (h : double.read y = .number s m e) (hm : m < 9007199254740992) (he : e ≤ 900) : fcmp .gtr .f64 y 9218868437227405311 = false := by
 show (double.order y 9218868437227405311 == some .gt) = false
 unfold Format.order
 rw [h, max_read]
 simp only [Datum.order]
 have hb : min e 971 = e := by omega
 rw [hb]
 have e1 : (e - e).toNat = 0 := by omega
 rw [e1]
 have hpow : 2 ≤ 2 ^ (971 - e).toNat := by
   calc 2 = 2 ^ 1 := rfl
     _ ≤ _ := Nat.pow_le_pow_right (by omega) (by omega)
 have h2 : signed false 9007199254740991 (971 - e).toNat = ((9007199254740991 * 2 ^ (971 - e).toNat : Nat) : Int) := by simp [signed, zCu]
 have h3 : (9007199254740991 * 2 : Nat) ≤ 9007199254740991 * 2 ^ (971 - e).toNat := Nat.mul_le_mul_left _ hpow
 have h1 : signed s m 0 ≤ (m : Int) := by cases s <;> simp [signed] <;> omega
 have hlt : signed s m 0 < signed false 9007199254740991 (971 - e).toNat := by rw [h2]; omega
 have : compare (signed s m 0) (signed false 9007199254740991 (971 - e).toNat) = .lt := by
   simp [compare, compareOfLessAndEq, hlt]
 rw [this]; rfl
theorem xor_sign {R : Nat} (h : R < 2 ^ 63) : R ^^^ 2 ^ 63 = 2 ^ 63 + R ∧ (2 ^ 63 + R) ^^^ 2 ^ 63 = R := by
 have h1 : 2 ^ 63 ||| R = 2 ^ 63 + R := by
   have := Nat.two_pow_add_eq_or_of_lt (i := 63) (b := R) h 1
   rw [Nat.mul_one] at this
   exact this.symm
 have hb : R.testBit 63 = false := Nat.testBit_lt_two_pow h
 have hx : R ^^^ 2 ^ 63 = 2 ^ 63 + R := by
   rw [← h1]
   apply Nat.eq_of_testBit_eq
   intro i
   rw [Nat.testBit_xor, Nat.testBit_or, Nat.testBit_two_pow]
   by_cases e : 63 = i
   · subst e; simp [hb]
   · simp [e]
 refine ⟨hx, ?_⟩
 rw [← hx, Nat.xor_assoc, Nat.xor_self, Nat.xor_zero]
theorem neg_word {s : Bool} {R : Nat} (h : R < 2 ^ 63) : Op.negFloat .f64 (double.word s R) = double.word (!s) R := by
 obtain ⟨h1, h2⟩ := xor_sign h
 have e : double.signWeight = 2 ^ 63 := by decide
 have hx : ∀ x, Op.negFloat .f64 x = x ^^^ 2 ^ 63 := fun x => rfl
 rw [hx]
 cases s
 · simp only [Format.word, e, Bool.false_eq_true, if_false, Bool.not_false, if_true]; exact h1
 · simp only [Format.word, e, if_true, Bool.not_true, Bool.false_eq_true, if_false]; exact h2
theorem w64_fin {w : Nat} (hw : w < 4294967296) (hf : w % 2147483648 < 2139095040) :
   ∃ (R m : Nat) (e : Int), w64 w = double.word (decide (2147483648 ≤ w)) R ∧ R < double.infRung ∧ (∀ s, double.read (double.word s R) = .number s m e) ∧ m < 9007199254740992 ∧ e ≤ 900 := by
 obtain ⟨r, hr⟩ : ∃ r, w % 2147483648 = r := ⟨_, rfl⟩
 rw [hr] at hf
 have hword : w = single.word (decide (2147483648 ≤ w)) r := by
   unfold Format.word
   rw [sw1]
   by_cases h : 2147483648 ≤ w
   · simp [h]; omega
   · simp [h]; omega
 have hd : FloatKind.f32.decode w = .number (decide (2147483648 ≤ w)) (rgM single r) (rgE single r) := by
   have := zCq (f := single) (by decide) (r := r) (by rw [ir1]; exact hf) (decide (2147483648 ≤ w))
   rw [← hword] at this
   exact this
 by_cases h0 : r = 0
 · subst h0
   have hread : ∀ s, double.read (double.word s 0) = .number s 0 (-1074) := fun s => by cases s <;> decide +kernel
   have he : ∀ s, FloatKind.f64.encode (.number s (rgM single 0) (rgE single 0)) = double.word s 0 := fun s => by cases s <;> decide +kernel
   refine ⟨0, 0, -1074, ?_, by decide, hread, by omega, by omega⟩
   unfold w64 fconv
   rw [if_neg (by decide), hd]
   simp only [he]
   have hdd : FloatKind.f64.decode (double.word (decide (2147483648 ≤ w)) 0) = .number (decide (2147483648 ≤ w)) 0 (-1074) := hread _
   rw [hdd]; rfl
 · have h0' := Nat.pos_of_ne_zero h0
   obtain ⟨M, last, a, b, c, d, g⟩ := dr_can (dr_rung h0' hf)
   have hlt : M < 9007199254740992 := a.lt
   have hR : (last - double.leastPlace).toNat * double.binade + M < double.infRung := by
     rw [ep2, bn2, ir2]
     omega
   obtain ⟨k1, k2⟩ := can_back a
   have hread : ∀ s, double.read (double.word s ((last - double.leastPlace).toNat * double.binade + M)) = .number s M last := fun s => by
     rw [zCq (by decide) hR, k1, k2]
   have he : ∀ s, FloatKind.f64.encode (.number s (rgM single r) (rgE single r)) = double.word s ((last - double.leastPlace).toNat * double.binade + M) := fun s => by
     show double.nearest s _ _ = _
     rw [zBs a b, Nat.min_eq_left (by omega)]
   refine ⟨_, M, last, ?_, hR, hread, hlt, c⟩
   unfold w64 fconv
   rw [if_neg (by decide), hd]
   simp only [he]
   have hdd : FloatKind.f64.decode (double.word (decide (2147483648 ≤ w)) ((last - double.leastPlace).toNat * double.binade + M)) = .number (decide (2147483648 ≤ w)) M last := hread _
   rw [hdd]; rfl
theorem inf_lt63 : double.infRung < 2 ^ 63 := by decide
theorem isInf_fin {w : Nat} (hw : w < 4294967296) (hf : w % 2147483648 < 2139095040) : fcmp .gtr .f64 (w64 w) 9218868437227405311 = false ∧ fcmp .gtr .f64 (Op.negFloat .f64 (w64 w)) 9218868437227405311 = false := by
 obtain ⟨R, m, e, h1, h2, h3, h4, h5⟩ := w64_fin hw hf
 have hlt := inf_lt63
 refine ⟨gtr_max (by rw [h1]; exact h3 _) h4 h5, gtr_max (s := !decide (2147483648 ≤ w)) ?_ h4 h5⟩
 rw [h1, neg_word (by omega)]; exact h3 _
theorem isInf_pos : fcmp .gtr .f64 (w64 2139095040) 9218868437227405311 = true := by decide +kernel
theorem isInf_neg : fcmp .gtr .f64 (w64 4286578688) 9218868437227405311 = false ∧ fcmp .gtr .f64 (Op.negFloat .f64 (w64 4286578688)) 9218868437227405311 = true := by
 constructor <;> decide +kernel
theorem neq_nan {w : Nat} (h : 2139095040 < w % 2147483648) : fcmp .neq .f32 w w = true := by
 have hr : ∃ s t, single.read w = .nan s t := by
   unfold Format.read
   simp only [sw1, bn1, ir1]
   rw [if_neg (by omega), if_neg (by omega), if_neg (by omega)]
   exact ⟨_, _, rfl⟩
 obtain ⟨s, t, hr⟩ := hr
 show (single.order w w != some .eq) = true
 unfold Format.order
 rw [hr]; rfl
theorem cmp_self (x : Int) : compare x x = .eq := by simp [compare, compareOfLessAndEq]
theorem neq_num {w : Nat} (h : ¬ 2139095040 < w % 2147483648) : fcmp .neq .f32 w w = false := by
 show (single.order w w != some .eq) = false
 unfold Format.order Format.read
 simp only [sw1, bn1, ir1]
 split
 · simp only [Datum.order, Int.min_self, cmp_self]; rfl
 · split
   · simp only [Datum.order, Int.min_self, cmp_self]; rfl
   · split
     · simp only [Datum.order]
       cases (w / 2147483648 % 2 == 1) <;> rfl
     · omega
def infC (x : Nat × Bool) : Bool := fcmp .gtr .f64 (if x.2 then x.1 else Op.negFloat .f64 x.1) 9218868437227405311
noncomputable def ct_IsInf : Ct := fam true (fun x : Nat × Bool => ([.c (.im (.flt .f64 x.1)), .c (.im (.int .i64 (if x.2 then 1 else -1)))], [])) (fun x => .one { val := .c (.im (.bool (infC x))) })
theorem isInf_inj : ∀ x y : Nat × Bool, ([D.c (.im (.flt .f64 x.1)), .c (.im (.int .i64 (if x.2 then 1 else -1)))], ([] : List (List B))) = ([D.c (.im (.flt .f64 y.1)), .c (.im (.int .i64 (if y.2 then 1 else -1)))], []) → x = y := by
 rintro ⟨a, b⟩ ⟨a', b'⟩ h
 simp only [Prod.mk.injEq, List.cons.injEq, D.c.injEq, C.im.injEq, I.flt.injEq, I.int.injEq, true_and, and_true] at h
 obtain ⟨rfl, h⟩ := h
 cases b <;> cases b' <;> simp at h ⊢
theorem run_IsInf1 (y : Nat) : ct_IsInf.run [.c (.im (.flt .f64 y)), .c (.im (.int .i64 1))] [] = some (.one { val := .c (.im (.bool (fcmp .gtr .f64 y 9218868437227405311))) }) :=
 zAd (args := fun x : Nat × Bool => ([D.c (.im (.flt .f64 x.1)), .c (.im (.int .i64 (if x.2 then 1 else -1)))], [])) isInf_inj (y, true)
theorem run_IsInf2 (y : Nat) : ct_IsInf.run [.c (.im (.flt .f64 y)), .c (.im (.int .i64 (-1)))] [] = some (.one { val := .c (.im (.bool (fcmp .gtr .f64 (Op.negFloat .f64 y) 9218868437227405311))) }) :=
 zAd (args := fun x : Nat × Bool => ([D.c (.im (.flt .f64 x.1)), .c (.im (.int .i64 (if x.2 then 1 else -1)))], [])) isInf_inj (y, false)
set_option maxRecDepth 100000 in
theorem law_IsInf : Law Tryz.prog 144 ct_IsInf := by
 refine zAk zAf hmixA Tryz.func144 rfl rfl (fun ⟨y, b⟩ => ⟨zAt rfl, by simp [Tryz.f144], ?_⟩)
 cases b with
 | true =>
   simp only [infC, if_true]
   try simp -dsimp (maxSteps := 1000000) only [go_sem, List.forall_mem_nil, ↓reduceIte, Nat.reduceEqDiff, Nat.reduceLT, Nat.reduceLeDiff, Nat.reduceAdd, Nat.reduceMul, reduceCtorEq, Tryz.f144, Int.reduceEq, Int.reduceLT]
 | false =>
   simp only [infC, Bool.false_eq_true, if_false]
   try simp -dsimp (maxSteps := 1000000) only [go_sem, List.forall_mem_nil, ↓reduceIte, Nat.reduceEqDiff, Nat.reduceLT, Nat.reduceLeDiff, Nat.reduceAdd, Nat.reduceMul, reduceCtorEq, Tryz.f144, Int.reduceEq, Int.reduceLT, Int.reduceNeg]
noncomputable def zFd : Ct := fam true (fun w : W32a => ([.c (.im (.flt .f32 w.1))], [])) (fun w => .one { val := .c (.im (.str ⟨(sglT w.1).toArray⟩)) })
theorem zBo {w : Nat} (h : w < 4294967296) : zFd.run [.c (.im (.flt .f32 w))] [] = some (.one { val := .c (.im (.str ⟨(sglT w).toArray⟩)) }) := by
 refine zAd (args := fun w : W32a => ([D.c (.im (.flt .f32 w.1))], [])) ?_ ⟨w, h⟩
 rintro ⟨a, _⟩ ⟨b, _⟩ h
 simp only [Prod.mk.injEq, List.cons.injEq, D.c.injEq, C.im.injEq, I.flt.injEq, true_and, and_true] at h
 exact Subtype.ext h
set_option maxRecDepth 100000 in
set_option maxHeartbeats 4000000 in
theorem zGs : Law Tryz.prog 71 zFd := by
 refine zAk (zAc law_IsInf (zAc zFl zAf)) hmixA Tryz.func71 rfl rfl (fun ⟨w, hw⟩ => ⟨zAt rfl, by simp [Tryz.f71], ?_⟩)
 simp only
 by_cases h1 : 2139095040 < w % 2147483648
 · have hT : sglT w = nanT := by unfold sglT; rw [if_pos h1]
   have hn := neq_nan h1
   rw [hT, nanT]
   try simp -dsimp (maxSteps := 1000000) only [go_sem, List.forall_mem_nil, ↓reduceIte, Nat.reduceEqDiff, Nat.reduceLT, Nat.reduceLeDiff, Nat.reduceAdd, Nat.reduceMul, reduceCtorEq, Tryz.f71, hn]
 have hn := neq_num h1
 by_cases h2 : w % 2147483648 = 2139095040
 · by_cases h3 : 2147483648 ≤ w
   · have : w = 4286578688 := by omega
     subst this
     have hT : sglT 4286578688 = ninfT := by decide
     obtain ⟨i1, i2⟩ := isInf_neg
     generalize hx : w64 4286578688 = y at *
     have hfc := fconv_w (x := 4286578688)
     rw [hx] at hfc
     generalize (4286578688 : Nat) = w at *
     rw [hT, ninfT]
     try simp -dsimp (maxSteps := 1000000) only [go_sem, List.forall_mem_nil, ↓reduceIte, Nat.reduceEqDiff, Nat.reduceLT, Nat.reduceLeDiff, Nat.reduceAdd, Nat.reduceMul, reduceCtorEq, Tryz.f71, hn, hfc, run_IsInf1, run_IsInf2, i1, i2]
   · have : w = 2139095040 := by omega
     subst this
     have hT : sglT 2139095040 = infT := by decide
     have i1 := isInf_pos
     generalize hx : w64 2139095040 = y at *
     have hfc := fconv_w (x := 2139095040)
     rw [hx] at hfc
     generalize (2139095040 : Nat) = w at *
     rw [hT, infT]
     try simp -dsimp (maxSteps := 1000000) only [go_sem, List.forall_mem_nil, ↓reduceIte, Nat.reduceEqDiff, Nat.reduceLT, Nat.reduceLeDiff, Nat.reduceAdd, Nat.reduceMul, reduceCtorEq, Tryz.f71, hn, hfc, run_IsInf1, i1]
 · have hf : isFin w = true := by simp only [isFin, decide_eq_true_eq]; omega
   have hT : sglT w = fsT w := by unfold sglT fsT; rw [if_neg h1, if_neg h2, if_pos hf]
   obtain ⟨i1, i2⟩ := isInf_fin hw (by omega)
   rw [hT]
   try simp -dsimp (maxSteps := 1000000) only [go_sem, List.forall_mem_nil, ↓reduceIte, Nat.reduceEqDiff, Nat.reduceLT, Nat.reduceLeDiff, Nat.reduceAdd, Nat.reduceMul, reduceCtorEq, Tryz.f71, hn, fconv_w, run_IsInf1, run_IsInf2, i1, i2, zAq hw]
end Go.SX
namespace Go.SX
open Go Go.Proofs Ieee
theorem fmtT_len {w : Nat} (h : Fin32 w) : (fmtT w).length ≤ 44 := by
 have hs : ∀ b, (sgnT b).length ≤ 1 := fun b => by cases b <;> simp [sgnT]
 have h1 := hs (decide (2147483648 ≤ w))
 unfold fmtT
 rw [List.length_append]
 unfold magT
 split
 · simp; omega
 · rename_i h0
   have hm := md_of (Nat.pos_of_ne_zero h0) h.fin
   have a := zBj (n := (mdM (w % 2147483648) : Int)) ⟨by omega, by have := hm.lt; omega⟩
   have b := zBj (n := mdE (w % 2147483648)) ⟨by have := hm.lo; omega, by have := hm.hi; omega⟩
   simp only [List.length_append, List.length_cons]
   omega
theorem zCt {w : Nat} (hw : w < 4294967296) : (sglT w).length ≤ 44 := by
 unfold sglT
 split
 · simp [nanT]
 · split
   · split
     · simp [ninfT]
     · simp [infT]
   · exact fmtT_len ⟨hw, by omega⟩
theorem take_snoc' {α : Type} {l : List α} {k : Nat} {p : α} (h : l[k]? = some p) : l.take (k + 1) = l.take k ++ [p] := by
 rw [List.take_add_one, h]; rfl
abbrev PtW := { p : Pt // p.1 < 4294967296 ∧ p.2 < 4294967296 }
def ptT (p : Pt) : Txt := sglT p.1 ++ 32 :: sglT p.2
noncomputable def zGa : Ct := fam true (fun p : PtW => ([.c (.im (.cpx .f32 p.1.1 p.1.2))], [])) (fun p => .one { val := .c (.im (.str ⟨(ptT p.1).toArray⟩)) })
theorem zBx {u v : Nat} (h1 : u < 4294967296) (h2 : v < 4294967296) : zGa.run [.c (.im (.cpx .f32 u v))] [] = some (.one { val := .c (.im (.str ⟨(ptT (u, v)).toArray⟩)) }) := by
 refine zAd (args := fun p : PtW => ([D.c (.im (.cpx .f32 p.1.1 p.1.2))], [])) ?_ ⟨(u, v), h1, h2⟩
 rintro ⟨⟨a, b⟩, _⟩ ⟨⟨a', b'⟩, _⟩ h
 simp only [Prod.mk.injEq, List.cons.injEq, D.c.injEq, C.im.injEq, I.cpx.injEq, true_and, and_true] at h
 exact Subtype.ext (Prod.ext h.1 h.2)
set_option maxRecDepth 100000 in
theorem law_pointText : Law Tryz.prog 143 zGa := by
 refine zAk (zAc zGs zAf) hmixA Tryz.func143 rfl rfl (fun ⟨⟨u, v⟩, h1, h2⟩ => ⟨zAt rfl, by simp [Tryz.f143], ?_⟩)
 simp only [ptT]
 have r1 := zBo h1
 have r2 := zBo h2
 have la := zCt h1
 have lb := zCt h2
 simp only at la lb r1 r2
 generalize sglT u = A at *
 generalize sglT v = B at *
 have q5 : (A.length + 1 ≤ 4611686018427387904) = True := eq_true (by omega)
 have q6 : (A.length + 1 + B.length ≤ 4611686018427387904) = True := eq_true (by omega)
 have e : A ++ [32] ++ B = A ++ 32 :: B := by simp
 try simp -dsimp (maxSteps := 1000000) only [go_sem, List.forall_mem_nil, ↓reduceIte, Nat.reduceEqDiff, Nat.reduceLT, Nat.reduceLeDiff, Nat.reduceAdd, Nat.reduceMul, reduceCtorEq, Tryz.f143, r1, r2, q5, q6, zBr, e, List.size_toArray, List.length_append]
theorem zEw {p : Pt} (h : p.1 < 4294967296 ∧ p.2 < 4294967296) : (ptT p).length ≤ 89 := by
 have a := zCt h.1
 have b := zCt h.2
 simp only [ptT, List.length_append, List.length_cons]
 omega
theorem zDz (a b : List Txt) : behind (a ++ b) = behind a ++ behind b := by simp [behind]
theorem behind_pt (p : Pt) : behind (ptW p) = 32 :: ptT p := by simp [behind, ptW, ptT]
theorem ptsW_app (a b : List Pt) : ptsW (a ++ b) = ptsW a ++ ptsW b := by simp [ptsW]
theorem zBq : ∀ (l : List Pt), (∀ p ∈ l, p.1 < 4294967296 ∧ p.2 < 4294967296) → (behind (ptsW l)).length ≤ 90 * l.length
 | [], _ => by simp [behind, ptsW]
 | p :: l, h => by
   have ih := zBq l (fun q hq => h q (List.mem_cons_of_mem _ hq))
   have e : ptsW (p :: l) = ptW p ++ ptsW l := by simp [ptsW]
   have := zEw (h p (by simp))
   rw [e, zDz, behind_pt, List.length_append, List.length_cons, List.length_cons]
   omega
structure APtw where
 l : List Pt
 h : l.length ≤ sm
 w : ∀ p ∈ l, p.1 < 4294967296 ∧ p.2 < 4294967296
noncomputable def zCa : Ct := fam true (fun x : APtw => ([.c (.im (.sl 1 (rowsZ x.l)))], [])) (fun x => .one { val := .c (.im (.str ⟨(behind (ptsW x.l)).toArray⟩)) })
theorem zCo {l : List Pt} (h : l.length ≤ sm) (w : ∀ p ∈ l, p.1 < 4294967296 ∧ p.2 < 4294967296) : zCa.run [.c (.im (.sl 1 (rowsZ l)))] [] = some (.one { val := .c (.im (.str ⟨(behind (ptsW l)).toArray⟩)) }) := by
 refine zAd (args := fun x : APtw => ([D.c (.im (.sl 1 (rowsZ x.l)))], [])) ?_ ⟨l, h, w⟩
 rintro ⟨a, _, _⟩ ⟨b, _, _⟩ h
 simp only [Prod.mk.injEq, List.cons.injEq, D.c.injEq, C.im.injEq, I.sl.injEq, true_and, and_true, zBi] at h
 subst h; rfl
theorem zDc : (zCa.sc = true) = True := by simp [zCa, fam]
set_option maxRecDepth 100000 in
set_option maxHeartbeats 4000000 in
theorem law_pointsText : Law Tryz.prog 70 zCa := by
 refine zAk (zAc law_pointText zAf) hmixA Tryz.func70 rfl rfl (fun ⟨l, hl, hw⟩ => ⟨zAt rfl, by simp [Tryz.f70], ?_⟩)
 simp only
 have hsm : sm = 16777216 := rfl
 try simp -dsimp (maxSteps := 1000000) only [go_sem, List.forall_mem_nil, ↓reduceIte, Nat.reduceEqDiff, Nat.reduceLT, Nat.reduceLeDiff, Nat.reduceAdd, Nat.reduceMul, reduceCtorEq, Tryz.f70, zAa]
 refine zBc (ι := { k : Nat // k ≤ l.length }) (fun k => ⟨[(3, some (.c (.im (.str ⟨(behind (ptsW (l.take k.1))).toArray⟩)))), (6, some (.c (.im (.sl 1 (rowsZ l))))), (7, some (.c (.im (.int .i64 (l.length : Int))))), (8, some (.c (.im (.int .i64 (k.1 : Int)))))],
   [], 0⟩) (fun k => l.length - k.1) ⟨0, by simp⟩ ⟨[], [], by ((simp only [go_sem, eq_self, MvRb, MvRn, MvRt, List.nodup_cons, List.nodup_nil, ↓reduceIte, Nat.reduceEqDiff, Nat.reduceLT, Nat.reduceLeDiff, reduceCtorEq, List.forall_mem_nil, Nat.zero_le, false_implies, List.mem_singleton, List.take_zero, behind, ptsW, List.flatMap_nil]) <;> (try (simp -dsimp only [go_sem, eq_self, MvRb, MvRn, MvRt, List.nodup_cons, List.nodup_nil, ↓reduceIte, Nat.reduceEqDiff, Nat.reduceLT, Nat.reduceLeDiff, reduceCtorEq, List.forall_mem_nil, Nat.zero_le, false_implies, List.mem_singleton, List.take_zero, behind, ptsW, List.flatMap_nil]))) <;> simp⟩ (fun ⟨k, hk⟩ => ?_)
 simp only
 by_cases hlt : k < l.length
 · obtain ⟨⟨u, v⟩, hp⟩ : ∃ p, l[k]? = some p := ⟨_, List.getElem?_eq_getElem hlt⟩
   have hrow := zCl hp
   have hI : ((k : Int) < (l.length : Int)) = True := by simp; omega
   have h0 : (0 ≤ (k : Int)) = True := by simp
   have hwr := lt_sm hl hlt
   obtain ⟨w1, w2⟩ := hw _ (List.mem_of_getElem? hp)
   simp only at w1 w2
   have rp := zBx w1 w2
   have hsn : behind (ptsW (l.take (k + 1))) = behind (ptsW (l.take k)) ++ 32 :: ptT (u, v) := by
     rw [take_snoc' hp, ptsW_app, zDz]
     simp [ptsW, behind_pt]
   have la := zEw (p := (u, v)) ⟨w1, w2⟩
   have lb := zBq (l.take k) (fun p hp => hw p (List.mem_of_mem_take hp))
   have lc : (l.take k).length ≤ l.length := by rw [List.length_take]; omega
   generalize ptT (u, v) = A at *
   generalize behind (ptsW (l.take k)) = X at *
   have q1 : (1 + A.length ≤ 4611686018427387904) = True := eq_true (by omega)
   have q2 : (X.length + (A.length + 1) ≤ 4611686018427387904) = True := eq_true (by omega)
   try simp -dsimp (maxSteps := 1000000) only [go_sem, List.forall_mem_nil, ↓reduceIte, Nat.reduceEqDiff, Nat.reduceLT, Nat.reduceLeDiff, Nat.reduceAdd, Nat.reduceMul, reduceCtorEq, Tryz.f70, hI, h0, Int.toNat_natCast, hrow, hwr, rp, q1, q2, zBr, List.size_toArray, List.length_append]
   exact ⟨⟨k + 1, by omega⟩, by simp only []; omega, [], [], by (simp only [go_sem, eq_self, MvRb, MvRn, MvRt, List.nodup_cons, List.nodup_nil, ↓reduceIte, Nat.reduceEqDiff, Nat.reduceLT, Nat.reduceLeDiff, reduceCtorEq, List.forall_mem_nil, Nat.zero_le, false_implies, List.mem_singleton, hsn]) <;> simp⟩
 · have hI : ((k : Int) < (l.length : Int)) = False := by simp; omega
   have hkl : l.take k = l := List.take_of_length_le (by omega)
   rw [hkl]
   try simp -dsimp (maxSteps := 1000000) only [go_sem, List.forall_mem_nil, ↓reduceIte, Nat.reduceEqDiff, Nat.reduceLT, Nat.reduceLeDiff, Nat.reduceAdd, Nat.reduceMul, reduceCtorEq, Tryz.f70, hI]
theorem zCg : ∀ (l : List Int), (∀ n ∈ l, i64B n) → (behind (l.map Lib.itoa)).length ≤ 22 * l.length
 | [], _ => by simp [behind]
 | n :: l, h => by
   have ih := zCg l (fun q hq => h q (List.mem_cons_of_mem _ hq))
   have e : behind ((n :: l).map Lib.itoa) = (32 :: Lib.itoa n) ++ behind (l.map Lib.itoa) := by simp [behind]
   have := zBj (h n (by simp))
   rw [e, List.length_append, List.length_cons, List.length_cons]
   omega
structure AInw where
 l : List Int
 h : l.length ≤ sm
 w : ∀ n ∈ l, i64B n
noncomputable def zCj : Ct := fam true (fun x : AInw => ([.c (.im (.sl 1 (rowsN x.l)))], [])) (fun x => .one { val := .c (.im (.str ⟨(behind (x.l.map Lib.itoa)).toArray⟩)) })
theorem zEg {l : List Int} (h : l.length ≤ sm) (w : ∀ n ∈ l, i64B n) : zCj.run [.c (.im (.sl 1 (rowsN l)))] [] = some (.one { val := .c (.im (.str ⟨(behind (l.map Lib.itoa)).toArray⟩)) }) := by
 refine zAd (args := fun x : AInw => ([D.c (.im (.sl 1 (rowsN x.l)))], [])) ?_ ⟨l, h, w⟩
 rintro ⟨a, _, _⟩ ⟨b, _, _⟩ h
 simp only [Prod.mk.injEq, List.cons.injEq, D.c.injEq, C.im.injEq, I.sl.injEq, true_and, and_true, zCc] at h
 subst h; rfl
theorem zEs : (zCj.sc = true) = True := by simp [zCj, fam]
set_option maxRecDepth 100000 in
set_option maxHeartbeats 4000000 in
theorem law_intsText : Law Tryz.prog 72 zCj := by
 refine zAk (zAc law_Itoa zAf) hmixA Tryz.func72 rfl rfl (fun ⟨l, hl, hw⟩ => ⟨zAt rfl, by simp [Tryz.f72], ?_⟩)
 simp only
 have hsm : sm = 16777216 := rfl
 try simp -dsimp (maxSteps := 1000000) only [go_sem, List.forall_mem_nil, ↓reduceIte, Nat.reduceEqDiff, Nat.reduceLT, Nat.reduceLeDiff, Nat.reduceAdd, Nat.reduceMul, reduceCtorEq, Tryz.f72, zAb]
 refine zBc (ι := { k : Nat // k ≤ l.length }) (fun k => ⟨[(3, some (.c (.im (.str ⟨(behind ((l.take k.1).map Lib.itoa)).toArray⟩)))), (6, some (.c (.im (.sl 1 (rowsN l))))), (7, some (.c (.im (.int .i64 (l.length : Int))))), (8, some (.c (.im (.int .i64 (k.1 : Int)))))],
   [], 0⟩) (fun k => l.length - k.1) ⟨0, by simp⟩ ⟨[], [], by ((simp only [go_sem, eq_self, MvRb, MvRn, MvRt, List.nodup_cons, List.nodup_nil, ↓reduceIte, Nat.reduceEqDiff, Nat.reduceLT, Nat.reduceLeDiff, reduceCtorEq, List.forall_mem_nil, Nat.zero_le, false_implies, List.mem_singleton, List.take_zero, List.map_nil, behind, List.flatMap_nil]) <;> (try (simp -dsimp only [go_sem, eq_self, MvRb, MvRn, MvRt, List.nodup_cons, List.nodup_nil, ↓reduceIte, Nat.reduceEqDiff, Nat.reduceLT, Nat.reduceLeDiff, reduceCtorEq, List.forall_mem_nil, Nat.zero_le, false_implies, List.mem_singleton, List.take_zero, List.map_nil, behind, List.flatMap_nil]))) <;> simp⟩ (fun ⟨k, hk⟩ => ?_)
 simp only
 by_cases hlt : k < l.length
 · obtain ⟨n, hp⟩ : ∃ p, l[k]? = some p := ⟨_, List.getElem?_eq_getElem hlt⟩
   have hrow := zGi hp
   have hI : ((k : Int) < (l.length : Int)) = True := by simp; omega
   have h0 : (0 ≤ (k : Int)) = True := by simp
   have hwr := lt_sm hl hlt
   have hn := hw _ (List.mem_of_getElem? hp)
   have rp := run_Itoa hn
   have hsn : behind ((l.take (k + 1)).map Lib.itoa) = behind ((l.take k).map Lib.itoa) ++ 32 :: Lib.itoa n := by
     rw [take_snoc' hp, List.map_append, zDz]
     simp [behind]
   have la := zBj hn
   have lb := zCg (l.take k) (fun p hp => hw p (List.mem_of_mem_take hp))
   have lc : (l.take k).length ≤ l.length := by rw [List.length_take]; omega
   generalize Lib.itoa n = A at *
   generalize behind ((l.take k).map Lib.itoa) = X at *
   have q1 : (1 + A.length ≤ 4611686018427387904) = True := eq_true (by omega)
   have q2 : (X.length + (A.length + 1) ≤ 4611686018427387904) = True := eq_true (by omega)
   try simp -dsimp (maxSteps := 1000000) only [go_sem, List.forall_mem_nil, ↓reduceIte, Nat.reduceEqDiff, Nat.reduceLT, Nat.reduceLeDiff, Nat.reduceAdd, Nat.reduceMul, reduceCtorEq, Tryz.f72, hI, h0, Int.toNat_natCast, hrow, hwr, rp, q1, q2, zBr, List.size_toArray, List.length_append]
   exact ⟨⟨k + 1, by omega⟩, by simp only []; omega, [], [], by (simp only [go_sem, eq_self, MvRb, MvRn, MvRt, List.nodup_cons, List.nodup_nil, ↓reduceIte, Nat.reduceEqDiff, Nat.reduceLT, Nat.reduceLeDiff, reduceCtorEq, List.forall_mem_nil, Nat.zero_le, false_implies, List.mem_singleton, hsn]) <;> simp⟩
 · have hI : ((k : Int) < (l.length : Int)) = False := by simp; omega
   have hkl : l.take k = l := List.take_of_length_le (by omega)
   rw [hkl]
   try simp -dsimp (maxSteps := 1000000) only [go_sem, List.forall_mem_nil, ↓reduceIte, Nat.reduceEqDiff, Nat.reduceLT, Nat.reduceLeDiff, Nat.reduceAdd, Nat.reduceMul, reduceCtorEq, Tryz.f72, hI]
end Go.SX
namespace Go.SX
open Go Go.Proofs Ieee
def rNames : Res := { val := .c (.view 0 1 0 9), roots := [.arr 1 [[.im (.str ⟨#[]⟩)], [.im (.str ⟨#[115, 111, 117, 114, 99, 101]⟩)], [.im (.str ⟨#[109, 105, 120, 101, 114]⟩)], [.im (.str ⟨#[103, 97, 105, 110]⟩)], [.im (.str ⟨#[100, 101, 108, 97, 121]⟩)], [.im (.str ⟨#[115, 117, 109]⟩)], [.im (.str ⟨#[115, 108, 105, 99, 101, 114]⟩)], [.im (.str ⟨#[109, 101, 116, 101, 114]⟩)], [.im (.str ⟨#[104, 111, 108, 100]⟩)]]] }
theorem okR_names {sc : Bool} : OkR sc rNames := by
 refine ⟨.c _ (.view _ _ _ _ (by simp [rNames])), fun r hr => ?_, by simp [rNames]⟩
 simp only [rNames, List.mem_singleton] at hr
 subst hr
 intro row hrow t ht
 simp only [List.mem_cons, List.not_mem_nil, or_false] at hrow
 rcases hrow with rfl | rfl | rfl | rfl | rfl | rfl | rfl | rfl | rfl <;> (simp only [List.mem_singleton] at ht; subst ht; exact .im _ (.inr rfl))
noncomputable def zGc : Ct := fam true (fun _ : Unit => ([], [])) (fun _ => .one rNames)
theorem zBm : zGc.run [] [] = some (.one rNames) := zAd (args := fun _ : Unit => (([] : List D), [])) (fun _ _ _ => rfl) ()
set_option maxRecDepth 100000 in
theorem law_kindNames : Law Tryz.prog 41 zGc := by
 refine zAk zAf hmixA Tryz.func41 rfl rfl (fun _ => ⟨okO okR_names, by simp [Tryz.f41], ?_⟩)
 simp only [rNames]
 try simp -dsimp (maxSteps := 1000000) only [go_sem, List.forall_mem_nil, ↓reduceIte, Nat.reduceEqDiff, Nat.reduceLT, Nat.reduceLeDiff, Nat.reduceAdd, Nat.reduceMul, reduceCtorEq, Tryz.f41]
 exact ⟨[0], by simp, by simp, by simp [rtOk], by simp⟩
structure AFm where
 m : Mod
 ok : OkM m
 w : W32 m
 rat : i64B m.rat
 cnt : i64B m.count
 lft : i64B m.left
 lab : ∀ x ∈ m.lab, i64B x
noncomputable def zCk : Ct := fam true (fun x : AFm => ([.agg (modC x.m)], [])) (fun x => .one { val := .c (.im (.str ⟨(fmtM x.m).toArray⟩)) })
theorem zAy (x : AFm) : zCk.run [.agg (modC x.m)] [] = some (.one { val := .c (.im (.str ⟨(fmtM x.m).toArray⟩)) }) := by
 refine zAd (args := fun x : AFm => ([D.agg (modC x.m)], [])) ?_ x
 rintro ⟨a, _, _, _, _, _, _⟩ ⟨b, _, _, _, _, _, _⟩ h
 simp only [Prod.mk.injEq, List.cons.injEq, D.agg.injEq, and_true] at h
 have := zEy h
 subst this; rfl
theorem zAp : (zCk.sc = true) = True := by simp [zCk, fam]
theorem tabW_snoc {pts : List Pt} {lab : List Int} (hl : pts.length = lab.length) {k : Nat} {p : Pt} {n : Int} (hp : pts[k]? = some p) (hn : lab[k]? = some n) : tabW (pts.take (k + 1)) (lab.take (k + 1)) = tabW (pts.take k) (lab.take k) ++ [sglT p.1, sglT p.2, Lib.itoa n] := by
 induction k generalizing pts lab with
 | zero =>
   cases pts with
   | nil => simp at hp
   | cons a pts => cases lab with
     | nil => simp at hn
     | cons b lab =>
       simp at hp hn
       subst hp hn
       simp [tabW]
 | succ k ih =>
   cases pts with
   | nil => simp at hp
   | cons a pts => cases lab with
     | nil => simp at hn
     | cons b lab =>
       have := ih (pts := pts) (lab := lab) (by simpa using hl) (by simpa using hp) (by simpa using hn)
       simp only [List.take_succ_cons, tabW, this, List.cons_append]
theorem tabW_len : ∀ (pts : List Pt) (lab : List Int), (∀ p ∈ pts, p.1 < 4294967296 ∧ p.2 < 4294967296) → (∀ x ∈ lab, i64B x) → (behind (tabW pts lab)).length ≤ 120 * pts.length
 | [], _, _, _ => by simp [tabW, behind]
 | _ :: _, [], _, _ => by simp [tabW, behind]
 | p :: pts, n :: lab, h1, h2 => by
   have ih := tabW_len pts lab (fun q hq => h1 q (List.mem_cons_of_mem _ hq)) (fun q hq => h2 q (List.mem_cons_of_mem _ hq))
   have a := zCt (h1 p (by simp)).1
   have b := zCt (h1 p (by simp)).2
   have c := zBj (h2 n (by simp))
   have e : behind (tabW (p :: pts) (n :: lab)) = 32 :: sglT p.1 ++ (32 :: sglT p.2 ++ (32 :: Lib.itoa n ++ behind (tabW pts lab))) := by simp [tabW, behind]
   rw [e]
   simp only [List.length_append, List.length_cons]
   omega
set_option maxRecDepth 100000 in
set_option maxHeartbeats 16000000 in
theorem law_FormatModule : Law Tryz.prog 23 zCk := by
 refine zAk (zAc law_IsModule (zAc law_kindNames (zAc law_pointsText (zAc zGs (zAc law_intsText zAf))))) hmixA Tryz.func23 rfl rfl (fun ⟨m, ok, hw, hrat, hcnt, hlft, hlab⟩ => ⟨zAt rfl, by simp [Tryz.f23], ?_⟩)
 simp only
 have hsm : sm = 16777216 := rfl
 have c9 : ((9 : Nat) : Int) = 9 := rfl
 cases hv : isModuleF m with
 | false =>
   have hT : fmtM m = [] := by simp [fmtM, hv]
   rw [hT]
   obtain ⟨k, ⟨t1, t2⟩, ⟨s1, s2⟩, lv, st, ra, rc, pts, lab, c, lf⟩ := m
   have ri := zBg (k := k) (t1 := t1) (t2 := t2) (s1 := s1) (s2 := s2) (lv := lv) (ra := ra) (rc := rc) (c := c) (l := lf) ok.store ok.pts ok.lab
   rw [hv] at ri
   simp only [modC]
   try simp -dsimp (maxSteps := 1000000) only [go_sem, List.forall_mem_nil, ↓reduceIte, Nat.reduceEqDiff, Nat.reduceLT, Nat.reduceLeDiff, Nat.reduceAdd, Nat.reduceMul, reduceCtorEq, Tryz.f23, ri, Bool.not_false]
 | true =>
   have hT : fmtM m = nameT m.kind ++ behind (restW m) := by simp [fmtM, hv]
   rw [hT]
   have ri := fun (k : Int) (t1 t2 s1 s2 lv : Nat) (st : List Pt) (ra rc : Int) (pts : List Pt) (lab : List Int) (c lf : Int) (e : m = ⟨k, (t1, t2), (s1, s2), lv, st, ra, rc, pts, lab, c, lf⟩) => zBg (k := k) (t1 := t1) (t2 := t2) (s1 := s1) (s2 := s2) (lv := lv) (st := st) (ra := ra) (rc := rc) (pts := pts) (lab := lab) (c := c) (l := lf) (by have := ok.store; rw [e] at this; exact this) (by have := ok.pts; rw [e] at this; exact this) (by have := ok.lab; rw [e] at this; exact this)
   rcases zCh hv with ⟨⟨t1, t2⟩, ⟨s1, s2⟩, e⟩ | ⟨⟨t1, t2⟩, ⟨s1, s2⟩, e⟩ | ⟨l, e⟩ | ⟨st, a, e, hr⟩ | e | ⟨pts, lab, c, e, ht⟩ | ⟨l, e, hl⟩ | ⟨⟨s1, s2⟩, c, l, e, h1, h2, h3, h4⟩
   · replace ri := ri _ _ _ _ _ _ _ _ _ _ _ _ _ e
     subst e
     rw [hv] at ri
     have rp : zCa.run [.c (.im (.sl 1 [[.cpx .f32 t1 t2], [.cpx .f32 s1 s2]]))] [] = some (.one { val := .c (.im (.str ⟨(behind (ptsW [(t1, t2), (s1, s2)])).toArray⟩)) }) := zCo (l := [(t1, t2), (s1, s2)]) (by simp [sm]) (by simp; exact ⟨hw.turn, hw.state⟩)
     have lb := zBq [(t1, t2), (s1, s2)] (by simp; exact ⟨hw.turn, hw.state⟩)
     have hfin : nameT 1 ++ behind (restW ⟨1, (t1, t2), (s1, s2), 0, [], 0, 0, [], [], 0, 0⟩) = [115, 111, 117, 114, 99, 101] ++ behind (ptsW [(t1, t2), (s1, s2)]) := by simp [restW, nameT, sourceT, ptsW]
     simp only [modC]
     generalize behind (ptsW [(t1, t2), (s1, s2)]) = X at *
     have q : (6 + X.length ≤ 4611686018427387904) = True := eq_true (by simp at lb; omega)
     try simp -dsimp (maxSteps := 1000000) only [go_sem, List.forall_mem_nil, ↓reduceIte, Nat.reduceEqDiff, Nat.reduceLT, Nat.reduceLeDiff, Nat.reduceAdd, Nat.reduceMul, reduceCtorEq, Tryz.f23, ri, zBm, rNames, c9, hfin, rp, zDc, q, zBr, List.size_toArray, List.length_append, List.take_succ_cons, List.take_zero, Nat.reduceAdd, Int.reduceEq, Int.reduceLE, Int.reduceLT, Int.reduceToNat, Bool.not_true]
     repeat' (first
       | ((with_reducible refine sl_i ?_ ?_); focus kernel_rfl)
       | ((with_reducible refine ro_e ?_); kernel_rfl))
   · replace ri := ri _ _ _ _ _ _ _ _ _ _ _ _ _ e
     subst e
     rw [hv] at ri
     have rp : zCa.run [.c (.im (.sl 1 [[.cpx .f32 t1 t2], [.cpx .f32 s1 s2]]))] [] = some (.one { val := .c (.im (.str ⟨(behind (ptsW [(t1, t2), (s1, s2)])).toArray⟩)) }) := zCo (l := [(t1, t2), (s1, s2)]) (by simp [sm]) (by simp; exact ⟨hw.turn, hw.state⟩)
     have lb := zBq [(t1, t2), (s1, s2)] (by simp; exact ⟨hw.turn, hw.state⟩)
     have hfin : nameT 2 ++ behind (restW ⟨2, (t1, t2), (s1, s2), 0, [], 0, 0, [], [], 0, 0⟩) = [109, 105, 120, 101, 114] ++ behind (ptsW [(t1, t2), (s1, s2)]) := by simp [restW, nameT, mixerT, ptsW]
     simp only [modC]
     generalize behind (ptsW [(t1, t2), (s1, s2)]) = X at *
     have q : (5 + X.length ≤ 4611686018427387904) = True := eq_true (by simp at lb; omega)
     try simp -dsimp (maxSteps := 1000000) only [go_sem, List.forall_mem_nil, ↓reduceIte, Nat.reduceEqDiff, Nat.reduceLT, Nat.reduceLeDiff, Nat.reduceAdd, Nat.reduceMul, reduceCtorEq, Tryz.f23, ri, zBm, rNames, c9, hfin, rp, zDc, q, zBr, List.size_toArray, List.length_append, List.take_succ_cons, List.take_zero, Nat.reduceAdd, Int.reduceEq, Int.reduceLE, Int.reduceLT, Int.reduceToNat, Bool.not_true]
     repeat' (first
       | ((with_reducible refine sl_i ?_ ?_); focus kernel_rfl)
       | ((with_reducible refine ro_e ?_); kernel_rfl))
   · replace ri := ri _ _ _ _ _ _ _ _ _ _ _ _ _ e
     subst e
     rw [hv] at ri
     have rp := zBo hw.level
     have lb := zCt hw.level
     simp only at rp lb
     have hfin : nameT 3 ++ behind (restW ⟨3, (0, 0), (0, 0), l, [], 0, 0, [], [], 0, 0⟩) = [103, 97, 105, 110] ++ 32 :: sglT l := by simp [restW, nameT, gainT, behind]
     simp only [modC]
     generalize sglT l = X at *
     have q0 : (1 + X.length ≤ 4611686018427387904) = True := eq_true (by omega)
     have q : (4 + (X.length + 1) ≤ 4611686018427387904) = True := eq_true (by omega)
     try simp -dsimp (maxSteps := 1000000) only [go_sem, List.forall_mem_nil, ↓reduceIte, Nat.reduceEqDiff, Nat.reduceLT, Nat.reduceLeDiff, Nat.reduceAdd, Nat.reduceMul, reduceCtorEq, Tryz.f23, ri, zBm, rNames, c9, hfin, rp, q0, q, zBr, List.size_toArray, List.length_append, List.take_succ_cons, List.take_zero, Nat.reduceAdd, Int.reduceEq, Int.reduceLE, Int.reduceLT, Int.reduceToNat, Bool.not_true]
     repeat' (first
       | ((with_reducible refine sl_i ?_ ?_); focus kernel_rfl)
       | ((with_reducible refine ro_e ?_); kernel_rfl))
   · replace ri := ri _ _ _ _ _ _ _ _ _ _ _ _ _ e
     subst e
     rw [hv] at ri
     have hst := ok.store
     simp only at hst
     have ra : zCj.run [.c (.im (.sl 1 [[.int .i64 a]]))] [] = some (.one { val := .c (.im (.str ⟨(behind [Lib.itoa a]).toArray⟩)) }) := zEg (l := [a]) (by simp [sm]) (by simp; exact hrat)
     have rp := zCo hst hw.store
     have la := zCg [a] (by simp; exact hrat)
     have lb := zBq st hw.store
     simp only [List.map_cons, List.map_nil] at la
     have hfin : nameT 4 ++ behind (restW ⟨4, (0, 0), (0, 0), 0, st, a, (st.length : Int), [], [], 0, 0⟩) = [100, 101, 108, 97, 121] ++ (behind [Lib.itoa a] ++ behind (ptsW st)) := by simp [restW, nameT, delayT, behind]
     simp only [modC]
     generalize behind [Lib.itoa a] = A at *
     generalize behind (ptsW st) = X at *
     have q0 : (A.length + X.length ≤ 4611686018427387904) = True := eq_true (by simp at la; omega)
     have q : (5 + (A.length + X.length) ≤ 4611686018427387904) = True := eq_true (by simp at la; omega)
     try simp -dsimp (maxSteps := 1000000) only [go_sem, List.forall_mem_nil, ↓reduceIte, Nat.reduceEqDiff, Nat.reduceLT, Nat.reduceLeDiff, Nat.reduceAdd, Nat.reduceMul, reduceCtorEq, Tryz.f23, ri, zBm, rNames, c9, hfin, ra, rp, zEs, zDc, q0, q, zBr, List.size_toArray, List.length_append, List.take_succ_cons, List.take_zero, Nat.reduceAdd, Int.reduceEq, Int.reduceLE, Int.reduceLT, Int.reduceToNat, Bool.not_true]
     repeat' (first
       | ((with_reducible refine sl_i ?_ ?_); focus kernel_rfl)
       | ((with_reducible refine ro_i ?_ ?_); focus kernel_rfl)
       | ((with_reducible refine ro_e ?_); kernel_rfl))
   · replace ri := ri _ _ _ _ _ _ _ _ _ _ _ _ _ e
     subst e
     rw [hv] at ri
     have hfin : nameT 5 ++ behind (restW ⟨5, (0, 0), (0, 0), 0, [], 0, 0, [], [], 0, 0⟩) = [115, 117, 109] := by simp [restW, nameT, sumT, behind]
     simp only [modC]
     try simp -dsimp (maxSteps := 1000000) only [go_sem, List.forall_mem_nil, ↓reduceIte, Nat.reduceEqDiff, Nat.reduceLT, Nat.reduceLeDiff, Nat.reduceAdd, Nat.reduceMul, reduceCtorEq, Tryz.f23, ri, zBm, rNames, c9, hfin, c9, zBr, List.size_toArray, List.length_append, List.take_succ_cons, List.take_zero, Nat.reduceAdd, Int.reduceEq, Int.reduceLE, Int.reduceLT, Int.reduceToNat, Bool.not_true]
     repeat' (first
       | ((with_reducible refine sl_i ?_ ?_); focus kernel_rfl)
       | ((with_reducible refine ro_e ?_); kernel_rfl))
   · replace ri := ri _ _ _ _ _ _ _ _ _ _ _ _ _ e
     subst e
     rw [hv] at ri
     have hpl := ok.pts
     have hll := ok.lab
     simp only at hpl hll
     simp only [isTableF, Bool.and_eq_true, decide_eq_true_eq] at ht
     have hpeq := ht.1
     have hw2 := hw.pts
     simp only at hw2 hlab hcnt
     have ra : zCj.run [.c (.im (.sl 1 [[.int .i64 c]]))] [] = some (.one { val := .c (.im (.str ⟨(behind [Lib.itoa c]).toArray⟩)) }) := zEg (l := [c]) (by simp [sm]) (by simp; exact hcnt)
     have la := zCg [c] (by simp; exact hcnt)
     simp only [List.map_cons, List.map_nil] at la
     have hfin : nameT 6 ++ behind (restW ⟨6, (0, 0), (0, 0), 0, [], 0, 0, pts, lab, c, 0⟩) = [115, 108, 105, 99, 101, 114] ++ behind [Lib.itoa c] ++ behind (tabW pts lab) := by simp [restW, nameT, slicerT, behind]
     simp only [modC]
     clear ht hv hT
     have hT2 : behind (tabW (pts.take pts.length) (lab.take pts.length)) = behind (tabW pts lab) := by rw [List.take_length, hpeq, List.take_length]
     generalize behind [Lib.itoa c] = A at *
     have q : (6 + A.length ≤ 4611686018427387904) = True := eq_true (by simp at la; omega)
     try simp -dsimp (maxSteps := 1000000) only [go_sem, List.forall_mem_nil, ↓reduceIte, Nat.reduceEqDiff, Nat.reduceLT, Nat.reduceLeDiff, Nat.reduceAdd, Nat.reduceMul, reduceCtorEq, Tryz.f23, ri, zBm, rNames, c9, ra, zEs, q, zAa, zBr, List.size_toArray, List.length_append, List.take_succ_cons, List.take_zero, Nat.reduceAdd, Int.reduceEq, Int.reduceLE, Int.reduceLT, Int.reduceToNat, Bool.not_true]
     repeat' (first
       | ((with_reducible refine sl_i ?_ ?_); focus kernel_rfl)
       | ((with_reducible refine ro_i ?_ ?_); focus kernel_rfl))
     refine zBc (ι := { k : Nat // k ≤ pts.length }) (fun k => ⟨[(1, some (.c (.ptr 0 0 0 0))), (3, some (.c (.im (.str ⟨([115, 108, 105, 99, 101, 114] ++ A ++ behind (tabW (pts.take k.1) (lab.take k.1))).toArray⟩)))), (60, some (.c (.im (.sl 1 (rowsZ pts))))), (61, some (.c (.im (.int .i64 (pts.length : Int))))), (62, some (.c (.im (.int .i64 (k.1 : Int)))))],
       [(0, some (.box [.t (.im (.int .i64 6)), .t (.im (.cpx .f32 0 0)), .t (.im (.cpx .f32 0 0)), .t (.im (.flt .f32 0)), .t (.im (.sl 1 (rowsZ []))), .t (.im (.int .i64 0)), .t (.im (.int .i64 0)), .t (.im (.sl 1 (rowsZ pts))), .t (.im (.sl 1 (rowsN lab))), .t (.im (.int .i64 c)), .t (.im (.int .i64 0))]))], 1⟩) (fun k => pts.length - k.1) ⟨0, by simp⟩ ⟨[], [0], by ((simp only [go_sem, eq_self, MvRb, MvRn, MvRt, List.nodup_cons, List.nodup_nil, ↓reduceIte, Nat.reduceEqDiff, Nat.reduceLT, Nat.reduceLeDiff, reduceCtorEq, List.forall_mem_nil, Nat.zero_le, false_implies, List.mem_singleton, List.take_zero, tabW, behind, List.flatMap_nil, List.append_nil]) <;> (try (simp -dsimp only [go_sem, eq_self, MvRb, MvRn, MvRt, List.nodup_cons, List.nodup_nil, ↓reduceIte, Nat.reduceEqDiff, Nat.reduceLT, Nat.reduceLeDiff, reduceCtorEq, List.forall_mem_nil, Nat.zero_le, false_implies, List.mem_singleton, List.take_zero, tabW, behind, List.flatMap_nil, List.append_nil]))) <;> simp [lk, zCb]⟩ (fun ⟨k, hk⟩ => ?_)
     simp only
     by_cases hlt : k < pts.length
     · obtain ⟨⟨u, v⟩, hp⟩ : ∃ p, pts[k]? = some p := ⟨_, List.getElem?_eq_getElem hlt⟩
       obtain ⟨n, hn⟩ : ∃ p, lab[k]? = some p := ⟨lab[k]'(by omega), List.getElem?_eq_getElem (by omega)⟩
       have hrow := zCl hp
       have hrow2 := zGi hn
       have hI : ((k : Int) < (pts.length : Int)) = True := eq_true (by omega)
       have hI2 : ((k : Int) < (lab.length : Int)) = True := eq_true (by omega)
       have h0 : (0 ≤ (k : Int)) = True := eq_true (by omega)
       have hwr := lt_sm hpl hlt
       have w1 := hw2 _ (List.mem_of_getElem? hp)
       have i1 := hlab n (List.mem_of_getElem? hn)
       have rp : zCa.run [.c (.im (.sl 1 [[.cpx .f32 u v]]))] [] = some (.one { val := .c (.im (.str ⟨(behind (ptsW [(u, v)])).toArray⟩)) }) := zCo (l := [(u, v)]) (by simp [sm]) (by simp; exact w1)
       have rn : zCj.run [.c (.im (.sl 1 [[.int .i64 n]]))] [] = some (.one { val := .c (.im (.str ⟨(behind [Lib.itoa n]).toArray⟩)) }) := zEg (l := [n]) (by simp [sm]) (by simp; exact i1)
       have l1 := zBq [(u, v)] (by simp; exact w1)
       have l2 := zCg [n] (by simp; exact i1)
       simp only [List.map_cons, List.map_nil] at l2
       have l3 := tabW_len (pts.take k) (lab.take k) (fun p hp => hw2 p (List.mem_of_mem_take hp)) (fun p hp => hlab p (List.mem_of_mem_take hp))
       have l4 : (pts.take k).length ≤ pts.length := by rw [List.length_take]; omega
       have hsn : [115, 108, 105, 99, 101, 114] ++ A ++ behind (tabW (pts.take (k + 1)) (lab.take (k + 1))) = [115, 108, 105, 99, 101, 114] ++ A ++ behind (tabW (pts.take k) (lab.take k)) ++ (behind (ptsW [(u, v)]) ++ behind [Lib.itoa n]) := by
         rw [tabW_snoc hpeq hp hn, zDz]
         simp [behind, ptsW, ptW]
       generalize behind (ptsW [(u, v)]) = X at *
       generalize behind [Lib.itoa n] = Y at *
       generalize hO : [115, 108, 105, 99, 101, 114] ++ A ++ behind (tabW (pts.take k) (lab.take k)) = O at *
       have lO : O.length ≤ 6 + A.length + 120 * pts.length := by rw [← hO]; simp only [List.length_append, List.length_cons, List.length_nil]; omega
       have q0 : (X.length + Y.length ≤ 4611686018427387904) = True := eq_true (by simp at l1 l2; omega)
       have q1 : (O.length + (X.length + Y.length) ≤ 4611686018427387904) = True := eq_true (by simp at l1 l2 la; omega)
       try simp -dsimp (maxSteps := 1000000) only [go_sem, List.forall_mem_nil, ↓reduceIte, Nat.reduceEqDiff, Nat.reduceLT, Nat.reduceLeDiff, Nat.reduceAdd, Nat.reduceMul, reduceCtorEq, Tryz.f23, hI, hI2, h0, Int.toNat_natCast, hrow, hrow2, hwr, rp, rn, zDc, zEs, q0, q1, zAa, zAb, zBr, List.size_toArray, List.length_append, List.take_succ_cons, List.take_zero, Nat.reduceAdd]
       repeat' (first
         | ((with_reducible refine sl_i ?_ ?_); focus kernel_rfl)
         | ((with_reducible refine ro_i ?_ ?_); focus kernel_rfl))
       refine ⟨⟨k + 1, by omega⟩, by simp only []; omega, [], [0], ?_⟩
       ((simp only [go_sem, eq_self, MvRb, MvRn, MvRt, List.nodup_cons, List.nodup_nil, ↓reduceIte, Nat.reduceEqDiff, Nat.reduceLT, Nat.reduceLeDiff, reduceCtorEq, List.forall_mem_nil, Nat.zero_le, false_implies, List.mem_singleton]) <;> (try (simp -dsimp only [go_sem, eq_self, MvRb, MvRn, MvRt, List.nodup_cons, List.nodup_nil, ↓reduceIte, Nat.reduceEqDiff, Nat.reduceLT, Nat.reduceLeDiff, reduceCtorEq, List.forall_mem_nil, Nat.zero_le, false_implies, List.mem_singleton])))
       all_goals simp [lk, zCb]
       simpa using hsn.symm
     · have hI : ((k : Int) < (pts.length : Int)) = False := eq_false (by omega)
       have hke : k = pts.length := by omega
       subst hke
       rw [hT2]
       try simp -dsimp (maxSteps := 1000000) only [go_sem, List.forall_mem_nil, ↓reduceIte, Nat.reduceEqDiff, Nat.reduceLT, Nat.reduceLeDiff, Nat.reduceAdd, Nat.reduceMul, reduceCtorEq, Tryz.f23, hI, hfin]
   · replace ri := ri _ _ _ _ _ _ _ _ _ _ _ _ _ e
     subst e
     rw [hv] at ri
     have rp := zBo hw.level
     have lb := zCt hw.level
     simp only at rp lb
     have hfin : nameT 7 ++ behind (restW ⟨7, (0, 0), (0, 0), l, [], 0, 0, [], [], 0, 0⟩) = [109, 101, 116, 101, 114] ++ 32 :: sglT l := by simp [restW, nameT, meterT, behind]
     simp only [modC]
     generalize sglT l = X at *
     have q0 : (1 + X.length ≤ 4611686018427387904) = True := eq_true (by omega)
     have q : (5 + (X.length + 1) ≤ 4611686018427387904) = True := eq_true (by omega)
     try simp -dsimp (maxSteps := 1000000) only [go_sem, List.forall_mem_nil, ↓reduceIte, Nat.reduceEqDiff, Nat.reduceLT, Nat.reduceLeDiff, Nat.reduceAdd, Nat.reduceMul, reduceCtorEq, Tryz.f23, ri, zBm, rNames, c9, hfin, rp, q0, q, zBr, List.size_toArray, List.length_append, List.take_succ_cons, List.take_zero, Nat.reduceAdd, Int.reduceEq, Int.reduceLE, Int.reduceLT, Int.reduceToNat, Bool.not_true]
     repeat' (first
       | ((with_reducible refine sl_i ?_ ?_); focus kernel_rfl)
       | ((with_reducible refine ro_e ?_); kernel_rfl))
   · replace ri := ri _ _ _ _ _ _ _ _ _ _ _ _ _ e
     subst e
     rw [hv] at ri
     have ra : zCj.run [.c (.im (.sl 1 [[.int .i64 c], [.int .i64 l]]))] [] = some (.one { val := .c (.im (.str ⟨(behind [Lib.itoa c, Lib.itoa l]).toArray⟩)) }) := zEg (l := [c, l]) (by simp [sm]) (by simp; exact ⟨hcnt, hlft⟩)
     have rp : zCa.run [.c (.im (.sl 1 [[.cpx .f32 s1 s2]]))] [] = some (.one { val := .c (.im (.str ⟨(behind (ptsW [(s1, s2)])).toArray⟩)) }) := zCo (l := [(s1, s2)]) (by simp [sm]) (by simp; exact hw.state)
     have la := zCg [c, l] (by simp; exact ⟨hcnt, hlft⟩)
     have lb := zBq [(s1, s2)] (by simp; exact hw.state)
     simp only [List.map_cons, List.map_nil] at la
     have hfin : nameT 8 ++ behind (restW ⟨8, (0, 0), (s1, s2), 0, [], 0, 0, [], [], c, l⟩) = [104, 111, 108, 100] ++ (behind [Lib.itoa c, Lib.itoa l] ++ behind (ptsW [(s1, s2)])) := by simp [restW, nameT, holdT, behind, ptsW]
     simp only [modC]
     generalize behind [Lib.itoa c, Lib.itoa l] = A at *
     generalize behind (ptsW [(s1, s2)]) = X at *
     have q0 : (A.length + X.length ≤ 4611686018427387904) = True := eq_true (by simp at la lb; omega)
     have q : (4 + (A.length + X.length) ≤ 4611686018427387904) = True := eq_true (by simp at la lb; omega)
     try simp -dsimp (maxSteps := 1000000) only [go_sem, List.forall_mem_nil, ↓reduceIte, Nat.reduceEqDiff, Nat.reduceLT, Nat.reduceLeDiff, Nat.reduceAdd, Nat.reduceMul, reduceCtorEq, Tryz.f23, ri, zBm, rNames, c9, hfin, ra, rp, zEs, zDc, q0, q, zBr, List.size_toArray, List.length_append, List.take_succ_cons, List.take_zero, Nat.reduceAdd, Int.reduceEq, Int.reduceLE, Int.reduceLT, Int.reduceToNat, Bool.not_true]
     repeat' (first
       | ((with_reducible refine sl_i ?_ ?_); focus kernel_rfl)
       | ((with_reducible refine ro_i ?_ ?_); focus kernel_rfl)
       | ((with_reducible refine ro_e ?_); kernel_rfl))
end Go.SX
namespace Go.SX
open Go Go.Proofs Ieee
theorem zCe {m : Nat} {e : Int} (h : Dr m e) : dW m e = ((m.log2 : Int) + e + 1022).toNat * 4503599627370496 + m * 2 ^ (52 - m.log2) ∧ 4503599627370496 ≤ m * 2 ^ (52 - m.log2) ∧ m * 2 ^ (52 - m.log2) < 9007199254740992 ∧ m.log2 ≤ 52 := by
 have h0 := h.pos
 have hl : m.log2 ≤ 52 := zBn h0 (show m < 2 ^ (52 + 1) from h.lt)
 have hlo := h.lo
 have hhi := h.hi
 have g1 : 4503599627370496 ≤ m * 2 ^ (52 - m.log2) := by
   calc 4503599627370496 = 2 ^ m.log2 * 2 ^ (52 - m.log2) := by rw [← Nat.pow_add, show m.log2 + (52 - m.log2) = 52 by omega]
     _ ≤ _ := Nat.mul_le_mul_right _ (Nat.log2_self_le (Nat.ne_of_gt h0))
 have g2 : m * 2 ^ (52 - m.log2) < 9007199254740992 := by
   calc m * 2 ^ (52 - m.log2) < 2 ^ (m.log2 + 1) * 2 ^ (52 - m.log2) := Nat.mul_lt_mul_of_pos_right (Nat.lt_log2_self) (Nat.two_pow_pos _)
     _ = 9007199254740992 := by rw [← Nat.pow_add, show m.log2 + 1 + (52 - m.log2) = 53 by omega]
 have hc : Can double (m * 2 ^ (52 - m.log2)) (e - (52 - m.log2 : Nat)) := ⟨by omega, g2, by rw [ep2]; omega, .inr g1⟩
 have hsv := SV.shl m e (52 - m.log2)
 refine ⟨?_, g1, g2, hl⟩
 have hr : (e - ((52 - m.log2 : Nat) : Int) - double.leastPlace).toNat = ((m.log2 : Int) + e + 1022).toNat := by rw [ep2]; omega
 rw [dW, zBs hc hsv, hr, bn2, Nat.min_eq_left]
 · rfl
 · rw [ir2]; omega
theorem zHp {m : Nat} {e : Int} (h : Dr m e) : double.read (dW m e) = .number false (m * 2 ^ (52 - m.log2)) (e - (52 - m.log2 : Nat)) := by
 obtain ⟨e1, g1, g2, hl⟩ := zCe h
 have hlo := h.lo
 have hhi := h.hi
 have hc : Can double (m * 2 ^ (52 - m.log2)) (e - (52 - m.log2 : Nat)) := ⟨by omega, g2, by rw [ep2]; omega, .inr g1⟩
 obtain ⟨k1, k2⟩ := can_back hc
 have hr : (e - ((52 - m.log2 : Nat) : Int) - double.leastPlace).toNat = ((m.log2 : Int) + e + 1022).toNat := by rw [ep2]; omega
 rw [hr, bn2, ← e1] at k1 k2
 have hlt : dW m e < double.infRung := by rw [e1, ir2]; omega
 have := zCq (f := double) (by decide) hlt false
 have hw : double.word false (dW m e) = dW m e := by simp [Format.word]
 rw [k1, k2, hw] at this
 exact this
theorem dW_lt {m : Nat} {e : Int} (h : Dr m e) : dW m e < 9223372036854775808 := by
 obtain ⟨e1, g1, g2, hl⟩ := zCe h
 have hlo := h.lo
 have hhi := h.hi
 rw [e1]; omega
theorem dW_nan {m : Nat} {e : Int} (h : Dr m e) : isNaNb .f64 (dW m e) = false := by
 unfold isNaNb
 have : FloatKind.f64.format.read (dW m e) = .number false (m * 2 ^ (52 - m.log2)) (e - (52 - m.log2 : Nat)) := zHp h
 rw [this]; rfl
theorem dW_order0 {m : Nat} {e : Int} (h : Dr m e) : double.order (dW m e) 0 = some .gt := by
 have h0 : double.read 0 = .number false 0 (-1074) := by decide
 unfold Format.order
 rw [zHp h, h0]
 simp only [Datum.order]
 obtain ⟨e1, g1, g2, hl⟩ := zCe h
 have hp : 0 < (m * 2 ^ (52 - m.log2)) * 2 ^ (e - ((52 - m.log2 : Nat) : Int) - min (e - ((52 - m.log2 : Nat) : Int)) (-1074)).toNat := Nat.mul_pos (by omega) (Nat.two_pow_pos _)
 have h1 : signed false (m * 2 ^ (52 - m.log2)) (e - ((52 - m.log2 : Nat) : Int) - min (e - ((52 - m.log2 : Nat) : Int)) (-1074)).toNat = (((m * 2 ^ (52 - m.log2)) * 2 ^ (e - ((52 - m.log2 : Nat) : Int) - min (e - ((52 - m.log2 : Nat) : Int)) (-1074)).toNat : Nat) : Int) := by simp [signed, zCu]
 have h2 : ∀ k, signed false 0 k = 0 := fun k => by simp [signed]
 rw [h1, h2]
 generalize (m * 2 ^ (52 - m.log2)) * 2 ^ (e - ((52 - m.log2 : Nat) : Int) - min (e - ((52 - m.log2 : Nat) : Int)) (-1074)).toNat = X at hp
 have : compare ((X : Nat) : Int) 0 = .gt := by
   have a : ¬ ((X : Int) < 0) := by omega
   have b : ¬ ((X : Int) = 0) := by omega
   have b' : ¬ (X = 0) := by omega
   simp [compare, compareOfLessAndEq, b']
 rw [this]
theorem dW_eq0 {m : Nat} {e : Int} (h : Dr m e) : fcmp .eql .f64 (dW m e) 0 = false := by
 show (double.order (dW m e) 0 == some .eq) = false
 rw [dW_order0 h]; rfl
theorem dW_neq {m : Nat} {e : Int} (h : Dr m e) : fcmp .neq .f64 (dW m e) (dW m e) = false := by
 show (double.order (dW m e) (dW m e) != some .eq) = false
 unfold Format.order
 rw [zHp h]
 simp only [Datum.order, Int.min_self, cmp_self]; rfl
theorem dW_max {m : Nat} {e : Int} (h : Dr m e) : fcmp .gtr .f64 (dW m e) 9218868437227405311 = false := by
 obtain ⟨e1, g1, g2, hl⟩ := zCe h
 exact gtr_max (zHp h) g2 (by have := h.hi; omega)
theorem dW_small {m : Nat} {e : Int} (h : Dr m e) : fcmp .lss .f64 (dW m e) 4503599627370496 = false := by
 have hc : double.read 4503599627370496 = .number false 4503599627370496 (-1074) := by decide +kernel
 show (double.order (dW m e) 4503599627370496 == some .lt) = false
 unfold Format.order
 rw [zHp h, hc]
 simp only [Datum.order]
 obtain ⟨e1, g1, g2, hl⟩ := zCe h
 have hlo := h.lo
 have hb : min (e - ((52 - m.log2 : Nat) : Int)) (-1074) = -1074 := by omega
 rw [hb]
 have e0 : (-1074 - -1074 : Int).toNat = 0 := rfl
 rw [e0]
 obtain ⟨k, hk⟩ : ∃ k, (e - ((52 - m.log2 : Nat) : Int) - -1074).toNat = k := ⟨_, rfl⟩
 rw [hk]
 have h1 : signed false (m * 2 ^ (52 - m.log2)) k = ((m * 2 ^ (52 - m.log2) * 2 ^ k : Nat) : Int) := by simp [signed, zCu]
 have h2 : signed false 4503599627370496 0 = 4503599627370496 := rfl
 rw [h1, h2]
 have h3 : m * 2 ^ (52 - m.log2) * 1 ≤ m * 2 ^ (52 - m.log2) * 2 ^ k := Nat.mul_le_mul_left _ (Nat.two_pow_pos k)
 generalize m * 2 ^ (52 - m.log2) * 2 ^ k = X at h3
 have hn : ¬ ((X : Int) < 4503599627370496) := by omega
 have : compare ((X : Nat) : Int) 4503599627370496 ≠ .lt := by
   simp only [compare, compareOfLessAndEq, hn, if_false]
   split <;> simp
 cases hcmp : compare ((X : Nat) : Int) 4503599627370496 with
 | lt => exact absurd hcmp this
 | eq => rfl
 | gt => rfl
theorem one_mul64 {m : Nat} {e : Int} (h : Dr m e) : fop .mul .f64 4607182418800017408 (dW m e) = dW m e := by
 have h1 : double.read 4607182418800017408 = .number false 4503599627370496 (-52) := by decide +kernel
 have e2 : double.mul 4607182418800017408 (dW m e) = some (dW m e) := by
   unfold Format.mul
   rw [h1, zHp h]
   simp only [Datum.product, Option.map_some, Format.write, Bool.false_xor]
   congr 1
   refine near_dW h ?_
   have a : SV m e (m * 2 ^ (52 - m.log2)) (e - (52 - m.log2 : Nat)) := SV.shl m e _
   have b : SV 1 0 4503599627370496 (-52) := SV.shl 1 0 52
   have := SV.mul b a
   rw [Nat.one_mul, Int.zero_add] at this
   exact this
 show (double.mul 4607182418800017408 (dW m e)).getD _ = _
 rw [e2]; rfl
theorem shr52 {m : Nat} {e : Int} (h : Dr m e) : ((dW m e : Nat) : Int).fdiv (2 ^ min (Int.toNat 52) 64) = (m.log2 : Int) + e + 1023 := by
 obtain ⟨e1, g1, g2, hl⟩ := zCe h
 have hlo := h.lo
 have h0 : (0 : Int) ≤ 2 ^ 52 := by decide
 show ((dW m e : Nat) : Int).fdiv (2 ^ 52) = _
 rw [Int.fdiv_eq_ediv_of_nonneg _ h0, e1]
 generalize m * 2 ^ (52 - m.log2) = M at g1 g2
 have : (2 : Int) ^ 52 = 4503599627370496 := by decide
 rw [this]
 omega
theorem andNot52 {x : Nat} (h : x < 9223372036854775808) : bitsI .andNot .u64 (x : Int) 9218868437227405312 = ((x % 4503599627370496 : Nat) : Int) := by
 have h1 : (BitVec.ofInt 64 (x : Int) &&& ~~~BitVec.ofInt 64 9218868437227405312).toNat = x % 4503599627370496 := by
   rw [BitVec.toNat_and]
   have e1 : (BitVec.ofInt 64 (x : Int)).toNat = x := by simp; omega
   have e2 : (~~~BitVec.ofInt 64 9218868437227405312).toNat = 2 ^ 63 ||| (2 ^ 52 - 1) := by decide
   rw [e1, e2, Nat.and_or_distrib_left, Nat.and_two_pow_sub_one_eq_mod]
   have hb : x.testBit 63 = false := Nat.testBit_lt_two_pow h
   have h0 : x &&& 2 ^ 63 = 0 := by
     apply Nat.eq_of_testBit_eq
     intro i
     rw [Nat.testBit_and, Nat.testBit_two_pow, Nat.zero_testBit]
     by_cases e : 63 = i
     · subst e; simp [hb]
     · simp [e]
   rw [h0, Nat.zero_or]
 show IntKind.u64.wrap _ = _
 rw [show (IntKind.u64.bits) = 64 from rfl, h1]
 show (((x % 4503599627370496 : Nat) : Int) % 18446744073709551616) = _
 omega
theorem or52 {a k : Nat} (ha : a < 4503599627370496) (hk : k < 2048) : bitsI .or .u64 (a : Int) ((k * 4503599627370496 : Nat) : Int) = ((k * 4503599627370496 + a : Nat) : Int) := by
 have h1 : (BitVec.ofInt 64 (a : Int) ||| BitVec.ofInt 64 ((k * 4503599627370496 : Nat) : Int)).toNat = k * 4503599627370496 + a := by
   rw [BitVec.toNat_or]
   have e1 : (BitVec.ofInt 64 (a : Int)).toNat = a := by simp; omega
   have e2 : (BitVec.ofInt 64 ((k * 4503599627370496 : Nat) : Int)).toNat = k * 4503599627370496 := by
     rw [BitVec.ofInt_natCast, BitVec.toNat_ofNat]; omega
   rw [e1, e2, Nat.or_comm]
   have := Nat.two_pow_add_eq_or_of_lt (i := 52) (b := a) ha k
   rw [Nat.mul_comm] at this
   exact this.symm
 show IntKind.u64.wrap _ = _
 rw [show (IntKind.u64.bits) = 64 from rfl, h1]
 show (((k * 4503599627370496 + a : Nat) : Int) % 18446744073709551616) = _
 omega
theorem and11 {a : Int} (h0 : 0 ≤ a) (h : a < 2048) : bitsI .and .i64 a 2047 = a := by
 obtain ⟨x, rfl⟩ : ∃ x : Nat, a = x := ⟨a.toNat, by omega⟩
 have h1 : (BitVec.ofInt 64 (x : Int) &&& BitVec.ofInt 64 2047).toNat = x := by
   rw [BitVec.toNat_and]
   have e1 : (BitVec.ofInt 64 (x : Int)).toNat = x := by simp; omega
   have e2 : (BitVec.ofInt 64 2047).toNat = 2 ^ 11 - 1 := by decide
   rw [e1, e2, Nat.and_two_pow_sub_one_eq_mod]
   omega
 show IntKind.i64.wrap _ = _
 rw [show (IntKind.i64.bits) = 64 from rfl, h1]
 exact zAh (by omega) (by omega)
abbrev N64 := { x : Nat // isNaNb .f64 x = false }
noncomputable def ct_bits64 : Ct := fam true (fun x : N64 => ([.c (.im (.flt .f64 x.1))], [])) (fun x => .one { val := .c (.im (.int .u64 x.1)) })
theorem run_bits64 {x : Nat} (h : isNaNb .f64 x = false) : ct_bits64.run [.c (.im (.flt .f64 x))] [] = some (.one { val := .c (.im (.int .u64 x)) }) := by
 refine zAd (args := fun x : N64 => ([D.c (.im (.flt .f64 x.1))], [])) ?_ ⟨x, h⟩
 rintro ⟨a, _⟩ ⟨b, _⟩ h
 simp only [Prod.mk.injEq, List.cons.injEq, D.c.injEq, C.im.injEq, I.flt.injEq, true_and, and_true] at h
 exact Subtype.ext h
theorem law_bits64 : ExtLaw Tryz.prog 252 ct_bits64 := by
 refine fam_ext (fun ⟨x, hx⟩ => ⟨rfl, by simp [scI], fun fz vs w hl hv => ?_⟩)
 match vs, hl with
 | [v], _ =>
   have h1 := hv 0 _ v rfl rfl
   obtain ⟨y, rfl, he⟩ := h1.flt_inv
   rcases he with rfl | ⟨h2, _⟩
   · refine ⟨.int .u64 x, .int .u64 x, ?_, rfl, .int _ _⟩
     rw [run_callFunc_extern (e := Extern.MathFloatBits.float64bits) Tryz.func252 (by kernel_rfl) (by kernel_rfl) (by kernel_rfl) (by kernel_rfl)]
     rfl
   · simp only at h2; rw [hx] at h2; cases h2
noncomputable def zDh : Ct := fam true (fun x : Nat => ([.c (.im (.int .u64 x))], [])) (fun x => .one { val := .c (.im (.flt .f64 x)) })
theorem zCp (x : Nat) : zDh.run [.c (.im (.int .u64 (x : Int)))] [] = some (.one { val := .c (.im (.flt .f64 x)) }) :=
 zAd (fun a b h => by simp only [Prod.mk.injEq, List.cons.injEq, D.c.injEq, C.im.injEq, I.int.injEq] at h; omega) x
theorem zDs : ExtLaw Tryz.prog 240 zDh := by
 refine fam_ext (fun x => ⟨rfl, by simp [scI], fun fz vs w hl hv => ?_⟩)
 match vs, hl with
 | [v], _ =>
   have h1 := hv 0 _ v rfl rfl
   cases h1.int_inv
   refine ⟨.float .f64 x, .flt .f64 x, ?_, rfl, .flt _ _ _ (.inl rfl)⟩
   rw [run_callFunc_extern (e := Extern.MathFloatBits.float64frombits) Tryz.func240 (by kernel_rfl) (by kernel_rfl) (by kernel_rfl) (by kernel_rfl)]
   rfl
end Go.SX
namespace Go.SX
open Go Go.Proofs Ieee
abbrev M24 := { m : Nat // 0 < m ∧ m < 16777216 }
theorem M24.dr (m : M24) : Dr m.1 0 := ⟨m.2.1, by have := m.2.2; omega, by omega, by omega⟩
theorem dW_inj {m n : Nat} (hm : Dr m 0) (hn : Dr n 0) (h : dW m 0 = dW n 0) : m = n := by
 have a := zHp hm
 rw [h, zHp hn] at a
 injection a with _ a1 a2
 have s1 := SV.shl m 0 (52 - m.log2)
 have s2 := SV.shl n 0 (52 - n.log2)
 rw [← a1, ← a2] at s1
 exact (s1.trans s2.symm).eq
noncomputable def ct_Abs : Ct := fam true (fun m : M24 => ([.c (.im (.flt .f64 (dW m.1 0)))], [])) (fun m => .one { val := .c (.im (.flt .f64 (dW m.1 0))) })
theorem run_Abs (m : M24) : ct_Abs.run [.c (.im (.flt .f64 (dW m.1 0)))] [] = some (.one { val := .c (.im (.flt .f64 (dW m.1 0))) }) := by
 refine zFc (args := fun m : M24 => ([D.c (.im (.flt .f64 (dW m.1 0)))], [])) ?_ m
 intro a b h
 simp only [Prod.mk.injEq, List.cons.injEq, D.c.injEq, C.im.injEq, I.flt.injEq, true_and, and_true] at h
 rw [h]
theorem andNot63 {x : Nat} (h : x < 9223372036854775808) : bitsI .andNot .u64 (x : Int) 9223372036854775808 = (x : Int) := by
 have h1 : (BitVec.ofInt 64 (x : Int) &&& ~~~BitVec.ofInt 64 9223372036854775808).toNat = x := by
   rw [BitVec.toNat_and]
   have e1 : (BitVec.ofInt 64 (x : Int)).toNat = x := by simp; omega
   have e2 : (~~~BitVec.ofInt 64 9223372036854775808).toNat = 2 ^ 63 - 1 := by decide
   rw [e1, e2, Nat.and_two_pow_sub_one_eq_mod]
   omega
 show IntKind.u64.wrap _ = _
 rw [show (IntKind.u64.bits) = 64 from rfl, h1]
 show ((x : Int) % 18446744073709551616) = _
 omega
set_option maxRecDepth 100000 in
theorem law_Abs : Law Tryz.prog 204 ct_Abs := by
 refine zAk (zCs law_bits64 (zCs zDs zAf)) hmixA Tryz.func204 rfl rfl (fun m => ⟨zAt rfl, by simp [Tryz.f204], ?_⟩)
 simp only
 have hn := dW_nan m.dr
 have hlt := dW_lt m.dr
 generalize dW m.1 0 = y at *
 try simp -dsimp (maxSteps := 1000000) only [go_sem, List.forall_mem_nil, ↓reduceIte, Nat.reduceEqDiff, Nat.reduceLT, Nat.reduceLeDiff, Nat.reduceAdd, Nat.reduceMul, reduceCtorEq, Tryz.f204, run_bits64 hn, andNot63 hlt, zCp]
noncomputable def ct_IsInf0 : Ct := fam true (fun m : M24 => ([.c (.im (.flt .f64 (dW m.1 0))), .c (.im (.int .i64 0))], [])) (fun m => .one { val := .c (.im (.bool false)) })
theorem run_IsInf0 (m : M24) : ct_IsInf0.run [.c (.im (.flt .f64 (dW m.1 0))), .c (.im (.int .i64 0))] [] = some (.one { val := .c (.im (.bool false)) }) :=
 zFc (args := fun m : M24 => ([D.c (.im (.flt .f64 (dW m.1 0))), .c (.im (.int .i64 0))], [])) (fun _ _ _ => rfl) m
set_option maxRecDepth 100000 in
theorem law_IsInf0 : Law Tryz.prog 144 ct_IsInf0 := by
 refine zAk (zAc law_Abs zAf) hmixA Tryz.func144 rfl rfl (fun m => ⟨zAt rfl, by simp [Tryz.f144], ?_⟩)
 simp only
 have hm := dW_max m.dr
 have ra := run_Abs m
 generalize dW m.1 0 = y at *
 try simp -dsimp (maxSteps := 1000000) only [go_sem, List.forall_mem_nil, ↓reduceIte, Nat.reduceEqDiff, Nat.reduceLT, Nat.reduceLeDiff, Nat.reduceAdd, Nat.reduceMul, reduceCtorEq, Tryz.f144, ra, hm]
noncomputable def ct_IsNaN0 : Ct := fam true (fun m : M24 => ([.c (.im (.flt .f64 (dW m.1 0)))], [])) (fun m => .one { val := .c (.im (.bool false)) })
theorem run_IsNaN0 (m : M24) : ct_IsNaN0.run [.c (.im (.flt .f64 (dW m.1 0)))] [] = some (.one { val := .c (.im (.bool false)) }) :=
 zFc (args := fun m : M24 => ([D.c (.im (.flt .f64 (dW m.1 0)))], [])) (fun _ _ _ => rfl) m
set_option maxRecDepth 100000 in
theorem law_IsNaN0 : Law Tryz.prog 301 ct_IsNaN0 := by
 refine zAk zAf hmixA Tryz.func301 rfl rfl (fun m => ⟨zAt rfl, by simp [Tryz.f301], ?_⟩)
 simp only
 have hm := dW_neq m.dr
 generalize dW m.1 0 = y at *
 try simp -dsimp (maxSteps := 1000000) only [go_sem, List.forall_mem_nil, ↓reduceIte, Nat.reduceEqDiff, Nat.reduceLT, Nat.reduceLeDiff, Nat.reduceAdd, Nat.reduceMul, reduceCtorEq, Tryz.f301, hm]
def oNorm (m : Nat) : Outs := .one { val := .tup [.c (.im (.flt .f64 (dW m 0))), .c (.im (.int .i64 0))] }
noncomputable def ct_normalize : Ct := fam true (fun m : M24 => ([.c (.im (.flt .f64 (dW m.1 0)))], [])) (fun m => oNorm m.1)
theorem run_normalize (m : M24) : ct_normalize.run [.c (.im (.flt .f64 (dW m.1 0)))] [] = some (.one { val := .tup [.c (.im (.flt .f64 (dW m.1 0))), .c (.im (.int .i64 0))] }) := by
 refine zFc (args := fun m : M24 => ([D.c (.im (.flt .f64 (dW m.1 0)))], [])) (out := fun m => oNorm m.1) ?_ m
 intro a b h
 simp only [Prod.mk.injEq, List.cons.injEq, D.c.injEq, C.im.injEq, I.flt.injEq, true_and, and_true] at h
 simp only [oNorm, h]
set_option maxRecDepth 100000 in
theorem law_normalize : Law Tryz.prog 302 ct_normalize := by
 refine zAk (zAc law_Abs zAf) hmixA Tryz.func302 rfl rfl (fun m => ⟨okO ⟨.tup _ (by intro d hd; simp at hd; rcases hd with rfl | rfl <;> exact .inl ⟨_, rfl, zGr rfl⟩), by simp, by simp⟩, by simp [Tryz.f302], ?_⟩)
 simp only [oNorm]
 have hm := dW_small m.dr
 have ra := run_Abs m
 generalize dW m.1 0 = y at *
 try simp -dsimp (maxSteps := 1000000) only [go_sem, List.forall_mem_nil, ↓reduceIte, Nat.reduceEqDiff, Nat.reduceLT, Nat.reduceLeDiff, Nat.reduceAdd, Nat.reduceMul, reduceCtorEq, Tryz.f302, ra, hm]
abbrev ALd := { x : M24 × Int // -200 ≤ x.2 ∧ x.2 ≤ 200 }
theorem ALd.dr (x : ALd) : Dr x.1.1.1 x.1.2 := ⟨x.1.1.2.1, by have := x.1.1.2.2; omega, by have := x.2.1; omega, by have := x.2.2; omega⟩
noncomputable def ct_ldexp : Ct := fam true (fun x : ALd => ([.c (.im (.flt .f64 (dW x.1.1.1 0))), .c (.im (.int .i64 x.1.2))], [])) (fun x => .one { val := .c (.im (.flt .f64 (dW x.1.1.1 x.1.2))) })
theorem ldexp_inj : ∀ a b : ALd, ([D.c (.im (.flt .f64 (dW a.1.1.1 0))), .c (.im (.int .i64 a.1.2))], ([] : List (List B))) = ([D.c (.im (.flt .f64 (dW b.1.1.1 0))), .c (.im (.int .i64 b.1.2))], []) → a = b := by
 rintro ⟨⟨m, e⟩, _⟩ ⟨⟨n, j⟩, _⟩ h
 simp only [Prod.mk.injEq, List.cons.injEq, D.c.injEq, C.im.injEq, I.flt.injEq, I.int.injEq, true_and, and_true] at h
 have := dW_inj m.dr n.dr h.1
 exact Subtype.ext (Prod.ext (Subtype.ext this) h.2)
theorem run_ldexp {m : Nat} {e : Int} (h0 : 0 < m) (h : m < 16777216) (h1 : -200 ≤ e) (h2 : e ≤ 200) : ct_ldexp.run [.c (.im (.flt .f64 (dW m 0))), .c (.im (.int .i64 e))] [] = some (.one { val := .c (.im (.flt .f64 (dW m e))) }) :=
 zAd (args := fun x : ALd => ([D.c (.im (.flt .f64 (dW x.1.1.1 0))), .c (.im (.int .i64 x.1.2))], [])) ldexp_inj ⟨(⟨m, h0, h⟩, e), h1, h2⟩
set_option maxRecDepth 100000 in
set_option maxHeartbeats 4000000 in
theorem law_ldexp : Law Tryz.prog 277 ct_ldexp := by
 refine zAk (zAc law_IsInf0 (zAc law_IsNaN0 (zAc law_normalize (zCs law_bits64 (zCs zDs zAf))))) hmixA Tryz.func277 rfl rfl (fun ⟨⟨m, e⟩, h1, h2⟩ => ⟨zAt rfl, by simp [Tryz.f277], ?_⟩)
 simp only at h1 h2 ⊢
 have hd := m.dr
 have hde : Dr m.1 e := ⟨m.2.1, by have := m.2.2; omega, by omega, by omega⟩
 have hL : m.1.log2 ≤ 23 := log2_lt m.2.2
 have r1 := run_IsInf0 m
 have r2 := run_IsNaN0 m
 have r3 := run_normalize m
 have r4 := run_bits64 (dW_nan hd)
 have z0 := dW_eq0 hd
 have hsh := shr52 hd
 have hone := one_mul64 hde
 have han := andNot52 (dW_lt hd)
 obtain ⟨x1, g1, g2, _⟩ := zCe hd
 obtain ⟨x2, _, _, _⟩ := zCe hde
 obtain ⟨k, hk⟩ : ∃ k : Nat, e + (m.1.log2 : Int) + 1023 = k := ⟨(e + (m.1.log2 : Int) + 1023).toNat, by omega⟩
 have hfin : k * 4503599627370496 + dW m.1 0 % 4503599627370496 = dW m.1 e := by
   rw [x1, x2]
   generalize m.1 * 2 ^ (52 - m.1.log2) = M at g1 g2
   omega
 have hor := or52 (a := dW m.1 0 % 4503599627370496) (k := k) (Nat.mod_lt _ (by omega)) (by omega)
 rw [hfin] at hor
 have hfr := zCp (dW m.1 e)
 rw [show (m.1.log2 : Int) + 0 + 1023 = (m.1.log2 : Int) + 1023 by omega] at hsh
 have w1 : IntKind.i64.wrap (e + 0) = e := by rw [zAh (by omega) (by omega)]; omega
 have w2 : IntKind.i64.wrap ((m.1.log2 : Int) + 1023) = (m.1.log2 : Int) + 1023 := zAh (by omega) (by omega)
 have w3 := and11 (a := (m.1.log2 : Int) + 1023) (by omega) (by omega)
 have w4 : IntKind.i64.wrap ((m.1.log2 : Int) + 1023 - 1023) = (m.1.log2 : Int) := by rw [zAh (by omega) (by omega)]; omega
 have w5 : IntKind.i64.wrap (e + (m.1.log2 : Int)) = e + (m.1.log2 : Int) := zAh (by omega) (by omega)
 have c1 : (e + (m.1.log2 : Int) < -1075) = False := eq_false (by omega)
 have c2 : (1023 < e + (m.1.log2 : Int)) = False := eq_false (by omega)
 have c3 : (e + (m.1.log2 : Int) < -1022) = False := eq_false (by omega)
 have w6 : IntKind.i64.wrap (e + (m.1.log2 : Int) + 1023) = (k : Int) := by rw [hk, zAh (by omega) (by omega)]
 have w7 : IntKind.u64.wrap (k : Int) = (k : Int) := by
   show ((k : Int) % 18446744073709551616) = _
   omega
 have w8 : IntKind.u64.wrap ((k : Int) * 2 ^ min (Int.toNat 52) 64) = ((k * 4503599627370496 : Nat) : Int) := by
   show ((k : Int) * 2 ^ 52 % 18446744073709551616) = _
   have : (2 : Int) ^ 52 = 4503599627370496 := by decide
   rw [this]
   omega
 clear x1 x2 g1 g2 hfin
 generalize (m.1.log2 : Int) = L at *
 generalize dW m.1 e = R at *
 generalize dW m.1 0 = y at *
 generalize hX : y % 4503599627370496 = X at *
 try simp -dsimp (maxSteps := 1000000) only [go_sem, List.forall_mem_nil, ↓reduceIte, Nat.reduceEqDiff, Nat.reduceLT, Nat.reduceLeDiff, Nat.reduceAdd, Nat.reduceMul, reduceCtorEq, Tryz.f277, z0, r1, r2, r3, r4, hsh, w1, w2, w3, w4, w5, c1, c2, c3, han, hX, w6, w7, w8, hor, hfr, hone, Int.reduceLT, Int.reduceNeg]
noncomputable def ct_Ldexp : Ct := fam true (fun x : ALd => ([.c (.im (.flt .f64 (dW x.1.1.1 0))), .c (.im (.int .i64 x.1.2))], [])) (fun x => .one { val := .c (.im (.flt .f64 (dW x.1.1.1 x.1.2))) })
theorem run_Ldexp {m : Nat} {e : Int} (h0 : 0 < m) (h : m < 16777216) (h1 : -200 ≤ e) (h2 : e ≤ 200) : ct_Ldexp.run [.c (.im (.flt .f64 (dW m 0))), .c (.im (.int .i64 e))] [] = some (.one { val := .c (.im (.flt .f64 (dW m e))) }) :=
 zAd (args := fun x : ALd => ([D.c (.im (.flt .f64 (dW x.1.1.1 0))), .c (.im (.int .i64 x.1.2))], [])) ldexp_inj ⟨(⟨m, h0, h⟩, e), h1, h2⟩
set_option maxRecDepth 100000 in
theorem law_Ldexp : Law Tryz.prog 242 ct_Ldexp := by
 refine zAk (zAc law_ldexp zAf) hmixA Tryz.func242 rfl rfl (fun ⟨⟨m, e⟩, h1, h2⟩ => ⟨zAt rfl, by simp [Tryz.f242], ?_⟩)
 simp only at h1 h2 ⊢
 have r := run_ldexp m.2.1 m.2.2 h1 h2
 generalize dW m.1 e = R at *
 generalize dW m.1 0 = y at *
 try simp -dsimp (maxSteps := 1000000) only [go_sem, List.forall_mem_nil, ↓reduceIte, Nat.reduceEqDiff, Nat.reduceLT, Nat.reduceLeDiff, Nat.reduceAdd, Nat.reduceMul, reduceCtorEq, Tryz.f242, r]
noncomputable def ct_mNaN : Ct := fam true (fun _ : Unit => ([], [])) (fun _ => .one { val := .c (.im (.flt .f64 9221120237041090561)) })
theorem run_mNaN : ct_mNaN.run [] [] = some (.one { val := .c (.im (.flt .f64 9221120237041090561)) }) := zAd (args := fun _ : Unit => (([] : List D), [])) (fun _ _ _ => rfl) ()
set_option maxRecDepth 100000 in
theorem law_mNaN : Law Tryz.prog 183 ct_mNaN := by
 refine zAk (zCs zDs zAf) hmixA Tryz.func183 rfl rfl (fun _ => ⟨zAt rfl, by simp [Tryz.f183], ?_⟩)
 simp only
 have r : zDh.run [.c (.im (.int .u64 9221120237041090561))] [] = some (.one { val := .c (.im (.flt .f64 9221120237041090561)) }) := zCp 9221120237041090561
 try simp -dsimp (maxSteps := 1000000) only [go_sem, List.forall_mem_nil, ↓reduceIte, Nat.reduceEqDiff, Nat.reduceLT, Nat.reduceLeDiff, Nat.reduceAdd, Nat.reduceMul, reduceCtorEq, Tryz.f183, r]
noncomputable def ct_mInf : Ct := fam true (fun b : Bool => ([.c (.im (.int .i64 (if b then 1 else -1)))], [])) (fun b => .one { val := .c (.im (.flt .f64 (if b then 9218868437227405312 else 18442240474082181120))) })
theorem mInf_inj : ∀ a b : Bool, ([D.c (.im (.int .i64 (if a then 1 else -1)))], ([] : List (List B))) = ([D.c (.im (.int .i64 (if b then 1 else -1)))], []) → a = b := by
 intro a b h
 simp only [Prod.mk.injEq, List.cons.injEq, D.c.injEq, C.im.injEq, I.int.injEq, true_and, and_true] at h
 cases a <;> cases b <;> simp at h ⊢
theorem run_mInf1 : ct_mInf.run [.c (.im (.int .i64 1))] [] = some (.one { val := .c (.im (.flt .f64 9218868437227405312)) }) := zAd (args := fun b : Bool => ([D.c (.im (.int .i64 (if b then 1 else -1)))], [])) mInf_inj true
theorem run_mInf2 : ct_mInf.run [.c (.im (.int .i64 (-1)))] [] = some (.one { val := .c (.im (.flt .f64 18442240474082181120)) }) := zAd (args := fun b : Bool => ([D.c (.im (.int .i64 (if b then 1 else -1)))], [])) mInf_inj false
set_option maxRecDepth 100000 in
theorem law_mInf : Law Tryz.prog 184 ct_mInf := by
 refine zAk (zCs zDs zAf) hmixA Tryz.func184 rfl rfl (fun b => ⟨zAt rfl, by simp [Tryz.f184], ?_⟩)
 have r1 : zDh.run [.c (.im (.int .u64 9218868437227405312))] [] = some (.one { val := .c (.im (.flt .f64 9218868437227405312)) }) := zCp 9218868437227405312
 have r2 : zDh.run [.c (.im (.int .u64 18442240474082181120))] [] = some (.one { val := .c (.im (.flt .f64 18442240474082181120)) }) := zCp 18442240474082181120
 cases b with
 | true =>
   simp only [if_true]
   try simp -dsimp (maxSteps := 1000000) only [go_sem, List.forall_mem_nil, ↓reduceIte, Nat.reduceEqDiff, Nat.reduceLT, Nat.reduceLeDiff, Nat.reduceAdd, Nat.reduceMul, reduceCtorEq, Tryz.f184, r1, Int.reduceLE]
 | false =>
   simp only [Bool.false_eq_true, if_false]
   try simp -dsimp (maxSteps := 1000000) only [go_sem, List.forall_mem_nil, ↓reduceIte, Nat.reduceEqDiff, Nat.reduceLT, Nat.reduceLeDiff, Nat.reduceAdd, Nat.reduceMul, reduceCtorEq, Tryz.f184, r2, Int.reduceLE, Int.reduceNeg]
end Go.SX
namespace Go.SX
open Go Go.Proofs Ieee
theorem zDp (l : Txt) (a b : Nat) : (⟨l.toArray⟩ : ByteArray).extract a b = ⟨((l.take b).drop a).toArray⟩ := by
 apply ByteArray.ext
 rw [ByteArray.data_extract]
 simp [List.extract_eq_take_drop, List.drop_take]
def cutP (c : UInt8) : Txt → Txt × Bool
 | [] => ([], false)
 | b :: t => if b = c then (t, true) else (b :: t, false)
noncomputable def ct_HasPrefix : Ct := fam true (fun x : SB => ([.c (.im (.str ⟨x.1.1.toArray⟩)), .c (.im (.str ⟨#[x.1.2]⟩))], [])) (fun x => .one { val := .c (.im (.bool (cutP x.1.2 x.1.1).2)) })
theorem SB_inj : ∀ a b : SB, ([D.c (.im (.str ⟨a.1.1.toArray⟩)), .c (.im (.str ⟨#[a.1.2]⟩))], ([] : List (List B))) = ([D.c (.im (.str ⟨b.1.1.toArray⟩)), .c (.im (.str ⟨#[b.1.2]⟩))], []) → a = b := by
 rintro ⟨⟨a, b⟩, _⟩ ⟨⟨a', b'⟩, _⟩ h
 simp only [Prod.mk.injEq, List.cons.injEq, D.c.injEq, C.im.injEq, I.str.injEq, zGf, true_and, and_true] at h
 exact Subtype.ext (Prod.ext h.1 h.2)
theorem run_HasPrefix {s : Txt} (h : s.length ≤ 2097152) (c : UInt8) : ct_HasPrefix.run [.c (.im (.str ⟨s.toArray⟩)), .c (.im (.str ⟨#[c]⟩))] [] = some (.one { val := .c (.im (.bool (cutP c s).2)) }) :=
 zAd (args := fun x : SB => ([D.c (.im (.str ⟨x.1.1.toArray⟩)), .c (.im (.str ⟨#[x.1.2]⟩))], [])) SB_inj ⟨(s, c), h⟩
set_option maxRecDepth 100000 in
theorem law_HasPrefix : Law Tryz.prog 270 ct_HasPrefix := by
 refine zAk zAf hmixA Tryz.func270 rfl rfl (fun ⟨⟨s, c⟩, h⟩ => ⟨zAt rfl, by simp [Tryz.f270], ?_⟩)
 simp only
 have c0 : ((0 : Nat) : Int) = 0 := rfl
 have c1 : ((1 : Nat) : Int) = 1 := rfl
 cases s with
 | nil =>
   simp only [cutP]
   try simp -dsimp (maxSteps := 1000000) only [go_sem, List.forall_mem_nil, ↓reduceIte, Nat.reduceEqDiff, Nat.reduceLT, Nat.reduceLeDiff, Nat.reduceAdd, Nat.reduceMul, reduceCtorEq, Tryz.f270, zAo, List.size_toArray, Nat.reduceAdd, c0, c1, Int.reduceLE]
 | cons b t =>
   have h1 : ((1 : Int) ≤ ((t.length + 1 : Nat) : Int)) = True := eq_true (by omega)
   have hc : cutP c (b :: t) = if b = c then (t, true) else (b :: t, false) := rfl
   by_cases e : b = c
   · have e' := eq_true e
     rw [hc, if_pos e]
     try simp -dsimp (maxSteps := 1000000) only [go_sem, List.forall_mem_nil, ↓reduceIte, Nat.reduceEqDiff, Nat.reduceLT, Nat.reduceLeDiff, Nat.reduceAdd, Nat.reduceMul, reduceCtorEq, Tryz.f270, zAo, List.size_toArray, Nat.reduceAdd, c0, c1, h1, e', zDp, zAj, Int.toNat_one, Int.reduceLE, List.take_succ_cons, List.take_zero]
   · have e' := eq_false e
     rw [hc, if_neg e]
     try simp -dsimp (maxSteps := 1000000) only [go_sem, List.forall_mem_nil, ↓reduceIte, Nat.reduceEqDiff, Nat.reduceLT, Nat.reduceLeDiff, Nat.reduceAdd, Nat.reduceMul, reduceCtorEq, Tryz.f270, zAo, List.size_toArray, Nat.reduceAdd, c0, c1, h1, e', zDp, zAj, Int.toNat_one, Int.reduceLE, List.take_succ_cons, List.take_zero]
def oCp (s : Txt) (c : UInt8) : Outs := .one { val := .tup [.c (.im (.str ⟨(cutP c s).1.toArray⟩)), .c (.im (.bool (cutP c s).2))] }
theorem okO_cp (s : Txt) (c : UInt8) {sc : Bool} : ∀ res, (oCp s c).mem res → OkR sc res := okO ⟨.tup _ (by intro d hd; simp at hd; rcases hd with rfl | rfl <;> exact .inl ⟨_, rfl, zGr rfl⟩), by simp, by simp⟩
noncomputable def ct_sCutPrefix : Ct := fam true (fun x : SB => ([.c (.im (.str ⟨x.1.1.toArray⟩)), .c (.im (.str ⟨#[x.1.2]⟩))], [])) (fun x => oCp x.1.1 x.1.2)
theorem run_sCutPrefix {s : Txt} (h : s.length ≤ 2097152) (c : UInt8) : ct_sCutPrefix.run [.c (.im (.str ⟨s.toArray⟩)), .c (.im (.str ⟨#[c]⟩))] [] = some (oCp s c) :=
 zAd (args := fun x : SB => ([D.c (.im (.str ⟨x.1.1.toArray⟩)), .c (.im (.str ⟨#[x.1.2]⟩))], [])) SB_inj ⟨(s, c), h⟩
set_option maxRecDepth 100000 in
theorem law_sCutPrefix : Law Tryz.prog 275 ct_sCutPrefix := by
 refine zAk (zAc law_HasPrefix zAf) hmixA Tryz.func275 rfl rfl (fun ⟨⟨s, c⟩, h⟩ => ⟨okO_cp s c, by simp [Tryz.f275], ?_⟩)
 simp only [oCp] at h ⊢
 have c1 : ((1 : Nat) : Int) = 1 := rfl
 have rh := run_HasPrefix h c
 cases s with
 | nil =>
   simp only [cutP] at rh ⊢
   try simp -dsimp (maxSteps := 1000000) only [go_sem, List.forall_mem_nil, ↓reduceIte, Nat.reduceEqDiff, Nat.reduceLT, Nat.reduceLeDiff, Nat.reduceAdd, Nat.reduceMul, reduceCtorEq, Tryz.f275, rh, Bool.not_false]
 | cons b t =>
   have h1 : ((1 : Int) ≤ ((t.length + 1 : Nat) : Int)) = True := eq_true (by omega)
   have hc : cutP c (b :: t) = if b = c then (t, true) else (b :: t, false) := rfl
   have hx : (⟨(b :: t).toArray⟩ : ByteArray).extract 1 (t.length + 1) = ⟨t.toArray⟩ := by
     rw [zDp, List.take_of_length_le (by simp)]; rfl
   by_cases e : b = c
   · rw [hc, if_pos e] at rh ⊢
     try simp -dsimp (maxSteps := 1000000) only [go_sem, List.forall_mem_nil, ↓reduceIte, Nat.reduceEqDiff, Nat.reduceLT, Nat.reduceLeDiff, Nat.reduceAdd, Nat.reduceMul, reduceCtorEq, Tryz.f275, rh, Bool.not_true, zAo, List.size_toArray, Nat.reduceAdd, c1, h1, hx, Int.toNat_one, Int.toNat_natCast, Int.reduceLE]
   · rw [hc, if_neg e] at rh ⊢
     try simp -dsimp (maxSteps := 1000000) only [go_sem, List.forall_mem_nil, ↓reduceIte, Nat.reduceEqDiff, Nat.reduceLT, Nat.reduceLeDiff, Nat.reduceAdd, Nat.reduceMul, reduceCtorEq, Tryz.f275, rh, Bool.not_false]
noncomputable def ct_CutPrefix : Ct := fam true (fun x : SB => ([.c (.im (.str ⟨x.1.1.toArray⟩)), .c (.im (.str ⟨#[x.1.2]⟩))], [])) (fun x => oCp x.1.1 x.1.2)
theorem run_CutPrefix {s : Txt} (h : s.length ≤ 2097152) (c : UInt8) : ct_CutPrefix.run [.c (.im (.str ⟨s.toArray⟩)), .c (.im (.str ⟨#[c]⟩))] [] = some (oCp s c) :=
 zAd (args := fun x : SB => ([D.c (.im (.str ⟨x.1.1.toArray⟩)), .c (.im (.str ⟨#[x.1.2]⟩))], [])) SB_inj ⟨(s, c), h⟩
set_option maxRecDepth 100000 in
theorem law_CutPrefix : Law Tryz.prog 241 ct_CutPrefix := by
 refine zAk (zAc law_sCutPrefix zAf) hmixA Tryz.func241 rfl rfl (fun ⟨⟨s, c⟩, h⟩ => ⟨okO_cp s c, by simp [Tryz.f241], ?_⟩)
 simp only [oCp] at h ⊢
 have rh := run_sCutPrefix h c
 simp only [oCp] at rh
 try simp -dsimp (maxSteps := 1000000) only [go_sem, List.forall_mem_nil, ↓reduceIte, Nat.reduceEqDiff, Nat.reduceLT, Nat.reduceLeDiff, Nat.reduceAdd, Nat.reduceMul, reduceCtorEq, Tryz.f241, rh]
theorem neg32 {r : Nat} (h : r < 2147483648) : Op.negFloat .f32 r = 2147483648 + r := by
 have hx : Op.negFloat .f32 r = r ^^^ 2 ^ 31 := rfl
 have h1 : 2 ^ 31 ||| r = 2 ^ 31 + r := by
   have := Nat.two_pow_add_eq_or_of_lt (i := 31) (b := r) h 1
   rw [Nat.mul_one] at this
   exact this.symm
 have hb : r.testBit 31 = false := Nat.testBit_lt_two_pow h
 rw [hx]
 have : r ^^^ 2 ^ 31 = 2 ^ 31 + r := by
   rw [← h1]
   apply Nat.eq_of_testBit_eq
   intro i
   rw [Nat.testBit_xor, Nat.testBit_or, Nat.testBit_two_pow]
   by_cases e : 31 = i
   · subst e; simp [hb]
   · simp [e]
 rw [this]
theorem neg32_lt {x : Nat} (h : x < 4294967296) : Op.negFloat .f32 x < 4294967296 := by
 have hx : Op.negFloat .f32 x = x ^^^ 2 ^ 31 := rfl
 rw [hx]
 exact Nat.xor_lt_two_pow (n := 32) h (by decide)
theorem fconv_lt {b r : Nat} (h : fconv .f64 b .f32 = some r) : r < 4294967296 := by
 have hq : qn .f32 < 4294967296 := by decide
 have hw : ∀ d, FloatKind.f32.encode d < 4294967296 := fun d => single.write_lt d
 unfold fconv at h
 rw [if_neg (by decide)] at h
 split at h
 · injection h with h; subst h; exact hq
 · injection h with h; subst h; exact hw _
 · split at h
   · cases h
   · injection h with h; subst h; exact hw _
theorem cKn (K : Nat → Prop) (t : Tag K) : cK none K t = ∀ r, r < 4294967296 → K r := by simp only [cK]
theorem fsT_fin {w : Nat} (h : Fin32 w) : fsT w = fmtT w := by
 have hf : isFin w = true := by have := h.fin; simp only [isFin, decide_eq_true_eq]; omega
 simp [fsT, hf]
theorem fsT_none {s : Txt} (h : prsT s = none) (hs : s ≠ []) {x : Nat} (hx : x < 4294967296) : fsT x ≠ s := by
 unfold fsT
 split
 · rename_i hf
   refine prsT_none h ⟨hx, ?_⟩
   simp only [isFin, decide_eq_true_eq] at hf; omega
 · exact fun e => hs e.symm
noncomputable def prsO (s : Txt) : Nat × Bool := match prsT s with
 | some w => (w, true)
 | none => (0, false)
noncomputable def oPs (s : Txt) : Outs := .one { val := .tup [.c (.im (.flt .f32 (prsO s).1)), .c (.im (.bool (prsO s).2))] }
theorem okO_ps (s : Txt) {sc : Bool} : ∀ res, (oPs s).mem res → OkR sc res := okO ⟨.tup _ (by intro d hd; simp at hd; rcases hd with rfl | rfl <;> exact .inl ⟨_, rfl, zGr rfl⟩), by simp, by simp⟩
noncomputable def zEm : Ct := fam true (fun s : S21 => ([.c (.im (.str ⟨s.1.toArray⟩))], [])) (fun s => oPs s.1)
theorem zFt {s : Txt} (h : s.length ≤ 2097152) : zEm.run [.c (.im (.str ⟨s.toArray⟩))] [] = some (oPs s) :=
 zAd (args := fun s : S21 => ([D.c (.im (.str ⟨s.1.toArray⟩))], [])) S21_inj ⟨s, h⟩
theorem cutP_fmt {w : Nat} (h : Fin32 w) : cutP 45 (fmtT w) = (magT (w % 2147483648), decide (2147483648 ≤ w)) := by
 unfold fmtT
 by_cases hs : 2147483648 ≤ w
 · simp [sgnT, hs, cutP]
 · obtain ⟨c, t, e, hd⟩ := magT_head h.fin
   have hc : ¬ c = 45 := fun e => by subst e; unfold isDig at hd; revert hd; decide
   simp [sgnT, hs, e, cutP, hc]
theorem cutP_len (c : UInt8) (s : Txt) : (cutP c s).1.length ≤ s.length := by
 cases s with
 | nil => simp [cutP]
 | cons b t => simp only [cutP]; split <;> simp
theorem cut_len (s : Txt) (c : UInt8) : (Lib.cut s [c]).1.length ≤ s.length ∧ (Lib.cut s [c]).2.1.length ≤ s.length := by
 by_cases hm : c ∈ s
 · obtain ⟨a, b, rfl, hn⟩ := first_at hm
   rw [cut_at hn]; simp; omega
 · rw [cut_none hm]; simp
end Go.SX
namespace Go.SX
open Go Go.Proofs Ieee
theorem ba_get (l : Txt) (k : Nat) : (⟨l.toArray⟩ : ByteArray)[k]? = l[k]? := by
 by_cases h : k < l.length
 · rw [getElem?_pos (⟨l.toArray⟩ : ByteArray) k (by simpa [ByteArray.size] using h), getElem?_pos l k h]
   rfl
 · rw [getElem?_neg (⟨l.toArray⟩ : ByteArray) k (by simpa [ByteArray.size] using h), getElem?_neg l k h]
theorem zDo {l : Txt} {k : Nat} {b : UInt8} (h : l[k]? = some b) : (⟨l.toArray⟩ : ByteArray)[k]? = some b := by rw [ba_get]; exact h
structure Spl (c : UInt8) (s : Txt) (i f : Nat) (out : List Txt) : Prop where
 le : f ≤ i
 li : i ≤ s.length
 no : c ∉ (s.take i).drop f
 eq : splT c s = out ++ splT c (s.drop f)
theorem spl_end {c : UInt8} {s : Txt} {f : Nat} {out : List Txt} (h : Spl c s s.length f out) : splT c s = out ++ [s.drop f] := by
 have hn := h.no
 rw [List.take_length] at hn
 rw [h.eq, zEn hn]
theorem spl_hit {c : UInt8} {s : Txt} {i f : Nat} {out : List Txt} (h : Spl c s i f out) (hi : s[i]? = some c) : Spl c s (i + 1) (i + 1) (out ++ [(s.take i).drop f]) := by
 have hlt : i < s.length := (List.getElem?_eq_some_iff.1 hi).1
 have hc : s[i] = c := by rw [List.getElem?_eq_getElem hlt] at hi; injection hi
 refine ⟨Nat.le_refl _, hlt, by simp, ?_⟩
 have e : s.drop f = (s.take i).drop f ++ c :: s.drop (i + 1) := by
   have h1 : s.drop f = (s.take i ++ s.drop i).drop f := by rw [List.take_append_drop]
   rw [h1, List.drop_append_of_le_length (by rw [List.length_take]; have := h.le; omega), List.drop_eq_getElem_cons hlt, hc]
 rw [h.eq, e, splT_at h.no, List.append_assoc]
 rfl
theorem spl_miss {c b : UInt8} {s : Txt} {i f : Nat} {out : List Txt} (h : Spl c s i f out) (hi : s[i]? = some b) (hb : ¬ b = c) : Spl c s (i + 1) f out := by
 have hlt : i < s.length := (List.getElem?_eq_some_iff.1 hi).1
 refine ⟨by have := h.le; omega, hlt, ?_, h.eq⟩
 rw [List.take_add_one, hi, List.drop_append_of_le_length (by rw [List.length_take]; have := h.le; omega)]
 intro hm
 rcases List.mem_append.1 hm with hm | hm
 · exact h.no hm
 · simp at hm
   exact hb hm.symm
noncomputable def zGm : Ct := fam false (fun x : SB => ([.c (.im (.str ⟨x.1.1.toArray⟩)), .c (.im (.int .u8 (x.1.2.toNat : Int)))], [])) (fun x => .one { val := .c (.im (.sl 1 (rowsS (splT x.1.2 x.1.1)))) })
theorem run_l1Split {s : Txt} (h : s.length ≤ 2097152) (c : UInt8) : zGm.run [.c (.im (.str ⟨s.toArray⟩)), .c (.im (.int .u8 (c.toNat : Int)))] [] = some (.one { val := .c (.im (.sl 1 (rowsS (splT c s)))) }) := by
 refine zAd (args := fun x : SB => ([D.c (.im (.str ⟨x.1.1.toArray⟩)), .c (.im (.int .u8 (x.1.2.toNat : Int)))], [])) ?_ ⟨(s, c), h⟩
 rintro ⟨⟨a, b⟩, _⟩ ⟨⟨a', b'⟩, _⟩ h
 simp only [Prod.mk.injEq, List.cons.injEq, D.c.injEq, C.im.injEq, I.str.injEq, I.int.injEq, zGf, true_and, and_true] at h
 exact Subtype.ext (Prod.ext h.1 (UInt8.toNat_inj.1 (Int.ofNat_inj.1 h.2)))
theorem tIS_app (l : List Txt) (x : Txt) : tI (rowsS l) ++ [[T.im (.str ⟨x.toArray⟩)]] = tI (rowsS (l ++ [x])) := by simp [tI, rowsS]
theorem sc_rowsSg (l : List Txt) : ∀ r ∈ rowsS l, ∀ i ∈ r, scI i = true := by
 intro r hr i hi
 simp only [rowsS, List.mem_map] at hr
 obtain ⟨p, _, rfl⟩ := hr
 simp only [List.mem_singleton] at hi
 subst hi; rfl
theorem MvR_S (l : List Txt) : MvR false (.arr 1 (tI (rowsS l))) = True := eq_true (mvR_tI (sc_rowsSg _))
theorem splT_out {c : UInt8} {s : Txt} {i f : Nat} {out : List Txt} (h : Spl c s i f out) : out.length ≤ s.length := by
 have h1 := splT_len c s
 rw [h.eq, List.length_append] at h1
 have h2 : 0 < (splT c (s.drop f)).length := List.length_pos_iff.2 (splT_ne _ _)
 omega
set_option maxRecDepth 100000 in
set_option maxHeartbeats 4000000 in
theorem law_l1Split : Law Tryz.prog 36 zGm := by
 refine zEj zAf hmixA Tryz.func36 rfl rfl (fun ⟨⟨s, c⟩, hs⟩ => ⟨okO ⟨.c _ (.im _ (.inl rfl)), by simp, by simp⟩, by simp [Tryz.f36], ?_⟩)
 simp only at hs ⊢
 try simp -dsimp (maxSteps := 1000000) only [go_sem, List.forall_mem_nil, ↓reduceIte, Nat.reduceEqDiff, Nat.reduceLT, Nat.reduceLeDiff, Nat.reduceAdd, Nat.reduceMul, reduceCtorEq, Tryz.f36]
 refine zBc (ι := { x : Nat × Nat × List Txt // Spl c s x.1 x.2.1 x.2.2 }) (fun x => ⟨[(0, some (.c (.im (.str ⟨s.toArray⟩)))), (1, some (.c (.im (.int .u8 (c.toNat : Int))))), (5, some (.c (.view 0 1 0 x.1.2.2.length))), (6, some (.c (.im (.int .i64 (x.1.2.1 : Int))))), (7, some (.c (.im (.int .i64 (x.1.1 : Int)))))],
   [(0, some (.arr 1 (tI (rowsS x.1.2.2))))], 1⟩) (fun x => s.length - x.1.1) ⟨(0, 0, []), ⟨by simp, by simp, by simp, by simp⟩⟩ ⟨[], [0], by ((simp only [go_sem, eq_self, MvRb, MvRn, MvRt, List.nodup_cons, List.nodup_nil, ↓reduceIte, Nat.reduceEqDiff, Nat.reduceLT, Nat.reduceLeDiff, reduceCtorEq, List.forall_mem_nil, Nat.zero_le, false_implies, List.mem_singleton, MvR_S, zAn]) <;> (try (simp -dsimp only [go_sem, eq_self, MvRb, MvRn, MvRt, List.nodup_cons, List.nodup_nil, ↓reduceIte, Nat.reduceEqDiff, Nat.reduceLT, Nat.reduceLeDiff, reduceCtorEq, List.forall_mem_nil, Nat.zero_le, false_implies, List.mem_singleton, MvR_S, zAn]))) <;> simp [lk, tI, zAn]⟩ (fun ⟨⟨i, f, out⟩, hS⟩ => ?_)
 simp only at hS ⊢
 have hle := hS.le
 have hli := hS.li
 have hol := splT_out hS
 have hz : (tI (rowsS out)).length = out.length := by simp [zBa, zAe]
 have hf0 : (0 ≤ (f : Int)) = True := eq_true (by omega)
 by_cases hlt : i < s.length
 · obtain ⟨b, hb⟩ : ∃ b, s[i]? = some b := ⟨_, List.getElem?_eq_getElem hlt⟩
   have hrow := zDo hb
   have hI : ((i : Int) < (s.length : Int)) = True := eq_true (by omega)
   have h0 : (0 ≤ (i : Int)) = True := eq_true (by omega)
   have hw : IntKind.i64.wrap ((i : Int) + 1) = ((i + 1 : Nat) : Int) := by rw [zAh (by omega) (by omega)]; omega
   by_cases e : b = c
   · subst e
     have hfi : ((f : Int) ≤ (i : Int)) = True := eq_true (by omega)
     have his : ((i : Int) ≤ (s.length : Int)) = True := eq_true (by omega)
     have hby : ((out.length + 1) * 16 ≤ 140737488355328) = True := eq_true (by omega)
     have hn := spl_hit hS hb
     have hap := tIS_app out ((s.take i).drop f)
     try simp -dsimp (maxSteps := 1000000) only [go_sem, List.forall_mem_nil, ↓reduceIte, Nat.reduceEqDiff, Nat.reduceLT, Nat.reduceLeDiff, Nat.reduceAdd, Nat.reduceMul, reduceCtorEq, Tryz.f36, zAo, hI, h0, hw, hf0, hfi, his, hrow, zDp, Int.toNat_natCast, hby, hap, zBa, zAe, appendH, srcRows, List.take_succ_cons, List.take_zero, List.all_cons, List.all_nil, okT, Bool.and_true, List.length_append]
     exact ⟨⟨(i + 1, i + 1, out ++ [(s.take i).drop f]), hn⟩, by simp only []; omega, [], [2], by ((simp only [go_sem, eq_self, MvRb, MvRn, MvRt, List.nodup_cons, List.nodup_nil, ↓reduceIte, Nat.reduceEqDiff, Nat.reduceLT, Nat.reduceLeDiff, reduceCtorEq, List.forall_mem_nil, Nat.zero_le, false_implies, List.mem_singleton, MvR_S]) <;> (try (simp -dsimp only [go_sem, eq_self, MvRb, MvRn, MvRt, List.nodup_cons, List.nodup_nil, ↓reduceIte, Nat.reduceEqDiff, Nat.reduceLT, Nat.reduceLeDiff, reduceCtorEq, List.forall_mem_nil, Nat.zero_le, false_implies, List.mem_singleton, MvR_S]))) <;> simp [lk]⟩
   · have hne : ((b.toNat : Int) = (c.toNat : Int)) = False := eq_false (fun h => e (UInt8.toNat_inj.1 (Int.ofNat_inj.1 h)))
     have hn := spl_miss hS hb e
     try simp -dsimp (maxSteps := 1000000) only [go_sem, List.forall_mem_nil, ↓reduceIte, Nat.reduceEqDiff, Nat.reduceLT, Nat.reduceLeDiff, Nat.reduceAdd, Nat.reduceMul, reduceCtorEq, Tryz.f36, zAo, hI, h0, hw, hrow, hne, Int.toNat_natCast]
     exact ⟨⟨(i + 1, f, out), hn⟩, by simp only []; omega, [], [0], by (simp only [go_sem, eq_self, MvRb, MvRn, MvRt, List.nodup_cons, List.nodup_nil, ↓reduceIte, Nat.reduceEqDiff, Nat.reduceLT, Nat.reduceLeDiff, reduceCtorEq, List.forall_mem_nil, Nat.zero_le, false_implies, List.mem_singleton, MvR_S]) <;> simp [lk]⟩
 · have hI : ((i : Int) < (s.length : Int)) = False := eq_false (by omega)
   have hie : i = s.length := by omega
   subst hie
   have hend := spl_end hS
   have hfs : ((f : Int) ≤ (s.length : Int)) = True := eq_true (by omega)
   have hby : ((out.length + 1) * 16 ≤ 140737488355328) = True := eq_true (by omega)
   have hdr : (List.take s.length s).drop f = s.drop f := by rw [List.take_length]
   have hap := tIS_app out (s.drop f)
   have hmp : mapO (mapO imT) (tI (rowsS (out ++ [s.drop f]))) = some (rowsS (out ++ [s.drop f])) := tI_imT _
   rw [hend]
   try simp -dsimp (maxSteps := 1000000) only [go_sem, List.forall_mem_nil, ↓reduceIte, Nat.reduceEqDiff, Nat.reduceLT, Nat.reduceLeDiff, Nat.reduceAdd, Nat.reduceMul, reduceCtorEq, Tryz.f36, zAo, hI, hf0, hfs, zDp, hdr, Int.toNat_natCast, hby, hap, zBa, zAe, appendH, srcRows, List.take_succ_cons, List.take_zero, List.all_cons, List.all_nil, okT, Bool.and_true, List.length_append]
   refine zAr [.frz 2 [.s 4]] ?_
   simp -dsimp (maxSteps := 1000000) only [go_sem, List.forall_mem_nil, ↓reduceIte, Nat.reduceEqDiff, Nat.reduceLT, Nat.reduceLeDiff, Nat.reduceAdd, Nat.reduceMul, reduceCtorEq, hmp, zBa, zAe, List.length_append]
end Go.SX
namespace Go.SX
open Go Go.Proofs Ieee
def rdD : Txt → Int → Option Int
 | [], n => some n
 | b :: s, n => if 48 ≤ b.toNat ∧ b.toNat ≤ 57 then rdD s (10 * n + ((b.toNat : Int) - 48)) else none
def rdB (s : Txt) : Int × Bool := if s.length < 1 ∨ 17 < s.length ∨ (s[0]? = some 48 ∧ 1 < s.length) then (0, false) else match rdD s 0 with
 | some n => (n, true)
 | none => (0, false)
def negS (s : Txt) : Prop := s[0]? = some 45 ∧ 1 < s.length ∧ s[1]? ≠ some 45
instance (s : Txt) : Decidable (negS s) := by unfold negS; infer_instance
def rdF (s : Txt) : Int × Bool := if negS s then (-(rdB s.tail).1, (rdB s.tail).2 && decide ((rdB s.tail).1 ≠ 0)) else rdB s
theorem rdD_drop {s : Txt} {i : Nat} {b : UInt8} {n : Int} (h : s[i]? = some b) : rdD (s.drop i) n = if 48 ≤ b.toNat ∧ b.toNat ≤ 57 then rdD (s.drop (i + 1)) (10 * n + ((b.toNat : Int) - 48)) else none := by
 have hlt : i < s.length := (List.getElem?_eq_some_iff.1 h).1
 have hb : s[i] = b := by rw [List.getElem?_eq_getElem hlt] at h; injection h
 rw [List.drop_eq_getElem_cons hlt, hb]
 rfl
theorem rdD_bd : ∀ (s : Txt) (n m : Int), 0 ≤ n → rdD s n = some m → 0 ≤ m ∧ m < (n + 1) * 10 ^ s.length
 | [], n, m, h0, h => by simp only [rdD, Option.some.injEq] at h; subst h; simp; omega
 | b :: s, n, m, h0, h => by
   simp only [rdD] at h
   split at h
   · rename_i hd
     have ih := rdD_bd s _ m (by omega) h
     refine ⟨ih.1, ?_⟩
     have h2 : (10 * n + ((b.toNat : Int) - 48) + 1) ≤ (n + 1) * 10 := by omega
     have hp : (0 : Int) ≤ 10 ^ s.length := Int.le_of_lt (Int.pow_pos (by decide))
     have h3 := Int.mul_le_mul_of_nonneg_right h2 hp
     have h4 : (n + 1) * 10 ^ (b :: s).length = (n + 1) * 10 * 10 ^ s.length := by
       rw [List.length_cons, Int.pow_succ, Int.mul_assoc, Int.mul_comm (10 ^ s.length) 10]
     rw [h4]
     exact Int.lt_of_lt_of_le ih.2 h3
   · cases h
theorem pow17 {k : Nat} (h : k ≤ 17) : (10 : Int) ^ k ≤ 100000000000000000 := by
 have : (10 : Nat) ^ k ≤ 10 ^ 17 := Nat.pow_le_pow_right (by decide) h
 have h2 : ((10 ^ k : Nat) : Int) ≤ ((10 ^ 17 : Nat) : Int) := Int.ofNat_le.2 this
 simpa using h2
theorem rdB_bd (s : Txt) : 0 ≤ (rdB s).1 ∧ (rdB s).1 ≤ 100000000000000000 := by
 unfold rdB
 split
 · simp
 · rename_i hc
   split
   · rename_i n hn
     have h1 := rdD_bd s 0 n (by omega) hn
     have h2 := pow17 (k := s.length) (by omega)
     simp only at h1 ⊢
     omega
   · simp
abbrev SBs := { s : Txt // s.length ≤ 2097152 ∧ ¬ negS s }
abbrev SAl := { s : Txt // s.length ≤ 2097152 }
def rIB (x : Int × Bool) : Res := { val := .tup [.c (.im (.int .i64 x.1)), .c (.im (.bool x.2))] }
theorem okR_ib {sc : Bool} {x : Int × Bool} : OkR sc (rIB x) := by
 refine ⟨.tup _ (fun d hd => ?_), by simp [rIB], by simp [rIB]⟩
 simp only [List.mem_cons, List.not_mem_nil, or_false] at hd
 rcases hd with rfl | rfl <;> exact .inl ⟨_, rfl, zGr rfl⟩
noncomputable def ct_l1ReadB : Ct := fam true (fun x : SBs => ([.c (.im (.str ⟨x.1.toArray⟩))], [])) (fun x => .one (rIB (rdB x.1)))
theorem run_l1ReadB {s : Txt} (h : s.length ≤ 2097152) (hn : ¬ negS s) : ct_l1ReadB.run [.c (.im (.str ⟨s.toArray⟩))] [] = some (.one (rIB (rdB s))) := by
 refine zAd (args := fun x : SBs => ([D.c (.im (.str ⟨x.1.toArray⟩))], [])) ?_ ⟨s, h, hn⟩
 rintro ⟨a, _⟩ ⟨b, _⟩ h
 simp only [Prod.mk.injEq, List.cons.injEq, D.c.injEq, C.im.injEq, I.str.injEq, zGf, true_and, and_true] at h
 exact Subtype.ext h
noncomputable def ct_l1Read : Ct := fam true (fun x : SAl => ([.c (.im (.str ⟨x.1.toArray⟩))], [])) (fun x => .one (rIB (rdF x.1)))
theorem SAl_inj : ∀ a b : SAl, ([D.c (.im (.str ⟨a.1.toArray⟩))], ([] : List (List B))) = ([D.c (.im (.str ⟨b.1.toArray⟩))], []) → a = b := by
 rintro ⟨a, _⟩ ⟨b, _⟩ h
 simp only [Prod.mk.injEq, List.cons.injEq, D.c.injEq, C.im.injEq, I.str.injEq, zGf, true_and, and_true] at h
 exact Subtype.ext h
theorem zEo {s : Txt} (h : s.length ≤ 2097152) : ct_l1Read.run [.c (.im (.str ⟨s.toArray⟩))] [] = some (.one (rIB (rdF s))) :=
 zAd (args := fun x : SAl => ([D.c (.im (.str ⟨x.1.toArray⟩))], [])) SAl_inj ⟨s, h⟩
set_option maxRecDepth 100000 in
set_option maxHeartbeats 8000000 in
theorem zHb : Law Tryz.prog 236 ct_l1ReadB := by
 refine zAk zAf hmixA Tryz.func236 rfl rfl (fun ⟨s, hs, hn⟩ => ⟨okO okR_ib, by simp [Tryz.f236], ?_⟩)
 simp only at hs hn ⊢
 cases s with
 | nil =>
   have hr : rdB [] = (0, false) := rfl
   simp only [hr, rIB]
   have c0 : ((0 : Nat) : Int) = 0 := rfl
   try simp -dsimp (maxSteps := 1000000) only [go_sem, List.forall_mem_nil, ↓reduceIte, Nat.reduceEqDiff, Nat.reduceLT, Nat.reduceLeDiff, Nat.reduceAdd, Nat.reduceMul, reduceCtorEq, Tryz.f236, zAo, c0, Int.reduceLT]
   exact ⟨rfl, rfl⟩
 | cons b0 t =>
   have i0 : (⟨(b0 :: t).toArray⟩ : ByteArray)[0]? = some b0 := zDo rfl
   have key : ∀ (h17 : t.length + 1 ≤ 17 ∧ ¬ (b0.toNat = 48 ∧ 1 ≤ t.length)), rdB (b0 :: t) = match rdD (b0 :: t) 0 with | some n => (n, true) | none => (0, false) := by
     intro h17
     unfold rdB
     rw [if_neg]
     intro hc
     rcases hc with h | h | ⟨h, h'⟩
     · simp at h
     · simp at h; omega
     · simp at h h'
       exact h17.2 ⟨by rw [h]; rfl, by omega⟩
   have bad : (17 < t.length + 1 ∨ (b0.toNat = 48 ∧ 1 ≤ t.length)) → rdB (b0 :: t) = (0, false) := by
     intro h
     unfold rdB
     rw [if_pos]
     rcases h with h | ⟨h, h'⟩
     · exact .inr (.inl (by simpa using h))
     · refine .inr (.inr ⟨?_, by simp; omega⟩)
       have : b0 = 48 := UInt8.toNat_inj.1 (by rw [h]; rfl)
       simp [this]
   have L17t : 17 < t.length + 1 → ((17 : Int) < ((t.length + 1 : Nat) : Int)) = True := fun h => eq_true (by omega)
   have L17f : ¬ 17 < t.length + 1 → ((17 : Int) < ((t.length + 1 : Nat) : Int)) = False := fun h => eq_false (by omega)
   have L0 : (((t.length + 1 : Nat) : Int) < (1 : Int)) = False := eq_false (by omega)
   by_cases ht : t.length = 0
   · have L1 : ((1 : Int) < ((t.length + 1 : Nat) : Int)) = False := eq_false (by omega)
     have L17 := L17f (by omega)
     by_cases e : b0.toNat = 48
     · have e48 : ((b0.toNat : Int) = 48) = True := eq_true (by omega)
       have hk := key ⟨by omega, by omega⟩
       rw [hk]
       generalize hs' : b0 :: t = s at *
       have hls : s.length = t.length + 1 := by rw [← hs']; rfl
       try simp -dsimp (maxSteps := 1000000) only [go_sem, List.forall_mem_nil, ↓reduceIte, Nat.reduceEqDiff, Nat.reduceLT, Nat.reduceLeDiff, Nat.reduceAdd, Nat.reduceMul, reduceCtorEq, Tryz.f236, zAo, i0, Int.toNat_zero, Int.toNat_one, L0, L1, L17, e48, hls]
       refine zBc (ι := { x : Nat × Int // x.1 ≤ s.length ∧ rdD s 0 = rdD (s.drop x.1) x.2 ∧ 0 ≤ x.2 ∧ x.2 < 10 ^ x.1 }) (fun x => ⟨[(0, some (.c (.im (.str ⟨s.toArray⟩)))), (6, some (.c (.im (.int .i64 x.1.2)))), (7, some (.c (.im (.int .i64 (x.1.1 : Int)))))], [], 0⟩) (fun x => s.length - x.1.1) ⟨(0, 0), by simp⟩ ⟨[], [], by ((simp only [go_sem, eq_self, MvRb, MvRn, MvRt, List.nodup_cons, List.nodup_nil, ↓reduceIte, Nat.reduceEqDiff, Nat.reduceLT, Nat.reduceLeDiff, reduceCtorEq, List.forall_mem_nil, Nat.zero_le, false_implies, List.mem_singleton]) <;> (try (simp -dsimp only [go_sem, eq_self, MvRb, MvRn, MvRt, List.nodup_cons, List.nodup_nil, ↓reduceIte, Nat.reduceEqDiff, Nat.reduceLT, Nat.reduceLeDiff, reduceCtorEq, List.forall_mem_nil, Nat.zero_le, false_implies, List.mem_singleton]))) <;> simp⟩ (fun ⟨⟨i, n⟩, hi, hinv, hn0, hn1⟩ => ?_)
       simp only at hi hinv hn0 hn1 ⊢
       have h17 := pow17 (k := i) (by omega)
       by_cases hlt : i < s.length
       · obtain ⟨b, hb⟩ : ∃ b, s[i]? = some b := ⟨_, List.getElem?_eq_getElem hlt⟩
         have hrow := zDo hb
         have hI : ((i : Int) < (s.length : Int)) = True := eq_true (by omega)
         have h0 : (0 ≤ (i : Int)) = True := eq_true (by omega)
         have hb8 := b.toNat_lt
         have hd := rdD_drop (n := n) hb
         have hw : IntKind.i64.wrap ((i : Int) + 1) = ((i + 1 : Nat) : Int) := by rw [zAh (by omega) (by omega)]; omega
         by_cases g1 : b.toNat < 48
         · have g1' : ((b.toNat : Int) < 48) = True := eq_true (by omega)
           rw [if_neg (by omega)] at hd
           rw [hinv, hd]
           simp only [rIB]
           try simp -dsimp (maxSteps := 1000000) only [go_sem, List.forall_mem_nil, ↓reduceIte, Nat.reduceEqDiff, Nat.reduceLT, Nat.reduceLeDiff, Nat.reduceAdd, Nat.reduceMul, reduceCtorEq, Tryz.f236, zAo, hI, h0, hrow, g1', Int.toNat_natCast]
         · have g1' : ((b.toNat : Int) < 48) = False := eq_false (by omega)
           by_cases g2 : 57 < b.toNat
           · have g2' : (57 < (b.toNat : Int)) = True := eq_true (by omega)
             rw [if_neg (by omega)] at hd
             rw [hinv, hd]
             simp only [rIB]
             try simp -dsimp (maxSteps := 1000000) only [go_sem, List.forall_mem_nil, ↓reduceIte, Nat.reduceEqDiff, Nat.reduceLT, Nat.reduceLeDiff, Nat.reduceAdd, Nat.reduceMul, reduceCtorEq, Tryz.f236, zAo, hI, h0, hrow, g1', g2', Int.toNat_natCast]
           · have g2' : (57 < (b.toNat : Int)) = False := eq_false (by omega)
             rw [if_pos (by omega)] at hd
             have w1 : IntKind.u8.wrap ((b.toNat : Int) - 48) = (b.toNat : Int) - 48 := by unfold IntKind.wrap; simp [IntKind.bits, IntKind.signed]; omega
             have w2 : IntKind.i64.wrap ((b.toNat : Int) - 48) = (b.toNat : Int) - 48 := zAh (by omega) (by omega)
             have w3 : IntKind.i64.wrap (10 * n) = 10 * n := zAh (by omega) (by omega)
             have w4 : IntKind.i64.wrap (10 * n + ((b.toNat : Int) - 48)) = 10 * n + ((b.toNat : Int) - 48) := zAh (by omega) (by omega)
             try simp -dsimp (maxSteps := 1000000) only [go_sem, List.forall_mem_nil, ↓reduceIte, Nat.reduceEqDiff, Nat.reduceLT, Nat.reduceLeDiff, Nat.reduceAdd, Nat.reduceMul, reduceCtorEq, Tryz.f236, zAo, hI, h0, hrow, g1', g2', hw, w1, w2, w3, w4, Int.toNat_natCast]
             have hp : (10 : Int) ^ (i + 1) = 10 ^ i * 10 := Int.pow_succ _ _
             exact ⟨⟨(i + 1, 10 * n + ((b.toNat : Int) - 48)), by simp only []; omega, by rw [hinv, hd], by simp only []; omega, by simp only []; omega⟩, by simp only []; omega, [], [], by (simp only [go_sem, eq_self, MvRb, MvRn, MvRt, List.nodup_cons, List.nodup_nil, ↓reduceIte, Nat.reduceEqDiff, Nat.reduceLT, Nat.reduceLeDiff, reduceCtorEq, List.forall_mem_nil, Nat.zero_le, false_implies, List.mem_singleton]) <;> simp⟩
       · have hI : ((i : Int) < (s.length : Int)) = False := eq_false (by omega)
         have hie : i = s.length := by omega
         subst hie
         have hr : rdD s 0 = some n := by rw [hinv, List.drop_length]; rfl
         rw [hr]
         simp only [rIB]
         try simp -dsimp (maxSteps := 1000000) only [go_sem, List.forall_mem_nil, ↓reduceIte, Nat.reduceEqDiff, Nat.reduceLT, Nat.reduceLeDiff, Nat.reduceAdd, Nat.reduceMul, reduceCtorEq, Tryz.f236, zAo, hI]
     · have e48 : ((b0.toNat : Int) = 48) = False := eq_false (by omega)
       have hk := key ⟨by omega, by omega⟩
       rw [hk]
       generalize hs' : b0 :: t = s at *
       have hls : s.length = t.length + 1 := by rw [← hs']; rfl
       try simp -dsimp (maxSteps := 1000000) only [go_sem, List.forall_mem_nil, ↓reduceIte, Nat.reduceEqDiff, Nat.reduceLT, Nat.reduceLeDiff, Nat.reduceAdd, Nat.reduceMul, reduceCtorEq, Tryz.f236, zAo, i0, Int.toNat_zero, Int.toNat_one, L0, L1, L17, e48, hls]
       refine zBc (ι := { x : Nat × Int // x.1 ≤ s.length ∧ rdD s 0 = rdD (s.drop x.1) x.2 ∧ 0 ≤ x.2 ∧ x.2 < 10 ^ x.1 }) (fun x => ⟨[(0, some (.c (.im (.str ⟨s.toArray⟩)))), (6, some (.c (.im (.int .i64 x.1.2)))), (7, some (.c (.im (.int .i64 (x.1.1 : Int)))))], [], 0⟩) (fun x => s.length - x.1.1) ⟨(0, 0), by simp⟩ ⟨[], [], by ((simp only [go_sem, eq_self, MvRb, MvRn, MvRt, List.nodup_cons, List.nodup_nil, ↓reduceIte, Nat.reduceEqDiff, Nat.reduceLT, Nat.reduceLeDiff, reduceCtorEq, List.forall_mem_nil, Nat.zero_le, false_implies, List.mem_singleton]) <;> (try (simp -dsimp only [go_sem, eq_self, MvRb, MvRn, MvRt, List.nodup_cons, List.nodup_nil, ↓reduceIte, Nat.reduceEqDiff, Nat.reduceLT, Nat.reduceLeDiff, reduceCtorEq, List.forall_mem_nil, Nat.zero_le, false_implies, List.mem_singleton]))) <;> simp⟩ (fun ⟨⟨i, n⟩, hi, hinv, hn0, hn1⟩ => ?_)
       simp only at hi hinv hn0 hn1 ⊢
       have h17 := pow17 (k := i) (by omega)
       by_cases hlt : i < s.length
       · obtain ⟨b, hb⟩ : ∃ b, s[i]? = some b := ⟨_, List.getElem?_eq_getElem hlt⟩
         have hrow := zDo hb
         have hI : ((i : Int) < (s.length : Int)) = True := eq_true (by omega)
         have h0 : (0 ≤ (i : Int)) = True := eq_true (by omega)
         have hb8 := b.toNat_lt
         have hd := rdD_drop (n := n) hb
         have hw : IntKind.i64.wrap ((i : Int) + 1) = ((i + 1 : Nat) : Int) := by rw [zAh (by omega) (by omega)]; omega
         by_cases g1 : b.toNat < 48
         · have g1' : ((b.toNat : Int) < 48) = True := eq_true (by omega)
           rw [if_neg (by omega)] at hd
           rw [hinv, hd]
           simp only [rIB]
           try simp -dsimp (maxSteps := 1000000) only [go_sem, List.forall_mem_nil, ↓reduceIte, Nat.reduceEqDiff, Nat.reduceLT, Nat.reduceLeDiff, Nat.reduceAdd, Nat.reduceMul, reduceCtorEq, Tryz.f236, zAo, hI, h0, hrow, g1', Int.toNat_natCast]
         · have g1' : ((b.toNat : Int) < 48) = False := eq_false (by omega)
           by_cases g2 : 57 < b.toNat
           · have g2' : (57 < (b.toNat : Int)) = True := eq_true (by omega)
             rw [if_neg (by omega)] at hd
             rw [hinv, hd]
             simp only [rIB]
             try simp -dsimp (maxSteps := 1000000) only [go_sem, List.forall_mem_nil, ↓reduceIte, Nat.reduceEqDiff, Nat.reduceLT, Nat.reduceLeDiff, Nat.reduceAdd, Nat.reduceMul, reduceCtorEq, Tryz.f236, zAo, hI, h0, hrow, g1', g2', Int.toNat_natCast]
           · have g2' : (57 < (b.toNat : Int)) = False := eq_false (by omega)
             rw [if_pos (by omega)] at hd
             have w1 : IntKind.u8.wrap ((b.toNat : Int) - 48) = (b.toNat : Int) - 48 := by unfold IntKind.wrap; simp [IntKind.bits, IntKind.signed]; omega
             have w2 : IntKind.i64.wrap ((b.toNat : Int) - 48) = (b.toNat : Int) - 48 := zAh (by omega) (by omega)
             have w3 : IntKind.i64.wrap (10 * n) = 10 * n := zAh (by omega) (by omega)
             have w4 : IntKind.i64.wrap (10 * n + ((b.toNat : Int) - 48)) = 10 * n + ((b.toNat : Int) - 48) := zAh (by omega) (by omega)
             try simp -dsimp (maxSteps := 1000000) only [go_sem, List.forall_mem_nil, ↓reduceIte, Nat.reduceEqDiff, Nat.reduceLT, Nat.reduceLeDiff, Nat.reduceAdd, Nat.reduceMul, reduceCtorEq, Tryz.f236, zAo, hI, h0, hrow, g1', g2', hw, w1, w2, w3, w4, Int.toNat_natCast]
             have hp : (10 : Int) ^ (i + 1) = 10 ^ i * 10 := Int.pow_succ _ _
             exact ⟨⟨(i + 1, 10 * n + ((b.toNat : Int) - 48)), by simp only []; omega, by rw [hinv, hd], by simp only []; omega, by simp only []; omega⟩, by simp only []; omega, [], [], by (simp only [go_sem, eq_self, MvRb, MvRn, MvRt, List.nodup_cons, List.nodup_nil, ↓reduceIte, Nat.reduceEqDiff, Nat.reduceLT, Nat.reduceLeDiff, reduceCtorEq, List.forall_mem_nil, Nat.zero_le, false_implies, List.mem_singleton]) <;> simp⟩
       · have hI : ((i : Int) < (s.length : Int)) = False := eq_false (by omega)
         have hie : i = s.length := by omega
         subst hie
         have hr : rdD s 0 = some n := by rw [hinv, List.drop_length]; rfl
         rw [hr]
         simp only [rIB]
         try simp -dsimp (maxSteps := 1000000) only [go_sem, List.forall_mem_nil, ↓reduceIte, Nat.reduceEqDiff, Nat.reduceLT, Nat.reduceLeDiff, Nat.reduceAdd, Nat.reduceMul, reduceCtorEq, Tryz.f236, zAo, hI]
   have L1 : ((1 : Int) < ((t.length + 1 : Nat) : Int)) = True := eq_true (by omega)
   obtain ⟨b1, hb1⟩ : ∃ b1, (b0 :: t)[1]? = some b1 := ⟨_, List.getElem?_eq_getElem (by simp; omega)⟩
   have i1 : (⟨(b0 :: t).toArray⟩ : ByteArray)[1]? = some b1 := zDo hb1
   by_cases e45 : b0.toNat = 45
   · have h45 : ((b0.toNat : Int) = 45) = True := eq_true (by omega)
     have e48 : ((b0.toNat : Int) = 48) = False := eq_false (by omega)
     have hb0 : b0 = 45 := UInt8.toNat_inj.1 (by rw [e45]; rfl)
     have hb1' : b1 = 45 := by
       apply Classical.byContradiction
       intro hne
       refine hn ⟨by simp [hb0], by simp; omega, ?_⟩
       rw [hb1]
       intro h
       injection h with h
       exact hne h
     have h1 : ((b1.toNat : Int) = 45) = True := eq_true (by rw [hb1']; rfl)
     by_cases g17 : 17 < t.length + 1
     · have L17 := L17t g17
       rw [bad (.inl g17)]
       simp only [rIB]
       try simp -dsimp (maxSteps := 1000000) only [go_sem, List.forall_mem_nil, ↓reduceIte, Nat.reduceEqDiff, Nat.reduceLT, Nat.reduceLeDiff, Nat.reduceAdd, Nat.reduceMul, reduceCtorEq, Tryz.f236, zAo, i0, Int.toNat_zero, Int.toNat_one, L0, L1, L17, h45, h1, i1, Int.reduceLE, e48]
     · have L17 := L17f g17
       have hk := key ⟨by omega, by omega⟩
       rw [hk]
       generalize hs' : b0 :: t = s at *
       have hls : s.length = t.length + 1 := by rw [← hs']; rfl
       try simp -dsimp (maxSteps := 1000000) only [go_sem, List.forall_mem_nil, ↓reduceIte, Nat.reduceEqDiff, Nat.reduceLT, Nat.reduceLeDiff, Nat.reduceAdd, Nat.reduceMul, reduceCtorEq, Tryz.f236, zAo, i0, Int.toNat_zero, Int.toNat_one, L0, L1, L17, h45, h1, i1, Int.reduceLE, e48, hls]
       refine zBc (ι := { x : Nat × Int // x.1 ≤ s.length ∧ rdD s 0 = rdD (s.drop x.1) x.2 ∧ 0 ≤ x.2 ∧ x.2 < 10 ^ x.1 }) (fun x => ⟨[(0, some (.c (.im (.str ⟨s.toArray⟩)))), (6, some (.c (.im (.int .i64 x.1.2)))), (7, some (.c (.im (.int .i64 (x.1.1 : Int)))))], [], 0⟩) (fun x => s.length - x.1.1) ⟨(0, 0), by simp⟩ ⟨[], [], by ((simp only [go_sem, eq_self, MvRb, MvRn, MvRt, List.nodup_cons, List.nodup_nil, ↓reduceIte, Nat.reduceEqDiff, Nat.reduceLT, Nat.reduceLeDiff, reduceCtorEq, List.forall_mem_nil, Nat.zero_le, false_implies, List.mem_singleton]) <;> (try (simp -dsimp only [go_sem, eq_self, MvRb, MvRn, MvRt, List.nodup_cons, List.nodup_nil, ↓reduceIte, Nat.reduceEqDiff, Nat.reduceLT, Nat.reduceLeDiff, reduceCtorEq, List.forall_mem_nil, Nat.zero_le, false_implies, List.mem_singleton]))) <;> simp⟩ (fun ⟨⟨i, n⟩, hi, hinv, hn0, hn1⟩ => ?_)
       simp only at hi hinv hn0 hn1 ⊢
       have h17 := pow17 (k := i) (by omega)
       by_cases hlt : i < s.length
       · obtain ⟨b, hb⟩ : ∃ b, s[i]? = some b := ⟨_, List.getElem?_eq_getElem hlt⟩
         have hrow := zDo hb
         have hI : ((i : Int) < (s.length : Int)) = True := eq_true (by omega)
         have h0 : (0 ≤ (i : Int)) = True := eq_true (by omega)
         have hb8 := b.toNat_lt
         have hd := rdD_drop (n := n) hb
         have hw : IntKind.i64.wrap ((i : Int) + 1) = ((i + 1 : Nat) : Int) := by rw [zAh (by omega) (by omega)]; omega
         by_cases g1 : b.toNat < 48
         · have g1' : ((b.toNat : Int) < 48) = True := eq_true (by omega)
           rw [if_neg (by omega)] at hd
           rw [hinv, hd]
           simp only [rIB]
           try simp -dsimp (maxSteps := 1000000) only [go_sem, List.forall_mem_nil, ↓reduceIte, Nat.reduceEqDiff, Nat.reduceLT, Nat.reduceLeDiff, Nat.reduceAdd, Nat.reduceMul, reduceCtorEq, Tryz.f236, zAo, hI, h0, hrow, g1', Int.toNat_natCast]
         · have g1' : ((b.toNat : Int) < 48) = False := eq_false (by omega)
           by_cases g2 : 57 < b.toNat
           · have g2' : (57 < (b.toNat : Int)) = True := eq_true (by omega)
             rw [if_neg (by omega)] at hd
             rw [hinv, hd]
             simp only [rIB]
             try simp -dsimp (maxSteps := 1000000) only [go_sem, List.forall_mem_nil, ↓reduceIte, Nat.reduceEqDiff, Nat.reduceLT, Nat.reduceLeDiff, Nat.reduceAdd, Nat.reduceMul, reduceCtorEq, Tryz.f236, zAo, hI, h0, hrow, g1', g2', Int.toNat_natCast]
           · have g2' : (57 < (b.toNat : Int)) = False := eq_false (by omega)
             rw [if_pos (by omega)] at hd
             have w1 : IntKind.u8.wrap ((b.toNat : Int) - 48) = (b.toNat : Int) - 48 := by unfold IntKind.wrap; simp [IntKind.bits, IntKind.signed]; omega
             have w2 : IntKind.i64.wrap ((b.toNat : Int) - 48) = (b.toNat : Int) - 48 := zAh (by omega) (by omega)
             have w3 : IntKind.i64.wrap (10 * n) = 10 * n := zAh (by omega) (by omega)
             have w4 : IntKind.i64.wrap (10 * n + ((b.toNat : Int) - 48)) = 10 * n + ((b.toNat : Int) - 48) := zAh (by omega) (by omega)
             try simp -dsimp (maxSteps := 1000000) only [go_sem, List.forall_mem_nil, ↓reduceIte, Nat.reduceEqDiff, Nat.reduceLT, Nat.reduceLeDiff, Nat.reduceAdd, Nat.reduceMul, reduceCtorEq, Tryz.f236, zAo, hI, h0, hrow, g1', g2', hw, w1, w2, w3, w4, Int.toNat_natCast]
             have hp : (10 : Int) ^ (i + 1) = 10 ^ i * 10 := Int.pow_succ _ _
             exact ⟨⟨(i + 1, 10 * n + ((b.toNat : Int) - 48)), by simp only []; omega, by rw [hinv, hd], by simp only []; omega, by simp only []; omega⟩, by simp only []; omega, [], [], by (simp only [go_sem, eq_self, MvRb, MvRn, MvRt, List.nodup_cons, List.nodup_nil, ↓reduceIte, Nat.reduceEqDiff, Nat.reduceLT, Nat.reduceLeDiff, reduceCtorEq, List.forall_mem_nil, Nat.zero_le, false_implies, List.mem_singleton]) <;> simp⟩
       · have hI : ((i : Int) < (s.length : Int)) = False := eq_false (by omega)
         have hie : i = s.length := by omega
         subst hie
         have hr : rdD s 0 = some n := by rw [hinv, List.drop_length]; rfl
         rw [hr]
         simp only [rIB]
         try simp -dsimp (maxSteps := 1000000) only [go_sem, List.forall_mem_nil, ↓reduceIte, Nat.reduceEqDiff, Nat.reduceLT, Nat.reduceLeDiff, Nat.reduceAdd, Nat.reduceMul, reduceCtorEq, Tryz.f236, zAo, hI]
   · have h45 : ((b0.toNat : Int) = 45) = False := eq_false (by omega)
     by_cases g17 : 17 < t.length + 1
     · have L17 := L17t g17
       rw [bad (.inl g17)]
       simp only [rIB]
       try simp -dsimp (maxSteps := 1000000) only [go_sem, List.forall_mem_nil, ↓reduceIte, Nat.reduceEqDiff, Nat.reduceLT, Nat.reduceLeDiff, Nat.reduceAdd, Nat.reduceMul, reduceCtorEq, Tryz.f236, zAo, i0, Int.toNat_zero, Int.toNat_one, L0, L1, L17, h45]
     · have L17 := L17f g17
       by_cases e : b0.toNat = 48
       · have e48 : ((b0.toNat : Int) = 48) = True := eq_true (by omega)
         rw [bad (.inr ⟨e, by omega⟩)]
         simp only [rIB]
         try simp -dsimp (maxSteps := 1000000) only [go_sem, List.forall_mem_nil, ↓reduceIte, Nat.reduceEqDiff, Nat.reduceLT, Nat.reduceLeDiff, Nat.reduceAdd, Nat.reduceMul, reduceCtorEq, Tryz.f236, zAo, i0, Int.toNat_zero, Int.toNat_one, L0, L1, L17, h45, e48]
       · have e48 : ((b0.toNat : Int) = 48) = False := eq_false (by omega)
         have hk := key ⟨by omega, by omega⟩
         rw [hk]
         generalize hs' : b0 :: t = s at *
         have hls : s.length = t.length + 1 := by rw [← hs']; rfl
         try simp -dsimp (maxSteps := 1000000) only [go_sem, List.forall_mem_nil, ↓reduceIte, Nat.reduceEqDiff, Nat.reduceLT, Nat.reduceLeDiff, Nat.reduceAdd, Nat.reduceMul, reduceCtorEq, Tryz.f236, zAo, i0, Int.toNat_zero, Int.toNat_one, L0, L1, L17, h45, e48, hls]
         refine zBc (ι := { x : Nat × Int // x.1 ≤ s.length ∧ rdD s 0 = rdD (s.drop x.1) x.2 ∧ 0 ≤ x.2 ∧ x.2 < 10 ^ x.1 }) (fun x => ⟨[(0, some (.c (.im (.str ⟨s.toArray⟩)))), (6, some (.c (.im (.int .i64 x.1.2)))), (7, some (.c (.im (.int .i64 (x.1.1 : Int)))))], [], 0⟩) (fun x => s.length - x.1.1) ⟨(0, 0), by simp⟩ ⟨[], [], by ((simp only [go_sem, eq_self, MvRb, MvRn, MvRt, List.nodup_cons, List.nodup_nil, ↓reduceIte, Nat.reduceEqDiff, Nat.reduceLT, Nat.reduceLeDiff, reduceCtorEq, List.forall_mem_nil, Nat.zero_le, false_implies, List.mem_singleton]) <;> (try (simp -dsimp only [go_sem, eq_self, MvRb, MvRn, MvRt, List.nodup_cons, List.nodup_nil, ↓reduceIte, Nat.reduceEqDiff, Nat.reduceLT, Nat.reduceLeDiff, reduceCtorEq, List.forall_mem_nil, Nat.zero_le, false_implies, List.mem_singleton]))) <;> simp⟩ (fun ⟨⟨i, n⟩, hi, hinv, hn0, hn1⟩ => ?_)
         simp only at hi hinv hn0 hn1 ⊢
         have h17 := pow17 (k := i) (by omega)
         by_cases hlt : i < s.length
         · obtain ⟨b, hb⟩ : ∃ b, s[i]? = some b := ⟨_, List.getElem?_eq_getElem hlt⟩
           have hrow := zDo hb
           have hI : ((i : Int) < (s.length : Int)) = True := eq_true (by omega)
           have h0 : (0 ≤ (i : Int)) = True := eq_true (by omega)
           have hb8 := b.toNat_lt
           have hd := rdD_drop (n := n) hb
           have hw : IntKind.i64.wrap ((i : Int) + 1) = ((i + 1 : Nat) : Int) := by rw [zAh (by omega) (by omega)]; omega
           by_cases g1 : b.toNat < 48
           · have g1' : ((b.toNat : Int) < 48) = True := eq_true (by omega)
             rw [if_neg (by omega)] at hd
             rw [hinv, hd]
             simp only [rIB]
             try simp -dsimp (maxSteps := 1000000) only [go_sem, List.forall_mem_nil, ↓reduceIte, Nat.reduceEqDiff, Nat.reduceLT, Nat.reduceLeDiff, Nat.reduceAdd, Nat.reduceMul, reduceCtorEq, Tryz.f236, zAo, hI, h0, hrow, g1', Int.toNat_natCast]
           · have g1' : ((b.toNat : Int) < 48) = False := eq_false (by omega)
             by_cases g2 : 57 < b.toNat
             · have g2' : (57 < (b.toNat : Int)) = True := eq_true (by omega)
               rw [if_neg (by omega)] at hd
               rw [hinv, hd]
               simp only [rIB]
               try simp -dsimp (maxSteps := 1000000) only [go_sem, List.forall_mem_nil, ↓reduceIte, Nat.reduceEqDiff, Nat.reduceLT, Nat.reduceLeDiff, Nat.reduceAdd, Nat.reduceMul, reduceCtorEq, Tryz.f236, zAo, hI, h0, hrow, g1', g2', Int.toNat_natCast]
             · have g2' : (57 < (b.toNat : Int)) = False := eq_false (by omega)
               rw [if_pos (by omega)] at hd
               have w1 : IntKind.u8.wrap ((b.toNat : Int) - 48) = (b.toNat : Int) - 48 := by unfold IntKind.wrap; simp [IntKind.bits, IntKind.signed]; omega
               have w2 : IntKind.i64.wrap ((b.toNat : Int) - 48) = (b.toNat : Int) - 48 := zAh (by omega) (by omega)
               have w3 : IntKind.i64.wrap (10 * n) = 10 * n := zAh (by omega) (by omega)
               have w4 : IntKind.i64.wrap (10 * n + ((b.toNat : Int) - 48)) = 10 * n + ((b.toNat : Int) - 48) := zAh (by omega) (by omega)
               try simp -dsimp (maxSteps := 1000000) only [go_sem, List.forall_mem_nil, ↓reduceIte, Nat.reduceEqDiff, Nat.reduceLT, Nat.reduceLeDiff, Nat.reduceAdd, Nat.reduceMul, reduceCtorEq, Tryz.f236, zAo, hI, h0, hrow, g1', g2', hw, w1, w2, w3, w4, Int.toNat_natCast]
               have hp : (10 : Int) ^ (i + 1) = 10 ^ i * 10 := Int.pow_succ _ _
               exact ⟨⟨(i + 1, 10 * n + ((b.toNat : Int) - 48)), by simp only []; omega, by rw [hinv, hd], by simp only []; omega, by simp only []; omega⟩, by simp only []; omega, [], [], by (simp only [go_sem, eq_self, MvRb, MvRn, MvRt, List.nodup_cons, List.nodup_nil, ↓reduceIte, Nat.reduceEqDiff, Nat.reduceLT, Nat.reduceLeDiff, reduceCtorEq, List.forall_mem_nil, Nat.zero_le, false_implies, List.mem_singleton]) <;> simp⟩
         · have hI : ((i : Int) < (s.length : Int)) = False := eq_false (by omega)
           have hie : i = s.length := by omega
           subst hie
           have hr : rdD s 0 = some n := by rw [hinv, List.drop_length]; rfl
           rw [hr]
           simp only [rIB]
           try simp -dsimp (maxSteps := 1000000) only [go_sem, List.forall_mem_nil, ↓reduceIte, Nat.reduceEqDiff, Nat.reduceLT, Nat.reduceLeDiff, Nat.reduceAdd, Nat.reduceMul, reduceCtorEq, Tryz.f236, zAo, hI]
end Go.SX
